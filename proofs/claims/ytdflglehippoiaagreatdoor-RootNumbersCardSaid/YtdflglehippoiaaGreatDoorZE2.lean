/- Texts joined: GJ GK EP GL L7 GN. -/
import Derived.Test.YtdflglehippoiaaGreatDoorZE1
import Derived.Test.YtdflglehippoiaaGreatDoorProg
set_option linter.unusedVariables false
set_option linter.unusedSimpArgs false
namespace Go.Proofs.YtdflglehippoiaaGreatDoor.GA
open Go Go.Proofs.YtdflglehippoiaaGreatDoorR IG
open QA (Ev eE aE rE epOK evOK qOK putE n01)
open AA (It eT aT rT wi takeT allT ahOK)
open EC (Cf eC okC)
open FA (Sm eS aS s0 smL flowC rightB heavyB heavy_t)
open KA (Kd eK aK rK nr okT okN kOK inB gap takeK all3)
set_option maxRecDepth 100000
set_option maxHeartbeats 4000000
abbrev i64B (n : Int) : Prop := -9223372036854775808 ≤ n ∧ n ≤ 9223372036854775807
def rtA (self : Int) (x : Tp) : Bool := decide (x.r = 0) || (epOK x.r && (decide (x.r.tmod 16 = self) && decide (x.r ≤ x.t)))
def plA (x : Tp) : Bool := match x.pa with
  | [] => !decide (x.p > 0)
  | y :: _ => decide (x.p > 0) && decide (y = IntKind.i64.wrap (x.p - 1))
def rtC (x : Tp) : Bool := decide (x.r = 0) || (decide (x.p = 0) && decide (x.s.e = x.r))
def tpA (c : Cf) (t self : Int) (x : Tp) : Bool := inB x.t 0 1073741824 && (rtA self x && (lnk t self x.p && (lnk t self x.a && (lnk t self x.o && (inB x.g 0 1000 && (decide (pthC t self x.pa c.d = 0) && (plA x && (rtC x && (kOK t self c.k x.ks && (rightB c x.s && qOK x.q c.q))))))))))
theorem tpA_eq {c : Cf} {t self : Int} {x : Tp} (hc : okC c = true) (hp : i64B x.p) : tpA c t self x = rgtB c t self x := by
  have hf : decide (flowC c x.s x.q = 0) = (rightB c x.s && qOK x.q c.q) := by
    unfold flowC
    rw [if_pos hc]
    cases (rightB c x.s && qOK x.q c.q) <;> rfl
  have hl : lnk t self x.p = true → x.p = 0 ∨ (0 < x.p ∧ x.p ≤ 8) := fun h => by
    unfold lnk at h
    simp only [Bool.or_eq_true, Bool.and_eq_true, decide_eq_true_eq] at h
    rcases h with h | ⟨h, h2⟩
    · exact .inl h
    · have := KA.inB_t (KA.nr_t h2).2.1
      rw [IntWalk.i64_in _ (by omega)] at this
      exact .inr ⟨h, by omega⟩
  have hpl : lnk t self x.p = true → pthC t self x.pa c.d = 0 → plA x = plc x := fun h h2 => by
    unfold plA plc
    cases hpa : x.pa with
    | nil =>
      rcases hl h with h3 | h3
      · rw [h3]; rfl
      · rw [decide_eq_true (show x.p > 0 by omega), decide_eq_false (show ¬ x.p = 0 by omega)]; rfl
    | cons y r =>
      have hy : okN y = true := by
        rw [hpa] at h2
        unfold pthC at h2
        split at h2
        · rename_i h3
          simp only [Bool.and_eq_true, List.all_cons] at h3
          exact h3.2.1
        · omega
      have hb := KA.inB_t hy
      show (decide (x.p > 0) && decide (y = IntKind.i64.wrap (x.p - 1))) = decide (x.p = IntKind.i64.wrap (y + 1))
      rw [IntWalk.i64_in (y + 1) (by omega)]
      rcases hl h with h3 | h3
      · rw [h3]; simp; omega
      · rw [IntWalk.i64_in _ (by omega)]
        have : decide (x.p > 0) = true := by simp; omega
        rw [this, Bool.true_and]
        congr 1
        simp only [eq_iff_iff]
        omega
  have hrt : (rtA self x && rtC x) = rtd self x := by
    unfold rtA rtC rtd
    by_cases h : x.r = 0
    · simp [h]
    · simp only [decide_eq_false h, Bool.false_or, Bool.and_assoc]
  have ht : inB x.t 0 1073741824 = (decide (0 ≤ x.t) && decide (x.t ≤ 1073741824)) := rfl
  have hg : inB x.g 0 1000 = (decide (0 ≤ x.g) && decide (x.g ≤ 1000)) := rfl
  unfold tpA rgtB
  rw [← hrt, hf, ht, hg]
  cases h1 : lnk t self x.p with
  | false => simp
  | true =>
    by_cases h2 : pthC t self x.pa c.d = 0
    · rw [hpl h1 h2]
      simp only [Bool.and_assoc, Bool.true_and, decide_eq_true h2]
      cases decide (0 ≤ x.t) <;> cases decide (x.t ≤ 1073741824) <;> cases rtA self x <;> cases rtC x <;> cases decide (0 ≤ x.g) <;> cases decide (x.g ≤ 1000) <;> simp
    · simp [h2]
end Go.Proofs.YtdflglehippoiaaGreatDoor.GA
namespace Go.Proofs.YtdflglehippoiaaGreatDoor.GA
open Go Go.Proofs.YtdflglehippoiaaGreatDoorR IG
open QA (Ev eE aE rE epOK evOK qOK putE n01)
open AA (It eT aT rT wi takeT allT ahOK)
open EC (Cf eC okC)
open FA (Sm eS aS s0 smL flowC rightB heavyB heavy_t)
open KA (Kd eK aK rK nr okT okN kOK inB gap takeK all3)
set_option maxRecDepth 100000
set_option maxHeartbeats 4000000
theorem e42 (N d : Nat) (hN : 1000 ≤ N) (c : Cf) (t self : Int) (x : Tp) (hx : smX x) (hc : okC c = true) (h0 : okT t = true) (h1 : okN self = true) (b1 : i64B x.p) (b2 : i64B x.a) (b3 : i64B x.o) : TT N (d + 7) 42 [.agg (eC c), iV t, iV self, aX x] = some (bV (tpA c t self x), []) := by
  have kc := FA.okC_t hc
  have hi := fun d n lo hi => KA.e87 N d n lo hi
  have hE := fun d => QA.e88 N d x.r
  have hP := fun d => e89 N d t self x.p b1
  have hA := fun d => e89 N d t self x.a b2
  have hO := fun d => e89 N d t self x.o b3
  have hp := fun d => e90 N d t self x.pa c.d h0 h1 (by simp [inB]; omega) (by omega) (by omega)
  have hk := fun d => KA.e91 N d t self c.k x.ks (by omega) (by omega)
  have hf := fun d => FA.e92 N d hN c x.s x.q hx.2.2.1 hx.2.2.2
  rw [t42, F_ev rfl]
  unfold tpA
  cases g1 : inB x.t 0 1073741824 with
  | false => simp only [hi, g1, Bool.false_and, Bool.not_true, Bool.not_false, j42, b42, q42, qq, ww, List.replicate, simprocAttr, if_true, if_false]
  | true =>
  have h00 : decide ((0 : Int) = 0) = true := rfl
  by_cases r0 : x.r = 0
  · have r0' := decide_eq_true r0
    unfold rtA
    cases g2 : lnk t self x.p with
    | false => simp only [hi, hE, hP, hA, hO, hp, hk, hf, h00, g1, r0', g2, Bool.false_and, Bool.true_and, Bool.and_false, Bool.false_or, Bool.true_or, Bool.not_true, Bool.not_false, Bool.and_self, List.length_map, List.length_nil, List.length_cons, List.map_nil, List.map_cons, j42, b42, q42, qq, ww, List.replicate, simprocAttr, if_true, if_false]
    | true =>
    cases g3 : lnk t self x.a with
    | false => simp only [hi, hE, hP, hA, hO, hp, hk, hf, h00, g1, r0', g2, g3, Bool.false_and, Bool.true_and, Bool.and_false, Bool.false_or, Bool.true_or, Bool.not_true, Bool.not_false, Bool.and_self, List.length_map, List.length_nil, List.length_cons, List.map_nil, List.map_cons, j42, b42, q42, qq, ww, List.replicate, simprocAttr, if_true, if_false]
    | true =>
    cases g4 : lnk t self x.o with
    | false => simp only [hi, hE, hP, hA, hO, hp, hk, hf, h00, g1, r0', g2, g3, g4, Bool.false_and, Bool.true_and, Bool.and_false, Bool.false_or, Bool.true_or, Bool.not_true, Bool.not_false, Bool.and_self, List.length_map, List.length_nil, List.length_cons, List.map_nil, List.map_cons, j42, b42, q42, qq, ww, List.replicate, simprocAttr, if_true, if_false]
    | true =>
    cases g5 : inB x.g 0 1000 with
    | false => simp only [hi, hE, hP, hA, hO, hp, hk, hf, h00, g1, r0', g2, g3, g4, g5, Bool.false_and, Bool.true_and, Bool.and_false, Bool.false_or, Bool.true_or, Bool.not_true, Bool.not_false, Bool.and_self, List.length_map, List.length_nil, List.length_cons, List.map_nil, List.map_cons, j42, b42, q42, qq, ww, List.replicate, simprocAttr, if_true, if_false]
    | true =>
    by_cases g6 : pthC t self x.pa c.d = 0
    rotate_left
    · have g6' := decide_eq_false g6
      simp only [hi, hE, hP, hA, hO, hp, hk, hf, h00, g1, r0', g2, g3, g4, g5, g6', Bool.false_and, Bool.true_and, Bool.and_false, Bool.false_or, Bool.true_or, Bool.not_true, Bool.not_false, Bool.and_self, List.length_map, List.length_nil, List.length_cons, List.map_nil, List.map_cons, j42, b42, q42, qq, ww, List.replicate, simprocAttr, if_true, if_false]
    have g6' := decide_eq_true g6
    unfold plA
    cases hpa : x.pa with
    | nil =>
      rw [hpa] at hp
      (try rw [hpa] at g6')
      have c1 : decide ((0 : Int) > 0) = false := rfl
      by_cases g7 : x.p > 0
      · simp only [hi, hE, hP, hA, hO, hp, hk, hf, h00, g1, r0', g2, g3, g4, g5, g6', hpa, c1, decide_eq_true g7, Bool.false_and, Bool.true_and, Bool.and_false, Bool.false_or, Bool.true_or, Bool.not_true, Bool.not_false, Bool.and_self, List.length_map, List.length_nil, List.length_cons, List.map_nil, List.map_cons, j42, b42, q42, qq, ww, List.replicate, simprocAttr, if_true, if_false]
      unfold rtC
      cases g9 : kOK t self c.k x.ks <;> simp only [hi, hE, hP, hA, hO, hp, hk, hf, h00, g1, r0', g2, g3, g4, g5, g6', hpa, c1, decide_eq_false g7, g9, Bool.false_and, Bool.true_and, Bool.and_false, Bool.false_or, Bool.true_or, Bool.not_true, Bool.not_false, Bool.and_self, List.length_map, List.length_nil, List.length_cons, List.map_nil, List.map_cons, j42, b42, q42, qq, ww, List.replicate, simprocAttr, if_true, if_false]
    | cons y r =>
      rw [hpa] at hp
      (try rw [hpa] at g6')
      have c1 : decide (((r.length + 1 : Nat) : Int) > 0) = true := decide_eq_true (by omega)
      have c2 : (0 : Int) ≤ 0 ∧ (0 : Int) < ((r.length + 1 : Nat) : Int) := by omega
      by_cases g7 : x.p > 0
      rotate_left
      · simp only [hi, hE, hP, hA, hO, hp, hk, hf, h00, g1, r0', g2, g3, g4, g5, g6', hpa, c1, c2.1, c2.2, decide_eq_false g7, Bool.false_and, Bool.true_and, Bool.and_false, Bool.false_or, Bool.true_or, Bool.not_true, Bool.not_false, Bool.and_self, List.length_map, List.length_nil, List.length_cons, List.map_nil, List.map_cons, j42, b42, q42, qq, ww, List.replicate, simprocAttr, if_true, if_false]
      by_cases g8 : y = IntKind.i64.wrap (x.p - 1)
      rotate_left
      · have g8' := decide_eq_false g8
        simp only [hi, hE, hP, hA, hO, hp, hk, hf, h00, g1, r0', g2, g3, g4, g5, g6', hpa, c1, c2.1, c2.2, decide_eq_true g7, g8', Bool.false_and, Bool.true_and, Bool.and_false, Bool.false_or, Bool.true_or, Bool.not_true, Bool.not_false, Bool.and_self, List.length_map, List.length_nil, List.length_cons, List.map_nil, List.map_cons, j42, b42, q42, qq, ww, List.replicate, simprocAttr, if_true, if_false]
      have g8' := decide_eq_true g8
      unfold rtC
      cases g9 : kOK t self c.k x.ks <;> simp only [hi, hE, hP, hA, hO, hp, hk, hf, h00, g1, r0', g2, g3, g4, g5, g6', hpa, c1, c2.1, c2.2, decide_eq_true g7, g8', g9, Bool.false_and, Bool.true_and, Bool.and_false, Bool.false_or, Bool.true_or, Bool.not_true, Bool.not_false, Bool.and_self, List.length_map, List.length_nil, List.length_cons, List.map_nil, List.map_cons, j42, b42, q42, qq, ww, List.replicate, simprocAttr, if_true, if_false]
  · have r0' := decide_eq_false r0
    unfold rtA
    cases v1 : epOK x.r with
    | false => simp only [hi, hE, hP, hA, hO, hp, hk, hf, h00, g1, r0', v1, Bool.false_and, Bool.true_and, Bool.and_false, Bool.false_or, Bool.true_or, Bool.not_true, Bool.not_false, Bool.and_self, List.length_map, List.length_nil, List.length_cons, List.map_nil, List.map_cons, j42, b42, q42, qq, ww, List.replicate, simprocAttr, if_true, if_false]
    | true =>
    by_cases v2 : x.r.tmod 16 = self
    rotate_left
    · have v2' := decide_eq_false v2
      simp only [hi, hE, hP, hA, hO, hp, hk, hf, h00, g1, r0', v1, v2', Bool.false_and, Bool.true_and, Bool.and_false, Bool.false_or, Bool.true_or, Bool.not_true, Bool.not_false, Bool.and_self, List.length_map, List.length_nil, List.length_cons, List.map_nil, List.map_cons, j42, b42, q42, qq, ww, List.replicate, simprocAttr, if_true, if_false]
    have v2' := decide_eq_true v2
    by_cases v3 : x.r ≤ x.t
    rotate_left
    · have v3' := decide_eq_false v3
      have v3'' : decide (x.r > x.t) = true := decide_eq_true (by omega)
      simp only [hi, hE, hP, hA, hO, hp, hk, hf, h00, g1, r0', v1, v2', v3', v3'', Bool.false_and, Bool.true_and, Bool.and_false, Bool.false_or, Bool.true_or, Bool.not_true, Bool.not_false, Bool.and_self, List.length_map, List.length_nil, List.length_cons, List.map_nil, List.map_cons, j42, b42, q42, qq, ww, List.replicate, simprocAttr, if_true, if_false]
    have v3' := decide_eq_true v3
    have v3'' : decide (x.r > x.t) = false := decide_eq_false (by omega)
    cases g2 : lnk t self x.p with
    | false => simp only [hi, hE, hP, hA, hO, hp, hk, hf, h00, g1, r0', v1, v2', v3', v3'', g2, Bool.false_and, Bool.true_and, Bool.and_false, Bool.false_or, Bool.true_or, Bool.not_true, Bool.not_false, Bool.and_self, List.length_map, List.length_nil, List.length_cons, List.map_nil, List.map_cons, j42, b42, q42, qq, ww, List.replicate, simprocAttr, if_true, if_false]
    | true =>
    cases g3 : lnk t self x.a with
    | false => simp only [hi, hE, hP, hA, hO, hp, hk, hf, h00, g1, r0', v1, v2', v3', v3'', g2, g3, Bool.false_and, Bool.true_and, Bool.and_false, Bool.false_or, Bool.true_or, Bool.not_true, Bool.not_false, Bool.and_self, List.length_map, List.length_nil, List.length_cons, List.map_nil, List.map_cons, j42, b42, q42, qq, ww, List.replicate, simprocAttr, if_true, if_false]
    | true =>
    cases g4 : lnk t self x.o with
    | false => simp only [hi, hE, hP, hA, hO, hp, hk, hf, h00, g1, r0', v1, v2', v3', v3'', g2, g3, g4, Bool.false_and, Bool.true_and, Bool.and_false, Bool.false_or, Bool.true_or, Bool.not_true, Bool.not_false, Bool.and_self, List.length_map, List.length_nil, List.length_cons, List.map_nil, List.map_cons, j42, b42, q42, qq, ww, List.replicate, simprocAttr, if_true, if_false]
    | true =>
    cases g5 : inB x.g 0 1000 with
    | false => simp only [hi, hE, hP, hA, hO, hp, hk, hf, h00, g1, r0', v1, v2', v3', v3'', g2, g3, g4, g5, Bool.false_and, Bool.true_and, Bool.and_false, Bool.false_or, Bool.true_or, Bool.not_true, Bool.not_false, Bool.and_self, List.length_map, List.length_nil, List.length_cons, List.map_nil, List.map_cons, j42, b42, q42, qq, ww, List.replicate, simprocAttr, if_true, if_false]
    | true =>
    by_cases g6 : pthC t self x.pa c.d = 0
    rotate_left
    · have g6' := decide_eq_false g6
      simp only [hi, hE, hP, hA, hO, hp, hk, hf, h00, g1, r0', v1, v2', v3', v3'', g2, g3, g4, g5, g6', Bool.false_and, Bool.true_and, Bool.and_false, Bool.false_or, Bool.true_or, Bool.not_true, Bool.not_false, Bool.and_self, List.length_map, List.length_nil, List.length_cons, List.map_nil, List.map_cons, j42, b42, q42, qq, ww, List.replicate, simprocAttr, if_true, if_false]
    have g6' := decide_eq_true g6
    unfold plA
    cases hpa : x.pa with
    | nil =>
      rw [hpa] at hp
      (try rw [hpa] at g6')
      have c1 : decide ((0 : Int) > 0) = false := rfl
      by_cases g7 : x.p > 0
      · simp only [hi, hE, hP, hA, hO, hp, hk, hf, h00, g1, r0', v1, v2', v3', v3'', g2, g3, g4, g5, g6', hpa, c1, decide_eq_true g7, Bool.false_and, Bool.true_and, Bool.and_false, Bool.false_or, Bool.true_or, Bool.not_true, Bool.not_false, Bool.and_self, List.length_map, List.length_nil, List.length_cons, List.map_nil, List.map_cons, j42, b42, q42, qq, ww, List.replicate, simprocAttr, if_true, if_false]
      unfold rtC
      by_cases u1 : x.p = 0
      rotate_left
      · have u1' := decide_eq_false u1
        simp only [hi, hE, hP, hA, hO, hp, hk, hf, h00, g1, r0', v1, v2', v3', v3'', g2, g3, g4, g5, g6', hpa, c1, decide_eq_false g7, u1', Bool.false_and, Bool.true_and, Bool.and_false, Bool.false_or, Bool.true_or, Bool.not_true, Bool.not_false, Bool.and_self, List.length_map, List.length_nil, List.length_cons, List.map_nil, List.map_cons, j42, b42, q42, qq, ww, List.replicate, simprocAttr, if_true, if_false]
      have u1' := decide_eq_true u1
      by_cases u2 : x.s.e = x.r
      rotate_left
      · have u2' := decide_eq_false u2
        simp only [hi, hE, hP, hA, hO, hp, hk, hf, h00, g1, r0', v1, v2', v3', v3'', g2, g3, g4, g5, g6', hpa, c1, decide_eq_false g7, u1', u2', Bool.false_and, Bool.true_and, Bool.and_false, Bool.false_or, Bool.true_or, Bool.not_true, Bool.not_false, Bool.and_self, List.length_map, List.length_nil, List.length_cons, List.map_nil, List.map_cons, j42, b42, q42, qq, ww, List.replicate, simprocAttr, if_true, if_false]
      have u2' := decide_eq_true u2
      cases g9 : kOK t self c.k x.ks <;> simp only [hi, hE, hP, hA, hO, hp, hk, hf, h00, g1, r0', v1, v2', v3', v3'', g2, g3, g4, g5, g6', hpa, c1, decide_eq_false g7, u1', u2', g9, Bool.false_and, Bool.true_and, Bool.and_false, Bool.false_or, Bool.true_or, Bool.not_true, Bool.not_false, Bool.and_self, List.length_map, List.length_nil, List.length_cons, List.map_nil, List.map_cons, j42, b42, q42, qq, ww, List.replicate, simprocAttr, if_true, if_false]
    | cons y r =>
      rw [hpa] at hp
      (try rw [hpa] at g6')
      have c1 : decide (((r.length + 1 : Nat) : Int) > 0) = true := decide_eq_true (by omega)
      have c2 : (0 : Int) ≤ 0 ∧ (0 : Int) < ((r.length + 1 : Nat) : Int) := by omega
      by_cases g7 : x.p > 0
      rotate_left
      · simp only [hi, hE, hP, hA, hO, hp, hk, hf, h00, g1, r0', v1, v2', v3', v3'', g2, g3, g4, g5, g6', hpa, c1, c2.1, c2.2, decide_eq_false g7, Bool.false_and, Bool.true_and, Bool.and_false, Bool.false_or, Bool.true_or, Bool.not_true, Bool.not_false, Bool.and_self, List.length_map, List.length_nil, List.length_cons, List.map_nil, List.map_cons, j42, b42, q42, qq, ww, List.replicate, simprocAttr, if_true, if_false]
      by_cases g8 : y = IntKind.i64.wrap (x.p - 1)
      rotate_left
      · have g8' := decide_eq_false g8
        simp only [hi, hE, hP, hA, hO, hp, hk, hf, h00, g1, r0', v1, v2', v3', v3'', g2, g3, g4, g5, g6', hpa, c1, c2.1, c2.2, decide_eq_true g7, g8', Bool.false_and, Bool.true_and, Bool.and_false, Bool.false_or, Bool.true_or, Bool.not_true, Bool.not_false, Bool.and_self, List.length_map, List.length_nil, List.length_cons, List.map_nil, List.map_cons, j42, b42, q42, qq, ww, List.replicate, simprocAttr, if_true, if_false]
      have g8' := decide_eq_true g8
      unfold rtC
      by_cases u1 : x.p = 0
      rotate_left
      · have u1' := decide_eq_false u1
        simp only [hi, hE, hP, hA, hO, hp, hk, hf, h00, g1, r0', v1, v2', v3', v3'', g2, g3, g4, g5, g6', hpa, c1, c2.1, c2.2, decide_eq_true g7, g8', u1', Bool.false_and, Bool.true_and, Bool.and_false, Bool.false_or, Bool.true_or, Bool.not_true, Bool.not_false, Bool.and_self, List.length_map, List.length_nil, List.length_cons, List.map_nil, List.map_cons, j42, b42, q42, qq, ww, List.replicate, simprocAttr, if_true, if_false]
      have u1' := decide_eq_true u1
      by_cases u2 : x.s.e = x.r
      rotate_left
      · have u2' := decide_eq_false u2
        simp only [hi, hE, hP, hA, hO, hp, hk, hf, h00, g1, r0', v1, v2', v3', v3'', g2, g3, g4, g5, g6', hpa, c1, c2.1, c2.2, decide_eq_true g7, g8', u1', u2', Bool.false_and, Bool.true_and, Bool.and_false, Bool.false_or, Bool.true_or, Bool.not_true, Bool.not_false, Bool.and_self, List.length_map, List.length_nil, List.length_cons, List.map_nil, List.map_cons, j42, b42, q42, qq, ww, List.replicate, simprocAttr, if_true, if_false]
      have u2' := decide_eq_true u2
      cases g9 : kOK t self c.k x.ks <;> simp only [hi, hE, hP, hA, hO, hp, hk, hf, h00, g1, r0', v1, v2', v3', v3'', g2, g3, g4, g5, g6', hpa, c1, c2.1, c2.2, decide_eq_true g7, g8', u1', u2', g9, Bool.false_and, Bool.true_and, Bool.and_false, Bool.false_or, Bool.true_or, Bool.not_true, Bool.not_false, Bool.and_self, List.length_map, List.length_nil, List.length_cons, List.map_nil, List.map_cons, j42, b42, q42, qq, ww, List.replicate, simprocAttr, if_true, if_false]
end Go.Proofs.YtdflglehippoiaaGreatDoor.GA
namespace Go.Proofs.YtdflglehippoiaaGreatDoor.EC
open Go Go.Proofs.YtdflglehippoiaaGreatDoorR IG EA
set_option maxRecDepth 100000
set_option maxHeartbeats 4000000
def inB (n lo hi : Int) : Bool := decide (lo ≤ n) && decide (n ≤ hi)
theorem e60 (N d : Nat) (n lo hi : Int) : TT N (d + 1) 60 [iV n, iV lo, iV hi] = some (bV (inB n lo hi), []) := by
  rw [t60, F_ev rfl, inB]
  cases h1 : decide (lo ≤ n) <;> cases h2 : decide (n ≤ hi) <;> simp only [h1, h2, Bool.and_self, Bool.and_false, Bool.false_and, j60, b60, q60, qq, ww, List.replicate, simprocAttr, if_true, if_false]
theorem okC_b (c : Cf) : okC c = (inB c.n 1 8 && (inB c.t 1 4 && (inB c.k 1 4 && (inB c.d 1 8 && (inB c.p 1 16 && (inB c.w 1 16 && inB c.q 2 32)))))) := by
  simp only [okC, inB, ← Bool.decide_and]
theorem e40 (N d : Nat) (c : Cf) : TT N (d + 2) 40 [.agg (eC c)] = some (bV (okC c), []) := by
  have h16 := fun d n lo hi => e60 N d n lo hi
  rw [t40, F_ev rfl, okC_b]
  cases h1 : inB c.n 1 8
  · simp only [h16, h1, Bool.and_self, Bool.and_false, Bool.false_and, Bool.true_and, j40, b40, q40, qq, ww, List.replicate, simprocAttr, if_true, if_false]
  cases h2 : inB c.t 1 4
  · simp only [h16, h1, h2, Bool.and_self, Bool.and_false, Bool.false_and, Bool.true_and, j40, b40, q40, qq, ww, List.replicate, simprocAttr, if_true, if_false]
  cases h3 : inB c.k 1 4
  · simp only [h16, h1, h2, h3, Bool.and_self, Bool.and_false, Bool.false_and, Bool.true_and, j40, b40, q40, qq, ww, List.replicate, simprocAttr, if_true, if_false]
  cases h4 : inB c.d 1 8
  · simp only [h16, h1, h2, h3, h4, Bool.and_self, Bool.and_false, Bool.false_and, Bool.true_and, j40, b40, q40, qq, ww, List.replicate, simprocAttr, if_true, if_false]
  cases h5 : inB c.p 1 16
  · simp only [h16, h1, h2, h3, h4, h5, Bool.and_self, Bool.and_false, Bool.false_and, Bool.true_and, j40, b40, q40, qq, ww, List.replicate, simprocAttr, if_true, if_false]
  cases h6 : inB c.w 1 16
  · simp only [h16, h1, h2, h3, h4, h5, h6, Bool.and_self, Bool.and_false, Bool.false_and, Bool.true_and, j40, b40, q40, qq, ww, List.replicate, simprocAttr, if_true, if_false]
  cases h7 : inB c.q 2 32
  · simp only [h16, h1, h2, h3, h4, h5, h6, h7, Bool.and_self, Bool.and_false, Bool.false_and, Bool.true_and, j40, b40, q40, qq, ww, List.replicate, simprocAttr, if_true, if_false]
  simp only [h16, h1, h2, h3, h4, h5, h6, h7, Bool.and_self, Bool.and_false, Bool.false_and, Bool.true_and, j40, b40, q40, qq, ww, List.replicate, simprocAttr, if_true, if_false]
end Go.Proofs.YtdflglehippoiaaGreatDoor.EC
namespace Go.Proofs.YtdflglehippoiaaGreatDoor.GA
open Go Go.Proofs.YtdflglehippoiaaGreatDoorR IG
open QA (Ev eE aE rE epOK evOK qOK putE n01)
open AA (It eT aT rT wi takeT allT ahOK)
open EC (Cf eC okC)
open FA (Sm eS aS s0 smL flowC rightB heavyB heavy_t itemP itemG fA gA flow_t flow_of right_t q_t kpOK kRow umodF)
open KA (Kd eK aK rK nr okT okN kOK inB gap takeK all3)
set_option maxRecDepth 100000
set_option maxHeartbeats 4000000
theorem grD {c : Cf} {t self : Int} {x : Tp} (hp : i64B x.p) : decide (grC c t self x = 0) = (okC c && ((inB t 0 (c.t - 1) && inB self 0 (c.n - 1)) && tpA c t self x)) := by
  unfold grC
  cases h : okC c with
  | false => rfl
  | true =>
    rw [tpA_eq h hp]
    have h1 : inB t 0 (c.t - 1) = (decide (0 ≤ t) && decide (t < c.t)) := by unfold inB; congr 1; rw [decide_eq_decide]; omega
    have h2 : inB self 0 (c.n - 1) = (decide (0 ≤ self) && decide (self < c.n)) := by unfold inB; congr 1; rw [decide_eq_decide]; omega
    rw [h1, h2]
    cases decide (0 ≤ t) <;> cases decide (t < c.t) <;> cases decide (0 ≤ self) <;> cases decide (self < c.n) <;> cases rgtB c t self x <;> rfl
theorem e14 (N d : Nat) (hN : 1000 ≤ N) (c : Cf) (t self : Int) (x : Tp) (hx : smX x) (z1 : i64B x.p) (z2 : i64B x.a) (z3 : i64B x.o) : TT N (d + 8) 14 [.agg (eC c), iV t, iV self, aX x] = some (bV (decide (grC c t self x = 0)), []) := by
  have hC := fun d => EC.e40 N d c
  rw [t14, F_ev rfl, grD z1]
  cases g0 : okC c with
  | false => simp only [hC, g0, Bool.false_and, j14, b14, q14, qq, ww, List.replicate, simprocAttr, if_true, if_false]
  | true =>
  have kc := FA.okC_t g0
  have hP := fun d => e41 N d c t self g0
  cases g1 : (inB t 0 (c.t - 1) && inB self 0 (c.n - 1)) with
  | false => simp only [hC, hP, g0, g1, Bool.false_and, Bool.true_and, j14, b14, q14, qq, ww, List.replicate, simprocAttr, if_true, if_false]
  | true =>
  have h4 := Bool.and_eq_true_iff.1 g1
  have k1 := KA.inB_t h4.1
  have k2 := KA.inB_t h4.2
  have hT := fun d => e42 N d hN c t self x hx g0 (by simp [okT, inB]; omega) (by simp [okN, inB]; omega) z1 z2 z3
  simp only [hC, hP, hT, g0, g1, Bool.true_and, j14, b14, q14, qq, ww, List.replicate, simprocAttr, if_true, if_false]
abbrev wf8 (n : Int) : Prop := (Lit.int .i64 n).wf = true
theorem wf8_b {n : Int} (h : wf8 n) : i64B n := by
  simp only [wf8, Lit.wf] at h
  simp [IntKind.min, IntKind.max, IntKind.signed, IntKind.bits] at h
  omega
theorem root_bare {c : Cf} {t self : Int} {x : Tp} (h : grC c t self x = 0) (hr : x.r ≠ 0) : x.p = 0 ∧ x.pa = [] ∧ x.s.e = x.r ∧ epOK x.r = true ∧ x.r.tmod 16 = self ∧ x.r ≤ x.t := by
  obtain ⟨k1, k2, k3, k4, k5, k6, k7, k8, k9, k10, k11⟩ := gr_t h
  unfold rgtB at k6
  simp only [Bool.and_eq_true, decide_eq_true_eq] at k6
  obtain ⟨_, _, _, _, _, _, _, h1, h2, h3, _⟩ := k6
  unfold rtd at h1
  simp only [Bool.or_eq_true, Bool.and_eq_true, decide_eq_true_eq] at h1
  rcases h1 with h4 | ⟨e1, e2, e3, e4, e5⟩
  · exact absurd h4 hr
  refine ⟨e4, ?_, e5, e1, e2, e3⟩
  cases hpa : x.pa with
  | nil => rfl
  | cons y r =>
    unfold plc at h2
    rw [hpa] at h2 h3
    simp only [decide_eq_true_eq] at h2
    have hy : okN y = true := by
      unfold pthC at h3
      split at h3
      · rename_i h5
        simp only [Bool.and_eq_true, List.all_cons] at h5
        exact h5.2.1
      · omega
    have hb := KA.inB_t hy
    rw [IntWalk.i64_in (y + 1) (by omega)] at h2
    omega
theorem bc_right {c : Cf} {t self : Int} {x : Tp} (h : grC c t self x = 0) (h2 : (bcG self x).2 = 0) : grC c t self (bcG self x).1 = 0 ∧ (bcG self x).1.r = (bcG self x).1.t ∧ (bcG self x).1.r ≠ 0 := by
  obtain ⟨k1, k2, k3, k4, k5, k6, k7, k8, k9, k10, k11⟩ := gr_t h
  have hT := bc_t h h2
  unfold bcG at h2 hT ⊢
  by_cases g1 : x.r ≠ 0 ∧ x.t = x.r
  · rw [if_pos g1]
    exact ⟨h, g1.2.symm, g1.1⟩
  rw [if_neg g1] at h2 hT ⊢
  by_cases g2 : nxE self x.t = 0
  · rw [if_pos g2] at h2
    exact absurd h2 (by decide)
  rw [if_neg g2] at hT ⊢
  have he := nx_ep k7 ⟨k9, k10⟩ g2
  have hb := nx_b k7 ⟨k9, k10⟩
  refine ⟨?_, rfl, g2⟩
  unfold rgtB at k6
  simp only [Bool.and_eq_true, decide_eq_true_eq] at k6
  obtain ⟨_, _, _, _, _, _, _, h1, h2', h3, h4, h5⟩ := k6
  have kc := FA.okC_t k1
  have hl : lnk t self 0 = true := rfl
  have hp : pthC t self [] c.d = 0 := by
    have : inB c.d 1 8 = true := by simp [inB]; omega
    simp [pthC, k8, k7, this, risP]; omega
  have h9 : rgtB c t self ⟨x.m, x.b, nxE self x.t, nxE self x.t, 0, 0, 0, 0, [], x.ks, ⟨nxE self x.t, 1, 1, [], []⟩, x.q⟩ = true := by
    simp only [rgtB, Bool.and_eq_true, decide_eq_true_eq]
    refine ⟨by omega, by omega, by omega, by omega, hl, hl, hl, ?_, rfl, hp, h4, hT.1⟩
    simp [rtd, he.1, he.2]
  unfold grC
  rw [if_pos k1, if_pos]
  simp only [Bool.and_eq_true, decide_eq_true_eq]
  exact ⟨k2, k3, k4, k5, h9⟩
end Go.Proofs.YtdflglehippoiaaGreatDoor.GA
set_option maxRecDepth 100000
namespace Go.Proofs.YtdflglehippoiaaGreatDoor.L7
open Go Go.Proofs.YtdflglehippoiaaGreatDoorR
def j4 : C := (.seq (.region [⟨some 5, .box (.t 0), none, [], []⟩,
  ⟨some 8, .box (.t 3), none, [], []⟩,
  ⟨some 10, .mov (.c (.bool false)), none, [], []⟩] false)
 (.seq (.seq (.region [⟨some 21, .load true 16 (.t 8), none, [], []⟩,
  ⟨some 22, .call false 13 [(.t 21)], none, [], []⟩,
  ⟨some 23, .mov (.t 22), none, [], []⟩,
  ⟨some 24, .mov (.t 4), some (23, false), [], []⟩,
  ⟨some 25, .len (.t 24), some (23, false), [], []⟩,
  ⟨some 26, .bin .gtr (.t 25) (.c (.int .i64 20)), some (23, false), [], []⟩,
  ⟨some 27, .pick (.t 23) (.c (.bool true)) (.t 26), none, [], []⟩,
  ⟨some 28, .mov (.t 27), none, [], []⟩,
  ⟨some 29, .load true 7 (.t 5), some (28, false), [], []⟩,
  ⟨some 30, .mov (.t 1), some (28, false), [], []⟩,
  ⟨some 31, .mov (.t 2), some (28, false), [], []⟩,
  ⟨some 32, .load true 16 (.t 8), some (28, false), [], []⟩,
  ⟨some 33, .call false 14 [(.t 29), (.t 30), (.t 31), (.t 32)], some (28, false), [], []⟩,
  ⟨some 34, .un .not (.t 33), some (28, false), [], []⟩,
  ⟨some 35, .pick (.t 28) (.c (.bool true)) (.t 34), none, [], []⟩] false)
 (.cond (.t 35) (.seq (.region [⟨some 10, .mov (.c (.bool true)), none, [], []⟩] false)
 .ret) .skip))
 (.seq (.region [⟨some 37, .load true 7 (.t 5), none, [], []⟩,
  ⟨some 38, .mov (.t 1), none, [], []⟩,
  ⟨some 39, .mov (.t 2), none, [], []⟩,
  ⟨some 40, .load true 16 (.t 8), none, [], []⟩,
  ⟨some 41, .call false 15 [(.t 37), (.t 38), (.t 39), (.t 40)], none, [], []⟩,
  ⟨some 36, .mov (.t 41), none, [], []⟩,
  ⟨some 42, .ext (.t 36) 0, none, [], []⟩,
  ⟨some 43, .ext (.t 36) 1, none, [], []⟩,
  ⟨some 11, .alloc [.bool false, .bool false, .int .i64 0, .int .i64 0, .int .i64 0, .int .i64 0, .int .i64 0, .int .i64 0, .row [], .row [], .int .i64 0, .int .i64 0, .int .i64 0, .row [], .row [], .row []], none, [], []⟩,
  ⟨none, .store none 16 (.t 11) (.t 42), none, [], []⟩,
  ⟨some 12, .mov (.t 43), none, [], []⟩] false)
 (.seq (.seq (.region [⟨some 44, .mov (.t 12), none, [], []⟩,
  ⟨some 45, .bin .neq (.t 44) (.c (.int .i64 0)), none, [], []⟩] false)
 (.cond (.t 45) (.seq (.region [⟨some 46, .mov (.t 12), none, [], []⟩,
  ⟨some 47, .bin .eql (.t 46) (.c (.int .i64 11)), none, [], []⟩,
  ⟨some 48, .mov (.t 47), none, [], []⟩,
  ⟨some 49, .call false 16 [], some (48, true), [], []⟩,
  ⟨some 50, .pick (.t 48) (.t 49) (.c (.bool false)), none, [], []⟩,
  ⟨some 10, .mov (.t 50), none, [], []⟩] false)
 .ret) .skip))
 (.seq (.region [⟨some 51, .fad 10 (.t 11), none, [], []⟩,
  ⟨some 52, .fad 1 (.t 51), none, [], []⟩,
  ⟨some 53, .load false 1 (.t 52), none, [], []⟩,
  ⟨some 13, .mov (.t 53), none, [], []⟩] false)
 (.seq (.seq (.region [⟨some 14, .mov (.c (.int .i64 0)), none, [], []⟩] false)
 (.block 0 (.loop (.keep [1, 2, 4, 5, 11, 13, 14] (.seq (.seq (.region [⟨some 54, .mov (.t 14), none, [], []⟩,
  ⟨some 55, .mov (.t 4), none, [], []⟩,
  ⟨some 56, .len (.t 55), none, [], []⟩,
  ⟨some 57, .bin .lss (.t 54) (.t 56), none, [], []⟩] false)
 (.cond (.t 57) .skip (.exit 0)))
 (.seq (.block 1 (.seq (.region [⟨some 60, .mov (.t 4), none, [], []⟩,
  ⟨some 61, .mov (.t 14), none, [], []⟩,
  ⟨some 62, .iad 1 (.t 60) (.t 61), none, [], []⟩,
  ⟨some 63, .load false 1 (.t 62), none, [], []⟩,
  ⟨some 64, .conv .u64 (.t 63), none, [], []⟩,
  ⟨some 65, .bin .rem (.t 64) (.c (.int .u64 100000)), none, [], []⟩,
  ⟨some 66, .conv .i64 (.t 65), none, [], []⟩,
  ⟨some 15, .mov (.t 66), none, [], []⟩] false)
 (.seq (.region [⟨some 68, .load true 7 (.t 5), none, [], []⟩,
  ⟨some 69, .mov (.t 1), none, [], []⟩,
  ⟨some 70, .mov (.t 2), none, [], []⟩,
  ⟨some 71, .load true 16 (.t 11), none, [], []⟩,
  ⟨some 72, .mov (.t 15), none, [], []⟩,
  ⟨some 73, .call false 22 [(.t 68), (.t 69), (.t 70), (.t 71), (.t 72)], none, [], []⟩,
  ⟨some 67, .mov (.t 73), none, [], []⟩,
  ⟨some 74, .ext (.t 67) 0, none, [], []⟩,
  ⟨some 75, .ext (.t 67) 1, none, [], []⟩,
  ⟨some 76, .ext (.t 67) 2, none, [], []⟩,
  ⟨some 16, .alloc [.bool false, .bool false, .int .i64 0, .int .i64 0, .int .i64 0, .int .i64 0, .int .i64 0, .int .i64 0, .row [], .row [], .int .i64 0, .int .i64 0, .int .i64 0, .row [], .row [], .row []], none, [], []⟩,
  ⟨none, .store none 16 (.t 16) (.t 74), none, [], []⟩,
  ⟨some 17, .mov (.t 75), none, [], []⟩,
  ⟨some 18, .mov (.t 76), none, [], []⟩] false)
 (.seq (.seq (.region [⟨some 77, .mov (.t 18), none, [], []⟩,
  ⟨some 78, .bin .neq (.t 77) (.c (.int .i64 0)), none, [], []⟩] false)
 (.cond (.t 78) (.seq (.region [⟨some 79, .mov (.t 18), none, [], []⟩,
  ⟨some 80, .bin .eql (.t 79) (.c (.int .i64 11)), none, [], []⟩,
  ⟨some 81, .mov (.t 80), none, [], []⟩,
  ⟨some 82, .mov (.t 13), some (81, true), [], []⟩,
  ⟨some 83, .bin .geq (.t 82) (.c (.int .i64 1073741823)), some (81, true), [], []⟩,
  ⟨some 84, .pick (.t 81) (.t 83) (.c (.bool false)), none, [], []⟩,
  ⟨some 85, .mov (.t 84), none, [], []⟩,
  ⟨some 86, .mov (.t 17), some (85, true), [], []⟩,
  ⟨some 87, .len (.t 86), some (85, true), [], []⟩,
  ⟨some 88, .bin .eql (.t 87) (.c (.int .i64 0)), some (85, true), [], []⟩,
  ⟨some 89, .pick (.t 85) (.t 88) (.c (.bool false)), none, [], []⟩,
  ⟨some 90, .mov (.t 89), none, [], []⟩,
  ⟨some 91, .call false 16 [], some (90, true), [], []⟩,
  ⟨some 92, .pick (.t 90) (.t 91) (.c (.bool false)), none, [], []⟩,
  ⟨some 10, .mov (.t 92), none, [], []⟩] false)
 .ret) .skip))
 (.seq (.seq (.region [⟨some 93, .fad 3 (.t 16), none, [], []⟩,
  ⟨some 94, .load false 1 (.t 93), none, [], []⟩,
  ⟨some 95, .fad 3 (.t 11), none, [], []⟩,
  ⟨some 96, .load false 1 (.t 95), none, [], []⟩,
  ⟨some 97, .bin .neq (.t 94) (.t 96), none, [], []⟩,
  ⟨some 98, .mov (.t 97), none, [], []⟩,
  ⟨some 99, .fad 10 (.t 16), some (98, false), [], []⟩,
  ⟨some 100, .fad 1 (.t 99), some (98, false), [], []⟩,
  ⟨some 101, .load false 1 (.t 100), some (98, false), [], []⟩,
  ⟨some 102, .mov (.t 13), some (98, false), [], []⟩,
  ⟨some 103, .bin .leq (.t 101) (.t 102), some (98, false), [], []⟩,
  ⟨some 104, .pick (.t 98) (.c (.bool true)) (.t 103), none, [], []⟩,
  ⟨some 105, .mov (.t 104), none, [], []⟩,
  ⟨some 106, .mov (.t 17), some (105, false), [], []⟩,
  ⟨some 107, .len (.t 106), some (105, false), [], []⟩,
  ⟨some 108, .fad 9 (.t 16), some (105, false), [], []⟩,
  ⟨some 109, .load false 1 (.t 108), some (105, false), [], []⟩,
  ⟨some 110, .len (.t 109), some (105, false), [], []⟩,
  ⟨some 111, .bin .lss (.t 107) (.t 110), some (105, false), [], []⟩,
  ⟨some 112, .pick (.t 105) (.c (.bool true)) (.t 111), none, [], []⟩,
  ⟨some 113, .mov (.t 112), none, [], []⟩,
  ⟨some 114, .load true 7 (.t 5), some (113, false), [], []⟩,
  ⟨some 115, .mov (.t 1), some (113, false), [], []⟩,
  ⟨some 116, .mov (.t 2), some (113, false), [], []⟩,
  ⟨some 117, .load true 16 (.t 16), some (113, false), [], []⟩,
  ⟨some 118, .call false 18 [(.t 114), (.t 115), (.t 116), (.t 117)], some (113, false), [], []⟩,
  ⟨some 119, .bin .neq (.t 118) (.c (.int .i64 0)), some (113, false), [], []⟩,
  ⟨some 120, .pick (.t 113) (.c (.bool true)) (.t 119), none, [], []⟩] false)
 (.cond (.t 120) (.seq (.region [⟨some 10, .mov (.c (.bool false)), none, [], []⟩] false)
 .ret) .skip))
 (.seq (.seq (.region [⟨some 19, .mov (.c (.int .i64 0)), none, [], []⟩] false)
 (.block 2 (.loop (.keep [1, 2, 4, 5, 11, 13, 14, 15, 16, 17, 19] (.seq (.seq (.region [⟨some 121, .mov (.t 19), none, [], []⟩,
  ⟨some 122, .fad 9 (.t 16), none, [], []⟩,
  ⟨some 123, .load false 1 (.t 122), none, [], []⟩,
  ⟨some 124, .len (.t 123), none, [], []⟩,
  ⟨some 125, .bin .lss (.t 121) (.t 124), none, [], []⟩] false)
 (.cond (.t 125) .skip (.exit 2)))
 (.seq (.block 3 (.seq (.region [⟨some 128, .mov (.t 17), none, [], []⟩,
  ⟨some 129, .mov (.t 19), none, [], []⟩,
  ⟨some 130, .iad 16 (.t 128) (.t 129), none, [], []⟩,
  ⟨some 131, .load true 16 (.t 130), none, [], []⟩,
  ⟨some 20, .alloc [.int .i64 0, .int .i64 0, .int .i64 0, .int .i64 0, .int .i64 0, .int .i64 0, .int .i64 0, .int .i64 0, .int .i64 0, .int .i64 0, .int .i64 0, .int .i64 0, .int .i64 0, .int .i64 0, .row [], .row []], none, [], []⟩,
  ⟨none, .store none 16 (.t 20) (.t 131), none, [], []⟩] false)
 (.seq (.region [⟨some 132, .fad 0 (.t 20), none, [], []⟩,
  ⟨some 133, .load false 1 (.t 132), none, [], [0]⟩,
  ⟨some 134, .bin .neq (.t 133) (.c (.int .i64 7)), none, [], [0, 1]⟩,
  ⟨some 135, .mov (.t 134), none, [], [0, 1, 2]⟩,
  ⟨some 136, .fad 3 (.t 20), some (135, false), [138, 139, 140, 141, 142, 143], [0, 1, 2, 3]⟩,
  ⟨some 137, .load false 1 (.t 136), some (135, false), [138, 139, 140, 141, 142, 143], [0, 1, 2, 3, 4]⟩,
  ⟨some 138, .fad 9 (.t 16), some (135, false), [136, 137, 140], [0, 1, 2, 3]⟩,
  ⟨some 139, .load false 1 (.t 138), some (135, false), [136, 137, 140], [0, 1, 2, 3, 6]⟩,
  ⟨some 140, .mov (.t 19), some (135, false), [136, 137, 138, 139], [0, 1, 2, 3]⟩,
  ⟨some 141, .iad 3 (.t 139) (.t 140), some (135, false), [136, 137], [0, 1, 2, 3, 6, 7, 8]⟩,
  ⟨some 142, .fad 0 (.t 141), some (135, false), [136, 137], [0, 1, 2, 3, 6, 7, 8, 9]⟩,
  ⟨some 143, .load false 1 (.t 142), some (135, false), [136, 137], [0, 1, 2, 3, 6, 7, 8, 9, 10]⟩,
  ⟨some 144, .bin .neq (.t 137) (.t 143), some (135, false), [], [0, 1, 2, 3, 4, 5, 6, 7, 8, 9, 10, 11]⟩,
  ⟨some 145, .pick (.t 135) (.c (.bool true)) (.t 144), none, [], [0, 1, 2, 3, 4, 5, 6, 7, 8, 9, 10, 11, 12]⟩,
  ⟨some 146, .mov (.t 145), none, [], [0, 1, 2, 3, 4, 5, 6, 7, 8, 9, 10, 11, 12, 13]⟩,
  ⟨some 147, .fad 6 (.t 20), some (146, false), [149, 150], [0, 1, 2, 3, 4, 5, 6, 7, 8, 9, 10, 11, 12, 13, 14]⟩,
  ⟨some 148, .load false 1 (.t 147), some (146, false), [149, 150], [0, 1, 2, 3, 4, 5, 6, 7, 8, 9, 10, 11, 12, 13, 14, 15]⟩,
  ⟨some 149, .fad 3 (.t 11), some (146, false), [147, 148], [0, 1, 2, 3, 4, 5, 6, 7, 8, 9, 10, 11, 12, 13, 14]⟩,
  ⟨some 150, .load false 1 (.t 149), some (146, false), [147, 148], [0, 1, 2, 3, 4, 5, 6, 7, 8, 9, 10, 11, 12, 13, 14, 17]⟩,
  ⟨some 151, .bin .neq (.t 148) (.t 150), some (146, false), [], [0, 1, 2, 3, 4, 5, 6, 7, 8, 9, 10, 11, 12, 13, 14, 15, 16, 17, 18]⟩,
  ⟨some 152, .pick (.t 146) (.c (.bool true)) (.t 151), none, [], [0, 1, 2, 3, 4, 5, 6, 7, 8, 9, 10, 11, 12, 13, 14, 15, 16, 17, 18, 19]⟩,
  ⟨some 153, .mov (.t 152), none, [], [0, 1, 2, 3, 4, 5, 6, 7, 8, 9, 10, 11, 12, 13, 14, 15, 16, 17, 18, 19, 20]⟩,
  ⟨some 154, .fad 7 (.t 20), some (153, false), [156], [0, 1, 2, 3, 4, 5, 6, 7, 8, 9, 10, 11, 12, 13, 14, 15, 16, 17, 18, 19, 20, 21]⟩,
  ⟨some 155, .load false 1 (.t 154), some (153, false), [156], [0, 1, 2, 3, 4, 5, 6, 7, 8, 9, 10, 11, 12, 13, 14, 15, 16, 17, 18, 19, 20, 21, 22]⟩,
  ⟨some 156, .mov (.t 13), some (153, false), [154, 155], [0, 1, 2, 3, 4, 5, 6, 7, 8, 9, 10, 11, 12, 13, 14, 15, 16, 17, 18, 19, 20, 21]⟩,
  ⟨some 157, .bin .neq (.t 155) (.t 156), some (153, false), [], [0, 1, 2, 3, 4, 5, 6, 7, 8, 9, 10, 11, 12, 13, 14, 15, 16, 17, 18, 19, 20, 21, 22, 23, 24]⟩,
  ⟨some 158, .pick (.t 153) (.c (.bool true)) (.t 157), none, [], [0, 1, 2, 3, 4, 5, 6, 7, 8, 9, 10, 11, 12, 13, 14, 15, 16, 17, 18, 19, 20, 21, 22, 23, 24, 25]⟩,
  ⟨some 159, .mov (.t 158), none, [], [0, 1, 2, 3, 4, 5, 6, 7, 8, 9, 10, 11, 12, 13, 14, 15, 16, 17, 18, 19, 20, 21, 22, 23, 24, 25, 26]⟩,
  ⟨some 160, .fad 9 (.t 20), some (159, false), [162], [0, 1, 2, 3, 4, 5, 6, 7, 8, 9, 10, 11, 12, 13, 14, 15, 16, 17, 18, 19, 20, 21, 22, 23, 24, 25, 26, 27]⟩,
  ⟨some 161, .load false 1 (.t 160), some (159, false), [162], [0, 1, 2, 3, 4, 5, 6, 7, 8, 9, 10, 11, 12, 13, 14, 15, 16, 17, 18, 19, 20, 21, 22, 23, 24, 25, 26, 27, 28]⟩,
  ⟨some 162, .mov (.t 15), some (159, false), [160, 161], [0, 1, 2, 3, 4, 5, 6, 7, 8, 9, 10, 11, 12, 13, 14, 15, 16, 17, 18, 19, 20, 21, 22, 23, 24, 25, 26, 27]⟩,
  ⟨some 163, .bin .neq (.t 161) (.t 162), some (159, false), [], [0, 1, 2, 3, 4, 5, 6, 7, 8, 9, 10, 11, 12, 13, 14, 15, 16, 17, 18, 19, 20, 21, 22, 23, 24, 25, 26, 27, 28, 29, 30]⟩,
  ⟨some 164, .pick (.t 159) (.c (.bool true)) (.t 163), none, [], [0, 1, 2, 3, 4, 5, 6, 7, 8, 9, 10, 11, 12, 13, 14, 15, 16, 17, 18, 19, 20, 21, 22, 23, 24, 25, 26, 27, 28, 29, 30, 31]⟩,
  ⟨some 165, .mov (.t 164), none, [], [0, 1, 2, 3, 4, 5, 6, 7, 8, 9, 10, 11, 12, 13, 14, 15, 16, 17, 18, 19, 20, 21, 22, 23, 24, 25, 26, 27, 28, 29, 30, 31, 32]⟩,
  ⟨some 166, .fad 5 (.t 20), some (165, false), [168], [0, 1, 2, 3, 4, 5, 6, 7, 8, 9, 10, 11, 12, 13, 14, 15, 16, 17, 18, 19, 20, 21, 22, 23, 24, 25, 26, 27, 28, 29, 30, 31, 32, 33]⟩,
  ⟨some 167, .load false 1 (.t 166), some (165, false), [168], [0, 1, 2, 3, 4, 5, 6, 7, 8, 9, 10, 11, 12, 13, 14, 15, 16, 17, 18, 19, 20, 21, 22, 23, 24, 25, 26, 27, 28, 29, 30, 31, 32, 33, 34]⟩,
  ⟨some 168, .mov (.t 1), some (165, false), [166, 167], [0, 1, 2, 3, 4, 5, 6, 7, 8, 9, 10, 11, 12, 13, 14, 15, 16, 17, 18, 19, 20, 21, 22, 23, 24, 25, 26, 27, 28, 29, 30, 31, 32, 33]⟩,
  ⟨some 169, .bin .neq (.t 167) (.t 168), some (165, false), [], [0, 1, 2, 3, 4, 5, 6, 7, 8, 9, 10, 11, 12, 13, 14, 15, 16, 17, 18, 19, 20, 21, 22, 23, 24, 25, 26, 27, 28, 29, 30, 31, 32, 33, 34, 35, 36]⟩,
  ⟨some 170, .pick (.t 165) (.c (.bool true)) (.t 169), none, [], [0, 1, 2, 3, 4, 5, 6, 7, 8, 9, 10, 11, 12, 13, 14, 15, 16, 17, 18, 19, 20, 21, 22, 23, 24, 25, 26, 27, 28, 29, 30, 31, 32, 33, 34, 35, 36, 37]⟩] true)
 (.cond (.t 170) (.seq (.region [⟨some 10, .mov (.c (.bool false)), none, [], []⟩] false)
 .ret) .skip))))
 (.region [⟨some 126, .mov (.t 19), none, [], []⟩,
  ⟨some 127, .bin .add (.t 126) (.c (.int .i64 1)), none, [], []⟩,
  ⟨some 19, .mov (.t 127), none, [], []⟩] false)))))))
 (.region [⟨some 171, .load true 16 (.t 16), none, [172, 173, 174], []⟩,
  ⟨some 172, .fad 10 (.t 16), none, [11, 171], []⟩,
  ⟨some 173, .fad 1 (.t 172), none, [11, 171], [1]⟩,
  ⟨some 174, .load false 1 (.t 173), none, [11, 171], [1, 2]⟩,
  ⟨none, .store (some 11) 16 (.t 11) (.t 171), none, [172, 173, 174], [0]⟩,
  ⟨some 13, .mov (.t 174), none, [], [0, 1, 2, 3, 4]⟩] true)))))))
 (.region [⟨some 58, .mov (.t 14), none, [], []⟩,
  ⟨some 59, .bin .add (.t 58) (.c (.int .i64 1)), none, [], []⟩,
  ⟨some 14, .mov (.t 59), none, [], []⟩] false)))))))
 (.seq (.region [⟨some 175, .call false 16 [], none, [], []⟩,
  ⟨some 10, .mov (.t 175), none, [], []⟩] false)
 .ret)))))))
def i4 : F := ⟨5, 176, j4, [.t 10]⟩
theorem b4 : i4.body = j4 := rfl
theorem q4 : i4.res = [.t 10] := rfl
theorem c4 : chkF Tryz.prog Tryz.f4 i4 = true := by kernel_rfl
theorem s4 {m : Model} {E : Nat → Model} (hE : ∀ f, Sound Tryz.prog f (E f)) (hm : ∀ args r, m args = some r → ∃ N, i4.ev E N args = some r) : Sound Tryz.prog 4 m := sound_of i4 Tryz.func4 rfl c4 hE hm
def xt : List (Nat × Model) := []
def tb : List (Nat × F) := [(4, i4)]
theorem xt_ok : ∀ p ∈ xt, Sound Tryz.prog p.1 p.2 := all_nil
theorem tb_ok (N : Nat) : ∀ p ∈ tb, ∀ E : Nat → Model, (∀ f, Sound Tryz.prog f (E f)) → Sound Tryz.prog p.1 (p.2.ev E N) := all_cons (fun E hE => s4 hE fun _ _ h => ⟨N, h⟩) (all_nil)
abbrev TT (N : Nat) : Nat → Nat → Model := T1 (IG.TT N) 4 i4 N
theorem TT_ok (N d f : Nat) : Sound Tryz.prog f (TT N d f) := T1_ok (IG.TT_ok N) (fun E hE => s4 hE fun _ _ h => ⟨N, h⟩) d f
theorem t4 (N d : Nat) : TT N (d + 1) 4 = i4.ev (IG.TT N d) N := rfl
end Go.Proofs.YtdflglehippoiaaGreatDoor.L7
namespace Go.Proofs.YtdflglehippoiaaGreatDoor.GA
open Go Go.Proofs.YtdflglehippoiaaGreatDoorR IG
open QA (Ev eE aE rE epOK evOK qOK putE n01)
open AA (It eT aT rT wi takeT allT ahOK)
open EC (Cf eC okC)
open FA (Sm eS aS s0 smL flowC rightB heavyB heavy_t itemP itemG fA gA flow_t flow_of right_t q_t kpOK kRow umodF)
open KA (Kd eK aK rK nr okT okN kOK inB gap takeK all3)
open L7 (j4 i4 b4 q4)
set_option maxRecDepth 100000
set_option maxHeartbeats 8000000
theorem bc_none2 {c : Cf} {t self : Int} {x : Tp} (h : grC c t self x = 0) (h2 : (bcG self x).2 ≠ 0) : (bcG self x).2 = 11 ∧ x.t > 1073741792 := by
  obtain ⟨k1, k2, k3, k4, k5, k6, k7, k8, k9, k10, k11⟩ := gr_t h
  unfold bcG at h2 ⊢
  split at h2
  · exact absurd rfl h2
  rename_i g1
  split at h2
  · rename_i g2
    rw [if_neg g1, if_pos g2]
    refine ⟨rfl, ?_⟩
    have hn := KA.inB_t k7
    have hm := Int.tmod_nonneg 16 k9
    have hm2 := Int.tmod_lt_of_pos x.t (show 0 < 16 by omega)
    unfold nxE at g2
    dsimp only at g2
    by_cases g3 : x.t - x.t.tmod 16 + self ≤ x.t
    · rw [if_pos g3] at g2
      split at g2 <;> omega
    · rw [if_neg g3] at g2
      split at g2 <;> omega
  · exact absurd rfl h2
theorem gr_sq {c : Cf} {t self : Int} {y : Tp} {s : Sm} {q : List Ev} (h : grC c t self y = 0) (hf : flowC c s q = 0) (he : s.e = y.s.e) : grC c t self ⟨y.m, y.b, y.t, y.r, y.p, y.a, y.o, y.g, y.pa, y.ks, s, q⟩ = 0 := by
  obtain ⟨k1, k2, k3, k4, k5, k6, k7, k8, k9, k10, k11⟩ := gr_t h
  have h9 : rgtB c t self ⟨y.m, y.b, y.t, y.r, y.p, y.a, y.o, y.g, y.pa, y.ks, s, q⟩ = true := by
    unfold rgtB at k6 ⊢
    simp only [Bool.and_eq_true, decide_eq_true_eq] at k6 ⊢
    obtain ⟨h1, h2, h3, h4, h5, h6, h7, h8, h9, h10, h11, h12⟩ := k6
    refine ⟨h1, h2, h3, h4, h5, h6, h7, ?_, h9, h10, h11, hf⟩
    unfold rtd at h8 ⊢
    dsimp only
    rw [he]
    exact h8
  unfold grC
  rw [if_pos k1, if_pos]
  simp only [Bool.and_eq_true, decide_eq_true_eq]
  exact ⟨k2, k3, k4, k5, h9⟩
theorem ac_num {c : Cf} {t self : Int} {y : Tp} {v : Int} (h : grC c t self y = 0) (hr : y.r = y.t) (h0 : y.r ≠ 0) (hs : smX y) (hv : 0 ≤ v ∧ v ≤ 1000000) (hw : ¬ y.s.w ≥ 1073741823) :
    ∃ s q on, acP c t self y v = ((⟨y.m, y.b, y.t, y.r, y.p, y.a, y.o, y.g, y.pa, y.ks, s, q⟩, dsL t s.e y.ks (⟨y.s.w, v⟩ :: on)), 0) ∧ grC c t self ⟨y.m, y.b, y.t, y.r, y.p, y.a, y.o, y.g, y.pa, y.ks, s, q⟩ = 0 ∧ s.e = y.r ∧ y.s.w < s.w ∧ smX ⟨y.m, y.b, y.t, y.r, y.p, y.a, y.o, y.g, y.pa, y.ks, s, q⟩ ∧ on.length < 16 ∧ y.ks.length ≤ 4 := by
  obtain ⟨p1, p2, p3, p4, p5, p6⟩ := root_bare h h0
  have hbc : bcG self y = (y, 0) := by unfold bcG; rw [if_pos ⟨h0, hr.symm⟩]
  obtain ⟨k1, k2, k3, k4, k5, k6, k7, k8, k9, k10, k11⟩ := gr_t h
  obtain ⟨l1, l2, l3⟩ := flow_t k11
  have he : epOK y.s.e = true := by rw [p3]; exact p4
  have l4 := right_t l2
  have l5 := q_t l3
  obtain ⟨r1, r2, r3⟩ := FA.right_e l2 he
  have hah := FA.right_ah l2
  have hx : QA.inB y.s.w 1 1073741823 = true := by simp [QA.inB]; omega
  have hv' : QA.inB v 0 2147483647 = true := by simp [QA.inB]; omega
  obtain ⟨a1, a2, a3, a4, a5, a6, a7, a8, a9, a10, a11⟩ := FA.item_same (c := c) (s := y.s) (sub := y.b) (q := y.q) (x := ⟨y.s.w, v⟩) (P := fun s z => s = y.s.w → z = v) k11 he hx hv' (fun _ => rfl) (fun z hz hzw => by have := hah z hz; omega)
  have a11 := a11 rfl
  have hks : y.ks.length ≤ 4 := by
    unfold rgtB at k6
    simp only [Bool.and_eq_true] at k6
    have h1 := k6.2.2.2.2.2.2.2.2.2.2.1
    simp only [kOK, Bool.and_eq_true, decide_eq_true_eq] at h1
    have := FA.okC_t k1
    omega
  have hsm := ac_sm (v := v) hs h
  have hac : acP c t self y v = (({ y with s := (itemG c y.s y.b y.q false ⟨y.s.w, v⟩).1, q := (itemG c y.s y.b y.q false ⟨y.s.w, v⟩).2.1 }, dsL t (itemG c y.s y.b y.q false ⟨y.s.w, v⟩).1.e y.ks (itemG c y.s y.b y.q false ⟨y.s.w, v⟩).2.2), 0) := by
    unfold acP
    rw [if_pos h, if_pos hv']
    unfold acG
    rw [hbc]
    dsimp only
    rw [if_pos rfl, if_neg hw]
  have hac2 : acG c t self y v = acP c t self y v := by unfold acP; rw [if_pos h, if_pos hv']
  rw [hac2, hac] at hsm
  have hlen := FA.itemG_len (c := c) (s := y.s) (sub := y.b) (q := y.q) (old := false) (x := ⟨y.s.w, v⟩) ⟨by omega, by omega⟩ (by omega)
  have hon := FA.moreK_on (c := c) (s := y.s) (sub := y.b) (q := y.q) (x := ⟨y.s.w, v⟩)
  rw [hac]
  generalize itemG c y.s y.b y.q false ⟨y.s.w, v⟩ = G at *
  obtain ⟨s, q, on⟩ := G
  dsimp only at *
  cases on with
  | nil =>
    have : y.s.w = s.w := a6
    omega
  | cons x r =>
    obtain ⟨o1, o2, o3⟩ := a6
    obtain ⟨xs, xv⟩ := x
    have o4 : xv = v := o2 rfl
    have o5 : xs = y.s.w := o1
    clear o2 o1
    subst o5
    subst o4
    refine ⟨s, q, r, rfl, gr_sq h a1 a2, by rw [a2, p3], by omega, hsm.1, ?_, hks⟩
    simp only [List.length_cons] at hon
    omega
theorem e4 (c : Cf) (t self : Int) (x : Tp) (vs : List Int) (z1 : i64B x.p) (z2 : i64B x.a) (z3 : i64B x.o) : L7.TT 1000 20 4 [.agg (eC c), iV t, iV self, aX x, .one (rI vs)] = some (bV true, []) := by
  rw [L7.t4, F_ev rfl]
  have hH := fun d => e13 1000 d x
  cases hv : hvX x with
  | true => rw [hv] at hH; simp only [hH, List.length_map, j4, b4, q4, qq, ww, List.replicate, simprocAttr, if_true, if_false]
  | false =>
  rw [hv] at hH
  obtain ⟨hx, hh⟩ := hv_t hv
  have hw := w20
  by_cases h20 : (vs.length : Int) > 20
  · simp only [hH, decide_eq_true h20, List.length_map, j4, b4, q4, qq, ww, List.replicate, simprocAttr, if_true, if_false]
  have hR := fun d => e14 1000 d (by omega) c t self x hx z1 z2 z3
  by_cases g0 : grC c t self x = 0
  rotate_left
  · simp only [decide_eq_false g0] at hR
    simp only [hH, hR, decide_eq_false h20, List.length_map, j4, b4, q4, qq, ww, List.replicate, simprocAttr, if_true, if_false]
  simp only [decide_eq_true g0] at hR
  have hB := fun d => e15 1000 d (by omega) c t self x hx
  have hb : bcP c t self x = bcG self x := by unfold bcP; rw [if_pos g0]
  simp only [hb] at hB
  have h00 : decide ((0 : Int) = 0) = true := rfl
  have h11 : decide ((11 : Int) = 11) = true := rfl
  have h110 : decide ((11 : Int) = 0) = false := rfl
  by_cases g2 : (bcG self x).2 = 0
  rotate_left
  · obtain ⟨e1, e2⟩ := bc_none2 g0 g2
    simp only [e1] at hB
    generalize (bcG self x).1 = y at *
    simp only [hH, hR, hB, hw, h11, h110, decide_eq_false h20, List.length_map, j4, b4, q4, qq, ww, List.replicate, simprocAttr, if_true, if_false]
  simp only [g2] at hB
  obtain ⟨r1, r2, r3⟩ := bc_right g0 g2
  have hsb := bc_sm (self := self) hx
  generalize (bcG self x).1 = y0 at *
  have hcc : ∃ c0, c0 = c := ⟨c, rfl⟩
  simp only [hH, hR, hB, h00, decide_eq_false h20, List.length_map, j4, b4, q4, qq, ww, List.replicate, simprocAttr, if_true, if_false]
  refine loopI (K := fun o => fin _ (aft _ _ _ o)) (I := fun i st => ∃ y : Tp, st = ⟨[(1, iV t), (2, iV self), (4, .one (rI vs)), (5, .one (.ref 320 0 0)), (11, .one (.ref 704 0 0)), (13, iV y.s.w), (14, iV i)], [(320, .box (eC c)), (704, .box (eX y))]⟩ ∧ grC c t self y = 0 ∧ y.r = y.t ∧ y.r ≠ 0 ∧ smX y) _ vs.length ?hr vs.length 0 1000 _ ⟨[(1, iV t), (2, iV self), (4, .one (rI vs)), (5, .one (.ref 320 0 0)), (11, .one (.ref 704 0 0)), (13, iV y0.s.w), (14, iV 0)], [(320, .box (eC c)), (704, .box (eX y0))]⟩ (by omega) (by omega) ?hk ⟨y0, rfl, r1, r2, r3, hsb⟩
  case hk => simp only [kk, simprocAttr, if_true, if_false]; try rfl
  case hr =>
    rintro i n st hi ⟨y, rfl, hg, hrt, hr0, hys⟩ ih
    (try dsimp only)
    by_cases hlt : i < vs.length
    · have hbi : 0 ≤ (i : Int) ∧ (i : Int) < (vs.length : Int) := by omega
      have y1 : decide ((i : Int) < (vs.length : Int)) = true := decide_eq_true hbi.2
      have y2 : (vs.map eI)[i]? = some (eI vs[i]) := by simp [hlt]
      obtain ⟨d1, d2⟩ := umodF vs[i] 100000 (by omega) (by omega)
      generalize hD : IntKind.i64.wrap ((IntKind.u64.wrap vs[i]).tmod 100000) = D at *
      have hA := fun d => e22 1000 d (by omega) c t self y D hys
      by_cases g3 : y.s.w ≥ 1073741823
      · have e1 : acP c t self y D = ((x0, []), 11) := by
          have hv' : QA.inB D 0 2147483647 = true := by simp [QA.inB]; omega
          have hbc : bcG self y = (y, 0) := by unfold bcG; rw [if_pos ⟨hr0, hrt.symm⟩]
          unfold acP
          rw [if_pos hg, if_pos hv']
          unfold acG
          rw [hbc]
          dsimp only
          rw [if_pos rfl, if_pos g3]
        simp only [e1] at hA
        simp only [hA, hw, y1, y2, hbi.1, hbi.2, hD, h11, h110, h00, decide_eq_true g3, List.length_map, Int.toNat_natCast, j4, b4, q4, qq, ww, List.replicate, simprocAttr, if_true, if_false]
      obtain ⟨s', q', on, e1, e2, e3, e4, e5, e6, e7⟩ := ac_num (v := D) hg hrt hr0 hys (by omega) g3
      simp only [e1] at hA
      have hC := fun d => e18 1000 d (by omega) c t self _ e5
      simp only [e2] at hC
      have u1 : ∀ z : Int, decide (z = z) = true := fun z => by simp
      have u2 : decide (s'.w ≤ y.s.w) = false := decide_eq_false (by omega)
      have u4 : decide (s'.e = y.r) = true := decide_eq_true e3
      have hLn := dsL_len (t := t) (e := s'.e) (ks := y.ks) (on := ⟨y.s.w, D⟩ :: on)
      have u3 : y.ks.length ≤ (dsL t s'.e y.ks (⟨y.s.w, D⟩ :: on)).length := by rw [hLn, List.length_cons, Nat.succ_mul]; omega
      have u3' : decide (((dsL t s'.e y.ks (⟨y.s.w, D⟩ :: on)).length : Int) < (y.ks.length : Int)) = false := decide_eq_false (by omega)
      have u5 : ∀ k (hk : k < y.ks.length), ((dsL t s'.e y.ks (⟨y.s.w, D⟩ :: on)).map eD)[k]? = some [.int .i64 7, .int .i64 0, .int .i64 0, .int .i64 y.ks[k].n, .int .i64 0, .int .i64 t, .int .i64 s'.e, .int .i64 y.s.w, .int .i64 0, .int .i64 D, .int .i64 0, .int .i64 0, .int .i64 0, .int .i64 0, .row [], .row []] := fun k hk => by
        rw [List.getElem?_map]
        simp only [dsL, List.flatMap_cons]
        rw [List.getElem?_append_left (by simpa using hk), List.getElem?_map, List.getElem?_eq_getElem hk]
        rfl
      generalize dsL t s'.e y.ks (⟨y.s.w, D⟩ :: on) = L at *
      simp only [hA, hC, y1, y2, hbi.1, hbi.2, hD, h00, u1, u2, u3', List.length_map, Int.toNat_natCast, j4, b4, q4, qq, ww, List.replicate, simprocAttr, if_true, if_false]
      refine loopK (K := fun o => fin _ (aft _ _ _ (goL _ _ _ _ (aft _ _ _ o)))) (fun j => ⟨[(1, iV t), (2, iV self), (4, .one (rI vs)), (5, .one (.ref 320 0 0)), (11, .one (.ref 704 0 0)), (13, iV y.s.w), (14, iV i), (15, iV D), (16, .one (.ref 1024 0 0)), (17, .one (rD L)), (19, iV j)], [(320, .box (eC c)), (704, .box (eX y)), (1024, .box (eX ⟨y.m, y.b, y.t, y.r, y.p, y.a, y.o, y.g, y.pa, y.ks, s', q'⟩))]⟩) (fun _ => some (bV true, [])) y.ks.length ?hr2 y.ks.length 0 1000 _ (by omega) (by omega) ?hk2
      case hk2 => simp only [kk, simprocAttr, if_true, if_false]; try rfl
      case hr2 =>
        intro j m2 hj ih2
        (try dsimp only)
        by_cases hjl : j < y.ks.length
        · have v1 : decide ((j : Int) < (y.ks.length : Int)) = true := by simp; omega
          have v2 := u5 j hjl
          have v3 : 0 ≤ (j : Int) ∧ (j : Int) < (y.ks.length : Int) := by omega
          have v4 : (j : Int) < (L.length : Int) := by omega
          have v5 : (y.ks.map eK)[j]? = some (eK y.ks[j]) := by simp [hjl]
          simp only [v1, v2, v3.1, v3.2, v4, v5, u1, u4, wi j (by omega), List.length_map, Int.toNat_natCast, j4, b4, q4, qq, ww, List.replicate, simprocAttr, if_true, if_false]
          exact ih2 hjl _ (by simp only [kk, simprocAttr, if_true, if_false])
        · obtain rfl : j = y.ks.length := by omega
          clear ih2
          have v1 : decide ((y.ks.length : Int) < (y.ks.length : Int)) = false := by simp
          simp only [v1, wi i (by omega), List.length_map, j4, b4, q4, qq, ww, List.replicate, simprocAttr, if_true, if_false]
          exact ih hlt _ _ (by simp only [kk, simprocAttr, if_true, if_false]) ⟨⟨y.m, y.b, y.t, y.r, y.p, y.a, y.o, y.g, y.pa, y.ks, s', q'⟩, rfl, e2, hrt, hr0, e5⟩
    · clear ih
      have y1 : decide ((i : Int) < (vs.length : Int)) = false := by simp; omega
      simp only [y1, hw, List.length_map, j4, b4, q4, qq, ww, List.replicate, simprocAttr, if_true, if_false]
theorem e4r {A B C D E F G H I : Prop} (c : Cf) (t self : Int) (x : Tp) (vs : List Int) (w0_ : A) (w1_ : B) (w2_ : C) (w3_ : D ∧ (E ∧ (F ∧ (G ∧ (wf8 x.p ∧ (wf8 x.a ∧ (wf8 x.o ∧ H))))))) (w4_ : I) : L7.TT 1000 20 4 [.agg (eC c), iV t, iV self, aX x, .one (rI vs)] = some (bV true, []) := e4 c t self x vs (wf8_b w3_.2.2.2.2.1) (wf8_b w3_.2.2.2.2.2.1) (wf8_b w3_.2.2.2.2.2.2.1)
end Go.Proofs.YtdflglehippoiaaGreatDoor.GA
