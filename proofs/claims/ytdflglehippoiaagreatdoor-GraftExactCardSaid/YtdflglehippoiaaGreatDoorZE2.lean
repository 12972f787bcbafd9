/- Texts joined: HD GJ GK EP GL MG MH MI HE L9 HJ HF. -/
import Derived.Test.YtdflglehippoiaaGreatDoorZE1
import Derived.ProofKit
import Derived.Test.YtdflglehippoiaaGreatDoorProg
set_option linter.unusedVariables false
set_option linter.unusedSimpArgs false
namespace Go.Proofs.YtdflglehippoiaaGreatDoor.GA
open Go Go.Proofs.YtdflglehippoiaaGreatDoorR IG
open QA (Ev eE aE rE epOK evOK qOK putE n01)
open AA (It eT aT rT wi takeT allT ahOK)
open EC (Cf eC okC)
open FA (Sm eS aS s0 smL flowC rightB heavyB heavy_t flow_t flow_of right_t q_t kpOK kRow umodF toldS toldP)
open KA (Kd eK aK rK nr okT okN kOK inB gap takeK all3 askP askT askR askS askQ hasN drp)
open MA (Mg eM aM msgOK)
set_option maxRecDepth 100000
set_option maxHeartbeats 4000000
def mx3 (a b c : Int) : Int := if c > (if b > a then b else a) then c else (if b > a then b else a)
def ackG (c : Cf) (t self : Int) (x : Tp) (n : Int) (m : Mg) : Tp :=
 if x.a = IntKind.i64.wrap (n + 1) ∧ x.r = 0 ∧ pthC t self m.pa c.d = 0 then ⟨x.m, x.b, mx3 x.t m.l m.e, x.r, IntKind.i64.wrap (n + 1), x.a, x.o, 0, m.pa, x.ks, if epOK m.e = true then toldS x.s m.e m.s else x.s, x.q⟩ else x
def ackP (c : Cf) (t self : Int) (x : Tp) (n : Int) (m : Mg) : Tp × Int :=
 if grC c t self x = 0 then (if msgOK m = true ∧ m.k = 3 ∧ m.tp = t ∧ m.f = n then (ackG c t self x n m, 0) else (x0, 1)) else (x0, grC c t self x)
theorem okM_seq {m : Mg} (h : msgOK m = true) (hk : m.k = 3) : 1 ≤ m.s ∧ m.s ≤ 1073741824 ∧ 0 ≤ m.e ∧ m.e ≤ 1073741824 ∧ 0 ≤ m.l ∧ m.l ≤ 1073741824 ∧ 0 ≤ m.f ∧ m.f ≤ 7 ∧ ∃ r, m.pa = m.f :: r := by
 unfold msgOK MA.knownB MA.endsB at h
 simp only [Bool.and_eq_true] at h
 have h1 := h.1.1
 unfold MA.okM at h1
 rw [hk] at h1
 simp [MA.inB] at h1
 have h2 := h.1.2.1.1.1.1
 simp [MA.inB] at h2
 refine ⟨by omega, by omega, by omega, by omega, by omega, by omega, h2.1, h2.2, ?_⟩
 have h3 := h1.1.1.2
 have h4 := h1.2
 cases hp : m.pa with
 | nil => exact absurd hp h3
 | cons y r =>
  rw [hp] at h4
  exact ⟨r, by rw [← show y = m.f from h4]⟩
theorem flow_nil {c : Cf} {s : Sm} {q : List Ev} (h : flowC c s q = 0) : flowC c s [] = 0 := by
 obtain ⟨k1, k2, k3⟩ := flow_t h
 have k4 := q_t k3
 refine flow_of k1 k2 ?_
 simp [qOK]
 omega
theorem told_ok {c : Cf} {s : Sm} {q : List Ev} {at_ n : Int} (h : flowC c s q = 0) (hn : 1 ≤ n ∧ n ≤ 1073741824) : toldP c s at_ n = if epOK at_ = true then (toldS s at_ n, 0) else (s0, 1) := by
 have h2 : QA.inB n 1 1073741824 = true := by simp [QA.inB]; omega
 unfold toldP
 rw [if_pos (flow_nil h), h2, Bool.and_true]
theorem e33 (N d : Nat) (hN : 1000 ≤ N) (c : Cf) (t self : Int) (x : Tp) (n : Int) (m : Mg) (hx : smX x) (ha : m.pa.length < 1000) (hb : m.td.length < 1000) : TT (N + 3000) (d + 14) 33 [.agg (eC c), iV t, iV self, aX x, iV n, aM m] = some (.tup [aX (ackP c t self x n m).1, iV (ackP c t self x n m).2], []) := by
 have h1 := fun d => e18 (N + 3000) d (by omega) c t self x hx
 have h2 := fun d => e50 (N + 3000) d x hx
 have h3 := fun d => MA.e79 N d m ha hb
 have h4 := fun d => e31 (N + 3000) d t self m.pa c.d (by omega) (by omega)
 have h5 := fun d => e80 (N + 3000) d m.pa (by omega)
 have h6 := fun d => FA.e81 (N + 3000) d (by omega) c x.s m.e m.s hx.2.2.1
 have h00 : decide ((0 : Int) = 0) = true := rfl
 have h50 : decide ((5 : Int) = 0) = false := rfl
 rw [t33, F_ev rfl]
 unfold ackP
 by_cases g0 : grC c t self x = 0
 rotate_left
 ·rw [if_neg g0]
  have g0' : decide (grC c t self x = 0) = false := decide_eq_false g0
  simp only [h1, g0', j33, b33, q33, ww, simprocAttr]
  try rfl
 rw [if_pos g0]
 rw [g0] at h1
 cases g1 : msgOK m with
 | false =>
  rw [g1] at h3
  rw [if_neg (by simp)]
  simp only [h1, h3, h00, h50, j33, b33, q33, ww, simprocAttr]
  try rfl
 | true =>
 rw [g1] at h3
 by_cases g2 : m.k = 3
 rotate_left
 ·rw [if_neg (fun h => g2 h.2.1)]
  simp only [h1, h3, h00, decide_eq_false g2, j33, b33, q33, ww, simprocAttr]
  try rfl
 by_cases g3 : m.tp = t
 rotate_left
 ·rw [if_neg (fun h => g3 h.2.2.1)]
  simp only [h1, h3, h00, decide_eq_true g2, decide_eq_false g3, j33, b33, q33, ww, simprocAttr]
  try rfl
 by_cases g4 : m.f = n
 rotate_left
 ·rw [if_neg (fun h => g4 h.2.2.2)]
  simp only [h1, h3, h00, decide_eq_true g2, decide_eq_true g3, decide_eq_false g4, j33, b33, q33, ww, simprocAttr]
  try rfl
 rw [if_pos ⟨rfl, g2, g3, g4⟩]
 obtain ⟨k1, k2, k3, k4, k5, k6, k7, k8, k9, k10, k11⟩ := gr_t g0
 have hs := okM_seq g1 g2
 rw [told_ok k11 ⟨hs.1, hs.2.1⟩] at h6
 unfold ackG
 by_cases g5 : x.a = IntKind.i64.wrap (n + 1)
 rotate_left
 ·rw [if_neg (fun h => g5 h.1)]
  simp only [h1, h2, h3, h00, decide_eq_true g2, decide_eq_true g3, decide_eq_true g4, decide_eq_false g5, j33, b33, q33, ww, simprocAttr]
  try rfl
 by_cases g6 : x.r = 0
 rotate_left
 ·rw [if_neg (fun h => g6 h.2.1)]
  simp only [h1, h2, h3, h00, decide_eq_true g2, decide_eq_true g3, decide_eq_true g4, decide_eq_true g5, decide_eq_false g6, j33, b33, q33, ww, simprocAttr]
  try rfl
 by_cases g7 : pthC t self m.pa c.d = 0
 rotate_left
 ·rw [if_neg (fun h => g7 h.2.2)]
  simp only [h1, h2, h3, h4, h00, decide_eq_true g2, decide_eq_true g3, decide_eq_true g4, decide_eq_true g5, decide_eq_true g6, decide_eq_false g7, j33, b33, q33, ww, simprocAttr]
  try rfl
 rw [if_pos ⟨g5, g6, g7⟩]
 cases g8 : epOK m.e with
 | false =>
  rw [g8] at h6
  simp only [h1, h2, h3, h4, h5, h6, h00, takeI, decide_eq_true g2, decide_eq_true g3, decide_eq_true g4, decide_eq_true g5, decide_eq_true g6, decide_eq_true g7, List.length_map, j33, b33, q33, ww, simprocAttr]
  try rfl
 | true =>
  rw [g8, if_pos rfl] at h6
  rw [if_pos rfl]
  simp only [h1, h2, h3, h4, h5, h6, h00, takeI, decide_eq_true g2, decide_eq_true g3, decide_eq_true g4, decide_eq_true g5, decide_eq_true g6, decide_eq_true g7, List.length_map, j33, b33, q33, ww, simprocAttr]
  try rfl
theorem e46 (N d : Nat) (hN : 1000 ≤ N) (c : Cf) (t self : Int) (x : Tp) (m : Mg) (hx : smX x) (ha : m.pa.length < 1000) (g0 : grC c t self x = 0) : TT N (d + 5) 46 [.agg (eC c), iV t, iV self, aX x, aM m] = some (aX (ackG c t self x m.f m), []) := by
 obtain ⟨k1, k2, k3, k4, k5, k6, k7, k8, k9, k10, k11⟩ := gr_t g0
 have kc := FA.okC_t k1
 have h2 := fun d => e37 N d x hx
 have h4 := fun d => e90 N d t self m.pa c.d k8 k7 (by simp [inB]; omega) (by omega) (by omega)
 have h5 := fun d => MA.e77 N d m.pa (by omega)
 have h6 := fun d => FA.e98 N d x.s m.e m.s hx.2.2.1
 have h7 := fun d => QA.e88 N d m.e
 rw [t46, F_ev rfl]
 unfold ackG
 by_cases g5 : x.a = IntKind.i64.wrap (m.f + 1)
 rotate_left
 ·rw [if_neg (fun h => g5 h.1)]
  simp only [h2, decide_eq_false g5, j46, b46, q46, ww, simprocAttr]
  try rfl
 by_cases g6 : x.r = 0
 rotate_left
 ·rw [if_neg (fun h => g6 h.2.1)]
  simp only [h2, decide_eq_true g5, decide_eq_false g6, j46, b46, q46, ww, simprocAttr]
  try rfl
 by_cases g7 : pthC t self m.pa c.d = 0
 rotate_left
 ·rw [if_neg (fun h => g7 h.2.2)]
  simp only [h2, h4, decide_eq_true g5, decide_eq_true g6, decide_eq_false g7, j46, b46, q46, ww, simprocAttr]
  try rfl
 rw [if_pos ⟨g5, g6, g7⟩]
 cases g8 : epOK m.e with
 | false =>
  simp only [h2, h4, h5, h7, g8, takeI, decide_eq_true g5, decide_eq_true g6, decide_eq_true g7, List.length_map, j46, b46, q46, ww, simprocAttr]
  try rfl
 | true =>
  rw [if_pos rfl]
  simp only [h2, h4, h5, h6, h7, g8, takeI, decide_eq_true g5, decide_eq_true g6, decide_eq_true g7, List.length_map, j46, b46, q46, ww, simprocAttr]
  try rfl
end Go.Proofs.YtdflglehippoiaaGreatDoor.GA
namespace Go.Proofs.YtdflglehippoiaaGreatDoor.GA
open Go Go.Proofs.YtdflglehippoiaaGreatDoorR IG
open QA (Ev eE aE rE epOK evOK qOK putE n01)
open AA (It eT aT rT wi takeT allT ahOK)
open EC (Cf eC okC)
open FA (Sm eS aS s0 smL flowC rightB heavyB heavy_t)
open KA (Kd eK aK rK nr okT okN kOK inB gap takeK all3)
set_option maxRecDepth 100000
set_option maxHeartbeats 4000000
abbrev i64B (n : Int) : Prop := -9223372036854775808 ≤ n ∧ n ≤ 9223372036854775807
def rtA (self : Int) (x : Tp) : Bool := decide (x.r = 0) || (epOK x.r && (decide (x.r.tmod 16 = self) && decide (x.r ≤ x.t)))
def plA (x : Tp) : Bool := match x.pa with
 | [] => !decide (x.p > 0)
 | y :: _ => decide (x.p > 0) && decide (y = IntKind.i64.wrap (x.p - 1))
def rtC (x : Tp) : Bool := decide (x.r = 0) || (decide (x.p = 0) && decide (x.s.e = x.r))
def tpA (c : Cf) (t self : Int) (x : Tp) : Bool := inB x.t 0 1073741824 && (rtA self x && (lnk t self x.p && (lnk t self x.a && (lnk t self x.o && (inB x.g 0 1000 && (decide (pthC t self x.pa c.d = 0) && (plA x && (rtC x && (kOK t self c.k x.ks && (rightB c x.s && qOK x.q c.q))))))))))
theorem tpA_eq {c : Cf} {t self : Int} {x : Tp} (hc : okC c = true) (hp : i64B x.p) : tpA c t self x = rgtB c t self x := by
 have hf : decide (flowC c x.s x.q = 0) = (rightB c x.s && qOK x.q c.q) := by
  unfold flowC
  rw [if_pos hc]
  cases (rightB c x.s && qOK x.q c.q) <;> rfl
 have hl : lnk t self x.p = true → x.p = 0 ∨ (0 < x.p ∧ x.p ≤ 8) := fun h => by
  unfold lnk at h
  simp only [Bool.or_eq_true, Bool.and_eq_true, decide_eq_true_eq] at h
  rcases h with h | ⟨h, h2⟩
  ·exact .inl h
  ·have := KA.inB_t (KA.nr_t h2).2.1
   rw [IntWalk.i64_in _ (by omega)] at this
   exact .inr ⟨h, by omega⟩
 have hpl : lnk t self x.p = true → pthC t self x.pa c.d = 0 → plA x = plc x := fun h h2 => by
  unfold plA plc
  cases hpa : x.pa with
  | nil =>
   rcases hl h with h3 | h3
   ·rw [h3]; rfl
   ·rw [decide_eq_true (show x.p > 0 by omega), decide_eq_false (show ¬ x.p = 0 by omega)]; rfl
  | cons y r =>
   have hy : okN y = true := by
    rw [hpa] at h2
    unfold pthC at h2
    split at h2
    ·rename_i h3
     simp only [Bool.and_eq_true, List.all_cons] at h3
     exact h3.2.1
    ·omega
   have hb := KA.inB_t hy
   show (decide (x.p > 0) && decide (y = IntKind.i64.wrap (x.p - 1))) = decide (x.p = IntKind.i64.wrap (y + 1))
   rw [IntWalk.i64_in (y + 1) (by omega)]
   rcases hl h with h3 | h3
   ·rw [h3]; simp; omega
   ·rw [IntWalk.i64_in _ (by omega)]
    have : decide (x.p > 0) = true := by simp; omega
    rw [this, Bool.true_and]
    congr 1
    simp only [eq_iff_iff]
    omega
 have hrt : (rtA self x && rtC x) = rtd self x := by
  unfold rtA rtC rtd
  by_cases h : x.r = 0
  ·simp [h]
  ·simp only [decide_eq_false h, Bool.false_or, Bool.and_assoc]
 have ht : inB x.t 0 1073741824 = (decide (0 ≤ x.t) && decide (x.t ≤ 1073741824)) := rfl
 have hg : inB x.g 0 1000 = (decide (0 ≤ x.g) && decide (x.g ≤ 1000)) := rfl
 unfold tpA rgtB
 rw [← hrt, hf, ht, hg]
 cases h1 : lnk t self x.p with
 | false => simp
 | true =>
  by_cases h2 : pthC t self x.pa c.d = 0
  ·rw [hpl h1 h2]
   simp only [Bool.and_assoc, Bool.true_and, decide_eq_true h2]
   cases decide (0 ≤ x.t) <;> cases decide (x.t ≤ 1073741824) <;> cases rtA self x <;> cases rtC x <;> cases decide (0 ≤ x.g) <;> cases decide (x.g ≤ 1000) <;> simp
  ·simp [h2]
end Go.Proofs.YtdflglehippoiaaGreatDoor.GA
namespace Go.Proofs.YtdflglehippoiaaGreatDoor.GA
open Go Go.Proofs.YtdflglehippoiaaGreatDoorR IG
open QA (Ev eE aE rE epOK evOK qOK putE n01)
open AA (It eT aT rT wi takeT allT ahOK)
open EC (Cf eC okC)
open FA (Sm eS aS s0 smL flowC rightB heavyB heavy_t)
open KA (Kd eK aK rK nr okT okN kOK inB gap takeK all3)
set_option maxRecDepth 100000
set_option maxHeartbeats 4000000
theorem e42 (N d : Nat) (hN : 1000 ≤ N) (c : Cf) (t self : Int) (x : Tp) (hx : smX x) (hc : okC c = true) (h0 : okT t = true) (h1 : okN self = true) (b1 : i64B x.p) (b2 : i64B x.a) (b3 : i64B x.o) : TT N (d + 7) 42 [.agg (eC c), iV t, iV self, aX x] = some (bV (tpA c t self x), []) := by
 have kc := FA.okC_t hc
 have hi := fun d n lo hi => KA.e87 N d n lo hi
 have hE := fun d => QA.e88 N d x.r
 have hP := fun d => e89 N d t self x.p b1
 have hA := fun d => e89 N d t self x.a b2
 have hO := fun d => e89 N d t self x.o b3
 have hp := fun d => e90 N d t self x.pa c.d h0 h1 (by simp [inB]; omega) (by omega) (by omega)
 have hk := fun d => KA.e91 N d t self c.k x.ks (by omega) (by omega)
 have hf := fun d => FA.e92 N d hN c x.s x.q hx.2.2.1 hx.2.2.2
 rw [t42, F_ev rfl]
 unfold tpA
 cases g1 : inB x.t 0 1073741824 with
 | false => simp only [hi, g1, j42, b42, q42, ww, simprocAttr]
 | true =>
 have h00 : decide ((0 : Int) = 0) = true := rfl
 by_cases r0 : x.r = 0
 ·have r0' := decide_eq_true r0
  unfold rtA
  cases g2 : lnk t self x.p with
  | false => simp only [hi, hE, hP, hA, hO, hp, hk, hf, h00, g1, r0', g2, List.length_map, j42, b42, q42, ww, simprocAttr]
  | true =>
  cases g3 : lnk t self x.a with
  | false => simp only [hi, hE, hP, hA, hO, hp, hk, hf, h00, g1, r0', g2, g3, List.length_map, j42, b42, q42, ww, simprocAttr]
  | true =>
  cases g4 : lnk t self x.o with
  | false => simp only [hi, hE, hP, hA, hO, hp, hk, hf, h00, g1, r0', g2, g3, g4, List.length_map, j42, b42, q42, ww, simprocAttr]
  | true =>
  cases g5 : inB x.g 0 1000 with
  | false => simp only [hi, hE, hP, hA, hO, hp, hk, hf, h00, g1, r0', g2, g3, g4, g5, List.length_map, j42, b42, q42, ww, simprocAttr]
  | true =>
  by_cases g6 : pthC t self x.pa c.d = 0
  rotate_left
  ·have g6' := decide_eq_false g6
   simp only [hi, hE, hP, hA, hO, hp, hk, hf, h00, g1, r0', g2, g3, g4, g5, g6', List.length_map, j42, b42, q42, ww, simprocAttr]
  have g6' := decide_eq_true g6
  unfold plA
  cases hpa : x.pa with
  | nil =>
   rw [hpa] at hp
   (try rw [hpa] at g6')
   have c1 : decide ((0 : Int) > 0) = false := rfl
   by_cases g7 : x.p > 0
   ·simp only [hi, hE, hP, hA, hO, hp, hk, hf, h00, g1, r0', g2, g3, g4, g5, g6', hpa, c1, decide_eq_true g7, List.length_map, j42, b42, q42, ww, simprocAttr]
   unfold rtC
   cases g9 : kOK t self c.k x.ks <;> simp only [hi, hE, hP, hA, hO, hp, hk, hf, h00, g1, r0', g2, g3, g4, g5, g6', hpa, c1, decide_eq_false g7, g9, List.length_map, j42, b42, q42, ww, simprocAttr]
  | cons y r =>
   rw [hpa] at hp
   (try rw [hpa] at g6')
   have c1 : decide (((r.length + 1 : Nat) : Int) > 0) = true := decide_eq_true (by omega)
   have c2 : (0 : Int) ≤ 0 ∧ (0 : Int) < ((r.length + 1 : Nat) : Int) := by omega
   by_cases g7 : x.p > 0
   rotate_left
   ·simp only [hi, hE, hP, hA, hO, hp, hk, hf, h00, g1, r0', g2, g3, g4, g5, g6', hpa, c1, c2.1, c2.2, decide_eq_false g7, List.length_map, j42, b42, q42, ww, simprocAttr]
   by_cases g8 : y = IntKind.i64.wrap (x.p - 1)
   rotate_left
   ·have g8' := decide_eq_false g8
    simp only [hi, hE, hP, hA, hO, hp, hk, hf, h00, g1, r0', g2, g3, g4, g5, g6', hpa, c1, c2.1, c2.2, decide_eq_true g7, g8', List.length_map, j42, b42, q42, ww, simprocAttr]
   have g8' := decide_eq_true g8
   unfold rtC
   cases g9 : kOK t self c.k x.ks <;> simp only [hi, hE, hP, hA, hO, hp, hk, hf, h00, g1, r0', g2, g3, g4, g5, g6', hpa, c1, c2.1, c2.2, decide_eq_true g7, g8', g9, List.length_map, j42, b42, q42, ww, simprocAttr]
 ·have r0' := decide_eq_false r0
  unfold rtA
  cases v1 : epOK x.r with
  | false => simp only [hi, hE, hP, hA, hO, hp, hk, hf, h00, g1, r0', v1, List.length_map, j42, b42, q42, ww, simprocAttr]
  | true =>
  by_cases v2 : x.r.tmod 16 = self
  rotate_left
  ·have v2' := decide_eq_false v2
   simp only [hi, hE, hP, hA, hO, hp, hk, hf, h00, g1, r0', v1, v2', List.length_map, j42, b42, q42, ww, simprocAttr]
  have v2' := decide_eq_true v2
  by_cases v3 : x.r ≤ x.t
  rotate_left
  ·have v3' := decide_eq_false v3
   have v3'' : decide (x.r > x.t) = true := decide_eq_true (by omega)
   simp only [hi, hE, hP, hA, hO, hp, hk, hf, h00, g1, r0', v1, v2', v3', v3'', List.length_map, j42, b42, q42, ww, simprocAttr]
  have v3' := decide_eq_true v3
  have v3'' : decide (x.r > x.t) = false := decide_eq_false (by omega)
  cases g2 : lnk t self x.p with
  | false => simp only [hi, hE, hP, hA, hO, hp, hk, hf, h00, g1, r0', v1, v2', v3', v3'', g2, List.length_map, j42, b42, q42, ww, simprocAttr]
  | true =>
  cases g3 : lnk t self x.a with
  | false => simp only [hi, hE, hP, hA, hO, hp, hk, hf, h00, g1, r0', v1, v2', v3', v3'', g2, g3, List.length_map, j42, b42, q42, ww, simprocAttr]
  | true =>
  cases g4 : lnk t self x.o with
  | false => simp only [hi, hE, hP, hA, hO, hp, hk, hf, h00, g1, r0', v1, v2', v3', v3'', g2, g3, g4, List.length_map, j42, b42, q42, ww, simprocAttr]
  | true =>
  cases g5 : inB x.g 0 1000 with
  | false => simp only [hi, hE, hP, hA, hO, hp, hk, hf, h00, g1, r0', v1, v2', v3', v3'', g2, g3, g4, g5, List.length_map, j42, b42, q42, ww, simprocAttr]
  | true =>
  by_cases g6 : pthC t self x.pa c.d = 0
  rotate_left
  ·have g6' := decide_eq_false g6
   simp only [hi, hE, hP, hA, hO, hp, hk, hf, h00, g1, r0', v1, v2', v3', v3'', g2, g3, g4, g5, g6', List.length_map, j42, b42, q42, ww, simprocAttr]
  have g6' := decide_eq_true g6
  unfold plA
  cases hpa : x.pa with
  | nil =>
   rw [hpa] at hp
   (try rw [hpa] at g6')
   have c1 : decide ((0 : Int) > 0) = false := rfl
   by_cases g7 : x.p > 0
   ·simp only [hi, hE, hP, hA, hO, hp, hk, hf, h00, g1, r0', v1, v2', v3', v3'', g2, g3, g4, g5, g6', hpa, c1, decide_eq_true g7, List.length_map, j42, b42, q42, ww, simprocAttr]
   unfold rtC
   by_cases u1 : x.p = 0
   rotate_left
   ·have u1' := decide_eq_false u1
    simp only [hi, hE, hP, hA, hO, hp, hk, hf, h00, g1, r0', v1, v2', v3', v3'', g2, g3, g4, g5, g6', hpa, c1, decide_eq_false g7, u1', List.length_map, j42, b42, q42, ww, simprocAttr]
   have u1' := decide_eq_true u1
   by_cases u2 : x.s.e = x.r
   rotate_left
   ·have u2' := decide_eq_false u2
    simp only [hi, hE, hP, hA, hO, hp, hk, hf, h00, g1, r0', v1, v2', v3', v3'', g2, g3, g4, g5, g6', hpa, c1, decide_eq_false g7, u1', u2', List.length_map, j42, b42, q42, ww, simprocAttr]
   have u2' := decide_eq_true u2
   cases g9 : kOK t self c.k x.ks <;> simp only [hi, hE, hP, hA, hO, hp, hk, hf, h00, g1, r0', v1, v2', v3', v3'', g2, g3, g4, g5, g6', hpa, c1, decide_eq_false g7, u1', u2', g9, List.length_map, j42, b42, q42, ww, simprocAttr]
  | cons y r =>
   rw [hpa] at hp
   (try rw [hpa] at g6')
   have c1 : decide (((r.length + 1 : Nat) : Int) > 0) = true := decide_eq_true (by omega)
   have c2 : (0 : Int) ≤ 0 ∧ (0 : Int) < ((r.length + 1 : Nat) : Int) := by omega
   by_cases g7 : x.p > 0
   rotate_left
   ·simp only [hi, hE, hP, hA, hO, hp, hk, hf, h00, g1, r0', v1, v2', v3', v3'', g2, g3, g4, g5, g6', hpa, c1, c2.1, c2.2, decide_eq_false g7, List.length_map, j42, b42, q42, ww, simprocAttr]
   by_cases g8 : y = IntKind.i64.wrap (x.p - 1)
   rotate_left
   ·have g8' := decide_eq_false g8
    simp only [hi, hE, hP, hA, hO, hp, hk, hf, h00, g1, r0', v1, v2', v3', v3'', g2, g3, g4, g5, g6', hpa, c1, c2.1, c2.2, decide_eq_true g7, g8', List.length_map, j42, b42, q42, ww, simprocAttr]
   have g8' := decide_eq_true g8
   unfold rtC
   by_cases u1 : x.p = 0
   rotate_left
   ·have u1' := decide_eq_false u1
    simp only [hi, hE, hP, hA, hO, hp, hk, hf, h00, g1, r0', v1, v2', v3', v3'', g2, g3, g4, g5, g6', hpa, c1, c2.1, c2.2, decide_eq_true g7, g8', u1', List.length_map, j42, b42, q42, ww, simprocAttr]
   have u1' := decide_eq_true u1
   by_cases u2 : x.s.e = x.r
   rotate_left
   ·have u2' := decide_eq_false u2
    simp only [hi, hE, hP, hA, hO, hp, hk, hf, h00, g1, r0', v1, v2', v3', v3'', g2, g3, g4, g5, g6', hpa, c1, c2.1, c2.2, decide_eq_true g7, g8', u1', u2', List.length_map, j42, b42, q42, ww, simprocAttr]
   have u2' := decide_eq_true u2
   cases g9 : kOK t self c.k x.ks <;> simp only [hi, hE, hP, hA, hO, hp, hk, hf, h00, g1, r0', v1, v2', v3', v3'', g2, g3, g4, g5, g6', hpa, c1, c2.1, c2.2, decide_eq_true g7, g8', u1', u2', g9, List.length_map, j42, b42, q42, ww, simprocAttr]
end Go.Proofs.YtdflglehippoiaaGreatDoor.GA
namespace Go.Proofs.YtdflglehippoiaaGreatDoor.EC
open Go Go.Proofs.YtdflglehippoiaaGreatDoorR IG EA
set_option maxRecDepth 100000
set_option maxHeartbeats 4000000
def inB (n lo hi : Int) : Bool := decide (lo ≤ n) && decide (n ≤ hi)
theorem e60 (N d : Nat) (n lo hi : Int) : TT N (d + 1) 60 [iV n, iV lo, iV hi] = some (bV (inB n lo hi), []) := by
 rw [t60, F_ev rfl, inB]
 cases h1 : decide (lo ≤ n) <;> cases h2 : decide (n ≤ hi) <;> simp only [h1, h2, j60, b60, q60, ww, simprocAttr]
theorem okC_b (c : Cf) : okC c = (inB c.n 1 8 && (inB c.t 1 4 && (inB c.k 1 4 && (inB c.d 1 8 && (inB c.p 1 16 && (inB c.w 1 16 && inB c.q 2 32)))))) := by
 simp only [okC, inB, ← Bool.decide_and]
theorem e40 (N d : Nat) (c : Cf) : TT N (d + 2) 40 [.agg (eC c)] = some (bV (okC c), []) := by
 have h16 := fun d n lo hi => e60 N d n lo hi
 rw [t40, F_ev rfl, okC_b]
 cases h1 : inB c.n 1 8
 ·simp only [h16, h1, j40, b40, q40, ww, simprocAttr]
 cases h2 : inB c.t 1 4
 ·simp only [h16, h1, h2, j40, b40, q40, ww, simprocAttr]
 cases h3 : inB c.k 1 4
 ·simp only [h16, h1, h2, h3, j40, b40, q40, ww, simprocAttr]
 cases h4 : inB c.d 1 8
 ·simp only [h16, h1, h2, h3, h4, j40, b40, q40, ww, simprocAttr]
 cases h5 : inB c.p 1 16
 ·simp only [h16, h1, h2, h3, h4, h5, j40, b40, q40, ww, simprocAttr]
 cases h6 : inB c.w 1 16
 ·simp only [h16, h1, h2, h3, h4, h5, h6, j40, b40, q40, ww, simprocAttr]
 cases h7 : inB c.q 2 32
 ·simp only [h16, h1, h2, h3, h4, h5, h6, h7, j40, b40, q40, ww, simprocAttr]
 simp only [h16, h1, h2, h3, h4, h5, h6, h7, j40, b40, q40, ww, simprocAttr]
end Go.Proofs.YtdflglehippoiaaGreatDoor.EC
namespace Go.Proofs.YtdflglehippoiaaGreatDoor.GA
open Go Go.Proofs.YtdflglehippoiaaGreatDoorR IG
open QA (Ev eE aE rE epOK evOK qOK putE n01)
open AA (It eT aT rT wi takeT allT ahOK)
open EC (Cf eC okC)
open FA (Sm eS aS s0 smL flowC rightB heavyB heavy_t itemP itemG fA gA flow_t flow_of right_t q_t kpOK kRow umodF)
open KA (Kd eK aK rK nr okT okN kOK inB gap takeK all3)
set_option maxRecDepth 100000
set_option maxHeartbeats 4000000
theorem grD {c : Cf} {t self : Int} {x : Tp} (hp : i64B x.p) : decide (grC c t self x = 0) = (okC c && ((inB t 0 (c.t - 1) && inB self 0 (c.n - 1)) && tpA c t self x)) := by
 unfold grC
 cases h : okC c with
 | false => rfl
 | true =>
  rw [tpA_eq h hp]
  have h1 : inB t 0 (c.t - 1) = (decide (0 ≤ t) && decide (t < c.t)) := by unfold inB; congr 1; rw [decide_eq_decide]; omega
  have h2 : inB self 0 (c.n - 1) = (decide (0 ≤ self) && decide (self < c.n)) := by unfold inB; congr 1; rw [decide_eq_decide]; omega
  rw [h1, h2]
  cases decide (0 ≤ t) <;> cases decide (t < c.t) <;> cases decide (0 ≤ self) <;> cases decide (self < c.n) <;> cases rgtB c t self x <;> rfl
abbrev wf8 (n : Int) : Prop := (Lit.int .i64 n).wf = true
theorem wf8_b {n : Int} (h : wf8 n) : i64B n := by
 simp only [wf8, Lit.wf] at h
 simp [IntKind.min, IntKind.max, IntKind.signed, IntKind.bits] at h
 omega
end Go.Proofs.YtdflglehippoiaaGreatDoor.GA
namespace Go.Proofs.YtdflglehippoiaaGreatDoor.MA
open Go Go.Proofs.YtdflglehippoiaaGreatDoorR IG
set_option maxRecDepth 100000
set_option maxHeartbeats 4000000
theorem e78n (N d : Nat) (k f fi t ti tp e s l v nd ic c h : Int) (m : Mg) : TT (N + 3000) (d + 2) 78 [.agg [.int .i64 k, .int .i64 f, .int .i64 fi, .int .i64 t, .int .i64 ti, .int .i64 tp, .int .i64 e, .int .i64 s, .int .i64 l, .int .i64 v, .int .i64 nd, .int .i64 ic, .int .i64 c, .int .i64 h, .row [], .row []], aM m] = some (bV (decide ((⟨k, f, fi, t, ti, tp, e, s, l, v, nd, ic, c, h, [], []⟩ : Mg) = m)), []) := e78 N d ⟨k, f, fi, t, ti, tp, e, s, l, v, nd, ic, c, h, [], []⟩ m (by simp) (by simp)
theorem e78p (N d : Nat) (k f fi t ti tp e s l v nd ic c h : Int) (pa : List Int) (m : Mg) (ha : pa.length < 1000) : TT (N + 3000) (d + 2) 78 [.agg [.int .i64 k, .int .i64 f, .int .i64 fi, .int .i64 t, .int .i64 ti, .int .i64 tp, .int .i64 e, .int .i64 s, .int .i64 l, .int .i64 v, .int .i64 nd, .int .i64 ic, .int .i64 c, .int .i64 h, rI pa, .row []], aM m] = some (bV (decide ((⟨k, f, fi, t, ti, tp, e, s, l, v, nd, ic, c, h, pa, []⟩ : Mg) = m)), []) := e78 N d ⟨k, f, fi, t, ti, tp, e, s, l, v, nd, ic, c, h, pa, []⟩ m ha (by simp)
theorem e78t (N d : Nat) (k f fi t ti tp e s l v nd ic c h : Int) (pa td : List Int) (m : Mg) (ha : pa.length < 1000) (hb : td.length < 1000) : TT (N + 3000) (d + 2) 78 [.agg [.int .i64 k, .int .i64 f, .int .i64 fi, .int .i64 t, .int .i64 ti, .int .i64 tp, .int .i64 e, .int .i64 s, .int .i64 l, .int .i64 v, .int .i64 nd, .int .i64 ic, .int .i64 c, .int .i64 h, rI pa, rI td], aM m] = some (bV (decide ((⟨k, f, fi, t, ti, tp, e, s, l, v, nd, ic, c, h, pa, td⟩ : Mg) = m)), []) := e78 N d ⟨k, f, fi, t, ti, tp, e, s, l, v, nd, ic, c, h, pa, td⟩ m ha hb
theorem e75x (N d : Nat) (a b : List Int) (h : a.length + b.length < N) (h' : a.length + b.length < 1000000) : TT N (d + 1) 75 [.one (.row (a.map eI ++ b.map eI))] = some (bV (uq (a ++ b)), []) := by
 have e : V.row (a.map eI ++ b.map eI) = rI (a ++ b) := by show _ = V.row ((a ++ b).map eI); rw [List.map_append]
 rw [e]
 exact e75 N d (a ++ b) (by simpa using h) (by simpa using h')
theorem uqF_app : ∀ (a b pre : List Int), uqF pre (a ++ b) = (uqF pre a && uqF (pre ++ a) b)
 | [], b, pre => by simp [uqF]
 | x :: a, b, pre => by
  simp only [List.cons_append, uqF, uqF_app a b (pre ++ [x]), List.append_assoc, List.nil_append, Bool.and_assoc]
theorem uqF_mono : ∀ (b pre pre' : List Int), (∀ x, x ∈ pre' → x ∈ pre) → uqF pre b = true → uqF pre' b = true
 | [], _, _, _, _ => rfl
 | y :: b, pre, pre', h, hu => by
  simp only [uqF, Bool.and_eq_true, Bool.not_eq_true', List.contains_eq_mem, decide_eq_false_iff_not] at hu ⊢
  refine ⟨fun hy => hu.1 (h y hy), uqF_mono b (pre ++ [y]) (pre' ++ [y]) (fun x hx => ?_) hu.2⟩
  rcases List.mem_append.1 hx with h' | h'
  ·exact List.mem_append_left _ (h x h')
  ·exact List.mem_append_right _ h'
theorem uq_app (a b : List Int) (h : uq (a ++ b) = true) : uq a = true ∧ uq b = true := by
 unfold uq at *
 rw [uqF_app, Bool.and_eq_true] at h
 exact ⟨h.1, uqF_mono b _ _ (fun x hx => by cases hx) h.2⟩
theorem dz {x : Int} : decide ((0 : Int) = x) = decide (x = 0) := by congr 1; exact propext eq_comm
theorem dn1 {l : List Int} : decide (l = []) = l.isEmpty := by cases l <;> simp
theorem dn2 {l : List Int} : decide ([] = l) = l.isEmpty := by cases l <;> simp

theorem e32_1 (N d : Nat) (m : Mg) (ha : m.pa.length < 1000) (hb : m.td.length < 1000) (hk : m.k = 1) : TT (N + 3000) (d + 6) 32 [aM m] = some (bV (msgOK m), []) := by
 have k1 : decide (m.k = 1) = true := by rw [hk]; decide
 have k2 : decide (m.k = 2) = false := by rw [hk]; decide
 have k3 : decide (m.k = 3) = false := by rw [hk]; decide
 have k4 : decide (m.k = 4) = false := by rw [hk]; decide
 have k5 : decide (m.k = 5) = false := by rw [hk]; decide
 have k6 : decide (m.k = 6) = false := by rw [hk]; decide
 have k7 : decide (m.k = 7) = false := by rw [hk]; decide
 have k8 : decide (m.k = 8) = false := by rw [hk]; decide
 have k9 : decide (m.k = 9) = false := by rw [hk]; decide
 have k10 : decide (m.k = 10) = false := by rw [hk]; decide
 have k11 : decide (m.k = 11) = false := by rw [hk]; decide
 have k12 : decide (m.k = 12) = false := by rw [hk]; decide
 have k13 : decide (m.k = 13) = false := by rw [hk]; decide
 have kr : inB m.k 1 13 = true := by rw [hk]; decide
 rw [t32, F_ev rfl]
 simp only [k1, k2, k3, k4, k5, k6, k7, k8, k9, k10, k11, k12, k13, kr, e60, e26, e72, e73, e76, e78n, List.length_map, j32, b32, q32, ww, simprocAttr]
 repeat' (refine fin_cases (fun h1 => ?_) (fun h1 => ?_) <;> simp only [h1, k1, k2, k3, k4, k5, k6, k7, k8, k9, k10, k11, k12, k13, kr, e60, e26, e72, e73, e76, e78n, List.length_map, j32, b32, q32, ww, simprocAttr])
 all_goals (try simp only [eq_m])
 all_goals (simp_all [msgOK, okM, knownB, endsB, bareB, restM, whoseB, wayB, plM, dz, dn1, dn2])
 all_goals (try (first | (intros; exact uq_app _ _ (by assumption)) | omega | grind))
theorem e32_2 (N d : Nat) (m : Mg) (ha : m.pa.length < 1000) (hb : m.td.length < 1000) (hk : m.k = 2) : TT (N + 3000) (d + 6) 32 [aM m] = some (bV (msgOK m), []) := by
 have k1 : decide (m.k = 1) = false := by rw [hk]; decide
 have k2 : decide (m.k = 2) = true := by rw [hk]; decide
 have k3 : decide (m.k = 3) = false := by rw [hk]; decide
 have k4 : decide (m.k = 4) = false := by rw [hk]; decide
 have k5 : decide (m.k = 5) = false := by rw [hk]; decide
 have k6 : decide (m.k = 6) = false := by rw [hk]; decide
 have k7 : decide (m.k = 7) = false := by rw [hk]; decide
 have k8 : decide (m.k = 8) = false := by rw [hk]; decide
 have k9 : decide (m.k = 9) = false := by rw [hk]; decide
 have k10 : decide (m.k = 10) = false := by rw [hk]; decide
 have k11 : decide (m.k = 11) = false := by rw [hk]; decide
 have k12 : decide (m.k = 12) = false := by rw [hk]; decide
 have k13 : decide (m.k = 13) = false := by rw [hk]; decide
 have kr : inB m.k 1 13 = true := by rw [hk]; decide
 rw [t32, F_ev rfl]
 simp only [k1, k2, k3, k4, k5, k6, k7, k8, k9, k10, k11, k12, k13, kr, e60, e26, e72, e73, e76, e78n, List.length_map, j32, b32, q32, ww, simprocAttr]
 repeat' (refine fin_cases (fun h1 => ?_) (fun h1 => ?_) <;> simp only [h1, k1, k2, k3, k4, k5, k6, k7, k8, k9, k10, k11, k12, k13, kr, e60, e26, e72, e73, e76, e78n, List.length_map, j32, b32, q32, ww, simprocAttr])
 all_goals (try simp only [eq_m])
 all_goals (simp_all [msgOK, okM, knownB, endsB, bareB, restM, whoseB, wayB, plM, dz, dn1, dn2])
 all_goals (try (first | (intros; exact uq_app _ _ (by assumption)) | omega | grind))
theorem e32_4 (N d : Nat) (m : Mg) (ha : m.pa.length < 1000) (hb : m.td.length < 1000) (hk : m.k = 4) : TT (N + 3000) (d + 6) 32 [aM m] = some (bV (msgOK m), []) := by
 have k1 : decide (m.k = 1) = false := by rw [hk]; decide
 have k2 : decide (m.k = 2) = false := by rw [hk]; decide
 have k3 : decide (m.k = 3) = false := by rw [hk]; decide
 have k4 : decide (m.k = 4) = true := by rw [hk]; decide
 have k5 : decide (m.k = 5) = false := by rw [hk]; decide
 have k6 : decide (m.k = 6) = false := by rw [hk]; decide
 have k7 : decide (m.k = 7) = false := by rw [hk]; decide
 have k8 : decide (m.k = 8) = false := by rw [hk]; decide
 have k9 : decide (m.k = 9) = false := by rw [hk]; decide
 have k10 : decide (m.k = 10) = false := by rw [hk]; decide
 have k11 : decide (m.k = 11) = false := by rw [hk]; decide
 have k12 : decide (m.k = 12) = false := by rw [hk]; decide
 have k13 : decide (m.k = 13) = false := by rw [hk]; decide
 have kr : inB m.k 1 13 = true := by rw [hk]; decide
 rw [t32, F_ev rfl]
 simp only [k1, k2, k3, k4, k5, k6, k7, k8, k9, k10, k11, k12, k13, kr, e60, e26, e72, e73, e76, e78n, List.length_map, j32, b32, q32, ww, simprocAttr]
 repeat' (refine fin_cases (fun h1 => ?_) (fun h1 => ?_) <;> simp only [h1, k1, k2, k3, k4, k5, k6, k7, k8, k9, k10, k11, k12, k13, kr, e60, e26, e72, e73, e76, e78n, List.length_map, j32, b32, q32, ww, simprocAttr])
 all_goals (try simp only [eq_m])
 all_goals (simp_all [msgOK, okM, knownB, endsB, bareB, restM, whoseB, wayB, plM, dz, dn1, dn2])
 all_goals (try (first | (intros; exact uq_app _ _ (by assumption)) | omega | grind))
theorem e32_5 (N d : Nat) (m : Mg) (ha : m.pa.length < 1000) (hb : m.td.length < 1000) (hk : m.k = 5) : TT (N + 3000) (d + 6) 32 [aM m] = some (bV (msgOK m), []) := by
 have k1 : decide (m.k = 1) = false := by rw [hk]; decide
 have k2 : decide (m.k = 2) = false := by rw [hk]; decide
 have k3 : decide (m.k = 3) = false := by rw [hk]; decide
 have k4 : decide (m.k = 4) = false := by rw [hk]; decide
 have k5 : decide (m.k = 5) = true := by rw [hk]; decide
 have k6 : decide (m.k = 6) = false := by rw [hk]; decide
 have k7 : decide (m.k = 7) = false := by rw [hk]; decide
 have k8 : decide (m.k = 8) = false := by rw [hk]; decide
 have k9 : decide (m.k = 9) = false := by rw [hk]; decide
 have k10 : decide (m.k = 10) = false := by rw [hk]; decide
 have k11 : decide (m.k = 11) = false := by rw [hk]; decide
 have k12 : decide (m.k = 12) = false := by rw [hk]; decide
 have k13 : decide (m.k = 13) = false := by rw [hk]; decide
 have kr : inB m.k 1 13 = true := by rw [hk]; decide
 rw [t32, F_ev rfl]
 simp only [k1, k2, k3, k4, k5, k6, k7, k8, k9, k10, k11, k12, k13, kr, e60, e26, e72, e73, e76, e78n, List.length_map, j32, b32, q32, ww, simprocAttr]
 repeat' (refine fin_cases (fun h1 => ?_) (fun h1 => ?_) <;> simp only [h1, k1, k2, k3, k4, k5, k6, k7, k8, k9, k10, k11, k12, k13, kr, e60, e26, e72, e73, e76, e78n, List.length_map, j32, b32, q32, ww, simprocAttr])
 all_goals (try simp only [eq_m])
 all_goals (simp_all [msgOK, okM, knownB, endsB, bareB, restM, whoseB, wayB, plM, dz, dn1, dn2])
 all_goals (try (first | (intros; exact uq_app _ _ (by assumption)) | omega | grind))
theorem e32_6 (N d : Nat) (m : Mg) (ha : m.pa.length < 1000) (hb : m.td.length < 1000) (hk : m.k = 6) : TT (N + 3000) (d + 6) 32 [aM m] = some (bV (msgOK m), []) := by
 have k1 : decide (m.k = 1) = false := by rw [hk]; decide
 have k2 : decide (m.k = 2) = false := by rw [hk]; decide
 have k3 : decide (m.k = 3) = false := by rw [hk]; decide
 have k4 : decide (m.k = 4) = false := by rw [hk]; decide
 have k5 : decide (m.k = 5) = false := by rw [hk]; decide
 have k6 : decide (m.k = 6) = true := by rw [hk]; decide
 have k7 : decide (m.k = 7) = false := by rw [hk]; decide
 have k8 : decide (m.k = 8) = false := by rw [hk]; decide
 have k9 : decide (m.k = 9) = false := by rw [hk]; decide
 have k10 : decide (m.k = 10) = false := by rw [hk]; decide
 have k11 : decide (m.k = 11) = false := by rw [hk]; decide
 have k12 : decide (m.k = 12) = false := by rw [hk]; decide
 have k13 : decide (m.k = 13) = false := by rw [hk]; decide
 have kr : inB m.k 1 13 = true := by rw [hk]; decide
 rw [t32, F_ev rfl]
 simp only [k1, k2, k3, k4, k5, k6, k7, k8, k9, k10, k11, k12, k13, kr, e60, e26, e72, e73, e76, e78n, List.length_map, j32, b32, q32, ww, simprocAttr]
 repeat' (refine fin_cases (fun h1 => ?_) (fun h1 => ?_) <;> simp only [h1, k1, k2, k3, k4, k5, k6, k7, k8, k9, k10, k11, k12, k13, kr, e60, e26, e72, e73, e76, e78n, List.length_map, j32, b32, q32, ww, simprocAttr])
 all_goals (try simp only [eq_m])
 all_goals (simp_all [msgOK, okM, knownB, endsB, bareB, restM, whoseB, wayB, plM, dz, dn1, dn2])
 all_goals (try (first | (intros; exact uq_app _ _ (by assumption)) | omega | grind))
theorem e32_7 (N d : Nat) (m : Mg) (ha : m.pa.length < 1000) (hb : m.td.length < 1000) (hk : m.k = 7) : TT (N + 3000) (d + 6) 32 [aM m] = some (bV (msgOK m), []) := by
 have k1 : decide (m.k = 1) = false := by rw [hk]; decide
 have k2 : decide (m.k = 2) = false := by rw [hk]; decide
 have k3 : decide (m.k = 3) = false := by rw [hk]; decide
 have k4 : decide (m.k = 4) = false := by rw [hk]; decide
 have k5 : decide (m.k = 5) = false := by rw [hk]; decide
 have k6 : decide (m.k = 6) = false := by rw [hk]; decide
 have k7 : decide (m.k = 7) = true := by rw [hk]; decide
 have k8 : decide (m.k = 8) = false := by rw [hk]; decide
 have k9 : decide (m.k = 9) = false := by rw [hk]; decide
 have k10 : decide (m.k = 10) = false := by rw [hk]; decide
 have k11 : decide (m.k = 11) = false := by rw [hk]; decide
 have k12 : decide (m.k = 12) = false := by rw [hk]; decide
 have k13 : decide (m.k = 13) = false := by rw [hk]; decide
 have kr : inB m.k 1 13 = true := by rw [hk]; decide
 rw [t32, F_ev rfl]
 simp only [k1, k2, k3, k4, k5, k6, k7, k8, k9, k10, k11, k12, k13, kr, e60, e26, e72, e73, e76, e78n, List.length_map, j32, b32, q32, ww, simprocAttr]
 repeat' (refine fin_cases (fun h1 => ?_) (fun h1 => ?_) <;> simp only [h1, k1, k2, k3, k4, k5, k6, k7, k8, k9, k10, k11, k12, k13, kr, e60, e26, e72, e73, e76, e78n, List.length_map, j32, b32, q32, ww, simprocAttr])
 all_goals (try simp only [eq_m])
 all_goals (simp_all [msgOK, okM, knownB, endsB, bareB, restM, whoseB, wayB, plM, dz, dn1, dn2])
 all_goals (try (first | (intros; exact uq_app _ _ (by assumption)) | omega | grind))
theorem e32_8 (N d : Nat) (m : Mg) (ha : m.pa.length < 1000) (hb : m.td.length < 1000) (hk : m.k = 8) : TT (N + 3000) (d + 6) 32 [aM m] = some (bV (msgOK m), []) := by
 have k1 : decide (m.k = 1) = false := by rw [hk]; decide
 have k2 : decide (m.k = 2) = false := by rw [hk]; decide
 have k3 : decide (m.k = 3) = false := by rw [hk]; decide
 have k4 : decide (m.k = 4) = false := by rw [hk]; decide
 have k5 : decide (m.k = 5) = false := by rw [hk]; decide
 have k6 : decide (m.k = 6) = false := by rw [hk]; decide
 have k7 : decide (m.k = 7) = false := by rw [hk]; decide
 have k8 : decide (m.k = 8) = true := by rw [hk]; decide
 have k9 : decide (m.k = 9) = false := by rw [hk]; decide
 have k10 : decide (m.k = 10) = false := by rw [hk]; decide
 have k11 : decide (m.k = 11) = false := by rw [hk]; decide
 have k12 : decide (m.k = 12) = false := by rw [hk]; decide
 have k13 : decide (m.k = 13) = false := by rw [hk]; decide
 have kr : inB m.k 1 13 = true := by rw [hk]; decide
 rw [t32, F_ev rfl]
 simp only [k1, k2, k3, k4, k5, k6, k7, k8, k9, k10, k11, k12, k13, kr, e60, e26, e72, e73, e76, e78n, List.length_map, j32, b32, q32, ww, simprocAttr]
 repeat' (refine fin_cases (fun h1 => ?_) (fun h1 => ?_) <;> simp only [h1, k1, k2, k3, k4, k5, k6, k7, k8, k9, k10, k11, k12, k13, kr, e60, e26, e72, e73, e76, e78n, List.length_map, j32, b32, q32, ww, simprocAttr])
 all_goals (try simp only [eq_m])
 all_goals (simp_all [msgOK, okM, knownB, endsB, bareB, restM, whoseB, wayB, plM, dz, dn1, dn2])
 all_goals (try (first | (intros; exact uq_app _ _ (by assumption)) | omega | grind))
theorem e32_9 (N d : Nat) (m : Mg) (ha : m.pa.length < 1000) (hb : m.td.length < 1000) (hk : m.k = 9) : TT (N + 3000) (d + 6) 32 [aM m] = some (bV (msgOK m), []) := by
 have k1 : decide (m.k = 1) = false := by rw [hk]; decide
 have k2 : decide (m.k = 2) = false := by rw [hk]; decide
 have k3 : decide (m.k = 3) = false := by rw [hk]; decide
 have k4 : decide (m.k = 4) = false := by rw [hk]; decide
 have k5 : decide (m.k = 5) = false := by rw [hk]; decide
 have k6 : decide (m.k = 6) = false := by rw [hk]; decide
 have k7 : decide (m.k = 7) = false := by rw [hk]; decide
 have k8 : decide (m.k = 8) = false := by rw [hk]; decide
 have k9 : decide (m.k = 9) = true := by rw [hk]; decide
 have k10 : decide (m.k = 10) = false := by rw [hk]; decide
 have k11 : decide (m.k = 11) = false := by rw [hk]; decide
 have k12 : decide (m.k = 12) = false := by rw [hk]; decide
 have k13 : decide (m.k = 13) = false := by rw [hk]; decide
 have kr : inB m.k 1 13 = true := by rw [hk]; decide
 rw [t32, F_ev rfl]
 simp only [k1, k2, k3, k4, k5, k6, k7, k8, k9, k10, k11, k12, k13, kr, e60, e26, e72, e73, e76, e78n, List.length_map, j32, b32, q32, ww, simprocAttr]
 repeat' (refine fin_cases (fun h1 => ?_) (fun h1 => ?_) <;> simp only [h1, k1, k2, k3, k4, k5, k6, k7, k8, k9, k10, k11, k12, k13, kr, e60, e26, e72, e73, e76, e78n, List.length_map, j32, b32, q32, ww, simprocAttr])
 all_goals (try simp only [eq_m])
 all_goals (simp_all [msgOK, okM, knownB, endsB, bareB, restM, whoseB, wayB, plM, dz, dn1, dn2])
 all_goals (try (first | (intros; exact uq_app _ _ (by assumption)) | omega | grind))
theorem e32_10 (N d : Nat) (m : Mg) (ha : m.pa.length < 1000) (hb : m.td.length < 1000) (hk : m.k = 10) : TT (N + 3000) (d + 6) 32 [aM m] = some (bV (msgOK m), []) := by
 have k1 : decide (m.k = 1) = false := by rw [hk]; decide
 have k2 : decide (m.k = 2) = false := by rw [hk]; decide
 have k3 : decide (m.k = 3) = false := by rw [hk]; decide
 have k4 : decide (m.k = 4) = false := by rw [hk]; decide
 have k5 : decide (m.k = 5) = false := by rw [hk]; decide
 have k6 : decide (m.k = 6) = false := by rw [hk]; decide
 have k7 : decide (m.k = 7) = false := by rw [hk]; decide
 have k8 : decide (m.k = 8) = false := by rw [hk]; decide
 have k9 : decide (m.k = 9) = false := by rw [hk]; decide
 have k10 : decide (m.k = 10) = true := by rw [hk]; decide
 have k11 : decide (m.k = 11) = false := by rw [hk]; decide
 have k12 : decide (m.k = 12) = false := by rw [hk]; decide
 have k13 : decide (m.k = 13) = false := by rw [hk]; decide
 have kr : inB m.k 1 13 = true := by rw [hk]; decide
 rw [t32, F_ev rfl]
 simp only [k1, k2, k3, k4, k5, k6, k7, k8, k9, k10, k11, k12, k13, kr, e60, e26, e72, e73, e76, e78n, List.length_map, j32, b32, q32, ww, simprocAttr]
 repeat' (refine fin_cases (fun h1 => ?_) (fun h1 => ?_) <;> simp only [h1, k1, k2, k3, k4, k5, k6, k7, k8, k9, k10, k11, k12, k13, kr, e60, e26, e72, e73, e76, e78n, List.length_map, j32, b32, q32, ww, simprocAttr])
 all_goals (try simp only [eq_m])
 all_goals (simp_all [msgOK, okM, knownB, endsB, bareB, restM, whoseB, wayB, plM, dz, dn1, dn2])
 all_goals (try (first | (intros; exact uq_app _ _ (by assumption)) | omega | grind))
theorem e32_11 (N d : Nat) (m : Mg) (ha : m.pa.length < 1000) (hb : m.td.length < 1000) (hk : m.k = 11) : TT (N + 3000) (d + 6) 32 [aM m] = some (bV (msgOK m), []) := by
 have k1 : decide (m.k = 1) = false := by rw [hk]; decide
 have k2 : decide (m.k = 2) = false := by rw [hk]; decide
 have k3 : decide (m.k = 3) = false := by rw [hk]; decide
 have k4 : decide (m.k = 4) = false := by rw [hk]; decide
 have k5 : decide (m.k = 5) = false := by rw [hk]; decide
 have k6 : decide (m.k = 6) = false := by rw [hk]; decide
 have k7 : decide (m.k = 7) = false := by rw [hk]; decide
 have k8 : decide (m.k = 8) = false := by rw [hk]; decide
 have k9 : decide (m.k = 9) = false := by rw [hk]; decide
 have k10 : decide (m.k = 10) = false := by rw [hk]; decide
 have k11 : decide (m.k = 11) = true := by rw [hk]; decide
 have k12 : decide (m.k = 12) = false := by rw [hk]; decide
 have k13 : decide (m.k = 13) = false := by rw [hk]; decide
 have kr : inB m.k 1 13 = true := by rw [hk]; decide
 have h58a := fun d => e74 (N + 3000) d m.pa (by omega) (by omega)
 have h58b := fun d => e74 (N + 3000) d m.td (by omega) (by omega)
 have h32 := fun d => e75x (N + 3000) d m.pa m.td (by omega) (by omega)
 have h32a := fun d => e75 (N + 3000) d m.pa (by omega) (by omega)
 have h26 := fun d => e77 (N + 3000) d m.pa (by omega)
 have h30p := fun d k f fi t ti tp e s l v nd ic c h => e78p N d k f fi t ti tp e s l v nd ic c h m.pa m ha
 have h30t := fun d k f fi t ti tp e s l v nd ic c h => e78t N d k f fi t ti tp e s l v nd ic c h m.pa m.td m ha hb
 have hb8 : m.pa.length * 8 ≤ 140737488355328 := by omega
 have hb9 : (m.pa.length + m.td.length) * 8 ≤ 140737488355328 := by omega
 rw [t32, F_ev rfl]
 simp only [k1, k2, k3, k4, k5, k6, k7, k8, k9, k10, k11, k12, k13, kr, e60, e26, e72, e73, e76, e78n, h58a, h58b, h32, h32a, h26, h30p, h30t, hb8, hb9, all1, takeI, takeA, selfI, List.length_map, j32, b32, q32, ww, simprocAttr]
 repeat' (refine fin_cases (fun h1 => ?_) (fun h1 => ?_) <;> simp only [h1, k1, k2, k3, k4, k5, k6, k7, k8, k9, k10, k11, k12, k13, kr, e60, e26, e72, e73, e76, e78n, h58a, h58b, h32, h32a, h26, h30p, h30t, hb8, hb9, all1, takeI, takeA, selfI, List.length_map, j32, b32, q32, ww, simprocAttr])
 all_goals (clear h58a h58b h32 h32a h26 h30p h30t; try simp only [eq_m])
 all_goals (simp_all [msgOK, okM, knownB, endsB, bareB, restM, whoseB, wayB, plM, dz, dn1, dn2])
 all_goals (try (first | (intros; exact uq_app _ _ (by assumption)) | omega | grind))
theorem e32_12 (N d : Nat) (m : Mg) (ha : m.pa.length < 1000) (hb : m.td.length < 1000) (hk : m.k = 12) : TT (N + 3000) (d + 6) 32 [aM m] = some (bV (msgOK m), []) := by
 have k1 : decide (m.k = 1) = false := by rw [hk]; decide
 have k2 : decide (m.k = 2) = false := by rw [hk]; decide
 have k3 : decide (m.k = 3) = false := by rw [hk]; decide
 have k4 : decide (m.k = 4) = false := by rw [hk]; decide
 have k5 : decide (m.k = 5) = false := by rw [hk]; decide
 have k6 : decide (m.k = 6) = false := by rw [hk]; decide
 have k7 : decide (m.k = 7) = false := by rw [hk]; decide
 have k8 : decide (m.k = 8) = false := by rw [hk]; decide
 have k9 : decide (m.k = 9) = false := by rw [hk]; decide
 have k10 : decide (m.k = 10) = false := by rw [hk]; decide
 have k11 : decide (m.k = 11) = false := by rw [hk]; decide
 have k12 : decide (m.k = 12) = true := by rw [hk]; decide
 have k13 : decide (m.k = 13) = false := by rw [hk]; decide
 have kr : inB m.k 1 13 = true := by rw [hk]; decide
 rw [t32, F_ev rfl]
 simp only [k1, k2, k3, k4, k5, k6, k7, k8, k9, k10, k11, k12, k13, kr, e60, e26, e72, e73, e76, e78n, List.length_map, j32, b32, q32, ww, simprocAttr]
 repeat' (refine fin_cases (fun h1 => ?_) (fun h1 => ?_) <;> simp only [h1, k1, k2, k3, k4, k5, k6, k7, k8, k9, k10, k11, k12, k13, kr, e60, e26, e72, e73, e76, e78n, List.length_map, j32, b32, q32, ww, simprocAttr])
 all_goals (try simp only [eq_m])
 all_goals (simp_all [msgOK, okM, knownB, endsB, bareB, restM, whoseB, wayB, plM, dz, dn1, dn2])
 all_goals (try (first | (intros; exact uq_app _ _ (by assumption)) | omega | grind))
theorem e32_13 (N d : Nat) (m : Mg) (ha : m.pa.length < 1000) (hb : m.td.length < 1000) (hk : m.k = 13) : TT (N + 3000) (d + 6) 32 [aM m] = some (bV (msgOK m), []) := by
 have k1 : decide (m.k = 1) = false := by rw [hk]; decide
 have k2 : decide (m.k = 2) = false := by rw [hk]; decide
 have k3 : decide (m.k = 3) = false := by rw [hk]; decide
 have k4 : decide (m.k = 4) = false := by rw [hk]; decide
 have k5 : decide (m.k = 5) = false := by rw [hk]; decide
 have k6 : decide (m.k = 6) = false := by rw [hk]; decide
 have k7 : decide (m.k = 7) = false := by rw [hk]; decide
 have k8 : decide (m.k = 8) = false := by rw [hk]; decide
 have k9 : decide (m.k = 9) = false := by rw [hk]; decide
 have k10 : decide (m.k = 10) = false := by rw [hk]; decide
 have k11 : decide (m.k = 11) = false := by rw [hk]; decide
 have k12 : decide (m.k = 12) = false := by rw [hk]; decide
 have k13 : decide (m.k = 13) = true := by rw [hk]; decide
 have kr : inB m.k 1 13 = true := by rw [hk]; decide
 rw [t32, F_ev rfl]
 simp only [k1, k2, k3, k4, k5, k6, k7, k8, k9, k10, k11, k12, k13, kr, e60, e26, e72, e73, e76, e78n, List.length_map, j32, b32, q32, ww, simprocAttr]
 repeat' (refine fin_cases (fun h1 => ?_) (fun h1 => ?_) <;> simp only [h1, k1, k2, k3, k4, k5, k6, k7, k8, k9, k10, k11, k12, k13, kr, e60, e26, e72, e73, e76, e78n, List.length_map, j32, b32, q32, ww, simprocAttr])
 all_goals (try simp only [eq_m])
 all_goals (simp_all [msgOK, okM, knownB, endsB, bareB, restM, whoseB, wayB, plM, dz, dn1, dn2])
 all_goals (try (first | (intros; exact uq_app _ _ (by assumption)) | omega | grind))
end Go.Proofs.YtdflglehippoiaaGreatDoor.MA
namespace Go.Proofs.YtdflglehippoiaaGreatDoor.MA
open Go Go.Proofs.YtdflglehippoiaaGreatDoorR IG
set_option maxRecDepth 100000
set_option maxHeartbeats 4000000
theorem e32_3 (N d : Nat) (m : Mg) (ha : m.pa.length < 1000) (hb : m.td.length < 1000) (hk : m.k = 3) : TT (N + 3000) (d + 6) 32 [aM m] = some (bV (msgOK m), []) := by
 have h58a := fun d => e74 (N + 3000) d m.pa (by omega) (by omega)
 have h58b := fun d => e74 (N + 3000) d m.td (by omega) (by omega)
 have h32 := fun d => e75x (N + 3000) d m.pa m.td (by omega) (by omega)
 have h32a := fun d => e75 (N + 3000) d m.pa (by omega) (by omega)
 have h26 := fun d => e77 (N + 3000) d m.pa (by omega)
 have h30p := fun d k f fi t ti tp e s l v nd ic c h => e78p N d k f fi t ti tp e s l v nd ic c h m.pa m ha
 have h30t := fun d k f fi t ti tp e s l v nd ic c h => e78t N d k f fi t ti tp e s l v nd ic c h m.pa m.td m ha hb
 have hb8 : m.pa.length * 8 ≤ 140737488355328 := by omega
 have hb9 : (m.pa.length + m.td.length) * 8 ≤ 140737488355328 := by omega
 have k1 : decide (m.k = 1) = false := by rw [hk]; decide
 have k2 : decide (m.k = 2) = false := by rw [hk]; decide
 have k3 : decide (m.k = 3) = true := by rw [hk]; decide
 have k4 : decide (m.k = 4) = false := by rw [hk]; decide
 have k5 : decide (m.k = 5) = false := by rw [hk]; decide
 have k6 : decide (m.k = 6) = false := by rw [hk]; decide
 have k7 : decide (m.k = 7) = false := by rw [hk]; decide
 have k8 : decide (m.k = 8) = false := by rw [hk]; decide
 have k9 : decide (m.k = 9) = false := by rw [hk]; decide
 have k10 : decide (m.k = 10) = false := by rw [hk]; decide
 have k11 : decide (m.k = 11) = false := by rw [hk]; decide
 have k12 : decide (m.k = 12) = false := by rw [hk]; decide
 have k13 : decide (m.k = 13) = false := by rw [hk]; decide
 have kr : inB m.k 1 13 = true := by rw [hk]; decide
 rw [t32, F_ev rfl]
 cases hp : m.pa.isEmpty with
 | true =>
  simp only [hp, k1, k2, k3, k4, k5, k6, k7, k8, k9, k10, k11, k12, k13, kr, e60, e26, e72, e73, e76, e78n, h58a, h58b, h32, h32a, h26, h30p, h30t, hb8, hb9, all1, takeI, takeA, selfI, lenpos, List.length_map, j32, b32, q32, ww, simprocAttr]
  repeat' (refine fin_cases (fun h1 => ?_) (fun h1 => ?_) <;> simp only [h1, hp, k1, k2, k3, k4, k5, k6, k7, k8, k9, k10, k11, k12, k13, kr, e60, e26, e72, e73, e76, e78n, h58a, h58b, h32, h32a, h26, h30p, h30t, hb8, hb9, all1, takeI, takeA, selfI, lenpos, List.length_map, j32, b32, q32, ww, simprocAttr])
  all_goals (clear h58a h58b h32 h32a h26 h30p h30t; try simp only [eq_m])
  all_goals (simp_all [msgOK, okM, knownB, endsB, bareB, restM, whoseB, wayB, plM, dz, dn1, dn2])
  all_goals (try (first | omega | grind))
 | false =>
  have hg : (m.pa.map eI)[0]? = some (eI (m.pa.headD 0)) := by cases h : m.pa with
   | nil => rw [h] at hp; cases hp
   | cons a r => rfl
  have hpos : (0 : Int) < (m.pa.length : Int) := by cases h : m.pa with
   | nil => rw [h] at hp; cases hp
   | cons a r => simp
  simp only [hp, hg, hpos, k1, k2, k3, k4, k5, k6, k7, k8, k9, k10, k11, k12, k13, kr, e60, e26, e72, e73, e76, e78n, h58a, h58b, h32, h32a, h26, h30p, h30t, hb8, hb9, all1, takeI, takeA, selfI, lenpos, List.length_map, j32, b32, q32, ww, simprocAttr]
  repeat' (refine fin_cases (fun h1 => ?_) (fun h1 => ?_) <;> simp only [h1, hp, hg, hpos, k1, k2, k3, k4, k5, k6, k7, k8, k9, k10, k11, k12, k13, kr, e60, e26, e72, e73, e76, e78n, h58a, h58b, h32, h32a, h26, h30p, h30t, hb8, hb9, all1, takeI, takeA, selfI, lenpos, List.length_map, j32, b32, q32, ww, simprocAttr])
  all_goals (clear h58a h58b h32 h32a h26 h30p h30t; try simp only [eq_m])
  all_goals (simp_all [msgOK, okM, knownB, endsB, bareB, restM, whoseB, wayB, plM, dz, dn1, dn2])
  all_goals (try (first | omega | grind))
theorem e32 (N d : Nat) (m : Mg) (ha : m.pa.length < 1000) (hb : m.td.length < 1000) : TT (N + 3000) (d + 6) 32 [aM m] = some (bV (msgOK m), []) := by
 by_cases h1 : m.k = 1
 ·exact e32_1 N d m ha hb h1
 by_cases h2 : m.k = 2
 ·exact e32_2 N d m ha hb h2
 by_cases h3 : m.k = 3
 ·exact e32_3 N d m ha hb h3
 by_cases h4 : m.k = 4
 ·exact e32_4 N d m ha hb h4
 by_cases h5 : m.k = 5
 ·exact e32_5 N d m ha hb h5
 by_cases h6 : m.k = 6
 ·exact e32_6 N d m ha hb h6
 by_cases h7 : m.k = 7
 ·exact e32_7 N d m ha hb h7
 by_cases h8 : m.k = 8
 ·exact e32_8 N d m ha hb h8
 by_cases h9 : m.k = 9
 ·exact e32_9 N d m ha hb h9
 by_cases h10 : m.k = 10
 ·exact e32_10 N d m ha hb h10
 by_cases h11 : m.k = 11
 ·exact e32_11 N d m ha hb h11
 by_cases h12 : m.k = 12
 ·exact e32_12 N d m ha hb h12
 by_cases h13 : m.k = 13
 ·exact e32_13 N d m ha hb h13
 have kr : inB m.k 1 13 = false := by simp [inB]; omega
 rw [t32, F_ev rfl]
 simp only [kr, e60, j32, b32, q32, ww, simprocAttr]
 simp_all [msgOK, okM]
end Go.Proofs.YtdflglehippoiaaGreatDoor.MA
namespace Go.Proofs.YtdflglehippoiaaGreatDoor.MA
open Go Go.Proofs.YtdflglehippoiaaGreatDoorR IG
set_option maxRecDepth 100000
set_option maxHeartbeats 4000000
def heavyB (m : Mg) : Bool := decide ((30 : Int) < (m.pa.length : Int)) || decide ((30 : Int) < (m.td.length : Int))
theorem e36 (N d : Nat) (m : Mg) : TT N (d + 1) 36 [aM m] = some (bV (heavyB m), []) := by
 rw [t36, F_ev rfl]
 simp only [List.length_map, j36, b36, q36, ww, simprocAttr]
 repeat' (refine fin_cases (fun h1 => ?_) (fun h1 => ?_) <;> simp only [h1, List.length_map, j36, b36, q36, ww, simprocAttr])
 all_goals (first | (simp_all [heavyB]; done) | (simp_all [heavyB]; omega))
end Go.Proofs.YtdflglehippoiaaGreatDoor.MA
namespace Go.Proofs.YtdflglehippoiaaGreatDoor.GA
open Go Go.Proofs.YtdflglehippoiaaGreatDoorR IG
open QA (Ev eE aE rE epOK evOK qOK putE n01)
open AA (It eT aT rT wi takeT allT ahOK)
open EC (Cf eC okC)
open FA (Sm eS aS s0 smL flowC rightB heavyB heavy_t flow_t flow_of right_t q_t kpOK kRow umodF toldS toldP)
open KA (Kd eK aK rK nr okT okN kOK inB gap takeK all3 askP askT askR askS askQ hasN drp)
open MA (Mg eM aM msgOK)
set_option maxRecDepth 100000
set_option maxHeartbeats 8000000
theorem w19 : TT 4000 19 29 [] = some (bV true, []) := by kernel_rfl
theorem e45m (N d : Nat) (l : List Mg) (h : ∀ m ∈ l, m.pa.length < 1000 ∧ m.td.length < 1000) (hl : l.length < 1000) : TT (N + 3000) (d + 3) 45 [.one (rM l), .one (rM l)] = some (bV true, []) := by
 have h0 : decide ((l.length : Int) = (l.length : Int)) = true := by simp
 rw [t45, F_ev rfl]
 simp only [h0, List.length_map, j45, b45, q45, ww, simprocAttr]
 refine loopK (K := fun o => fin _ (aft _ _ _ o)) (fun i => ⟨[(0, .one (rM l)), (1, .one (rM l)), (5, iV i)], []⟩) (fun _ => some (bV true, [])) l.length ?hr l.length 0 (N + 3000) _ (by omega) (by omega) ?hk
 case hk => simp only [kk, simprocAttr]; try rfl
 case hr =>
  intro i m hi ih
  (try dsimp only)
  by_cases hlt : i < l.length
  ·have h1 : decide ((i : Int) < (l.length : Int)) = true := by simp; omega
   have hg1 : (l.map eM)[i]? = some (eM l[i]) := by simp [hlt]
   have hb : 0 ≤ (i : Int) ∧ (i : Int) < (l.length : Int) := by omega
   have hp := h l[i] (List.getElem_mem hlt)
   have hm : ∀ d, TT (N + 3000) (d + 2) 78 [aM l[i], aM l[i]] = some (bV true, []) := fun d => by rw [MA.e78 N d l[i] l[i] hp.1 hp.2]; simp
   simp only [h1, hb.1, hb.2, hg1, hm, wi i (by omega), List.length_map, j45, b45, q45, ww, simprocAttr]
   exact ih hlt _ (by simp only [kk, simprocAttr])
  ·have h1 : decide ((i : Int) < (l.length : Int)) = false := by simp; omega
   simp only [h1, List.length_map, j45, b45, q45, ww, simprocAttr]
theorem drp_len (l : List Kd) (n : Int) : (drp l n).length ≤ l.length := List.length_filter_le _ _
theorem jn_msgs {c : Cf} {t self : Int} {x : Tp} {n inc top : Int} (hx : x.pa.length < 900) : ∀ m ∈ (jnG c t self x n inc top).2, m.pa.length < 1000 ∧ m.td.length < 1000 := by
 have h1 : ∀ who to : Int, ∀ m ∈ (if who > 0 then [redM t who to] else []), m.pa.length < 1000 ∧ m.td.length < 1000 := by
  intro who to m hm
  split at hm
  ·obtain rfl := List.mem_singleton.1 hm; exact ⟨by simp [redM], by simp [redM]⟩
  ·cases hm
 intro m hm
 unfold jnG at hm
 split at hm
 ·split at hm
  ·split at hm
   ·rcases List.mem_append.1 hm with h | h
    ·exact h1 _ _ m h
    ·obtain rfl := List.mem_singleton.1 h; exact ⟨by simp [refM], by simp [refM]⟩
   ·rcases List.mem_append.1 hm with h | h
    ·exact h1 _ _ m h
    ·obtain rfl := List.mem_singleton.1 h
     exact ⟨by show (self :: x.pa).length < 1000; simp only [List.length_cons]; omega, by simp [ackM]⟩
  ·exact h1 _ _ m hm
 ·cases hm
theorem jn_mlen {c : Cf} {t self : Int} {x : Tp} {n inc top : Int} : (jnG c t self x n inc top).2.length ≤ 2 := by
 unfold jnG
 repeat' split
 all_goals simp
theorem jn_sm {c : Cf} {t self : Int} {x : Tp} {n inc top : Int} (h : smX x) (g0 : grC c t self x = 0) : smX (jnG c t self x n inc top).1 := by
 obtain ⟨q1, q2, q3, _⟩ := gr_k g0
 unfold jnG
 by_cases g3 : (nr t self n && inB inc 1 1073741824) = true
 ·rw [if_pos g3]
  have g4 := Bool.and_eq_true_iff.1 g3
  have hl := askR_len q1 g4.1 g4.2
  generalize askR t c.k x.ks n inc = A at *
  have hd := drp_len A.1 n
  split
  ·split
   ·exact ⟨h.1, by show (drp A.1 n).length < 900; omega, h.2.2⟩
   ·exact ⟨h.1, by show A.1.length < 900; omega, h.2.2⟩
  ·exact ⟨h.1, by show A.1.length < 900; omega, h.2.2⟩
 ·rw [if_neg g3]
  exact h
theorem sent_sm {t self : Int} {x : Tp} {n to : Int} (h : smX x) : smX (sentG t self x n to) := by
 unfold sentG
 split
 ·exact ⟨by simp, h.2⟩
 ·exact h
theorem lost_sm {x : Tp} (h : smX x) : smX (lostX x) := ⟨by simp [lostX], h.2⟩
theorem ack_sm {c : Cf} {t self : Int} {x : Tp} {n : Int} {m : Mg} (h : smX x) (hm : m.pa.length < 900) : smX (ackG c t self x n m) := by
 unfold ackG
 split
 ·refine ⟨hm, h.2.1, ?_, h.2.2.2⟩
  show smL (if _ then _ else _)
  split
  ·unfold toldS
   split
   ·simp
   ·split
    ·exact h.2.2.1
    ·exact h.2.2.1
  ·exact h.2.2.1
 ·exact h
theorem heavyM {m : Mg} (h : MA.heavyB m = false) : m.pa.length ≤ 30 ∧ m.td.length ≤ 30 := by
 unfold MA.heavyB at h
 simp only [Bool.or_eq_false_iff, decide_eq_false_iff_not] at h
 omega
theorem z00 : decide ((0 : Int) = 0) = true := rfl
theorem z11 : decide ((1 : Int) = 1) = true := rfl
theorem zzY (d : Nat) : TT 4000 (d + 3) 19 [aX x0, aX x0] = some (bV true, []) := e19r 4000 d (by omega) x0 (by simp [smX, smL])
end Go.Proofs.YtdflglehippoiaaGreatDoor.GA
set_option maxRecDepth 100000
namespace Go.Proofs.YtdflglehippoiaaGreatDoor.L9
open Go Go.Proofs.YtdflglehippoiaaGreatDoorR
def j10_31 : C := (.seq (.seq (.region [nO 253 (.mov (.t 4)),
  nO 254 (.call false 26 [(.t 253)]),
  nO 255 (.un .not (.t 254)),
  nO 256 (.mov (.t 255)),
  gO 257 (.mov (.t 6)) 256 false,
  gO 258 (.call false 26 [(.t 257)]) 256 false,
  gO 259 (.un .not (.t 258)) 256 false,
  nO 260 (.pick (.t 256) (.c (.bool true)) (.t 259))] false)
 (.cond (.t 260) (.seq (.region [nO 261 (.mov (.t 24)),
  nO 262 (.bin .eql (.t 261) (.c (.int .i64 1))),
  nO 263 (.mov (.t 262)),
  gO 264 (.load true 16 (.t 23)) 263 true,
  gO 265 (.load true 16 (.t 28)) 263 true,
  gO 266 (.call false 19 [(.t 264), (.t 265)]) 263 true,
  nO 267 (.pick (.t 263) (.t 266) (.c (.bool false))),
  nO 268 (.mov (.t 267)),
  gO 269 (.call false 29 []) 268 true,
  nO 270 (.pick (.t 268) (.t 269) (.c (.bool false))),
  nO 16 (.mov (.t 270))] false)
 .ret) .skip))
 (.seq (.region [nO 271 (.mov (.t 24)),
  ⟨some 272, .bin .eql (.t 271) (.c (.int .i64 0)), none, [], [0]⟩,
  ⟨some 273, .mov (.t 272), none, [], [0, 1]⟩,
  ⟨some 274, .load true 16 (.t 23), some (273, true), [275, 276, 277, 278, 279, 280], [0, 1, 2]⟩,
  ⟨some 275, .mov (.t 1), some (273, true), [274, 276, 277, 278, 279], [0, 1, 2]⟩,
  ⟨some 276, .mov (.t 2), some (273, true), [274, 275, 277, 278, 279], [0, 1, 2]⟩,
  ⟨some 277, .load true 16 (.t 11), some (273, true), [274, 275, 276, 278, 279], [0, 1, 2]⟩,
  ⟨some 278, .mov (.t 4), some (273, true), [274, 275, 276, 277, 279], [0, 1, 2]⟩,
  ⟨some 279, .mov (.t 6), some (273, true), [274, 275, 276, 277, 278], [0, 1, 2]⟩,
  ⟨some 280, .call false 47 [(.t 275), (.t 276), (.t 277), (.t 278), (.t 279)], some (273, true), [274], [0, 1, 2, 4, 5, 6, 7, 8]⟩,
  ⟨some 281, .call false 19 [(.t 274), (.t 280)], some (273, true), [], [0, 1, 2, 3, 4, 5, 6, 7, 8, 9]⟩,
  ⟨some 282, .pick (.t 273) (.t 281) (.c (.bool false)), none, [], [0, 1, 2, 3, 4, 5, 6, 7, 8, 9, 10]⟩,
  ⟨some 283, .mov (.t 282), none, [], [0, 1, 2, 3, 4, 5, 6, 7, 8, 9, 10, 11]⟩,
  ⟨some 284, .call false 29 [], some (283, true), [], [0, 1, 2, 3, 4, 5, 6, 7, 8, 9, 10, 11, 12]⟩,
  ⟨some 285, .pick (.t 283) (.t 284) (.c (.bool false)), none, [], [0, 1, 2, 3, 4, 5, 6, 7, 8, 9, 10, 11, 12, 13]⟩,
  ⟨some 16, .mov (.t 285), none, [], [0, 1, 2, 3, 4, 5, 6, 7, 8, 9, 10, 11, 12, 13, 14]⟩] true)
 .ret))
def j10_26 : C := (.seq (.seq (.region [nO 212 (.load true 16 (.t 15)),
  nO 213 (.call false 32 [(.t 212)]),
  nO 214 (.un .not (.t 213)),
  nO 215 (.mov (.t 214)),
  gO 216 (.fad 0 (.t 15)) 215 false,
  gO 217 (.load false 1 (.t 216)) 215 false,
  gO 218 (.bin .neq (.t 217) (.c (.int .i64 3))) 215 false,
  nO 219 (.pick (.t 215) (.c (.bool true)) (.t 218)),
  nO 220 (.mov (.t 219)),
  gO 221 (.fad 5 (.t 15)) 220 false,
  gO 222 (.load false 1 (.t 221)) 220 false,
  gO 223 (.mov (.t 1)) 220 false,
  gO 224 (.bin .neq (.t 222) (.t 223)) 220 false,
  nO 225 (.pick (.t 220) (.c (.bool true)) (.t 224)),
  nO 226 (.mov (.t 225)),
  gO 227 (.fad 1 (.t 15)) 226 false,
  gO 228 (.load false 1 (.t 227)) 226 false,
  gO 229 (.mov (.t 4)) 226 false,
  gO 230 (.bin .neq (.t 228) (.t 229)) 226 false,
  nO 231 (.pick (.t 226) (.c (.bool true)) (.t 230))] false)
 (.cond (.t 231) (.seq (.region [nO 232 (.mov (.t 22)),
  nO 233 (.bin .neq (.t 232) (.c (.int .i64 1))),
  nO 234 (.mov (.t 233)),
  gO 235 (.load true 16 (.t 21)) 234 false,
  gO 236 (.load true 16 (.t 28)) 234 false,
  gO 237 (.call false 19 [(.t 235), (.t 236)]) 234 false,
  gO 238 (.un .not (.t 237)) 234 false,
  nO 239 (.pick (.t 234) (.c (.bool true)) (.t 238))] false)
 (.cond (.t 239) (.seq (.region [nO 16 (.mov (.c (.bool false)))] false)
 .ret) .skip)) (.seq (.region [nO 240 (.mov (.t 22)),
  ⟨some 241, .bin .neq (.t 240) (.c (.int .i64 0)), none, [], [0]⟩,
  ⟨some 242, .mov (.t 241), none, [], [0, 1]⟩,
  ⟨some 243, .load true 16 (.t 21), some (242, false), [244, 245, 246, 247, 248, 249], [0, 1, 2]⟩,
  ⟨some 244, .load true 7 (.t 8), some (242, false), [243, 245, 246, 247, 248], [0, 1, 2]⟩,
  ⟨some 245, .mov (.t 1), some (242, false), [243, 244, 246, 247, 248], [0, 1, 2]⟩,
  ⟨some 246, .mov (.t 2), some (242, false), [243, 244, 245, 247, 248], [0, 1, 2]⟩,
  ⟨some 247, .load true 16 (.t 11), some (242, false), [243, 244, 245, 246, 248], [0, 1, 2]⟩,
  ⟨some 248, .load true 16 (.t 15), some (242, false), [243, 244, 245, 246, 247], [0, 1, 2]⟩,
  ⟨some 249, .call false 46 [(.t 244), (.t 245), (.t 246), (.t 247), (.t 248)], some (242, false), [243], [0, 1, 2, 4, 5, 6, 7, 8]⟩,
  ⟨some 250, .call false 19 [(.t 243), (.t 249)], some (242, false), [], [0, 1, 2, 3, 4, 5, 6, 7, 8, 9]⟩,
  ⟨some 251, .un .not (.t 250), some (242, false), [], [0, 1, 2, 3, 4, 5, 6, 7, 8, 9, 10]⟩,
  ⟨some 252, .pick (.t 242) (.c (.bool true)) (.t 251), none, [], [0, 1, 2, 3, 4, 5, 6, 7, 8, 9, 10, 11]⟩] true)
 (.cond (.t 252) (.seq (.region [nO 16 (.mov (.c (.bool false)))] false)
 .ret) .skip))))
 (.keep [1, 2, 4, 6, 11, 23, 24, 28] j10_31))
def j10_20 : C := (.seq (.seq (.region [nO 168 (.mov (.t 6)),
  nO 169 (.bin .lss (.t 168) (.c (.int .i64 0))),
  nO 170 (.mov (.t 169)),
  gO 171 (.mov (.t 6)) 170 false,
  gO 172 (.bin .gtr (.t 171) (.c (.int .i64 1073741824))) 170 false,
  nO 173 (.pick (.t 170) (.c (.bool true)) (.t 172))] false)
 (.cond (.t 173) (.seq (.region [nO 174 (.mov (.t 20)),
  nO 175 (.bin .neq (.t 174) (.c (.int .i64 1))),
  nO 176 (.mov (.t 175)),
  gO 177 (.mov (.t 19)) 176 false,
  gO 178 (.len (.t 177)) 176 false,
  gO 179 (.bin .gtr (.t 178) (.c (.int .i64 0))) 176 false,
  nO 180 (.pick (.t 176) (.c (.bool true)) (.t 179)),
  nO 181 (.mov (.t 180)),
  gO 182 (.load true 16 (.t 18)) 181 false,
  gO 183 (.load true 16 (.t 28)) 181 false,
  gO 184 (.call false 19 [(.t 182), (.t 183)]) 181 false,
  gO 185 (.un .not (.t 184)) 181 false,
  nO 186 (.pick (.t 181) (.c (.bool true)) (.t 185))] false)
 (.cond (.t 186) (.seq (.region [nO 16 (.mov (.c (.bool false)))] false)
 .ret) .skip)) (.seq (.region [nO 188 (.load true 7 (.t 8)),
  nO 189 (.mov (.t 1)),
  nO 190 (.mov (.t 2)),
  nO 191 (.load true 16 (.t 11)),
  nO 192 (.mov (.t 4)),
  nO 193 (.mov (.t 5)),
  nO 194 (.mov (.t 6)),
  nO 195 (.call false 44 [(.t 188), (.t 189), (.t 190), (.t 191), (.t 192), (.t 193), (.t 194)]),
  nO 187 (.mov (.t 195)),
  nO 196 (.ext (.t 187) 0),
  nO 197 (.ext (.t 187) 1),
  nO 29 (.alloc [.bool false, .bool false, .int .i64 0, .int .i64 0, .int .i64 0, .int .i64 0, .int .i64 0, .int .i64 0, .row [], .row [], .int .i64 0, .int .i64 0, .int .i64 0, .row [], .row [], .row []]),
  ⟨none, .store none 16 (.t 29) (.t 196), none, [], []⟩,
  nO 30 (.mov (.t 197))] false)
 (.seq (.region [nO 198 (.mov (.t 20)),
  nO 199 (.bin .neq (.t 198) (.c (.int .i64 0))),
  nO 200 (.mov (.t 199)),
  gO 201 (.load true 16 (.t 18)) 200 false,
  gO 202 (.load true 16 (.t 29)) 200 false,
  gO 203 (.call false 19 [(.t 201), (.t 202)]) 200 false,
  gO 204 (.un .not (.t 203)) 200 false,
  nO 205 (.pick (.t 200) (.c (.bool true)) (.t 204)),
  nO 206 (.mov (.t 205)),
  gO 207 (.mov (.t 19)) 206 false,
  gO 208 (.mov (.t 30)) 206 false,
  gO 209 (.call false 45 [(.t 207), (.t 208)]) 206 false,
  gO 210 (.un .not (.t 209)) 206 false,
  nO 211 (.pick (.t 206) (.c (.bool true)) (.t 210))] false)
 (.cond (.t 211) (.seq (.region [nO 16 (.mov (.c (.bool false)))] false)
 .ret) .skip)))))
 (.keep [1, 2, 4, 6, 8, 11, 15, 21, 22, 23, 24, 28] j10_26))
def j10_14 : C := (.seq (.seq (.region [nO 98 (.load true 7 (.t 8)),
  nO 99 (.mov (.t 1)),
  nO 100 (.mov (.t 2)),
  nO 101 (.load true 16 (.t 17)),
  nO 102 (.call false 18 [(.t 98), (.t 99), (.t 100), (.t 101)]),
  nO 103 (.mov (.t 27)),
  nO 104 (.bin .neq (.t 102) (.t 103)),
  nO 105 (.mov (.t 104)),
  gO 106 (.load true 16 (.t 17)) 105 false,
  gO 107 (.load true 16 (.t 11)) 105 false,
  gO 108 (.call false 19 [(.t 106), (.t 107)]) 105 false,
  gO 109 (.un .not (.t 108)) 105 false,
  nO 110 (.pick (.t 105) (.c (.bool true)) (.t 109))] false)
 (.cond (.t 110) (.seq (.region [nO 16 (.mov (.c (.bool false)))] false)
 .ret) .skip))
 (.seq (.seq (.region [nO 111 (.mov (.t 27)),
  nO 112 (.bin .neq (.t 111) (.c (.int .i64 0)))] false)
 (.cond (.t 112) (.seq (.region [nO 113 (.mov (.t 20)),
  nO 114 (.mov (.t 27)),
  nO 115 (.bin .eql (.t 113) (.t 114)),
  nO 116 (.mov (.t 115)),
  gO 117 (.mov (.t 22)) 116 true,
  gO 118 (.mov (.t 27)) 116 true,
  gO 119 (.bin .eql (.t 117) (.t 118)) 116 true,
  nO 120 (.pick (.t 116) (.t 119) (.c (.bool false))),
  nO 121 (.mov (.t 120)),
  gO 122 (.mov (.t 24)) 121 true,
  gO 123 (.mov (.t 27)) 121 true,
  gO 124 (.bin .eql (.t 122) (.t 123)) 121 true,
  nO 125 (.pick (.t 121) (.t 124) (.c (.bool false))),
  nO 126 (.mov (.t 125)),
  gO 127 (.mov (.t 26)) 126 true,
  gO 128 (.mov (.t 27)) 126 true,
  gO 129 (.bin .eql (.t 127) (.t 128)) 126 true,
  nO 130 (.pick (.t 126) (.t 129) (.c (.bool false))),
  nO 131 (.mov (.t 130)),
  gO 132 (.mov (.t 19)) 131 true,
  gO 133 (.len (.t 132)) 131 true,
  gO 134 (.bin .eql (.t 133) (.c (.int .i64 0))) 131 true,
  nO 135 (.pick (.t 131) (.t 134) (.c (.bool false))),
  nO 136 (.mov (.t 135)),
  gO 137 (.load true 16 (.t 18)) 136 true,
  gO 138 (.load true 16 (.t 28)) 136 true,
  gO 139 (.call false 19 [(.t 137), (.t 138)]) 136 true,
  nO 140 (.pick (.t 136) (.t 139) (.c (.bool false))),
  nO 141 (.mov (.t 140)),
  gO 142 (.load true 16 (.t 21)) 141 true,
  gO 143 (.load true 16 (.t 28)) 141 true,
  gO 144 (.call false 19 [(.t 142), (.t 143)]) 141 true,
  nO 145 (.pick (.t 141) (.t 144) (.c (.bool false))),
  nO 146 (.mov (.t 145)),
  gO 147 (.load true 16 (.t 23)) 146 true,
  gO 148 (.load true 16 (.t 28)) 146 true,
  gO 149 (.call false 19 [(.t 147), (.t 148)]) 146 true,
  nO 150 (.pick (.t 146) (.t 149) (.c (.bool false))),
  nO 151 (.mov (.t 150)),
  gO 152 (.load true 16 (.t 25)) 151 true,
  gO 153 (.load true 16 (.t 28)) 151 true,
  gO 154 (.call false 19 [(.t 152), (.t 153)]) 151 true,
  nO 155 (.pick (.t 151) (.t 154) (.c (.bool false))),
  nO 156 (.mov (.t 155)),
  gO 157 (.call false 29 []) 156 true,
  nO 158 (.pick (.t 156) (.t 157) (.c (.bool false))),
  nO 16 (.mov (.t 158))] false)
 .ret) .skip))
 (.seq (.seq (.region [nO 159 (.mov (.t 26)),
  ⟨some 160, .bin .neq (.t 159) (.c (.int .i64 0)), none, [], [0]⟩,
  ⟨some 161, .mov (.t 160), none, [], [0, 1]⟩,
  ⟨some 162, .load true 16 (.t 25), some (161, false), [163, 164], [0, 1, 2]⟩,
  ⟨some 163, .load true 16 (.t 11), some (161, false), [162], [0, 1, 2]⟩,
  ⟨some 164, .call false 43 [(.t 163)], some (161, false), [162], [0, 1, 2, 4]⟩,
  ⟨some 165, .call false 19 [(.t 162), (.t 164)], some (161, false), [], [0, 1, 2, 3, 4, 5]⟩,
  ⟨some 166, .un .not (.t 165), some (161, false), [], [0, 1, 2, 3, 4, 5, 6]⟩,
  ⟨some 167, .pick (.t 161) (.c (.bool true)) (.t 166), none, [], [0, 1, 2, 3, 4, 5, 6, 7]⟩] true)
 (.cond (.t 167) (.seq (.region [nO 16 (.mov (.c (.bool false)))] false)
 .ret) .skip))
 (.keep [1, 2, 4, 5, 6, 8, 11, 15, 18, 19, 20, 21, 22, 23, 24, 28] j10_20))))
def j10 : C := (.seq (.region [nO 8 (.box (.t 0)),
  nO 11 (.box (.t 3)),
  nO 15 (.box (.t 7)),
  nO 16 (.mov (.c (.bool false)))] false)
 (.seq (.seq (.region [nO 31 (.load true 16 (.t 11)),
  nO 32 (.call false 13 [(.t 31)]),
  nO 33 (.mov (.t 32)),
  gO 34 (.load true 16 (.t 15)) 33 false,
  gO 35 (.call false 36 [(.t 34)]) 33 false,
  nO 36 (.pick (.t 33) (.c (.bool true)) (.t 35))] false)
 (.cond (.t 36) (.seq (.region [nO 16 (.mov (.c (.bool true)))] false)
 .ret) .skip))
 (.seq (.region [nO 37 (.load true 16 (.t 11)),
  nO 38 (.call false 37 [(.t 37)]),
  nO 17 (.alloc [.bool false, .bool false, .int .i64 0, .int .i64 0, .int .i64 0, .int .i64 0, .int .i64 0, .int .i64 0, .row [], .row [], .int .i64 0, .int .i64 0, .int .i64 0, .row [], .row [], .row []]),
  ⟨none, .store none 16 (.t 17) (.t 38), none, [], []⟩] false)
 (.seq (.region [nO 40 (.load true 7 (.t 8)),
  nO 41 (.mov (.t 1)),
  nO 42 (.mov (.t 2)),
  nO 43 (.load true 16 (.t 17)),
  nO 44 (.mov (.t 4)),
  nO 45 (.mov (.t 5)),
  nO 46 (.mov (.t 6)),
  nO 47 (.call false 27 [(.t 40), (.t 41), (.t 42), (.t 43), (.t 44), (.t 45), (.t 46)]),
  nO 39 (.mov (.t 47)),
  nO 48 (.ext (.t 39) 0),
  nO 49 (.ext (.t 39) 1),
  nO 50 (.ext (.t 39) 2),
  nO 18 (.alloc [.bool false, .bool false, .int .i64 0, .int .i64 0, .int .i64 0, .int .i64 0, .int .i64 0, .int .i64 0, .row [], .row [], .int .i64 0, .int .i64 0, .int .i64 0, .row [], .row [], .row []]),
  ⟨none, .store none 16 (.t 18) (.t 48), none, [], []⟩,
  nO 19 (.mov (.t 49)),
  nO 20 (.mov (.t 50))] false)
 (.seq (.region [nO 52 (.load true 7 (.t 8)),
  nO 53 (.mov (.t 1)),
  nO 54 (.mov (.t 2)),
  nO 55 (.load true 16 (.t 17)),
  nO 56 (.mov (.t 4)),
  nO 57 (.load true 16 (.t 15)),
  nO 58 (.call false 33 [(.t 52), (.t 53), (.t 54), (.t 55), (.t 56), (.t 57)]),
  nO 51 (.mov (.t 58)),
  nO 59 (.ext (.t 51) 0),
  nO 60 (.ext (.t 51) 1),
  nO 21 (.alloc [.bool false, .bool false, .int .i64 0, .int .i64 0, .int .i64 0, .int .i64 0, .int .i64 0, .int .i64 0, .row [], .row [], .int .i64 0, .int .i64 0, .int .i64 0, .row [], .row [], .row []]),
  ⟨none, .store none 16 (.t 21) (.t 59), none, [], []⟩,
  nO 22 (.mov (.t 60))] false)
 (.seq (.region [nO 62 (.load true 7 (.t 8)),
  nO 63 (.mov (.t 1)),
  nO 64 (.mov (.t 2)),
  nO 65 (.load true 16 (.t 17)),
  nO 66 (.mov (.t 4)),
  nO 67 (.mov (.t 6)),
  nO 68 (.call false 38 [(.t 62), (.t 63), (.t 64), (.t 65), (.t 66), (.t 67)]),
  nO 61 (.mov (.t 68)),
  nO 69 (.ext (.t 61) 0),
  nO 70 (.ext (.t 61) 1),
  nO 23 (.alloc [.bool false, .bool false, .int .i64 0, .int .i64 0, .int .i64 0, .int .i64 0, .int .i64 0, .int .i64 0, .row [], .row [], .int .i64 0, .int .i64 0, .int .i64 0, .row [], .row [], .row []]),
  ⟨none, .store none 16 (.t 23) (.t 69), none, [], []⟩,
  nO 24 (.mov (.t 70))] false)
 (.seq (.region [nO 72 (.load true 7 (.t 8)),
  nO 73 (.mov (.t 1)),
  nO 74 (.mov (.t 2)),
  nO 75 (.load true 16 (.t 17)),
  nO 76 (.call false 39 [(.t 72), (.t 73), (.t 74), (.t 75)]),
  nO 71 (.mov (.t 76)),
  nO 77 (.ext (.t 71) 0),
  nO 78 (.ext (.t 71) 1),
  nO 25 (.alloc [.bool false, .bool false, .int .i64 0, .int .i64 0, .int .i64 0, .int .i64 0, .int .i64 0, .int .i64 0, .row [], .row [], .int .i64 0, .int .i64 0, .int .i64 0, .row [], .row [], .row []]),
  ⟨none, .store none 16 (.t 25) (.t 77), none, [], []⟩,
  nO 26 (.mov (.t 78))] false)
 (.seq (.region [nO 27 (.mov (.c (.int .i64 0)))] false)
 (.seq (.block 0 (.seq (.region [nO 80 (.load true 7 (.t 8)),
  nO 81 (.call false 40 [(.t 80)]),
  nO 82 (.un .not (.t 81)),
  nO 79 (.mov (.t 82))] false)
 (.cond (.t 79) (.region [nO 27 (.mov (.c (.int .i64 13)))] false) (.seq (.region [nO 84 (.load true 7 (.t 8)),
  nO 85 (.mov (.t 1)),
  nO 86 (.mov (.t 2)),
  nO 87 (.call false 41 [(.t 84), (.t 85), (.t 86)]),
  nO 88 (.un .not (.t 87)),
  nO 89 (.mov (.t 88)),
  gO 90 (.load true 7 (.t 8)) 89 false,
  gO 91 (.mov (.t 1)) 89 false,
  gO 92 (.mov (.t 2)) 89 false,
  gO 93 (.load true 16 (.t 11)) 89 false,
  gO 94 (.call false 42 [(.t 90), (.t 91), (.t 92), (.t 93)]) 89 false,
  gO 95 (.un .not (.t 94)) 89 false,
  nO 96 (.pick (.t 89) (.c (.bool true)) (.t 95)),
  nO 83 (.mov (.t 96))] false)
 (.cond (.t 83) (.region [nO 27 (.mov (.c (.int .i64 1)))] false) .skip)))))
 (.seq (.region [nO 97 (.build [.bool false, .bool false, .int .i64 0, .int .i64 0, .int .i64 0, .int .i64 0, .int .i64 0, .int .i64 0, .row [], .row [], .int .i64 0, .int .i64 0, .int .i64 0, .row [], .row [], .row []] []),
  nO 28 (.alloc [.bool false, .bool false, .int .i64 0, .int .i64 0, .int .i64 0, .int .i64 0, .int .i64 0, .int .i64 0, .row [], .row [], .int .i64 0, .int .i64 0, .int .i64 0, .row [], .row [], .row []]),
  ⟨none, .store none 16 (.t 28) (.t 97), none, [], []⟩] false)
 (.keep [1, 2, 4, 5, 6, 8, 11, 15, 17, 18, 19, 20, 21, 22, 23, 24, 25, 26, 27, 28] j10_14)))))))))))
def i10 : F := ⟨8, 286, j10, [.t 16]⟩
theorem b10 : i10.body = j10 := rfl
theorem q10 : i10.res = [.t 16] := rfl
theorem c10 : chkF Tryz.prog Tryz.f10 i10 = true := by kernel_rfl
theorem s10 {m : Model} {E : Nat → Model} (hE : ∀ f, Sound Tryz.prog f (E f)) (hm : ∀ args r, m args = some r → ∃ N, i10.ev E N args = some r) : Sound Tryz.prog 10 m := sound_of i10 Tryz.func10 rfl c10 hE hm
def xt : List (Nat × Model) := []
def tb : List (Nat × F) := [(10, i10)]
theorem xt_ok : ∀ p ∈ xt, Sound Tryz.prog p.1 p.2 := all_nil
theorem tb_ok (N : Nat) : ∀ p ∈ tb, ∀ E : Nat → Model, (∀ f, Sound Tryz.prog f (E f)) → Sound Tryz.prog p.1 (p.2.ev E N) := all_cons (fun E hE => s10 hE fun _ _ h => ⟨N, h⟩) (all_nil)
abbrev TT (N : Nat) : Nat → Nat → Model := T1 (IG.TT N) 10 i10 N
theorem TT_ok (N d f : Nat) : Sound Tryz.prog f (TT N d f) := T1_ok (IG.TT_ok N) (fun E hE => s10 hE fun _ _ h => ⟨N, h⟩) d f
theorem t10 (N d : Nat) : TT N (d + 1) 10 = i10.ev (IG.TT N d) N := rfl
end Go.Proofs.YtdflglehippoiaaGreatDoor.L9
namespace Go.Proofs.YtdflglehippoiaaGreatDoor.GA
open Go Go.Proofs.YtdflglehippoiaaGreatDoorR IG
open QA (Ev eE aE rE epOK evOK qOK putE n01)
open AA (It eT aT rT wi takeT allT ahOK)
open EC (Cf eC okC)
open FA (Sm eS aS s0 smL flowC rightB heavyB heavy_t flow_t flow_of right_t q_t kpOK kRow umodF toldS toldP)
open KA (Kd eK aK rK nr okT okN kOK inB gap takeK all3 askP askT askR askS askQ hasN drp)
open MA (Mg eM aM msgOK)
open L9 (j10 i10 b10 q10 j10_14 j10_20 j10_26 j10_31)
set_option maxRecDepth 100000
set_option maxHeartbeats 8000000
section
variable {c : Cf} {t self : Int} {x : Tp} {n inc top : Int} {m : Mg}
theorem gx31 (hx : smX x) (g0 : grC c t self x = 0) : fin i10 (go (TT 4000 19) 4000 none [.c j10_31] ⟨[(1, iV t), (2, iV self), (4, iV n), (6, iV top), (11, .one (.ref 704 0 0)), (23, .one (.ref 1472 0 0)), (24, iV (sentP c t self x n top).2), (28, .one (.ref 1792 0 0))], [(704, .box (eX x)), (1472, .box (eX (sentP c t self x n top).1)), (1792, .box (eX x0))]⟩) = some (bV true, []) := by
 have h1 := fun d n => KA.e26 4000 d n
 have h2 := fun d => e47 4000 d t self x n top hx
 have h3 := fun d => e19r 4000 d (by omega) (sentG t self x n top) (sent_sm hx)
 have hz := zzY
 have hw := w19
 unfold sentP
 rw [if_pos g0]
 cases g1 : okN n with
 | false =>
  rw [Bool.false_and, if_neg (by decide)]
  simp only [h1, hz, hw, g1, z11, j10_31, j10, b10, q10, ww, simprocAttr]
 | true =>
 cases g2 : okN top with
 | false =>
  rw [Bool.and_false, if_neg (by decide)]
  simp only [h1, hz, hw, g1, g2, z11, j10_31, j10, b10, q10, ww, simprocAttr]
 | true =>
  rw [if_pos (show (true && true) = true from rfl)]
  generalize sentG t self x n top = y at *
  simp only [h1, h2, h3, hw, g1, g2, z00, j10_31, j10, b10, q10, ww, simprocAttr]
theorem gx26 (hx : smX x) (ha : m.pa.length < 900) (hb : m.td.length < 1000) (g0 : grC c t self x = 0) : fin i10 (go (TT 4000 19) 4000 none [.c j10_26] ⟨[(1, iV t), (2, iV self), (4, iV n), (6, iV top), (8, .one (.ref 512 0 0)), (11, .one (.ref 704 0 0)), (15, .one (.ref 960 0 0)), (21, .one (.ref 1344 0 0)), (22, iV (ackP c t self x n m).2), (23, .one (.ref 1472 0 0)), (24, iV (sentP c t self x n top).2), (28, .one (.ref 1792 0 0))], [(512, .box (eC c)), (704, .box (eX x)), (960, .box (eM m)), (1344, .box (eX (ackP c t self x n m).1)), (1472, .box (eX (sentP c t self x n top).1)), (1792, .box (eX x0))]⟩) = some (bV true, []) := by
 have hF := gx31 (n := n) (top := top) hx g0
 generalize sentP c t self x n top = P at *
 obtain ⟨d, g⟩ := P
 dsimp only at hF ⊢
 generalize hj : j10_31 = J at *
 have h1 := fun d => MA.e32 1000 d m (by omega) hb
 have h2 := fun d => e46 4000 d (by omega) c t self x m hx (by omega) g0
 have h3 := fun d => e19r 4000 d (by omega) (ackG c t self x m.f m) (ack_sm hx ha)
 have hz := zzY
 unfold ackP
 rw [if_pos g0]
 cases g1 : msgOK m with
 | false =>
  rw [if_neg (by simp)]
  simp only [h1, hz, g1, z11, hj, j10_26, kk, simprocAttr, j10, b10, q10, ww, simprocAttr]
  exact hF
 | true =>
 by_cases g2 : m.k = 3
 rotate_left
 ·rw [if_neg (fun h => g2 h.2.1)]
  simp only [h1, hz, g1, decide_eq_false g2, z11, hj, j10_26, kk, simprocAttr, j10, b10, q10, ww, simprocAttr]
  exact hF
 by_cases g3 : m.tp = t
 rotate_left
 ·rw [if_neg (fun h => g3 h.2.2.1)]
  simp only [h1, hz, g1, decide_eq_true g2, decide_eq_false g3, z11, hj, j10_26, kk, simprocAttr, j10, b10, q10, ww, simprocAttr]
  exact hF
 by_cases g4 : m.f = n
 rotate_left
 ·rw [if_neg (fun h => g4 h.2.2.2)]
  simp only [h1, hz, g1, decide_eq_true g2, decide_eq_true g3, decide_eq_false g4, z11, hj, j10_26, kk, simprocAttr, j10, b10, q10, ww, simprocAttr]
  exact hF
 rw [if_pos ⟨rfl, g2, g3, g4⟩, ← g4]
 rw [← g4] at hF
 generalize ackG c t self x m.f m = y at *
 have g5 : decide (m.f = m.f) = true := by simp
 simp only [h1, h2, h3, g1, decide_eq_true g2, decide_eq_true g3, g5, z00, hj, j10_26, kk, simprocAttr, j10, b10, q10, ww, simprocAttr]
 exact hF
theorem gx20 (hx : smX x) (ha : m.pa.length < 900) (hb : m.td.length < 1000) (g0 : grC c t self x = 0) : fin i10 (go (TT 4000 19) 4000 none [.c j10_20] ⟨[(1, iV t), (2, iV self), (4, iV n), (5, iV inc), (6, iV top), (8, .one (.ref 512 0 0)), (11, .one (.ref 704 0 0)), (15, .one (.ref 960 0 0)), (18, .one (.ref 1152 0 0)), (19, .one (rM (jnP c t self x n inc top).1.2)), (20, iV (jnP c t self x n inc top).2), (21, .one (.ref 1344 0 0)), (22, iV (ackP c t self x n m).2), (23, .one (.ref 1472 0 0)), (24, iV (sentP c t self x n top).2), (28, .one (.ref 1792 0 0))], [(512, .box (eC c)), (704, .box (eX x)), (960, .box (eM m)), (1152, .box (eX (jnP c t self x n inc top).1.1)), (1344, .box (eX (ackP c t self x n m).1)), (1472, .box (eX (sentP c t self x n top).1)), (1792, .box (eX x0))]⟩) = some (bV true, []) := by
 have hF := gx26 (n := n) (top := top) hx ha hb g0
 generalize sentP c t self x n top = P at *
 generalize ackP c t self x n m = Q at *
 obtain ⟨d, g⟩ := P
 obtain ⟨b, f⟩ := Q
 dsimp only at hF ⊢
 generalize hj : j10_26 = J at *
 have hz := zzY
 unfold jnP
 rw [if_pos g0]
 by_cases g1 : top < 0
 ·rw [if_neg (by simp; omega)]
  simp only [hz, decide_eq_true g1, z11, hj, j10_20, kk, simprocAttr, j10, b10, q10, ww, simprocAttr]
  exact hF
 by_cases g2 : top > 1073741824
 ·rw [if_neg (by simp; omega)]
  simp only [hz, decide_eq_false g1, decide_eq_true g2, z11, hj, j10_20, kk, simprocAttr, j10, b10, q10, ww, simprocAttr]
  exact hF
 rw [if_pos (by simp; omega)]
 have h2 := fun d => e44 4000 d (by omega) c t self x n inc top hx g0
 have h3 := fun d => e19r 4000 d (by omega) (jnG c t self x n inc top).1 (jn_sm hx g0)
 have h4 := fun d => e45m 1000 d (jnG c t self x n inc top).2 (jn_msgs hx.1) (by have := jn_mlen (c := c) (t := t) (self := self) (x := x) (n := n) (inc := inc) (top := top); omega)
 generalize jnG c t self x n inc top = G at *
 obtain ⟨y, w⟩ := G
 dsimp only at *
 simp only [h2, h3, h4, decide_eq_false g1, decide_eq_false g2, z00, hj, j10_20, kk, simprocAttr, j10, b10, q10, ww, simprocAttr]
 exact hF
end
end Go.Proofs.YtdflglehippoiaaGreatDoor.GA
namespace Go.Proofs.YtdflglehippoiaaGreatDoor.GA
open Go Go.Proofs.YtdflglehippoiaaGreatDoorR IG
open QA (Ev eE aE rE epOK evOK qOK putE n01)
open AA (It eT aT rT wi takeT allT ahOK)
open EC (Cf eC okC)
open FA (Sm eS aS s0 smL flowC rightB heavyB heavy_t flow_t flow_of right_t q_t kpOK kRow umodF toldS toldP)
open KA (Kd eK aK rK nr okT okN kOK inB gap takeK all3 askP askT askR askS askQ hasN drp)
open MA (Mg eM aM msgOK)
open L9 (j10 i10 b10 q10 j10_14 j10_20 j10_26 j10_31)
set_option maxRecDepth 100000
set_option maxHeartbeats 8000000
section
variable {c : Cf} {t self : Int} {x : Tp} {n inc top : Int} {m : Mg}
theorem gx14 (hx : smX x) (ha : m.pa.length < 900) (hb : m.td.length < 1000) : fin i10 (go (TT 4000 19) 4000 none [.c j10_14] ⟨[(1, iV t), (2, iV self), (4, iV n), (5, iV inc), (6, iV top), (8, .one (.ref 512 0 0)), (11, .one (.ref 704 0 0)), (15, .one (.ref 960 0 0)), (17, .one (.ref 1088 0 0)), (18, .one (.ref 1152 0 0)), (19, .one (rM (jnP c t self x n inc top).1.2)), (20, iV (jnP c t self x n inc top).2), (21, .one (.ref 1344 0 0)), (22, iV (ackP c t self x n m).2), (23, .one (.ref 1472 0 0)), (24, iV (sentP c t self x n top).2), (25, .one (.ref 1600 0 0)), (26, iV (grC c t self x)), (27, iV (grC c t self x)), (28, .one (.ref 1792 0 0))], [(512, .box (eC c)), (704, .box (eX x)), (960, .box (eM m)), (1088, .box (eX x)), (1152, .box (eX (jnP c t self x n inc top).1.1)), (1344, .box (eX (ackP c t self x n m).1)), (1472, .box (eX (sentP c t self x n top).1)), (1600, .box (eX (if grC c t self x = 0 then lostX x else x0))), (1792, .box (eX x0))]⟩) = some (bV true, []) := by
 have hF := gx20 (c := c) (t := t) (self := self) (n := n) (inc := inc) (top := top) (m := m) hx ha hb
 have h1 := fun d => e18 4000 d (by omega) c t self x hx
 have h2 := fun d => e19r 4000 d (by omega) x hx
 have hz := zzY
 have hw := w19
 by_cases g0 : grC c t self x = 0
 ·have hF := hF g0
  generalize sentP c t self x n top = P at *
  generalize ackP c t self x n m = Q at *
  generalize jnP c t self x n inc top = R9 at *
  obtain ⟨d, g⟩ := P
  obtain ⟨b, f⟩ := Q
  obtain ⟨⟨a, out⟩, e⟩ := R9
  dsimp only at hF ⊢
  generalize hj : j10_20 = J at *
  have h3 := fun d => e43 4000 d x hx
  have h4 := fun d => e19r 4000 d (by omega) (lostX x) (lost_sm hx)
  rw [if_pos g0]
  simp only [g0] at h1 ⊢
  simp only [lostX] at h4 ⊢
  simp only [h1, h2, h3, h4, z00, hj, j10_14, kk, simprocAttr, j10, b10, q10, ww, simprocAttr]
  exact hF
 ·clear hF
  unfold jnP ackP sentP
  rw [if_neg g0, if_neg g0, if_neg g0, if_neg g0]
  have g1 : decide (grC c t self x = 0) = false := decide_eq_false g0
  have g2 : decide (grC c t self x = grC c t self x) = true := by simp
  generalize grC c t self x = w at *
  simp only [h1, h2, hz, hw, g1, g2, z00, j10_14, j10, b10, q10, ww, simprocAttr]
theorem e10 (z1 : i64B x.p) (z2 : i64B x.a) (z3 : i64B x.o) : L9.TT 4000 20 10 [.agg (eC c), iV t, iV self, aX x, iV n, iV inc, iV top, aM m] = some (bV true, []) := by
 rw [L9.t10, F_ev rfl]
 have hH := fun d => e13 4000 d x
 have hM := fun d => MA.e36 4000 d m
 cases hv : hvX x with
 | true => rw [hv] at hH; simp only [hH, j10, b10, q10, ww, simprocAttr]
 | false =>
 rw [hv] at hH
 cases hm : MA.heavyB m with
 | true => rw [hm] at hM; simp only [hH, hM, j10, b10, q10, ww, simprocAttr]
 | false =>
 rw [hm] at hM
 obtain ⟨hx, hh⟩ := hv_t hv
 have hml := heavyM hm
 have hF := gx14 (c := c) (t := t) (self := self) (x := x) (n := n) (inc := inc) (top := top) (m := m) hx (by omega) (by omega)
 generalize hj : j10_14 = J at *
 have tT := fun d => e37 4000 d x hx
 have hJ := fun d => e27 4000 d (by omega) c t self x n inc top hx
 have hA := fun d => e33 1000 d (by omega) c t self x n m hx (by omega) (by omega)
 have hS := fun d => e38 4000 d (by omega) c t self x n top hx
 have hL := fun d => e39 4000 d (by omega) c t self x hx
 have hC := fun d => EC.e40 4000 d c
 have hW := grD (c := c) (t := t) (self := self) (x := x) z1
 have hgr : grC c t self x = if okC c = true then (if ((inB t 0 (c.t - 1) && inB self 0 (c.n - 1)) && tpA c t self x) = true then 0 else 1) else 13 := by
  cases h0 : okC c with
  | false => unfold grC; rw [h0]; rfl
  | true =>
   rw [h0, Bool.true_and] at hW
   rw [if_pos rfl]
   cases h1 : ((inB t 0 (c.t - 1) && inB self 0 (c.n - 1)) && tpA c t self x) with
   | true => rw [h1] at hW; rw [if_pos rfl]; exact of_decide_eq_true hW
   | false =>
    rw [h1] at hW
    rw [if_neg (by decide)]
    have hn := of_decide_eq_false hW
    unfold grC at hn ⊢
    rw [if_pos h0] at hn ⊢
    split
    ·rename_i h2; rw [if_pos h2] at hn; exact absurd rfl hn
    ·rfl
 generalize sentP c t self x n top = P at *
 generalize ackP c t self x n m = Q at *
 generalize jnP c t self x n inc top = R9 at *
 obtain ⟨d, g⟩ := P
 obtain ⟨b, f⟩ := Q
 obtain ⟨⟨a, out⟩, e⟩ := R9
 dsimp only at hF hJ hA hS
 generalize (if grC c t self x = 0 then lostX x else x0) = l at *
 cases h0 : okC c with
 | false =>
  rw [h0] at hC hgr
  rw [if_neg (by decide)] at hgr
  simp only [hgr] at hF hL
  simp only [hH, hM, tT, hJ, hA, hS, hL, hC, hj, kk, simprocAttr, j10, b10, q10, ww, simprocAttr]
  exact hF
 | true =>
 rw [h0] at hC hgr
 rw [if_pos rfl] at hgr
 have hP := fun d => e41 4000 d c t self h0
 cases h1 : (inB t 0 (c.t - 1) && inB self 0 (c.n - 1)) with
 | false =>
  simp only [h1] at hP
  rw [h1, Bool.false_and, if_neg (by decide)] at hgr
  simp only [hgr] at hF hL
  simp only [hH, hM, tT, hJ, hA, hS, hL, hC, hP, hj, kk, simprocAttr, j10, b10, q10, ww, simprocAttr]
  exact hF
 | true =>
 simp only [h1] at hP
 rw [h1, Bool.true_and] at hgr
 have h4 := Bool.and_eq_true_iff.1 h1
 have k0 := FA.okC_t h0
 have k1 := KA.inB_t h4.1
 have k2 := KA.inB_t h4.2
 have hT := fun d => e42 4000 d (by omega) c t self x hx h0 (by simp [okT, inB]; omega) (by simp [okN, inB]; omega) z1 z2 z3
 cases h2 : tpA c t self x with
 | false =>
  rw [h2] at hgr
  rw [if_neg (by decide)] at hgr
  simp only [h2] at hT
  simp only [hgr] at hF hL
  simp only [hH, hM, tT, hJ, hA, hS, hL, hC, hP, hT, hj, kk, simprocAttr, j10, b10, q10, ww, simprocAttr]
  exact hF
 | true =>
  rw [h2] at hgr
  rw [if_pos rfl] at hgr
  simp only [h2] at hT
  simp only [hgr] at hF hL
  simp only [hH, hM, tT, hJ, hA, hS, hL, hC, hP, hT, hj, kk, simprocAttr, j10, b10, q10, ww, simprocAttr]
  exact hF
end
theorem e10r {A B C D E F G H I J K L : Prop} (c : Cf) (t self : Int) (x : Tp) (n inc top : Int) (m : Mg) (w0_ : A) (w1_ : B) (w2_ : C) (w3_ : D ∧ (E ∧ (F ∧ (G ∧ (wf8 x.p ∧ (wf8 x.a ∧ (wf8 x.o ∧ H))))))) (w4_ : I) (w5_ : J) (w6_ : K) (w7_ : L) : L9.TT 4000 20 10 [.agg (eC c), iV t, iV self, aX x, iV n, iV inc, iV top, aM m] = some (bV true, []) := e10 (wf8_b w3_.2.2.2.2.1) (wf8_b w3_.2.2.2.2.2.1) (wf8_b w3_.2.2.2.2.2.2.1)
end Go.Proofs.YtdflglehippoiaaGreatDoor.GA
