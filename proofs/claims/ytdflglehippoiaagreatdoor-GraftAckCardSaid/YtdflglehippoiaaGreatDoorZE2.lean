/- Texts joined: HL. -/
import Derived.Test.YtdflglehippoiaaGreatDoorZE1
set_option linter.unusedVariables false
set_option linter.unusedSimpArgs false
namespace Go.Proofs.YtdflglehippoiaaGreatDoor.GA
open Go Go.Proofs.YtdflglehippoiaaGreatDoorR IG
open QA (Ev eE aE rE epOK evOK qOK putE n01)
open AA (It eT aT rT wi takeT allT ahOK)
open EC (Cf eC okC)
open FA (Sm eS aS s0 smL flowC rightB heavyB heavy_t flow_t flow_of right_t q_t kpOK kRow umodF toldS toldP)
open KA (Kd eK aK rK nr okT okN kOK inB gap takeK all3 askP askT askR askS askQ hasN drp)
open MA (Mg eM aM msgOK)
open LD (j7 i7 b7 q7)
set_option maxRecDepth 100000
set_option maxHeartbeats 8000000
theorem mx3_2 (a e : Int) : mx3 a e e = if e > a then e else a := by
 unfold mx3
 by_cases h : e > a
 ·rw [if_pos h, if_neg (by omega)]
 ·rw [if_neg h, if_neg h]
theorem e7 (c : Cf) (t self : Int) (x : Tp) (n : Int) (l : List Int) (e0 s0 : Int) (z1 : i64B x.p) (z2 : i64B x.a) (z3 : i64B x.o) : LD.TT 4000 20 7 [.agg (eC c), iV t, iV self, aX x, iV n, .one (rI l), iV e0, iV s0] = some (bV true, []) := by
 rw [LD.t7, F_ev rfl]
 have hH := fun d => e13 4000 d x
 cases hv : hvX x with
 | true => rw [hv] at hH; simp only [hH, List.length_map, j7, b7, q7, ww, simprocAttr]
 | false =>
 rw [hv] at hH
 obtain ⟨hx, hh⟩ := hv_t hv
 by_cases h10 : (l.length : Int) > 10
 ·simp only [hH, decide_eq_true h10, List.length_map, j7, b7, q7, ww, simprocAttr]
 have hR := fun d => e14 4000 d (by omega) c t self x hx z1 z2 z3
 by_cases g0 : grC c t self x = 0
 rotate_left
 ·simp only [decide_eq_false g0] at hR
  simp only [hH, hR, decide_eq_false h10, List.length_map, j7, b7, q7, ww, simprocAttr]
 simp only [decide_eq_true g0] at hR
 have hw := w19
 obtain ⟨m1, m2⟩ := umodF e0 1073741824 (by omega) (by omega)
 obtain ⟨m3, m4⟩ := umodF s0 1073741824 (by omega) (by omega)
 generalize hE : IntKind.i64.wrap ((IntKind.u64.wrap e0).tmod 1073741824) = E at *
 generalize hQ0 : IntKind.i64.wrap ((IntKind.u64.wrap s0).tmod 1073741824) = Q at *
 have w1 : IntKind.i64.wrap (1 + Q) = 1 + Q := IntWalk.i64_in _ (by omega)
 have y1 : (1 + l.length) * 8 ≤ 140737488355328 := by omega
 have y2 : (eI n :: l.map eI).all (fun x => x.length == 1) = true := by simp
 have y3 : (l.map eI).all (fun x => x.length == 1) = true := by simp
 have hM : ∀ d, TT 4000 (d + 6) 32 [.agg [.int .i64 3, .int .i64 n, .int .i64 1, .int .i64 self, .int .i64 1, .int .i64 t, .int .i64 E, .int .i64 (1 + Q), .int .i64 E, .int .i64 0, .int .i64 0, .int .i64 0, .int .i64 0, .int .i64 0, .row ([.int .i64 n] :: l.map eI), .row []]] = some (bV (msgOK ⟨3, n, 1, self, 1, t, E, 1 + Q, E, 0, 0, 0, 0, 0, n :: l, []⟩), []) := fun d => MA.e32 1000 d ⟨3, n, 1, self, 1, t, E, 1 + Q, E, 0, 0, 0, 0, 0, n :: l, []⟩ (by simp; omega) (by simp)
 have hA : ∀ d, TT 4000 (d + 14) 33 [.agg (eC c), iV t, iV self, aX x, iV n, .agg [.int .i64 3, .int .i64 n, .int .i64 1, .int .i64 self, .int .i64 1, .int .i64 t, .int .i64 E, .int .i64 (1 + Q), .int .i64 E, .int .i64 0, .int .i64 0, .int .i64 0, .int .i64 0, .int .i64 0, .row ([.int .i64 n] :: l.map eI), .row []]] = some (.tup [aX (ackP c t self x n ⟨3, n, 1, self, 1, t, E, 1 + Q, E, 0, 0, 0, 0, 0, n :: l, []⟩).1, iV (ackP c t self x n ⟨3, n, 1, self, 1, t, E, 1 + Q, E, 0, 0, 0, 0, 0, n :: l, []⟩).2], []) := fun d => e33 1000 d (by omega) c t self x n ⟨3, n, 1, self, 1, t, E, 1 + Q, E, 0, 0, 0, 0, 0, n :: l, []⟩ hx (by simp; omega) (by simp)
 unfold ackP at hA
 rw [if_pos g0] at hA
 by_cases g1 : msgOK ⟨3, n, 1, self, 1, t, E, 1 + Q, E, 0, 0, 0, 0, 0, n :: l, []⟩ = true
 rotate_left
 ·have g1' : msgOK ⟨3, n, 1, self, 1, t, E, 1 + Q, E, 0, 0, 0, 0, 0, n :: l, []⟩ = false := by simpa using g1
  simp only [g1'] at hM
  simp only [hH, hR, hM, hE, hQ0, w1, y1, y2, y3, decide_eq_false h10, List.length_map, j7, b7, q7, ww, simprocAttr]
 rw [if_pos ⟨g1, rfl, rfl, rfl⟩] at hA
 simp only [g1] at hM
 have hP : ∀ d, TT 4000 (d + 7) 31 [iV t, iV self, .one (.row ([.int .i64 n] :: l.map eI)), iV c.d] = some (iV (pthC t self (n :: l) c.d), []) := fun d => e31 4000 d t self (n :: l) c.d (by simp; omega) (by simp; omega)
 have hsx := fun d => e19r 4000 d (by omega) x hx
 have u1 : ∀ z : Int, decide (z = z) = true := fun z => by simp
 unfold ackG at hA
 by_cases g5 : x.a = IntKind.i64.wrap (n + 1)
 rotate_left
 ·rw [if_neg (fun h => g5 h.1)] at hA
  simp only [hH, hR, hM, hA, hsx, hw, hE, hQ0, w1, y1, y2, y3, z00, decide_eq_false g5, decide_eq_false h10, List.length_map, j7, b7, q7, ww, simprocAttr]
 by_cases g6 : x.r = 0
 rotate_left
 ·rw [if_neg (fun h => g6 h.2.1)] at hA
  simp only [hH, hR, hM, hA, hsx, hw, hE, hQ0, w1, y1, y2, y3, z00, decide_eq_true g5, decide_eq_false g6, decide_eq_false h10, List.length_map, j7, b7, q7, ww, simprocAttr]
 by_cases g7 : pthC t self (n :: l) c.d = 0
 rotate_left
 ·rw [if_neg (fun h => g7 h.2.2)] at hA
  simp only [hH, hR, hM, hA, hP, hsx, hw, hE, hQ0, w1, y1, y2, y3, z00, decide_eq_true g5, decide_eq_true g6, decide_eq_false g7, decide_eq_false h10, List.length_map, j7, b7, q7, ww, simprocAttr]
 rw [if_pos ⟨g5, g6, g7⟩, mx3_2] at hA
 have hI : ∀ d, TT 4000 (d + 1) 34 [.one (rI (n :: l)), .one (.row ([.int .i64 n] :: l.map eI))] = some (bV true, []) := fun d => by have := MA.e34 4000 d (n :: l) (n :: l) (by simp; omega) (by simp; omega); rw [show decide (n :: l = n :: l) = true by simp] at this; exact this
 have hK : ∀ d, TT 4000 (d + 1) 20 [.one (rK x.ks), .one (rK x.ks)] = some (bV true, []) := fun d => by rw [KA.e20 4000 d x.ks x.ks (by omega) (by omega)]; simp
 have hQ : ∀ d, TT 4000 (d + 1) 21 [.one (rE x.q), .one (rE x.q)] = some (bV true, []) := fun d => by rw [QA.e21 4000 d x.q x.q (by omega) (by omega)]; simp
 generalize (if epOK E = true then toldS x.s E (1 + Q) else x.s) = S9 at *
 simp only [hH, hR, hM, hA, hP, hI, hK, hQ, hw, hE, hQ0, w1, y1, y2, y3, u1, z00, decide_eq_true g5, decide_eq_true g6, decide_eq_true g7, decide_eq_false h10, List.length_map, j7, b7, q7, ww, simprocAttr]
theorem e7r {A B C D E F G H I J K L : Prop} (c : Cf) (t self : Int) (x : Tp) (n : Int) (l : List Int) (e0 s0 : Int) (w0_ : A) (w1_ : B) (w2_ : C) (w3_ : D ∧ (E ∧ (F ∧ (G ∧ (wf8 x.p ∧ (wf8 x.a ∧ (wf8 x.o ∧ H))))))) (w4_ : I) (w5_ : J) (w6_ : K) (w7_ : L) : LD.TT 4000 20 7 [.agg (eC c), iV t, iV self, aX x, iV n, .one (rI l), iV e0, iV s0] = some (bV true, []) := e7 c t self x n l e0 s0 (wf8_b w3_.2.2.2.2.1) (wf8_b w3_.2.2.2.2.2.1) (wf8_b w3_.2.2.2.2.2.2.1)
end Go.Proofs.YtdflglehippoiaaGreatDoor.GA
