/- Texts joined: GC GD FP FQ GE EE FT GO L8 GG. -/
import Derived.Test.YtdflglehippoiaaGreatDoorZE1
import Derived.Test.YtdflglehippoiaaGreatDoorProg
set_option linter.unusedVariables false
set_option linter.unusedSimpArgs false
namespace Go.Proofs.YtdflglehippoiaaGreatDoor.GA
open Go Go.Proofs.YtdflglehippoiaaGreatDoorR IG
open QA (Ev eE aE rE epOK evOK qOK putE n01)
open AA (It eT aT rT wi takeT allT)
open EC (Cf eC okC)
open FA (Sm eS aS s0 smL flowC rightB heavyB heavy_t)
open KA (Kd eK aK rK nr okT okN kOK inB gap takeK all3)
set_option maxRecDepth 100000
set_option maxHeartbeats 4000000
def nxE (n top : Int) : Int :=
  let e := top - top.tmod 16 + n
  let f := if e ≤ top then e + 16 else e
  if f > 1073741824 then 0 else f
theorem nx_b {n top : Int} (hn : okN n = true) (ht : 0 ≤ top ∧ top ≤ 1073741824) : nxE n top = 0 ∨ (top < nxE n top ∧ nxE n top ≤ 1073741824) := by
  unfold nxE
  dsimp only
  have := KA.inB_t hn
  have hm := Int.tmod_nonneg 16 ht.1
  have hm2 := Int.tmod_lt_of_pos top (show 0 < 16 by omega)
  split <;> split <;> omega
theorem e51 (N d : Nat) (n top : Int) (hn : okN n = true) (ht : 0 ≤ top ∧ top ≤ 1073741824) : TT N (d + 3) 51 [iV n, iV top] = some (.tup [iV (nxE n top), iV (if nxE n top = 0 then 11 else 0)], []) := by
  have h1 := fun d => KA.e85 N d n
  rw [hn] at h1
  have hb := KA.inB_t hn
  have hm := Int.tmod_nonneg 16 ht.1
  have hm2 := Int.tmod_lt_of_pos top (show 0 < 16 by omega)
  have w1 : IntKind.i64.wrap (top.tmod 16) = top.tmod 16 := IntWalk.i64_in _ (by omega)
  have w2 : IntKind.i64.wrap (top - top.tmod 16) = top - top.tmod 16 := IntWalk.i64_in _ (by omega)
  obtain ⟨e, he⟩ : ∃ e, e = top - top.tmod 16 + n := ⟨_, rfl⟩
  have w3 : IntKind.i64.wrap (top - top.tmod 16 + n) = e := by rw [he]; exact IntWalk.i64_in _ (by omega)
  have w4 : IntKind.i64.wrap (e + 16) = e + 16 := IntWalk.i64_in _ (by omega)
  have g1 : decide (top < 0) = false := by simp; omega
  have g2 : decide (top > 1073741824) = false := by simp; omega
  have key : nxE n top = if (if e ≤ top then e + 16 else e) > 1073741824 then 0 else (if e ≤ top then e + 16 else e) := by rw [he]; rfl
  rw [t51, F_ev rfl]
  by_cases g3 : e ≤ top
  · rw [if_pos g3] at key
    by_cases g4 : e + 16 > 1073741824
    · rw [if_pos g4] at key
      simp only [h1, w1, w2, w3, w4, g1, g2, decide_eq_true g3, decide_eq_true g4, key, if_true, j51, b51, q51, qq, ww, List.replicate, Nat.reduceBEq, Nat.reduceAdd, Nat.reduceMul, Nat.reduceDiv, Nat.reduceEqDiff, Nat.reduceLeDiff, Nat.reduceLT, Int.reduceEq, Int.reduceNe, Int.reduceLT, Int.reduceLE, Int.reduceAdd, Int.reduceSub, Int.reduceMul, Int.reduceNeg, Int.reduceToNat, reduceCtorEq, reduceIte, if_true, if_false]
      try rfl
    · rw [if_neg g4] at key
      have g5 : ¬ e + 16 = 0 := by omega
      simp only [h1, w1, w2, w3, w4, g1, g2, decide_eq_true g3, decide_eq_false g4, key, if_neg g5, j51, b51, q51, qq, ww, List.replicate, Nat.reduceBEq, Nat.reduceAdd, Nat.reduceMul, Nat.reduceDiv, Nat.reduceEqDiff, Nat.reduceLeDiff, Nat.reduceLT, Int.reduceEq, Int.reduceNe, Int.reduceLT, Int.reduceLE, Int.reduceAdd, Int.reduceSub, Int.reduceMul, Int.reduceNeg, Int.reduceToNat, reduceCtorEq, reduceIte, if_true, if_false]
      try rfl
  · rw [if_neg g3] at key
    by_cases g4 : e > 1073741824
    · rw [if_pos g4] at key
      simp only [h1, w1, w2, w3, w4, g1, g2, decide_eq_false g3, decide_eq_true g4, key, if_true, j51, b51, q51, qq, ww, List.replicate, Nat.reduceBEq, Nat.reduceAdd, Nat.reduceMul, Nat.reduceDiv, Nat.reduceEqDiff, Nat.reduceLeDiff, Nat.reduceLT, Int.reduceEq, Int.reduceNe, Int.reduceLT, Int.reduceLE, Int.reduceAdd, Int.reduceSub, Int.reduceMul, Int.reduceNeg, Int.reduceToNat, reduceCtorEq, reduceIte, if_true, if_false]
      try rfl
    · rw [if_neg g4] at key
      have g5 : ¬ e = 0 := by omega
      simp only [h1, w1, w2, w3, w4, g1, g2, decide_eq_false g3, decide_eq_false g4, key, if_neg g5, j51, b51, q51, qq, ww, List.replicate, Nat.reduceBEq, Nat.reduceAdd, Nat.reduceMul, Nat.reduceDiv, Nat.reduceEqDiff, Nat.reduceLeDiff, Nat.reduceLT, Int.reduceEq, Int.reduceNe, Int.reduceLT, Int.reduceLE, Int.reduceAdd, Int.reduceSub, Int.reduceMul, Int.reduceNeg, Int.reduceToNat, reduceCtorEq, reduceIte, if_true, if_false]
      try rfl
def bcG (self : Int) (x : Tp) : Tp × Int :=
  if x.r ≠ 0 ∧ x.t = x.r then (x, 0)
  else if nxE self x.t = 0 then (x0, 11)
  else (⟨x.m, x.b, nxE self x.t, nxE self x.t, 0, 0, 0, 0, [], x.ks, ⟨nxE self x.t, 1, 1, [], []⟩, x.q⟩, 0)
def bcP (c : Cf) (t self : Int) (x : Tp) : Tp × Int := if grC c t self x = 0 then bcG self x else (x0, grC c t self x)
theorem gr_t {c : Cf} {t self : Int} {x : Tp} (h : grC c t self x = 0) : okC c = true ∧ 0 ≤ t ∧ t < c.t ∧ 0 ≤ self ∧ self < c.n ∧ rgtB c t self x = true ∧ okN self = true ∧ okT t = true ∧ 0 ≤ x.t ∧ x.t ≤ 1073741824 ∧ flowC c x.s x.q = 0 := by
  unfold grC at h
  by_cases h0 : okC c = true
  · rw [if_pos h0] at h
    split at h
    · rename_i h1
      simp only [Bool.and_eq_true, decide_eq_true_eq] at h1
      have hc := FA.okC_t h0
      have h2 := h1.2.2.2.2
      unfold rgtB at h2
      simp only [Bool.and_eq_true, decide_eq_true_eq] at h2
      exact ⟨h0, h1.1, h1.2.1, h1.2.2.1, h1.2.2.2.1, h1.2.2.2.2, by simp [okN, inB]; omega, by simp [okT, inB]; omega, h2.1, h2.2.1, h2.2.2.2.2.2.2.2.2.2.2.2⟩
    · omega
  · rw [if_neg h0] at h; omega
theorem e15 (N d : Nat) (hN : 1000 ≤ N) (c : Cf) (t self : Int) (x : Tp) (hx : smX x) : TT N (d + 14) 15 [.agg (eC c), iV t, iV self, aX x] = some (.tup [aX (bcP c t self x).1, iV (bcP c t self x).2], []) := by
  have h1 := fun d => e18 N d hN c t self x hx
  have h2 := fun d => e50 N d x hx
  have h3 := fun d a b => FA.e52 N d a b
  rw [t15, F_ev rfl]
  unfold bcP
  by_cases g0 : grC c t self x = 0
  · rw [if_pos g0]
    obtain ⟨k1, k2, k3, k4, k5, k6, k7, k8, k9, k10, k11⟩ := gr_t g0
    have h4 := fun d => e51 N d self x.t k7 ⟨k9, k10⟩
    rw [g0] at h1
    unfold bcG
    by_cases g1 : x.r = 0
    · rw [if_neg (by simp [g1])]
      have g1' : decide (x.r = 0) = true := decide_eq_true g1
      by_cases g3 : nxE self x.t = 0
      · rw [if_pos g3] at h4 ⊢
        rw [g3] at h4
        simp only [h1, h2, h3, h4, g1', j15, b15, q15, qq, ww, List.replicate, Nat.reduceBEq, Nat.reduceAdd, Nat.reduceMul, Nat.reduceDiv, Nat.reduceEqDiff, Nat.reduceLeDiff, Nat.reduceLT, Int.reduceEq, Int.reduceNe, Int.reduceLT, Int.reduceLE, Int.reduceAdd, Int.reduceSub, Int.reduceMul, Int.reduceNeg, Int.reduceToNat, reduceCtorEq, reduceIte, if_true, if_false]
        try rfl
      · rw [if_neg g3] at h4 ⊢
        simp only [h1, h2, h3, h4, g1', j15, b15, q15, qq, ww, List.replicate, Nat.reduceBEq, Nat.reduceAdd, Nat.reduceMul, Nat.reduceDiv, Nat.reduceEqDiff, Nat.reduceLeDiff, Nat.reduceLT, Int.reduceEq, Int.reduceNe, Int.reduceLT, Int.reduceLE, Int.reduceAdd, Int.reduceSub, Int.reduceMul, Int.reduceNeg, Int.reduceToNat, reduceCtorEq, reduceIte, if_true, if_false]
        try rfl
    · have g1' : decide (x.r = 0) = false := decide_eq_false g1
      by_cases g2 : x.t = x.r
      · rw [if_pos ⟨g1, g2⟩]
        have g2' : decide (x.t = x.r) = true := decide_eq_true g2
        simp only [h1, h2, g1', g2', j15, b15, q15, qq, ww, List.replicate, Nat.reduceBEq, Nat.reduceAdd, Nat.reduceMul, Nat.reduceDiv, Nat.reduceEqDiff, Nat.reduceLeDiff, Nat.reduceLT, Int.reduceEq, Int.reduceNe, Int.reduceLT, Int.reduceLE, Int.reduceAdd, Int.reduceSub, Int.reduceMul, Int.reduceNeg, Int.reduceToNat, reduceCtorEq, reduceIte, if_true, if_false]
      · rw [if_neg (fun h => g2 h.2)]
        have g2' : decide (x.t = x.r) = false := decide_eq_false g2
        by_cases g3 : nxE self x.t = 0
        · rw [if_pos g3] at h4 ⊢
          rw [g3] at h4
          simp only [h1, h2, h3, h4, g1', g2', j15, b15, q15, qq, ww, List.replicate, Nat.reduceBEq, Nat.reduceAdd, Nat.reduceMul, Nat.reduceDiv, Nat.reduceEqDiff, Nat.reduceLeDiff, Nat.reduceLT, Int.reduceEq, Int.reduceNe, Int.reduceLT, Int.reduceLE, Int.reduceAdd, Int.reduceSub, Int.reduceMul, Int.reduceNeg, Int.reduceToNat, reduceCtorEq, reduceIte, if_true, if_false]
          try rfl
        · rw [if_neg g3] at h4 ⊢
          simp only [h1, h2, h3, h4, g1', g2', j15, b15, q15, qq, ww, List.replicate, Nat.reduceBEq, Nat.reduceAdd, Nat.reduceMul, Nat.reduceDiv, Nat.reduceEqDiff, Nat.reduceLeDiff, Nat.reduceLT, Int.reduceEq, Int.reduceNe, Int.reduceLT, Int.reduceLE, Int.reduceAdd, Int.reduceSub, Int.reduceMul, Int.reduceNeg, Int.reduceToNat, reduceCtorEq, reduceIte, if_true, if_false]
          try rfl
  · rw [if_neg g0]
    have g0' : decide (grC c t self x = 0) = false := decide_eq_false g0
    simp only [h1, g0', j15, b15, q15, qq, ww, List.replicate, Nat.reduceBEq, Nat.reduceAdd, Nat.reduceMul, Nat.reduceDiv, Nat.reduceEqDiff, Nat.reduceLeDiff, Nat.reduceLT, Int.reduceEq, Int.reduceNe, Int.reduceLT, Int.reduceLE, Int.reduceAdd, Int.reduceSub, Int.reduceMul, Int.reduceNeg, Int.reduceToNat, reduceCtorEq, reduceIte, if_true, if_false]
    try rfl
theorem e24 (N d : Nat) (hN : 1000 ≤ N) (c : Cf) (t self : Int) (x : Tp) (hx : smX x) : TT N (d + 14) 24 [.agg (eC c), iV t, iV self, aX x] = some (.tup [aX (if grC c t self x = 0 then ⟨x.m, x.b, x.t, 0, x.p, x.a, x.o, x.g, x.pa, x.ks, x.s, x.q⟩ else x0), iV (grC c t self x)], []) := by
  have h1 := fun d => e18 N d hN c t self x hx
  have h2 := fun d => e50 N d x hx
  rw [t24, F_ev rfl]
  by_cases g0 : grC c t self x = 0
  · rw [if_pos g0]
    rw [g0] at h1 ⊢
    simp only [h1, h2, j24, b24, q24, qq, ww, List.replicate, Nat.reduceBEq, Nat.reduceAdd, Nat.reduceMul, Nat.reduceDiv, Nat.reduceEqDiff, Nat.reduceLeDiff, Nat.reduceLT, Int.reduceEq, Int.reduceNe, Int.reduceLT, Int.reduceLE, Int.reduceAdd, Int.reduceSub, Int.reduceMul, Int.reduceNeg, Int.reduceToNat, reduceCtorEq, reduceIte, if_true, if_false]
    try rfl
  · rw [if_neg g0]
    have g0' : decide (grC c t self x = 0) = false := decide_eq_false g0
    simp only [h1, g0', j24, b24, q24, qq, ww, List.replicate, Nat.reduceBEq, Nat.reduceAdd, Nat.reduceMul, Nat.reduceDiv, Nat.reduceEqDiff, Nat.reduceLeDiff, Nat.reduceLT, Int.reduceEq, Int.reduceNe, Int.reduceLT, Int.reduceLE, Int.reduceAdd, Int.reduceSub, Int.reduceMul, Int.reduceNeg, Int.reduceToNat, reduceCtorEq, reduceIte, if_true, if_false]
    try rfl
end Go.Proofs.YtdflglehippoiaaGreatDoor.GA
namespace Go.Proofs.YtdflglehippoiaaGreatDoor.GA
open Go Go.Proofs.YtdflglehippoiaaGreatDoorR IG
open QA (Ev eE aE rE epOK evOK qOK putE n01)
open AA (It eT aT rT wi takeT allT take_s)
open EC (Cf eC okC)
open FA (Sm eS aS s0 smL flowC rightB heavyB heavy_t)
open KA (Kd eK aK rK nr okT okN kOK inB gap takeK all3)
set_option maxRecDepth 100000
set_option maxHeartbeats 4000000
structure Dm where
  (n t e s v : Int)
abbrev eD (y : Dm) : List V := [.int .i64 7, .int .i64 0, .int .i64 0, .int .i64 y.n, .int .i64 0, .int .i64 y.t, .int .i64 y.e, .int .i64 y.s, .int .i64 0, .int .i64 y.v, .int .i64 0, .int .i64 0, .int .i64 0, .int .i64 0, .row [], .row []]
abbrev rD (l : List Dm) : V := .row (l.map eD)
def dmK (t e : Int) (x : It) (k : Kd) : Dm := ⟨k.n, t, e, x.s, x.v⟩
def dsL (t e : Int) (ks : List Kd) (on : List It) : List Dm := on.flatMap fun x => ks.map (dmK t e x)
theorem dsL_s {t e : Int} {ks : List Kd} {on : List It} {i : Nat} (h : i < on.length) : dsL t e ks (on.take (i + 1)) = dsL t e ks (on.take i) ++ ks.map (dmK t e on[i]) := by
  unfold dsL
  rw [take_s h, List.flatMap_append]
  simp only [List.flatMap_cons, List.flatMap_nil, List.append_nil]
theorem dsL_len {t e : Int} {ks : List Kd} : ∀ {on : List It}, (dsL t e ks on).length = on.length * ks.length
  | [] => by simp [dsL]
  | x :: r => by
    have := dsL_len (t := t) (e := e) (ks := ks) (on := r)
    simp only [dsL, List.flatMap_cons, List.length_append, List.length_map, List.length_cons] at this ⊢
    rw [this, Nat.succ_mul]
    omega
theorem dsL_le {t e : Int} {ks : List Kd} {on : List It} (h1 : ks.length < 900) (h2 : on.length < 900) : (dsL t e ks on).length < 900000 := by
  rw [dsL_len]
  have := Nat.mul_le_mul (show on.length ≤ 900 by omega) (show ks.length ≤ 900 by omega)
  omega
theorem takeD (l : List Dm) : (l.map eD).take l.length = l.map eD := by rw [List.take_of_length_le (by simp)]
theorem all16 (l : List Dm) : (l.map eD).all (fun x => x.length == 16) = true := by simp
theorem e58 (N d : Nat) (hN : 1000 ≤ N) (t : Int) (x : Tp) (on : List It) (hx : x.ks.length < 900) (ho : on.length < 900) : ans (TT N (d + 1) 58 [iV t, aX x, .one (rT on)]) = some (.one (rD (dsL t x.s.e x.ks on))) := by
  rw [t58, F_ev rfl]
  simp only [List.length_map, j58, b58, q58, qq, ww, List.replicate, Nat.reduceBEq, Nat.reduceAdd, Nat.reduceMul, Nat.reduceDiv, Nat.reduceEqDiff, Nat.reduceLeDiff, Nat.reduceLT, Int.reduceEq, Int.reduceNe, Int.reduceLT, Int.reduceLE, Int.reduceAdd, Int.reduceSub, Int.reduceMul, Int.reduceNeg, Int.reduceToNat, reduceCtorEq, reduceIte, if_true, if_false]
  refine (loopK (K := fun o => ans (fin _ (aft _ _ _ o))) (fun i => ⟨[(0, iV t), (4, .one (.ref 256 0 0)), (7, .one (.sl 448 0 (dsL t x.s.e x.ks (on.take i)).length)), (12, .one (rT on)), (13, iV on.length), (14, iV i)], [(256, .box (eX x)), (448, .rows 49 16 ((dsL t x.s.e x.ks (on.take i)).map eD))]⟩) (fun _ => some (.one (rD (dsL t x.s.e x.ks on)))) on.length ?hr on.length 0 N _ (by omega) (by omega) ?hk)
  case hk => simp only [gcK, lowB, Nat.reduceLeDiff, Nat.reduceBEq, List.contains_nil, List.contains_cons, Bool.or_false, Bool.false_or, Bool.false_eq_true, if_false, Bool.true_and, Bool.and_true, pickL, look_hit, look_miss, look_end, slMent, hpMent, S.ment, S.ment.smt, ments, V.ment, List.append_nil, List.nil_append, List.cons_append, List.all_nil, List.all_cons, Option.isSome_some, Bool.and_self, if_true, reduceIte, Nat.reduceEqDiff, not_false_eq_true, reduceCtorEq, Nat.reduceMul, Nat.reduceAdd]; rfl
  case hr =>
    intro i m hi ih
    (try dsimp only)
    by_cases hlt : i < on.length
    · have h1 : decide ((i : Int) < (on.length : Int)) = true := by simp; omega
      have hg1 : (on.map eT)[i]? = some (eT on[i]) := by simp [hlt]
      have hb : 0 ≤ (i : Int) ∧ (i : Int) < (on.length : Int) := by omega
      have hs := dsL_s (t := t) (e := x.s.e) (ks := x.ks) hlt
      have hA : (dsL t x.s.e x.ks (on.take i)).length < 900000 := dsL_le hx (by rw [List.length_take]; omega)
      rw [hs] at ih
      generalize dsL t x.s.e x.ks (on.take i) = A at *
      simp only [h1, hb.1, hb.2, hg1, List.length_map, Int.toNat_natCast, j58, b58, q58, qq, ww, List.replicate, Nat.reduceBEq, Nat.reduceAdd, Nat.reduceMul, Nat.reduceDiv, Nat.reduceEqDiff, Nat.reduceLeDiff, Nat.reduceLT, Int.reduceEq, Int.reduceNe, Int.reduceLT, Int.reduceLE, Int.reduceAdd, Int.reduceSub, Int.reduceMul, Int.reduceNeg, Int.reduceToNat, reduceCtorEq, reduceIte, if_true, if_false]
      refine loopK (K := fun o => ans (fin _ (aft _ _ _ (goL _ _ _ _ (aft _ _ _ o))))) (fun j => ⟨[(0, iV t), (4, .one (.ref 256 0 0)), (7, .one (.sl 448 0 (A ++ (x.ks.take j).map (dmK t x.s.e on[i])).length)), (9, .one (.ref 576 0 0)), (12, .one (rT on)), (13, iV on.length), (14, iV i), (19, .one (rK x.ks)), (20, iV x.ks.length), (21, iV j)], [(256, .box (eX x)), (448, .rows 49 16 ((A ++ (x.ks.take j).map (dmK t x.s.e on[i])).map eD)), (576, .box (eT on[i]))]⟩) (fun _ => some (.one (rD (dsL t x.s.e x.ks on)))) x.ks.length ?hr2 x.ks.length 0 N _ (by omega) (by omega) ?hk2
      case hk2 => simp only [gcK, lowB, Nat.reduceLeDiff, Nat.reduceBEq, List.contains_nil, List.contains_cons, Bool.or_false, Bool.false_or, Bool.false_eq_true, if_false, Bool.true_and, Bool.and_true, pickL, look_hit, look_miss, look_end, slMent, hpMent, S.ment, S.ment.smt, ments, V.ment, List.append_nil, List.nil_append, List.cons_append, List.all_nil, List.all_cons, Option.isSome_some, Bool.and_self, if_true, reduceIte, Nat.reduceEqDiff, not_false_eq_true, reduceCtorEq, Nat.reduceMul, Nat.reduceAdd]; simp only [List.take_zero, List.map_nil, List.append_nil]; rfl
      case hr2 =>
        intro j m2 hj ih2
        (try dsimp only)
        by_cases hjl : j < x.ks.length
        · have y1 : decide ((j : Int) < (x.ks.length : Int)) = true := by simp; omega
          have y2 : (x.ks.map eK)[j]? = some (eK x.ks[j]) := by simp [hjl]
          have y3 : 0 ≤ (j : Int) ∧ (j : Int) < (x.ks.length : Int) := by omega
          have y4 : (x.ks.take (j + 1)).map (dmK t x.s.e on[i]) = (x.ks.take j).map (dmK t x.s.e on[i]) ++ [dmK t x.s.e on[i] x.ks[j]] := by rw [List.take_succ_eq_append_getElem hjl, List.map_append]; rfl
          rw [y4, ← List.append_assoc] at ih2
          have y5 : (A ++ (x.ks.take j).map (dmK t x.s.e on[i])).length < 910000 := by rw [List.length_append, List.length_map, List.length_take]; omega
          generalize A ++ (x.ks.take j).map (dmK t x.s.e on[i]) = B at *
          have y6 : (B.length + 1) * 160 ≤ 140737488355328 := by omega
          simp only [y1, y3.1, y3.2, y2, y6, takeD, all16, wi j (by omega), List.length_map, Int.toNat_natCast, j58, b58, q58, qq, ww, List.replicate, Nat.reduceBEq, Nat.reduceAdd, Nat.reduceMul, Nat.reduceDiv, Nat.reduceEqDiff, Nat.reduceLeDiff, Nat.reduceLT, Int.reduceEq, Int.reduceNe, Int.reduceLT, Int.reduceLE, Int.reduceAdd, Int.reduceSub, Int.reduceMul, Int.reduceNeg, Int.reduceToNat, reduceCtorEq, reduceIte, if_true, if_false]
          exact ih2 hjl _ (by simp only [gcK, lowB, Nat.reduceLeDiff, Nat.reduceBEq, List.contains_nil, List.contains_cons, Bool.or_false, Bool.false_or, Bool.false_eq_true, if_false, Bool.true_and, Bool.and_true, pickL, look_hit, look_miss, look_end, slMent, hpMent, S.ment, S.ment.smt, ments, V.ment, List.append_nil, List.nil_append, List.cons_append, List.all_nil, List.all_cons, Option.isSome_some, Bool.and_self, if_true, reduceIte, Nat.reduceEqDiff, not_false_eq_true, reduceCtorEq, Nat.reduceMul, Nat.reduceAdd, List.map_append, List.map_cons, List.map_nil, List.length_append, List.length_cons, List.length_nil]; rfl)
        · obtain rfl : j = x.ks.length := by omega
          clear ih2
          have y1 : decide ((x.ks.length : Int) < (x.ks.length : Int)) = false := by simp
          rw [List.take_length]
          simp only [y1, wi i (by omega), List.length_map, j58, b58, q58, qq, ww, List.replicate, Nat.reduceBEq, Nat.reduceAdd, Nat.reduceMul, Nat.reduceDiv, Nat.reduceEqDiff, Nat.reduceLeDiff, Nat.reduceLT, Int.reduceEq, Int.reduceNe, Int.reduceLT, Int.reduceLE, Int.reduceAdd, Int.reduceSub, Int.reduceMul, Int.reduceNeg, Int.reduceToNat, reduceCtorEq, reduceIte, if_true, if_false]
          exact ih hlt _ (by simp only [gcK, lowB, Nat.reduceLeDiff, Nat.reduceBEq, List.contains_nil, List.contains_cons, Bool.or_false, Bool.false_or, Bool.false_eq_true, if_false, Bool.true_and, Bool.and_true, pickL, look_hit, look_miss, look_end, slMent, hpMent, S.ment, S.ment.smt, ments, V.ment, List.append_nil, List.nil_append, List.cons_append, List.all_nil, List.all_cons, Option.isSome_some, Bool.and_self, if_true, reduceIte, Nat.reduceEqDiff, not_false_eq_true, reduceCtorEq, Nat.reduceMul, Nat.reduceAdd, List.map_append, List.length_append, List.length_map])
    · have h1 : decide ((i : Int) < (on.length : Int)) = false := by simp; omega
      rw [List.take_of_length_le (by omega)] at *
      simp only [h1, takeD, List.length_map, j58, b58, q58, qq, ww, List.replicate, Nat.reduceBEq, Nat.reduceAdd, Nat.reduceMul, Nat.reduceDiv, Nat.reduceEqDiff, Nat.reduceLeDiff, Nat.reduceLT, Int.reduceEq, Int.reduceNe, Int.reduceLT, Int.reduceLE, Int.reduceAdd, Int.reduceSub, Int.reduceMul, Int.reduceNeg, Int.reduceToNat, reduceCtorEq, reduceIte, if_true, if_false]
end Go.Proofs.YtdflglehippoiaaGreatDoor.GA
namespace Go.Proofs.YtdflglehippoiaaGreatDoor.FA
open Go Go.Proofs.YtdflglehippoiaaGreatDoorR IG
open QA (Ev eE aE rE inB epOK evOK qOK putE n01 gapE lastK)
open AA (It eT aT rT ahOK addA addR leftL wi wm takeT allT take_s hR pre cP risB fitsB left_s ins)
open EC (Cf eC okC)
set_option maxRecDepth 100000
theorem ris_up {w w' win : Int} (hw : w ≤ w') : ∀ {l : List It} {p : Option Int}, risB w win p l = true → (∀ y ∈ l, w' < y.s) → risB w' win p l = true
  | [], p, _, _ => by cases p <;> rfl
  | x :: r, p, h, hy => by
    have hx := hy x (by simp)
    have h2 : fitsB x.s w win = true ∧ risB w win (some x.s) r = true := by
      cases p <;> simp only [risB, Bool.and_eq_true] at h
      · exact ⟨h.1.1.1, h.2⟩
      · exact ⟨h.1.1.1, h.2⟩
    have h3 := ris_up hw h2.2 (fun y hy' => hy y (by simp [hy']))
    have h4 : fitsB x.s w' win = true := by
      have := h2.1
      simp only [fitsB, Bool.and_eq_true, decide_eq_true_eq] at this ⊢
      omega
    cases p <;> simp only [risB, Bool.and_eq_true] at h ⊢
    · exact ⟨⟨⟨h4, h.1.1.2⟩, h.1.2⟩, h3⟩
    · exact ⟨⟨⟨h4, h.1.1.2⟩, h.1.2⟩, h3⟩
theorem ris_p {w win p : Int} {x : It} {r : List It} (h : risB w win (some p) (x :: r) = true) : p < x.s ∧ x.s < 1073741824 ∧ inB x.v 0 2147483647 = true ∧ risB w win (some x.s) r = true := by
  simp only [risB, fitsB, Bool.and_eq_true, decide_eq_true_eq] at h
  exact ⟨h.1.2, h.1.1.1.2, h.1.1.2, h.2⟩
theorem ris_gt {w win : Int} : ∀ {l : List It} {p : Int}, risB w win (some p) l = true → ∀ y ∈ l, p < y.s
  | [], _, _, y, hy => by cases hy
  | x :: r, p, h, y, hy => by
    obtain ⟨h1, _, _, h2⟩ := ris_p h
    rcases List.mem_cons.1 hy with rfl | hy
    · exact h1
    · have := ris_gt h2 y hy; omega
theorem ris_weak {w win : Int} {l : List It} {p : Int} (h : risB w win (some p) l = true) : risB w win none l = true := by
  cases l with
  | nil => rfl
  | cons x r =>
    simp only [risB, Bool.and_eq_true] at h ⊢
    exact ⟨⟨h.1.1, trivial⟩, h.2⟩
theorem takeR_right {c : Cf} {sub : Bool} {W win : Int} : ∀ {ah : List It} {s : Sm} {q : List Ev} {on : List It} {x : It}, x.s = s.w → 1 ≤ s.w ∧ s.w ≤ 1073741823 → kpOK s.kp s.w c.p = true → inB x.v 0 2147483647 = true → s.kn ≤ 1073741824 → risB W win (some s.w) ah = true → W ≤ s.w →
    (takeR c sub ah s q on x).1.e = s.e ∧ s.w + 1 ≤ (takeR c sub ah s q on x).1.w ∧ (takeR c sub ah s q on x).1.w ≤ 1073741824 ∧ (takeR c sub ah s q on x).1.w ≤ (takeR c sub ah s q on x).1.kn ∧ (takeR c sub ah s q on x).1.kn ≤ 1073741824 ∧ s.kn ≤ (takeR c sub ah s q on x).1.kn ∧
      kpOK (takeR c sub ah s q on x).1.kp (takeR c sub ah s q on x).1.w c.p = true ∧ risB (takeR c sub ah s q on x).1.w win none (takeR c sub ah s q on x).1.ah = true ∧ (∀ y ∈ (takeR c sub ah s q on x).1.ah, y ∈ ah)
  | [], s, q, on, x, hx, hw, hp, hv, hk, hr, hW => by
    have := push_ok hp hw.2 hv
    refine ⟨rfl, Int.le_refl _, by show s.w + 1 ≤ _; omega, ?_, ?_, ?_, this, rfl, fun y h => h⟩
    · show s.w + 1 ≤ if s.w + 1 > s.kn then s.w + 1 else s.kn
      split <;> omega
    · show (if s.w + 1 > s.kn then s.w + 1 else s.kn) ≤ _
      split <;> omega
    · show s.kn ≤ if s.w + 1 > s.kn then s.w + 1 else s.kn
      split <;> omega
  | y :: r, s, q, on, x, hx, hw, hp, hv, hk, hr, hW => by
    have hpo := push_ok hp hw.2 hv
    obtain ⟨r1, r2, r3, r4⟩ := ris_p hr
    have hkn : (if s.w + 1 > s.kn then s.w + 1 else s.kn) ≤ 1073741824 := by split <;> omega
    have hkn2 : s.kn ≤ (if s.w + 1 > s.kn then s.w + 1 else s.kn) := by split <;> omega
    have hkn3 : s.w + 1 ≤ (if s.w + 1 > s.kn then s.w + 1 else s.kn) := by split <;> omega
    rw [takeR]
    by_cases h : y.s = s.w + 1
    · rw [if_pos h]
      rw [h] at r4
      obtain ⟨a1, a2, a3, a4, a5, a6, a7, a8, a9⟩ := takeR_right (c := c) (sub := sub) (W := W) (win := win) (ah := r) (s := ⟨s.e, s.w + 1, if s.w + 1 > s.kn then s.w + 1 else s.kn, pushL s.kp s.w c.p x.v, r⟩) (q := rQ c s sub q x) (on := on ++ [x]) (x := y) h (by show 1 ≤ s.w + 1 ∧ s.w + 1 ≤ _; omega) hpo r3 hkn r4 (by show W ≤ s.w + 1; omega)
      exact ⟨a1, by have : s.w + 1 + 1 ≤ _ := a2; omega, a3, a4, a5, by have : (if s.w + 1 > s.kn then s.w + 1 else s.kn) ≤ _ := a6; omega, a7, a8, fun z hz => List.mem_cons_of_mem _ (a9 z hz)⟩
    · rw [if_neg h]
      refine ⟨rfl, Int.le_refl _, by show s.w + 1 ≤ _; omega, hkn3, hkn, hkn2, hpo, ?_, fun z h => h⟩
      refine ris_up (w := W) (by show W ≤ s.w + 1; omega) (ris_weak hr) (fun z hz => ?_)
      show s.w + 1 < z.s
      rcases List.mem_cons.1 hz with rfl | hz
      · omega
      · have := ris_gt r4 z hz; omega
theorem takeR_q {c : Cf} {sub : Bool} {W win : Int} : ∀ {ah : List It} {s : Sm} {q : List Ev} {on : List It} {x : It}, x.s = s.w → 1 ≤ s.w ∧ s.w ≤ 1073741823 → inB x.v 0 2147483647 = true → risB W win (some s.w) ah = true → epOK s.e = true → qOK q c.q = true →
    qOK (takeR c sub ah s q on x).2.1 c.q = true
  | [], s, q, on, x, hx, hw, hv, hr, he, hq => by
    show qOK (rQ c s sub q x) c.q = true
    unfold rQ
    split
    · exact q_fit hq (evOK_data he (by omega) hv)
    · exact hq
  | y :: r, s, q, on, x, hx, hw, hv, hr, he, hq => by
    obtain ⟨r1, r2, r3, r4⟩ := ris_p hr
    have hq2 : qOK (rQ c s sub q x) c.q = true := by
      unfold rQ
      split
      · exact q_fit hq (evOK_data he (by omega) hv)
      · exact hq
    rw [takeR]
    by_cases h : y.s = s.w + 1
    · rw [if_pos h]
      rw [h] at r4
      exact takeR_q h (by show 1 ≤ s.w + 1 ∧ s.w + 1 ≤ _; omega) r3 r4 he hq2
    · rw [if_neg h]
      exact hq2
theorem takeR_quiet {c : Cf} : ∀ {ah : List It} {s : Sm} {q : List Ev} {on : List It} {x : It}, (takeR c false ah s q on x).2.1 = q
  | [], s, q, on, x => rfl
  | y :: r, s, q, on, x => by
    rw [takeR]
    split
    · exact takeR_quiet
    · rfl
def seqP (P : Int → Int → Prop) : Int → List It → Int → Prop
  | a, [], b => a = b
  | a, x :: r, b => x.s = a ∧ P a x.v ∧ seqP P (a + 1) r b
theorem takeR_on {c : Cf} {sub : Bool} {P : Int → Int → Prop} : ∀ {ah : List It} {s : Sm} {q : List Ev} {on : List It} {x : It}, x.s = s.w → P x.s x.v → (∀ y ∈ ah, P y.s y.v) →
    ∃ L, (takeR c sub ah s q on x).2.2 = on ++ L ∧ seqP P s.w L (takeR c sub ah s q on x).1.w
  | [], s, q, on, x, hx, hp, ha => ⟨[x], rfl, hx, by rw [← hx]; exact hp, rfl⟩
  | y :: r, s, q, on, x, hx, hp, ha => by
    rw [takeR]
    by_cases h : y.s = s.w + 1
    · rw [if_pos h]
      obtain ⟨L, h1, h2⟩ := takeR_on (c := c) (sub := sub) (P := P) (ah := r) (s := ⟨s.e, s.w + 1, if s.w + 1 > s.kn then s.w + 1 else s.kn, pushL s.kp s.w c.p x.v, r⟩) (q := rQ c s sub q x) (on := on ++ [x]) (x := y) h (ha y (by simp)) (fun z hz => ha z (by simp [hz]))
      exact ⟨x :: L, by rw [h1]; simp, hx, by rw [← hx]; exact hp, h2⟩
    · rw [if_neg h]
      exact ⟨[x], rfl, hx, by rw [← hx]; exact hp, rfl⟩
def qch (e : Int) (P : Int → Int → Prop) : Int → List Ev → Int → Prop
  | a, [], b => a = b
  | a, x :: r, b => x.e = e ∧ x.s = a ∧ ((x.k = 1 ∧ P a x.v ∧ qch e P (a + 1) r b) ∨ (x.k = 2 ∧ a ≤ x.l ∧ qch e P (x.l + 1) r b))
theorem qch_app {e : Int} {P : Int → Int → Prop} : ∀ {l m : List Ev} {a b d : Int}, qch e P a l b → qch e P b m d → qch e P a (l ++ m) d
  | [], m, a, b, d, h, h2 => by
    simp only [qch] at h
    subst h
    exact h2
  | x :: r, m, a, b, d, h, h2 => by
    obtain ⟨h3, h4, h5⟩ := h
    refine ⟨h3, h4, ?_⟩
    rcases h5 with ⟨k1, k2, k3⟩ | ⟨k1, k2, k3⟩
    · exact .inl ⟨k1, k2, qch_app k3 h2⟩
    · exact .inr ⟨k1, k2, qch_app k3 h2⟩
theorem qch_last {e : Int} {P : Int → Int → Prop} {y : Ev} (hy : y.k = 2) : ∀ {m : List Ev} {a b : Int}, qch e P a (m ++ [y]) b → y.e = e ∧ y.l + 1 = b ∧ ∀ l', y.l ≤ l' → qch e P a (m ++ [{ y with l := l' }]) (l' + 1)
  | [], a, b, h => by
    obtain ⟨h3, h4, h5⟩ := h
    rcases h5 with ⟨k1, k2, k3⟩ | ⟨k1, k2, k3⟩
    · omega
    · simp only [qch] at k3
      exact ⟨h3, k3, fun l' hl => ⟨h3, h4, .inr ⟨k1, by show a ≤ l'; omega, rfl⟩⟩⟩
  | x :: r, a, b, h => by
    obtain ⟨h3, h4, h5⟩ := h
    rcases h5 with ⟨k1, k2, k3⟩ | ⟨k1, k2, k3⟩
    · obtain ⟨g1, g2, g3⟩ := qch_last hy k3
      exact ⟨g1, g2, fun l' hl => ⟨h3, h4, .inl ⟨k1, k2, g3 l' hl⟩⟩⟩
    · obtain ⟨g1, g2, g3⟩ := qch_last hy k3
      exact ⟨g1, g2, fun l' hl => ⟨h3, h4, .inr ⟨k1, k2, g3 l' hl⟩⟩⟩
theorem fit_ch {e : Int} {P : Int → Int → Prop} {q : List Ev} {n a b b' : Int} {x : Ev} (hq : qOK q n = true) (hx : evOK x = true) (hc : qch e P a q b) (hxe : x.e = e) (hxs : x.s = b) (hk : (x.k = 1 ∧ P b x.v ∧ b' = b + 1) ∨ (x.k = 2 ∧ b ≤ x.l ∧ b' = x.l + 1)) : qch e P a (fitE q n x) b' := by
  have hq0 := hq
  simp only [qOK, Bool.and_eq_true, Bool.or_eq_true, Bool.not_eq_true', decide_eq_true_eq, decide_eq_false_iff_not] at hq
  obtain ⟨⟨⟨⟨h1, h2⟩, h3⟩, h4⟩, h5⟩ := hq
  have hg : ∃ g, gapE x = some g ∧ g.k = 2 ∧ g.e = e ∧ g.s = b ∧ b ≤ g.l ∧ b' = g.l + 1 := by
    rcases hk with ⟨k1, k2, k3⟩ | ⟨k1, k2, k3⟩
    · exact ⟨⟨2, x.e, x.s, x.s, 0, 0⟩, by simp [gapE, k1], rfl, hxe, hxs, by show b ≤ x.s; omega, by show b' = x.s + 1; omega⟩
    · exact ⟨x, by simp [gapE, k1], k1, hxe, hxs, k2, k3⟩
  obtain ⟨g, hg, g1, g2, g3, g4, g5⟩ := hg
  unfold fitE
  by_cases c1 : (q.length : Int) < n - 1
  · rw [show putE q n x = (0, q ++ [x]) by simp only [putE, hq0, hx, Bool.and_self, if_true, if_pos c1]]
    refine qch_app hc ⟨hxe, hxs, ?_⟩
    rcases hk with ⟨k1, k2, k3⟩ | ⟨k1, k2, k3⟩
    · exact .inl ⟨k1, k2, k3.symm⟩
    · exact .inr ⟨k1, k2, k3.symm⟩
  by_cases c2 : (q.length : Int) < n
  · rw [show putE q n x = (0, q ++ [g]) by simp only [putE, hq0, hx, hg, Bool.and_self, if_true, if_neg c1, if_pos c2]]
    exact qch_app hc ⟨g2, g3, .inr ⟨g1, g4, g5.symm⟩⟩
  · have hlen : (q.length : Int) = n := by omega
    have hne : q ≠ [] := fun e => by subst e; simp at hlen; omega
    obtain ⟨m, y, rfl⟩ : ∃ m y, q = m ++ [y] := ⟨q.dropLast, q.getLast hne, (List.dropLast_concat_getLast hne).symm⟩
    have c1' : ¬ ((m.length : Int) + 1 < n - 1) := by simp at hlen; omega
    have c2' : ¬ ((m.length : Int) + 1 < n) := by simp at hlen; omega
    have hy : y.k = 2 := by
      rcases h5 with h | h
      · exact absurd hlen h
      · rwa [lastK_app] at h
    obtain ⟨k1, k2, k3⟩ := qch_last hy hc
    have c3 : g.e = y.e ∧ g.s = y.l + 1 := ⟨by rw [g2, k1], by omega⟩
    rw [show putE (m ++ [y]) n x = (0, (m ++ [y]).dropLast ++ [{ y with l := g.l }]) by simp [putE, hq0, hx, hg, c1', c2', c3]]
    simp only [List.dropLast_concat, if_true]
    rw [g5]
    exact k3 g.l (by omega)
theorem takeR_ch {c : Cf} {e : Int} {P : Int → Int → Prop} {W win a : Int} : ∀ {ah : List It} {s : Sm} {q : List Ev} {on : List It} {x : It}, x.s = s.w → 1 ≤ s.w ∧ s.w ≤ 1073741823 → inB x.v 0 2147483647 = true → risB W win (some s.w) ah = true → epOK e = true → s.e = e → qOK q c.q = true → P x.s x.v → (∀ y ∈ ah, P y.s y.v) → qch e P a q s.w →
    qch e P a (takeR c true ah s q on x).2.1 (takeR c true ah s q on x).1.w
  | [], s, q, on, x, hx, hw, hv, hr, he, hse, hq, hp, ha, hc => by
    subst hse
    exact fit_ch hq (evOK_data he (by omega) hv) hc rfl hx (.inl ⟨rfl, by rw [← hx]; exact hp, rfl⟩)
  | y :: r, s, q, on, x, hx, hw, hv, hr, he, hse, hq, hp, ha, hc => by
    obtain ⟨r1, r2, r3, r4⟩ := ris_p hr
    have hse' := hse
    subst hse
    have hc2 : qch s.e P a (rQ c s true q x) (s.w + 1) := fit_ch hq (evOK_data he (by omega) hv) hc rfl hx (.inl ⟨rfl, by rw [← hx]; exact hp, rfl⟩)
    have hq2 : qOK (rQ c s true q x) c.q = true := q_fit hq (evOK_data he (by omega) hv)
    rw [takeR]
    by_cases h : y.s = s.w + 1
    · rw [if_pos h]
      rw [h] at r4
      exact takeR_ch h (by show 1 ≤ s.w + 1 ∧ s.w + 1 ≤ _; omega) r3 r4 he rfl hq2 (ha y (by simp)) (fun z hz => ha z (by simp [hz])) hc2
    · rw [if_neg h]
      exact hc2
end Go.Proofs.YtdflglehippoiaaGreatDoor.FA
namespace Go.Proofs.YtdflglehippoiaaGreatDoor.FA
open Go Go.Proofs.YtdflglehippoiaaGreatDoorR IG
open QA (Ev eE aE rE inB epOK evOK qOK putE n01 gapE lastK)
open AA (It eT aT rT ahOK addA addR leftL wi wm takeT allT take_s hR pre cP risB fitsB left_s ins)
open EC (Cf eC okC)
set_option maxRecDepth 100000
theorem ins_ris {w win : Int} {x : It} (hf : fitsB x.s w win = true) (hv : inB x.v 0 2147483647 = true) : ∀ {l m : List It} {p : Option Int}, risB w win p l = true → (∀ q, p = some q → q < x.s) → ins x l = some m → risB w win p m = true ∧ ∀ y ∈ m, y = x ∨ y ∈ l
  | [], m, p, h, hp, hi => by
    cases hi
    refine ⟨?_, fun y hy => .inl (by simpa using hy)⟩
    cases p with
    | none => simp [risB, hf]; exact hv
    | some q => simp [risB, hf, hp q rfl]; exact hv
  | y :: r, m, p, h, hp, hi => by
    unfold ins at hi
    split at hi
    · split at hi
      · cases hi
      · rename_i h1 h2
        cases hi
        have hy : risB w win (some x.s) (y :: r) = true := by
          have h3 : decide (x.s < y.s) = true := by simp; omega
          cases p <;> simp only [risB, Bool.and_eq_true] at h ⊢
          · exact ⟨⟨h.1.1, h3⟩, h.2⟩
          · exact ⟨⟨h.1.1, h3⟩, h.2⟩
        refine ⟨?_, fun z hz => by simpa using hz⟩
        cases p with
        | none => simp only [risB, hf, Bool.and_eq_true]; exact ⟨⟨⟨trivial, hv⟩, trivial⟩, by simpa [risB] using hy⟩
        | some q =>
          have := hp q rfl
          simp only [risB, hf, Bool.and_eq_true, decide_eq_true_eq]; exact ⟨⟨⟨trivial, hv⟩, this⟩, by simpa [risB] using hy⟩
    · rename_i h1
      rw [Option.map_eq_some_iff] at hi
      obtain ⟨m', h2, rfl⟩ := hi
      have hr : risB w win (some y.s) r = true := by cases p <;> simp only [risB, Bool.and_eq_true] at h <;> exact h.2
      obtain ⟨g1, g2⟩ := ins_ris hf hv hr (fun q hq => by cases hq; omega) h2
      refine ⟨?_, fun z hz => ?_⟩
      · cases p <;> simp only [risB, Bool.and_eq_true] at h ⊢
        · exact ⟨h.1, g1⟩
        · exact ⟨h.1, g1⟩
      · rcases List.mem_cons.1 hz with rfl | hz
        · exact .inr (by simp)
        · rcases g2 z hz with h | h
          · exact .inl h
          · exact .inr (by simp [h])
theorem addA_ok {l : List It} {w win : Int} {x : It} (h : ahOK l w win = true) : (addA l w win x).2 = 0 → ahOK (addA l w win x).1 w win = true ∧ ∀ y ∈ (addA l w win x).1, y = x ∨ y ∈ l := by
  unfold addA
  split
  · intro h; cases h
  · rename_i h1
    split
    · intro h; cases h
    · rename_i h2
      have h1 : ahOK l w win = true ∧ AA.inB x.v 0 2147483647 = true := by simpa using h1
      have h2 : fitsB x.s w win = true := by simpa using h2
      split
      · intro h; cases h
      · rename_i m hm
        intro _
        simp only [ahOK, Bool.and_eq_true] at h ⊢
        obtain ⟨g1, g2⟩ := ins_ris h2 h1.2 h.2 (fun q hq => by cases hq) hm
        exact ⟨⟨h.1, g1⟩, g2⟩
theorem right_of {c : Cf} {s : Sm} (h1 : epOK s.e = true) (h2 : 1 ≤ s.w ∧ s.w ≤ 1073741824) (h3 : s.w ≤ s.kn) (h4 : s.kn ≤ 1073741824) (h5 : kpOK s.kp s.w c.p = true) (h6 : ahOK s.ah s.w c.w = true) : rightB c s = true := by
  have : inB s.w 1 1073741824 = true := by simp [inB]; omega
  simp [rightB, h1, this, h3, h4, h5, h6]
theorem right_kn {c : Cf} {s : Sm} (h : rightB c s = true) (he : epOK s.e = true) : s.w ≤ s.kn ∧ s.kn ≤ 1073741824 ∧ 1 ≤ s.w ∧ s.w ≤ 1073741824 := by
  have h1 := right_t h
  have h2 := right_e h he
  exact ⟨h1.2.2.2.2.1, h1.2.2.2.2.2.1, h2.2.2, h1.2.2.2.1⟩
theorem item_same {c : Cf} {s : Sm} {sub : Bool} {q : List Ev} {x : It} {P : Int → Int → Prop} (h0 : flowC c s q = 0) (he : epOK s.e = true) (hx : inB x.s 1 1073741823 = true) (hv : inB x.v 0 2147483647 = true) (hP : P x.s x.v) (hA : ∀ y ∈ s.ah, P y.s y.v) :
    flowC c (itemG c s sub q false x).1 (itemG c s sub q false x).2.1 = 0 ∧ (itemG c s sub q false x).1.e = s.e ∧ s.w ≤ (itemG c s sub q false x).1.w ∧ s.kn ≤ (itemG c s sub q false x).1.kn ∧ (x.s ≥ (itemG c s sub q false x).1.w → (itemG c s sub q false x).1.kn > (itemG c s sub q false x).1.w) ∧
      seqP P s.w (itemG c s sub q false x).2.2 (itemG c s sub q false x).1.w ∧ (∀ y ∈ (itemG c s sub q false x).1.ah, P y.s y.v) ∧ (sub = false → (itemG c s sub q false x).2.1 = q) ∧ (sub = true → ∀ a, qch s.e P a q s.w → qch s.e P a (itemG c s sub q false x).2.1 (itemG c s sub q false x).1.w) ∧
      (x.s > s.w → (itemG c s sub q false x).1.w = s.w ∧ (itemG c s sub q false x).2.2 = []) ∧ (x.s = s.w → s.w + 1 ≤ (itemG c s sub q false x).1.w) := by
  obtain ⟨k1, k2, k3⟩ := flow_t h0
  have k6 : 1 ≤ x.s ∧ x.s ≤ 1073741823 := by simpa [inB] using hx
  obtain ⟨r1, r2, r3⟩ := right_e k2 he
  obtain ⟨n1, n2, n3, n4⟩ := right_kn k2 he
  have hah := right_ah k2
  have hris : risB s.w c.w none s.ah = true := by simp only [ahOK, Bool.and_eq_true] at r2; exact r2.2
  have hwin : AA.inB c.w 1 16 = true := by simp only [ahOK, Bool.and_eq_true] at r2; exact r2.1.2
  unfold itemG
  by_cases g1 : x.s < s.w
  · rw [if_pos (by simp [g1])]
    exact ⟨h0, rfl, Int.le_refl _, Int.le_refl _, fun h => by have : x.s ≥ s.w := h; omega, rfl, hA, fun _ => rfl, fun _ a h => h, fun h => by omega, fun h => by omega⟩
  rw [if_neg (by simpa using g1)]
  by_cases g2 : x.s = s.w
  · rw [if_pos g2]
    rw [one_more r1 hv (by omega) (fun y hy => by have := hah y hy; exact ⟨this.2.2, this.1, by omega⟩)]
    have hri := ris_none hris
    obtain ⟨a1, a2, a3, a4, a5, a6, a7, a8, a9⟩ := takeR_right (c := c) (sub := sub) (q := q) (on := []) (x := (⟨s.w, x.v⟩ : It)) rfl ⟨r3, by omega⟩ r1 hv n2 hri (Int.le_refl _)
    have b1 := takeR_q (c := c) (sub := sub) (q := q) (on := []) (x := (⟨s.w, x.v⟩ : It)) rfl ⟨r3, by omega⟩ hv hri he k3
    obtain ⟨L, b2, b3⟩ := takeR_on (c := c) (sub := sub) (P := P) (q := q) (on := []) (ah := s.ah) (s := s) (x := (⟨s.w, x.v⟩ : It)) rfl (by rw [g2] at hP; exact hP) hA
    have hre : rightB c (takeR c sub s.ah s q [] ⟨s.w, x.v⟩).1 = true := right_of (by rw [a1]; exact he) ⟨by omega, a3⟩ a4 a5 a7 (by
      simp only [ahOK, Bool.and_eq_true]
      exact ⟨⟨by simp [AA.inB]; omega, hwin⟩, a8⟩)
    refine ⟨flow_of k1 hre b1, a1, by omega, a6, fun h => by omega, by rw [b2, List.nil_append]; exact b3, fun y hy => hA y (a9 y hy), fun hsub => ?_, fun hsub a hc => ?_, fun h => by omega, fun _ => a2⟩
    · subst hsub; exact takeR_quiet
    · subst hsub
      exact takeR_ch rfl ⟨r3, by omega⟩ hv hri he rfl k3 (by rw [g2] at hP; exact hP) hA hc
  · rw [if_neg g2]
    have hkn : (if x.s + 1 > s.kn then x.s + 1 else s.kn) ≤ 1073741824 := by split <;> omega
    have hkn2 : s.kn ≤ (if x.s + 1 > s.kn then x.s + 1 else s.kn) := by split <;> omega
    have hkn3 : x.s + 1 ≤ (if x.s + 1 > s.kn then x.s + 1 else s.kn) := by split <;> omega
    have hadd := addA_ok (x := x) r2
    have ha : ahOK (if (addA s.ah s.w c.w x).2 = 0 then (addA s.ah s.w c.w x).1 else s.ah) s.w c.w = true ∧ ∀ y ∈ (if (addA s.ah s.w c.w x).2 = 0 then (addA s.ah s.w c.w x).1 else s.ah), P y.s y.v := by
      split
      · rename_i h
        refine ⟨(hadd h).1, fun y hy => ?_⟩
        rcases (hadd h).2 y hy with rfl | h
        · exact hP
        · exact hA y h
      · exact ⟨r2, hA⟩
    refine ⟨flow_of k1 (right_of he ⟨r3, n4⟩ (by show s.w ≤ (if x.s + 1 > s.kn then x.s + 1 else s.kn); omega) hkn r1 ha.1) k3, rfl, Int.le_refl _, hkn2, fun h => ?_, rfl, ha.2, fun _ => rfl, fun _ a h => h, fun _ => ⟨rfl, rfl⟩, fun h => absurd h g2⟩
    show (if x.s + 1 > s.kn then x.s + 1 else s.kn) > s.w
    omega
end Go.Proofs.YtdflglehippoiaaGreatDoor.FA
namespace Go.Proofs.YtdflglehippoiaaGreatDoor.GA
open Go Go.Proofs.YtdflglehippoiaaGreatDoorR IG
open QA (Ev eE aE rE epOK evOK qOK putE n01)
open AA (It eT aT rT wi takeT allT ahOK)
open EC (Cf eC okC)
open FA (Sm eS aS s0 smL flowC rightB heavyB heavy_t itemP itemG fA gA flow_t flow_of right_t q_t kpOK kRow)
open KA (Kd eK aK rK nr okT okN kOK inB gap takeK all3)
set_option maxRecDepth 100000
set_option maxHeartbeats 4000000
theorem item_at' {c : Cf} {s : Sm} {sub : Bool} {q : List Ev} {x : It} (h0 : flowC c s q = 0) (he : epOK s.e = true) (hx : QA.inB x.s 1 1073741823 = true) (hv : QA.inB x.v 0 2147483647 = true) : itemP c s sub q s.e x = (itemG c s sub q false x, 0) := by
  have h1 : ¬ s.e > s.e := by omega
  have h2 : decide (s.e < s.e) = false := by simp
  simp only [itemP, h0, he, hx, hv, if_neg h1, h2, Bool.and_self, if_true]
theorem nx_ep {n top : Int} (hn : okN n = true) (ht : 0 ≤ top ∧ top ≤ 1073741824) (h : nxE n top ≠ 0) : epOK (nxE n top) = true ∧ (nxE n top).tmod 16 = n := by
  have hb := KA.inB_t hn
  have hx := nx_b hn ht
  have h1 : top < nxE n top ∧ nxE n top ≤ 1073741824 := by omega
  have e1 : (nxE n top).tmod 16 = nxE n top % 16 := Int.tmod_eq_emod_of_nonneg (by omega)
  have e2 : top.tmod 16 = top % 16 := Int.tmod_eq_emod_of_nonneg ht.1
  have h2 : nxE n top % 16 = n := by
    unfold nxE at h ⊢
    dsimp only at h ⊢
    rw [e2] at h ⊢
    split
    · rename_i g; rw [if_pos g] at h; omega
    · split <;> omega
  refine ⟨?_, by omega⟩
  simp only [epOK, QA.inB, Bool.and_eq_true, decide_eq_true_eq]
  omega
theorem begun_flow {c : Cf} {s : Sm} {q : List Ev} {e : Int} (h : flowC c s q = 0) (he : epOK e = true) : flowC c ⟨e, 1, 1, [], []⟩ q = 0 := by
  obtain ⟨k1, k2, k3⟩ := flow_t h
  have kc := FA.okC_t k1
  refine flow_of k1 (FA.right_of he ⟨by show (1 : Int) ≤ 1; omega, by show (1 : Int) ≤ 1073741824; omega⟩ (Int.le_refl _) (by show (1 : Int) ≤ 1073741824; omega) ?_ ?_) k3
  · simp [kpOK, QA.inB, kRow]; omega
  · simp [ahOK, AA.inB, AA.risB]; omega
theorem bc_t {c : Cf} {t self : Int} {x : Tp} (h : grC c t self x = 0) (h2 : (bcG self x).2 = 0) : flowC c (bcG self x).1.s (bcG self x).1.q = 0 ∧ epOK (bcG self x).1.s.e = true ∧ (bcG self x).1.r = (bcG self x).1.s.e ∧ (bcG self x).1.ks = x.ks ∧ (bcG self x).1.b = x.b := by
  obtain ⟨k1, k2, k3, k4, k5, k6, k7, k8, k9, k10, k11⟩ := gr_t h
  unfold bcG at h2 ⊢
  by_cases g1 : x.r ≠ 0 ∧ x.t = x.r
  · rw [if_pos g1]
    unfold rgtB at k6
    simp only [Bool.and_eq_true] at k6
    have k12 := k6.2.2.2.2.2.2.2.1
    unfold rtd at k12
    simp only [Bool.or_eq_true, Bool.and_eq_true, decide_eq_true_eq] at k12
    rcases k12 with h3 | h3
    · exact absurd h3 g1.1
    · exact ⟨k11, by rw [h3.2.2.2.2]; exact h3.1, h3.2.2.2.2.symm, rfl, rfl⟩
  · rw [if_neg g1] at h2 ⊢
    by_cases g2 : nxE self x.t = 0
    · rw [if_pos g2] at h2
      exact absurd h2 (by decide)
    · rw [if_neg g2]
      have he := (nx_ep k7 ⟨k9, k10⟩ g2).1
      exact ⟨begun_flow k11 he, he, rfl, rfl, rfl⟩
def acG (c : Cf) (t self : Int) (x : Tp) (v : Int) : (Tp × List Dm) × Int :=
  if (bcG self x).2 = 0 then
    if (bcG self x).1.s.w ≥ 1073741823 then ((x0, []), 11)
    else
      (({ (bcG self x).1 with s := (itemG c (bcG self x).1.s (bcG self x).1.b (bcG self x).1.q false ⟨(bcG self x).1.s.w, v⟩).1, q := (itemG c (bcG self x).1.s (bcG self x).1.b (bcG self x).1.q false ⟨(bcG self x).1.s.w, v⟩).2.1 },
        dsL t (itemG c (bcG self x).1.s (bcG self x).1.b (bcG self x).1.q false ⟨(bcG self x).1.s.w, v⟩).1.e (bcG self x).1.ks (itemG c (bcG self x).1.s (bcG self x).1.b (bcG self x).1.q false ⟨(bcG self x).1.s.w, v⟩).2.2), 0)
  else ((x0, []), (bcG self x).2)
def acP (c : Cf) (t self : Int) (x : Tp) (v : Int) : (Tp × List Dm) × Int :=
  if grC c t self x = 0 then (if QA.inB v 0 2147483647 then acG c t self x v else ((x0, []), 1)) else ((x0, []), grC c t self x)
abbrev aA (r : (Tp × List Dm) × Int) : S := .tup [aX r.1.1, .one (rD r.1.2), iV r.2]
theorem e22 (N d : Nat) (hN : 1000 ≤ N) (c : Cf) (t self : Int) (x : Tp) (v : Int) (hx : smX x) : ans (TT N (d + 17) 22 [.agg (eC c), iV t, iV self, aX x, iV v]) = some (aA (acP c t self x v)) := by
  have h1 := fun d => e18 N d hN c t self x hx
  have h2 := fun d => e15 N d hN c t self x hx
  have h3 := fun d => QA.e56 N d v
  rw [t22, F_ev rfl]
  unfold acP
  by_cases g0 : grC c t self x = 0
  rotate_left
  · rw [if_neg g0]
    have g0' : decide (grC c t self x = 0) = false := decide_eq_false g0
    simp only [h1, g0', j22, b22, q22, qq, ww, List.replicate, Nat.reduceBEq, Nat.reduceAdd, Nat.reduceMul, Nat.reduceDiv, Nat.reduceEqDiff, Nat.reduceLeDiff, Nat.reduceLT, Int.reduceEq, Int.reduceNe, Int.reduceLT, Int.reduceLE, Int.reduceAdd, Int.reduceSub, Int.reduceMul, Int.reduceNeg, Int.reduceToNat, reduceCtorEq, reduceIte, if_true, if_false]
    try rfl
  rw [if_pos g0]
  have hb : bcP c t self x = bcG self x := by unfold bcP; rw [if_pos g0]
  have hT := bc_t g0
  rw [g0] at h1
  rw [hb] at h2
  cases g1 : QA.inB v 0 2147483647 with
  | false =>
    rw [if_neg (by decide)]
    simp only [h1, h3, g1, j22, b22, q22, qq, ww, List.replicate, Nat.reduceBEq, Nat.reduceAdd, Nat.reduceMul, Nat.reduceDiv, Nat.reduceEqDiff, Nat.reduceLeDiff, Nat.reduceLT, Int.reduceEq, Int.reduceNe, Int.reduceLT, Int.reduceLE, Int.reduceAdd, Int.reduceSub, Int.reduceMul, Int.reduceNeg, Int.reduceToNat, reduceCtorEq, reduceIte, if_true, if_false]
    try rfl
  | true =>
  rw [if_pos rfl]
  unfold acG
  by_cases g2 : (bcG self x).2 = 0
  rotate_left
  · rw [if_neg g2]
    have g2' : decide ((bcG self x).2 = 0) = false := decide_eq_false g2
    simp only [h1, h2, h3, g1, g2', j22, b22, q22, qq, ww, List.replicate, Nat.reduceBEq, Nat.reduceAdd, Nat.reduceMul, Nat.reduceDiv, Nat.reduceEqDiff, Nat.reduceLeDiff, Nat.reduceLT, Int.reduceEq, Int.reduceNe, Int.reduceLT, Int.reduceLE, Int.reduceAdd, Int.reduceSub, Int.reduceMul, Int.reduceNeg, Int.reduceToNat, reduceCtorEq, reduceIte, if_true, if_false]
    try rfl
  rw [if_pos g2]
  obtain ⟨f1, f2, f3, f4, f5⟩ := hT g2
  rw [g2] at h2
  generalize (bcG self x).1 = y at *
  by_cases g3 : y.s.w ≥ 1073741823
  · rw [if_pos g3]
    simp only [h1, h2, h3, g1, decide_eq_true g3, j22, b22, q22, qq, ww, List.replicate, Nat.reduceBEq, Nat.reduceAdd, Nat.reduceMul, Nat.reduceDiv, Nat.reduceEqDiff, Nat.reduceLeDiff, Nat.reduceLT, Int.reduceEq, Int.reduceNe, Int.reduceLT, Int.reduceLE, Int.reduceAdd, Int.reduceSub, Int.reduceMul, Int.reduceNeg, Int.reduceToNat, reduceCtorEq, reduceIte, if_true, if_false]
    try rfl
  rw [if_neg g3]
  obtain ⟨k1, k2, k3⟩ := flow_t f1
  have k4 := right_t k2
  have k5 := q_t k3
  have k6 := (FA.right_e k2 f2).2.2
  have hi := fun d => FA.e57 N d hN c y.s y.b y.q y.s.e ⟨y.s.w, v⟩ ⟨by omega, by omega⟩ (by omega)
  rw [item_at' f1 f2 (by simp [QA.inB]; omega) g1] at hi
  have hlen := FA.itemG_len (c := c) (s := y.s) (sub := y.b) (q := y.q) (old := false) (x := ⟨y.s.w, v⟩) ⟨by omega, by omega⟩ (by omega)
  generalize itemG c y.s y.b y.q false ⟨y.s.w, v⟩ = G at *
  obtain ⟨s', q', on⟩ := G
  dsimp only at hlen hi ⊢
  have hH := fun d => e58 N d hN t { y with s := s', q := q' } on (by show y.ks.length < 900; rw [f4]; exact hx.2.1) (by omega)
  dsimp only at hH
  simp only [f3] at hH
  simp only [h1, h2, h3, g1, decide_eq_false g3, f3, hi, fA, hH, j22, b22, q22, qq, ww, List.replicate, Nat.reduceBEq, Nat.reduceAdd, Nat.reduceMul, Nat.reduceDiv, Nat.reduceEqDiff, Nat.reduceLeDiff, Nat.reduceLT, Int.reduceEq, Int.reduceNe, Int.reduceLT, Int.reduceLE, Int.reduceAdd, Int.reduceSub, Int.reduceMul, Int.reduceNeg, Int.reduceToNat, reduceCtorEq, reduceIte, if_true, if_false]
  try rfl
end Go.Proofs.YtdflglehippoiaaGreatDoor.GA
namespace Go.Proofs.YtdflglehippoiaaGreatDoor.EC
open Go Go.Proofs.YtdflglehippoiaaGreatDoorR IG EA
set_option maxRecDepth 100000
set_option maxHeartbeats 4000000
end Go.Proofs.YtdflglehippoiaaGreatDoor.EC
namespace Go.Proofs.YtdflglehippoiaaGreatDoor.FA
open Go Go.Proofs.YtdflglehippoiaaGreatDoorR IG
open QA (Ev eE aE rE inB epOK evOK qOK putE n01 gapE lastK)
open AA (It eT aT rT ahOK addA addR leftL wi wm takeT allT take_s hR pre cP risB fitsB left_s ins)
open EC (Cf eC okC)
set_option maxRecDepth 100000
theorem umodF (z m : Int) (hm : 0 < m) (hm2 : m ≤ 4611686018427387904) : 0 ≤ IntKind.i64.wrap ((IntKind.u64.wrap z).tmod m) ∧ IntKind.i64.wrap ((IntKind.u64.wrap z).tmod m) < m := by
  have h : 0 ≤ IntKind.u64.wrap z := by
    simp [IntKind.wrap, IntKind.signed, IntKind.bits]
    omega
  have h1 := Int.tmod_nonneg m h
  have h2 := Int.tmod_lt_of_pos (IntKind.u64.wrap z) hm
  rw [IntWalk.i64_in _ (by omega)]
  exact ⟨h1, h2⟩
end Go.Proofs.YtdflglehippoiaaGreatDoor.FA
namespace Go.Proofs.YtdflglehippoiaaGreatDoor.GA
open Go Go.Proofs.YtdflglehippoiaaGreatDoorR IG
open QA (Ev eE aE rE epOK evOK qOK putE n01)
open AA (It eT aT rT wi takeT allT ahOK)
open EC (Cf eC okC)
open FA (Sm eS aS s0 smL flowC rightB heavyB heavy_t itemP itemG fA gA flow_t flow_of right_t q_t kpOK kRow)
open KA (Kd eK aK rK nr okT okN kOK inB gap takeK all3)
set_option maxRecDepth 100000
set_option maxHeartbeats 8000000
theorem w20 : TT 1000 19 16 [] = some (bV true, []) := by kernel_rfl
theorem bc_sm {self : Int} {x : Tp} (h : smX x) : smX (bcG self x).1 := by
  unfold bcG
  split
  · exact h
  · split
    · simp [smX, smL]
    · exact ⟨by simp, h.2.1, ⟨by simp, by simp⟩, h.2.2.2⟩
end Go.Proofs.YtdflglehippoiaaGreatDoor.GA
set_option maxRecDepth 100000
namespace Go.Proofs.YtdflglehippoiaaGreatDoor.L8
open Go Go.Proofs.YtdflglehippoiaaGreatDoorR
def j5 : C := (.seq (.region [⟨some 4, .mov (.c (.bool false)), none, [], []⟩] false)
 (.seq (.seq (.region [⟨some 18, .mov (.t 1), none, [], []⟩,
  ⟨some 19, .len (.t 18), none, [], []⟩,
  ⟨some 20, .bin .gtr (.t 19) (.c (.int .i64 40)), none, [], []⟩] false)
 (.cond (.t 20) (.seq (.region [⟨some 4, .mov (.c (.bool true)), none, [], []⟩] false)
 .ret) .skip))
 (.seq (.region [⟨some 21, .mov (.t 0), none, [], []⟩,
  ⟨some 22, .conv .u64 (.t 21), none, [], []⟩,
  ⟨some 23, .bin .rem (.t 22) (.c (.int .u64 8)), none, [], []⟩,
  ⟨some 24, .conv .i64 (.t 23), none, [], []⟩,
  ⟨some 0, .mov (.t 24), none, [], []⟩] false)
 (.seq (.region [⟨some 25, .call false 23 [], none, [], []⟩,
  ⟨some 5, .alloc [.int .i64 0, .int .i64 0, .int .i64 0, .int .i64 0, .int .i64 0, .int .i64 0, .int .i64 0], none, [], []⟩,
  ⟨none, .store none 7 (.t 5) (.t 25), none, [], []⟩] false)
 (.seq (.region [⟨some 6, .alloc [.bool false, .bool false, .int .i64 0, .int .i64 0, .int .i64 0, .int .i64 0, .int .i64 0, .int .i64 0, .row [], .row [], .int .i64 0, .int .i64 0, .int .i64 0, .row [], .row [], .row []], none, [], []⟩] false)
 (.seq (.region [⟨some 7, .mov (.c (.int .i64 0)), none, [], []⟩] false)
 (.seq (.seq (.region [⟨some 8, .mov (.c (.int .i64 0)), none, [], []⟩] false)
 (.block 0 (.loop (.keep [0, 1, 5, 6, 7, 8] (.seq (.seq (.region [⟨some 26, .mov (.t 8), none, [], []⟩,
  ⟨some 27, .mov (.t 1), none, [], []⟩,
  ⟨some 28, .len (.t 27), none, [], []⟩,
  ⟨some 29, .bin .lss (.t 26) (.t 28), none, [], []⟩] false)
 (.cond (.t 29) .skip (.exit 0)))
 (.seq (.block 1 (.seq (.region [⟨some 33, .load true 7 (.t 5), none, [], []⟩,
  ⟨some 34, .mov (.t 0), none, [], []⟩,
  ⟨some 35, .load true 16 (.t 6), none, [], []⟩,
  ⟨some 36, .call false 15 [(.t 33), (.c (.int .i64 1)), (.t 34), (.t 35)], none, [], []⟩,
  ⟨some 32, .mov (.t 36), none, [], []⟩,
  ⟨some 37, .ext (.t 32) 0, none, [], []⟩,
  ⟨some 38, .ext (.t 32) 1, none, [], []⟩,
  ⟨some 9, .alloc [.bool false, .bool false, .int .i64 0, .int .i64 0, .int .i64 0, .int .i64 0, .int .i64 0, .int .i64 0, .row [], .row [], .int .i64 0, .int .i64 0, .int .i64 0, .row [], .row [], .row []], none, [], []⟩,
  ⟨none, .store none 16 (.t 9) (.t 37), none, [], []⟩,
  ⟨some 10, .mov (.t 38), none, [], []⟩] false)
 (.seq (.seq (.region [⟨some 39, .mov (.t 10), none, [], []⟩,
  ⟨some 40, .bin .neq (.t 39) (.c (.int .i64 0)), none, [], []⟩,
  ⟨some 41, .mov (.t 40), none, [], []⟩,
  ⟨some 42, .fad 3 (.t 9), some (41, false), [], []⟩,
  ⟨some 43, .load false 1 (.t 42), some (41, false), [], []⟩,
  ⟨some 44, .mov (.t 7), some (41, false), [], []⟩,
  ⟨some 45, .bin .leq (.t 43) (.t 44), some (41, false), [], []⟩,
  ⟨some 46, .mov (.t 45), some (41, false), [], []⟩,
  ⟨some 47, .fad 3 (.t 9), some (46, true), [], []⟩,
  ⟨some 48, .load false 1 (.t 47), some (46, true), [], []⟩,
  ⟨some 49, .fad 3 (.t 6), some (46, true), [], []⟩,
  ⟨some 50, .load false 1 (.t 49), some (46, true), [], []⟩,
  ⟨some 51, .bin .neq (.t 48) (.t 50), some (46, true), [], []⟩,
  ⟨some 52, .pick (.t 46) (.t 51) (.c (.bool false)), some (41, false), [], []⟩,
  ⟨some 53, .pick (.t 41) (.c (.bool true)) (.t 52), none, [], []⟩,
  ⟨some 54, .mov (.t 53), none, [], []⟩,
  ⟨some 55, .fad 3 (.t 9), some (54, false), [], []⟩,
  ⟨some 56, .load false 1 (.t 55), some (54, false), [], []⟩,
  ⟨some 57, .fad 2 (.t 9), some (54, false), [], []⟩,
  ⟨some 58, .load false 1 (.t 57), some (54, false), [], []⟩,
  ⟨some 59, .bin .neq (.t 56) (.t 58), some (54, false), [], []⟩,
  ⟨some 60, .pick (.t 54) (.c (.bool true)) (.t 59), none, [], []⟩] false)
 (.cond (.t 60) (.seq (.region [⟨some 4, .mov (.c (.bool false)), none, [], []⟩] false)
 .ret) .skip))
 (.seq (.region [⟨some 62, .load true 7 (.t 5), none, [], []⟩,
  ⟨some 63, .mov (.t 0), none, [], []⟩,
  ⟨some 64, .load true 16 (.t 9), none, [], []⟩,
  ⟨some 65, .mov (.t 8), none, [], []⟩,
  ⟨some 66, .call false 22 [(.t 62), (.c (.int .i64 1)), (.t 63), (.t 64), (.t 65)], none, [], []⟩,
  ⟨some 61, .mov (.t 66), none, [], []⟩,
  ⟨some 67, .ext (.t 61) 0, none, [], []⟩,
  ⟨some 68, .ext (.t 61) 1, none, [], []⟩,
  ⟨some 69, .ext (.t 61) 2, none, [], []⟩,
  ⟨some 11, .alloc [.bool false, .bool false, .int .i64 0, .int .i64 0, .int .i64 0, .int .i64 0, .int .i64 0, .int .i64 0, .row [], .row [], .int .i64 0, .int .i64 0, .int .i64 0, .row [], .row [], .row []], none, [], []⟩,
  ⟨none, .store none 16 (.t 11) (.t 67), none, [], []⟩,
  ⟨some 12, .mov (.t 68), none, [], []⟩,
  ⟨some 13, .mov (.t 69), none, [], []⟩] false)
 (.seq (.seq (.region [⟨some 70, .mov (.t 13), none, [], []⟩,
  ⟨some 71, .bin .neq (.t 70) (.c (.int .i64 0)), none, [], []⟩,
  ⟨some 72, .mov (.t 71), none, [], []⟩,
  ⟨some 73, .fad 3 (.t 11), some (72, false), [], []⟩,
  ⟨some 74, .load false 1 (.t 73), some (72, false), [], []⟩,
  ⟨some 75, .fad 3 (.t 9), some (72, false), [], []⟩,
  ⟨some 76, .load false 1 (.t 75), some (72, false), [], []⟩,
  ⟨some 77, .bin .neq (.t 74) (.t 76), some (72, false), [], []⟩,
  ⟨some 78, .pick (.t 72) (.c (.bool true)) (.t 77), none, [], []⟩,
  ⟨some 79, .mov (.t 78), none, [], []⟩,
  ⟨some 80, .fad 10 (.t 11), some (79, false), [], []⟩,
  ⟨some 81, .fad 1 (.t 80), some (79, false), [], []⟩,
  ⟨some 82, .load false 1 (.t 81), some (79, false), [], []⟩,
  ⟨some 83, .fad 10 (.t 9), some (79, false), [], []⟩,
  ⟨some 84, .fad 1 (.t 83), some (79, false), [], []⟩,
  ⟨some 85, .load false 1 (.t 84), some (79, false), [], []⟩,
  ⟨some 86, .bin .add (.t 85) (.c (.int .i64 1)), some (79, false), [], []⟩,
  ⟨some 87, .bin .neq (.t 82) (.t 86), some (79, false), [], []⟩,
  ⟨some 88, .pick (.t 79) (.c (.bool true)) (.t 87), none, [], []⟩] false)
 (.cond (.t 88) (.seq (.region [⟨some 4, .mov (.c (.bool false)), none, [], []⟩] false)
 .ret) .skip))
 (.seq (.region [⟨some 89, .fad 3 (.t 9), none, [91], []⟩,
  ⟨some 90, .load false 1 (.t 89), none, [91], [0]⟩,
  ⟨some 91, .load true 16 (.t 11), none, [7, 89, 90], []⟩,
  ⟨some 7, .mov (.t 90), none, [91], [0, 1]⟩,
  ⟨none, .store none 16 (.t 6) (.t 91), none, [], [0, 1, 2, 3]⟩] true)
 (.seq (.seq (.region [⟨some 92, .mov (.t 1), none, [], []⟩,
  ⟨some 93, .mov (.t 8), none, [], []⟩,
  ⟨some 94, .iad 1 (.t 92) (.t 93), none, [], []⟩,
  ⟨some 95, .load false 1 (.t 94), none, [], []⟩,
  ⟨some 96, .bin .rem (.t 95) (.c (.int .i64 2)), none, [], []⟩,
  ⟨some 97, .bin .eql (.t 96) (.c (.int .i64 0)), none, [], []⟩] false)
 (.cond (.t 97) (.seq (.region [⟨some 99, .load true 7 (.t 5), none, [], []⟩,
  ⟨some 100, .mov (.t 0), none, [], []⟩,
  ⟨some 101, .load true 16 (.t 11), none, [], []⟩,
  ⟨some 102, .call false 24 [(.t 99), (.c (.int .i64 1)), (.t 100), (.t 101)], none, [], []⟩,
  ⟨some 98, .mov (.t 102), none, [], []⟩,
  ⟨some 103, .ext (.t 98) 0, none, [], []⟩,
  ⟨some 104, .ext (.t 98) 1, none, [], []⟩,
  ⟨some 14, .alloc [.bool false, .bool false, .int .i64 0, .int .i64 0, .int .i64 0, .int .i64 0, .int .i64 0, .int .i64 0, .row [], .row [], .int .i64 0, .int .i64 0, .int .i64 0, .row [], .row [], .row []], none, [], []⟩,
  ⟨none, .store none 16 (.t 14) (.t 103), none, [], []⟩,
  ⟨some 15, .mov (.t 104), none, [], []⟩] false)
 (.seq (.seq (.region [⟨some 105, .mov (.t 15), none, [], []⟩,
  ⟨some 106, .bin .neq (.t 105) (.c (.int .i64 0)), none, [], []⟩,
  ⟨some 107, .mov (.t 106), none, [], []⟩,
  ⟨some 108, .fad 3 (.t 14), some (107, false), [], []⟩,
  ⟨some 109, .load false 1 (.t 108), some (107, false), [], []⟩,
  ⟨some 110, .bin .neq (.t 109) (.c (.int .i64 0)), some (107, false), [], []⟩,
  ⟨some 111, .pick (.t 107) (.c (.bool true)) (.t 110), none, [], []⟩,
  ⟨some 112, .mov (.t 111), none, [], []⟩,
  ⟨some 113, .fad 2 (.t 14), some (112, false), [], []⟩,
  ⟨some 114, .load false 1 (.t 113), some (112, false), [], []⟩,
  ⟨some 115, .fad 2 (.t 11), some (112, false), [], []⟩,
  ⟨some 116, .load false 1 (.t 115), some (112, false), [], []⟩,
  ⟨some 117, .bin .neq (.t 114) (.t 116), some (112, false), [], []⟩,
  ⟨some 118, .pick (.t 112) (.c (.bool true)) (.t 117), none, [], []⟩,
  ⟨some 119, .mov (.t 118), none, [], []⟩,
  ⟨some 120, .fad 10 (.t 14), some (119, false), [], []⟩,
  ⟨some 121, .load true 5 (.t 120), some (119, false), [], []⟩,
  ⟨some 122, .fad 10 (.t 11), some (119, false), [], []⟩,
  ⟨some 123, .load true 5 (.t 122), some (119, false), [], []⟩,
  ⟨some 124, .call false 25 [(.t 121), (.t 123)], some (119, false), [], []⟩,
  ⟨some 125, .un .not (.t 124), some (119, false), [], []⟩,
  ⟨some 126, .pick (.t 119) (.c (.bool true)) (.t 125), none, [], []⟩] false)
 (.cond (.t 126) (.seq (.region [⟨some 4, .mov (.c (.bool false)), none, [], []⟩] false)
 .ret) .skip))
 (.region [⟨some 127, .load true 16 (.t 14), none, [], []⟩,
  ⟨none, .store none 16 (.t 6) (.t 127), none, [], []⟩] false))) .skip))
 (.seq (.region [⟨some 128, .fad 2 (.t 6), none, [130, 131, 132, 133, 134, 135, 136], []⟩,
  ⟨some 129, .load false 1 (.t 128), none, [130, 131, 132, 133, 134, 135, 136], [0]⟩,
  ⟨some 130, .mov (.t 1), none, [128, 129, 131], []⟩,
  ⟨some 131, .mov (.t 8), none, [128, 129, 130], []⟩,
  ⟨some 132, .iad 1 (.t 130) (.t 131), none, [128, 129], [2, 3]⟩,
  ⟨some 133, .load false 1 (.t 132), none, [128, 129], [2, 3, 4]⟩,
  ⟨some 134, .conv .u64 (.t 133), none, [128, 129], [2, 3, 4, 5]⟩,
  ⟨some 135, .bin .rem (.t 134) (.c (.int .u64 50)), none, [128, 129], [2, 3, 4, 5, 6]⟩,
  ⟨some 136, .conv .i64 (.t 135), none, [128, 129], [2, 3, 4, 5, 6, 7]⟩,
  ⟨some 137, .bin .add (.t 129) (.t 136), none, [], [0, 1, 2, 3, 4, 5, 6, 7, 8]⟩,
  ⟨some 138, .fad 2 (.t 6), none, [], [0, 1, 2, 3, 4, 5, 6, 7, 8, 9]⟩,
  ⟨none, .store none 1 (.t 138) (.t 137), none, [], [0, 1, 2, 3, 4, 5, 6, 7, 8, 9, 10]⟩] true)
 (.seq (.region [⟨some 140, .mov (.t 7), none, [], []⟩,
  ⟨some 141, .call false 17 [(.t 140)], none, [], []⟩,
  ⟨some 139, .mov (.t 141), none, [], []⟩,
  ⟨some 142, .ext (.t 139) 0, none, [], []⟩,
  ⟨some 143, .ext (.t 139) 1, none, [], []⟩,
  ⟨some 16, .mov (.t 142), none, [], []⟩,
  ⟨some 17, .mov (.t 143), none, [], []⟩] false)
 (.seq (.region [⟨some 144, .mov (.t 17), none, [], []⟩,
  ⟨some 145, .bin .neq (.t 144) (.c (.int .i64 0)), none, [], []⟩,
  ⟨some 146, .mov (.t 145), none, [], []⟩,
  ⟨some 147, .mov (.t 16), some (146, false), [], []⟩,
  ⟨some 148, .mov (.t 0), some (146, false), [], []⟩,
  ⟨some 149, .bin .neq (.t 147) (.t 148), some (146, false), [], []⟩,
  ⟨some 150, .pick (.t 146) (.c (.bool true)) (.t 149), none, [], []⟩] false)
 (.cond (.t 150) (.seq (.region [⟨some 4, .mov (.c (.bool false)), none, [], []⟩] false)
 .ret) .skip)))))))))))
 (.region [⟨some 30, .mov (.t 8), none, [], []⟩,
  ⟨some 31, .bin .add (.t 30) (.c (.int .i64 1)), none, [], []⟩,
  ⟨some 8, .mov (.t 31), none, [], []⟩] false)))))))
 (.seq (.region [⟨some 151, .call false 16 [], none, [], []⟩,
  ⟨some 4, .mov (.t 151), none, [], []⟩] false)
 .ret))))))))
def i5 : F := ⟨2, 152, j5, [.t 4]⟩
theorem b5 : i5.body = j5 := rfl
theorem q5 : i5.res = [.t 4] := rfl
theorem c5 : chkF Tryz.prog Tryz.f5 i5 = true := by kernel_rfl
theorem s5 {m : Model} {E : Nat → Model} (hE : ∀ f, Sound Tryz.prog f (E f)) (hm : ∀ args r, m args = some r → ∃ N, i5.ev E N args = some r) : Sound Tryz.prog 5 m := sound_of i5 Tryz.func5 rfl c5 hE hm
def xt : List (Nat × Model) := []
def tb : List (Nat × F) := [(5, i5)]
theorem xt_ok : ∀ p ∈ xt, Sound Tryz.prog p.1 p.2 := all_nil
theorem tb_ok (N : Nat) : ∀ p ∈ tb, ∀ E : Nat → Model, (∀ f, Sound Tryz.prog f (E f)) → Sound Tryz.prog p.1 (p.2.ev E N) := all_cons (fun E hE => s5 hE fun _ _ h => ⟨N, h⟩) (all_nil)
abbrev TT (N : Nat) : Nat → Nat → Model := T1 (IG.TT N) 5 i5 N
theorem TT_ok (N d f : Nat) : Sound Tryz.prog f (TT N d f) := T1_ok (IG.TT_ok N) (fun E hE => s5 hE fun _ _ h => ⟨N, h⟩) d f
theorem t5 (N d : Nat) : TT N (d + 1) 5 = i5.ev (IG.TT N d) N := rfl
end Go.Proofs.YtdflglehippoiaaGreatDoor.L8
namespace Go.Proofs.YtdflglehippoiaaGreatDoor.GA
open Go Go.Proofs.YtdflglehippoiaaGreatDoorR IG
open QA (Ev eE aE rE epOK evOK qOK putE n01)
open AA (It eT aT rT wi takeT allT ahOK)
open EC (Cf eC okC)
open FA (Sm eS aS s0 smL flowC rightB heavyB heavy_t itemP itemG fA gA flow_t flow_of right_t q_t kpOK kRow umodF)
open KA (Kd eK aK rK nr okT okN kOK inB gap takeK all3)
open L8 (j5 i5 b5 q5)
set_option maxRecDepth 100000
set_option maxHeartbeats 8000000
def cF : Cf := ⟨8, 4, 2, 8, 8, 8, 16⟩
structure Bare (x : Tp) : Prop where
  (m : x.m = false) (b : x.b = false) (p : x.p = 0) (a : x.a = 0) (o : x.o = 0) (g : x.g = 0) (pa : x.pa = []) (ks : x.ks = []) (q : x.q = []) (ah : x.s.ah = []) (fl : flowC cF x.s [] = 0)
def Rt (self : Int) (x : Tp) : Prop := epOK x.r = true ∧ x.r.tmod 16 = self ∧ x.r ≤ x.t ∧ x.s.e = x.r
theorem gr_of {self : Int} {x : Tp} (hs : 0 ≤ self ∧ self < 8) (hb : Bare x) (ht : 0 ≤ x.t ∧ x.t ≤ 1073741824) (hr : x.r = 0 ∨ Rt self x) : grC cF 1 self x = 0 := by
  have hok : okC cF = true := by decide
  have hT : okT 1 = true := by decide
  have hN : okN self = true := by simp [okN, inB]; omega
  have h1 : lnk 1 self x.p = true := by rw [hb.p]; rfl
  have h2 : lnk 1 self x.a = true := by rw [hb.a]; rfl
  have h3 : lnk 1 self x.o = true := by rw [hb.o]; rfl
  have h4 : rtd self x = true := by
    unfold rtd
    rcases hr with h | ⟨e1, e2, e3, e4⟩
    · simp [h]
    · simp [e1, e2, e3, e4, hb.p]
  have h5 : plc x = true := by unfold plc; rw [hb.pa]; simp [hb.p]
  have h6 : pthC 1 self x.pa cF.d = 0 := by
    rw [hb.pa]
    simp [pthC, hT, hN, cF, inB, risP]
  have h7 : kOK 1 self cF.k x.ks = true := by
    rw [hb.ks]
    simp [kOK, hT, hN, cF, inB, KA.chn]
  have h8 : flowC cF x.s x.q = 0 := by rw [hb.q]; exact hb.fl
  have h9 : rgtB cF 1 self x = true := by
    simp only [rgtB, Bool.and_eq_true, decide_eq_true_eq]
    exact ⟨ht.1, ht.2, by rw [hb.g]; decide, by rw [hb.g]; decide, h1, h2, h3, h4, h5, h6, h7, h8⟩
  unfold grC
  rw [if_pos hok, if_pos]
  simp only [Bool.and_eq_true, decide_eq_true_eq]
  exact ⟨by decide, by decide, hs.1, hs.2, h9⟩
theorem bc_of {self : Int} {x : Tp} (hs : 0 ≤ self ∧ self < 8) (hb : Bare x) (ht : 0 ≤ x.t ∧ x.t ≤ 1000000) (hr : x.r = 0 ∨ Rt self x) :
    (bcG self x).2 = 0 ∧ Bare (bcG self x).1 ∧ Rt self (bcG self x).1 ∧ (bcG self x).1.r = (bcG self x).1.t ∧ x.t ≤ (bcG self x).1.t ∧ (bcG self x).1.t ≤ x.t + 32 ∧ ((bcG self x).1.r = x.r ∨ x.t < (bcG self x).1.r) ∧ ((bcG self x).1.s.w = x.s.w ∨ (bcG self x).1.s.w = 1) := by
  have hN : okN self = true := by simp [okN, inB]; omega
  unfold bcG
  by_cases g : x.r ≠ 0 ∧ x.t = x.r
  · rw [if_pos g]
    rcases hr with h | h
    · exact absurd h g.1
    · exact ⟨rfl, hb, h, g.2.symm, Int.le_refl _, by show x.t ≤ x.t + 32; omega, .inl rfl, .inl rfl⟩
  · rw [if_neg g]
    have h1 := nx_b hN (show 0 ≤ x.t ∧ x.t ≤ 1073741824 by omega)
    have h2 : nxE self x.t ≤ x.t + 32 ∧ nxE self x.t ≠ 0 := by
      have hm := Int.tmod_nonneg 16 ht.1
      have hm2 := Int.tmod_lt_of_pos x.t (show 0 < 16 by omega)
      have key : nxE self x.t = if (if x.t - x.t.tmod 16 + self ≤ x.t then x.t - x.t.tmod 16 + self + 16 else x.t - x.t.tmod 16 + self) > 1073741824 then 0 else (if x.t - x.t.tmod 16 + self ≤ x.t then x.t - x.t.tmod 16 + self + 16 else x.t - x.t.tmod 16 + self) := rfl
      rw [key]
      split
      · rename_i h; revert h; split <;> intro h <;> omega
      · split <;> omega
    rw [if_neg h2.2]
    have he := nx_ep hN (show 0 ≤ x.t ∧ x.t ≤ 1073741824 by omega) h2.2
    refine ⟨rfl, ⟨hb.m, hb.b, rfl, rfl, rfl, rfl, rfl, hb.ks, hb.q, rfl, begun_flow hb.fl he.1⟩, ⟨he.1, he.2, Int.le_refl _, rfl⟩, rfl, ?_, h2.1, .inr ?_, .inr rfl⟩
    · show x.t ≤ nxE self x.t; omega
    · show x.t < nxE self x.t; omega
theorem ac_of {self : Int} {y : Tp} {v : Int} (hs : 0 ≤ self ∧ self < 8) (hb : Bare y) (ht : 0 ≤ y.t ∧ y.t ≤ 1000000) (hr : Rt self y) (hrt : y.r = y.t) (hw : y.s.w ≤ 1000) (hv : 0 ≤ v ∧ v ≤ 1000) :
    ∃ s' w, acP cF 1 self y v = (({ y with s := s' }, w), 0) ∧ s'.e = y.s.e ∧ s'.w = y.s.w + 1 ∧ s'.ah = [] ∧ flowC cF s' [] = 0 := by
  have hg := gr_of hs hb (by omega) (.inr hr)
  have hv' : QA.inB v 0 2147483647 = true := by simp [QA.inB]; omega
  have hr0 : y.r ≠ 0 := by have := hr.1; simp [epOK, QA.inB] at this; omega
  have hbc : bcG self y = (y, 0) := by unfold bcG; rw [if_pos ⟨hr0, hrt.symm⟩]
  have he : epOK y.s.e = true := by rw [hr.2.2.2]; exact hr.1
  obtain ⟨k1, k2, k3⟩ := flow_t hb.fl
  have k6 := (FA.right_e k2 he).2.2
  have hx : QA.inB y.s.w 1 1073741823 = true := by simp [QA.inB]; omega
  obtain ⟨a1, a2, a3, a4, a5, a6, a7, a8, a9, a10, a11⟩ := FA.item_same (c := cF) (s := y.s) (sub := false) (q := []) (x := ⟨y.s.w, v⟩) (P := fun _ _ => True) hb.fl he hx hv' trivial (fun _ _ => trivial)
  have a8 := a8 rfl
  have hone : itemG cF y.s false [] false ⟨y.s.w, v⟩ = (⟨y.s.e, y.s.w + 1, if y.s.w + 1 > y.s.kn then y.s.w + 1 else y.s.kn, FA.pushL y.s.kp y.s.w cF.p v, []⟩, [], [⟨y.s.w, v⟩]) := by
    obtain ⟨r1, r2, r3⟩ := FA.right_e k2 he
    unfold itemG
    rw [if_neg (by simp), if_pos rfl, FA.one_more r1 hv' (by omega) (by rw [hb.ah]; simp), hb.ah]
    rfl
  rw [a8, hone] at a1
  refine ⟨⟨y.s.e, y.s.w + 1, if y.s.w + 1 > y.s.kn then y.s.w + 1 else y.s.kn, FA.pushL y.s.kp y.s.w cF.p v, []⟩, dsL 1 y.s.e y.ks [⟨y.s.w, v⟩], ?_, rfl, rfl, rfl, a1⟩
  · unfold acP
    rw [if_pos hg, if_pos hv']
    unfold acG
    rw [hbc]
    dsimp only
    rw [if_pos rfl, if_neg (by omega), hb.b, hb.q, hone, ← hb.q]
    try dsimp only
theorem full_e (N d : Nat) : TT N (d + 1) 23 [] = some (.agg (eC cF), []) := by kernel_rfl
theorem e5 (self : Int) (tops : List Int) : L8.TT 1000 20 5 [iV self, .one (rI tops)] = some (bV true, []) := by
  rw [L8.t5, F_ev rfl]
  by_cases h40 : (tops.length : Int) > 40
  · simp only [decide_eq_true h40, List.length_map, j5, b5, q5, qq, ww, List.replicate, Nat.reduceBEq, Nat.reduceAdd, Nat.reduceMul, Nat.reduceDiv, Nat.reduceEqDiff, Nat.reduceLeDiff, Nat.reduceLT, Int.reduceEq, Int.reduceNe, Int.reduceLT, Int.reduceLE, Int.reduceAdd, Int.reduceSub, Int.reduceMul, Int.reduceNeg, Int.reduceToNat, reduceCtorEq, reduceIte, if_true, if_false]
  obtain ⟨m1, m2⟩ := umodF self 8 (by omega) (by omega)
  generalize hsf : IntKind.i64.wrap ((IntKind.u64.wrap self).tmod 8) = sv at *
  have hF := fun d => full_e 1000 d
  have hw := w20
  have h00 : decide ((0 : Int) = 0) = true := rfl
  generalize hcc : cF = c0 at hF
  simp only [decide_eq_false h40, hsf, hF, List.length_map, j5, b5, q5, qq, ww, List.replicate, Nat.reduceBEq, Nat.reduceAdd, Nat.reduceMul, Nat.reduceDiv, Nat.reduceEqDiff, Nat.reduceLeDiff, Nat.reduceLT, Int.reduceEq, Int.reduceNe, Int.reduceLT, Int.reduceLE, Int.reduceAdd, Int.reduceSub, Int.reduceMul, Int.reduceNeg, Int.reduceToNat, reduceCtorEq, reduceIte, if_true, if_false]
  subst hcc
  refine loopI (K := fun o => fin _ (aft _ _ _ o)) (I := fun i st => ∃ x last, st = ⟨[(0, iV sv), (1, .one (rI tops)), (5, .one (.ref 320 0 0)), (6, .one (.ref 384 0 0)), (7, iV last), (8, iV i)], [(320, .box (eC cF)), (384, .box (eX x))]⟩ ∧ Bare x ∧ (x.r = 0 ∨ Rt sv x) ∧ 0 ≤ last ∧ last ≤ x.t ∧ x.t ≤ 100 * (i : Int) ∧ x.s.w ≤ (i : Int) + 1) _ tops.length ?hr tops.length 0 1000 _ ⟨[(0, iV sv), (1, .one (rI tops)), (5, .one (.ref 320 0 0)), (6, .one (.ref 384 0 0)), (7, iV 0), (8, iV 0)], [(320, .box (eC cF)), (384, .box (eX x0))]⟩ (by omega) (by omega) ?hk ⟨x0, 0, rfl, ⟨rfl, rfl, rfl, rfl, rfl, rfl, rfl, rfl, rfl, rfl, by decide⟩, .inl rfl, Int.le_refl _, by decide, by decide, by decide⟩
  case hk => simp only [gcK, lowB, Nat.reduceLeDiff, Nat.reduceBEq, List.contains_nil, List.contains_cons, Bool.or_false, Bool.false_or, Bool.false_eq_true, if_false, Bool.true_and, Bool.and_true, pickL, look_hit, look_miss, look_end, slMent, hpMent, S.ment, S.ment.smt, ments, V.ment, List.append_nil, List.nil_append, List.cons_append, List.all_nil, List.all_cons, Option.isSome_some, Bool.and_self, if_true, reduceIte, Nat.reduceEqDiff, not_false_eq_true, reduceCtorEq, Nat.reduceMul, Nat.reduceAdd]; rfl
  case hr =>
    rintro i n st hi ⟨x, last, rfl, hb, hr, hl0, hl1, hxt, hxw⟩ ih
    (try dsimp only)
    by_cases hlt : i < tops.length
    · have hbi : 0 ≤ (i : Int) ∧ (i : Int) < (tops.length : Int) := by omega
      have z1 : decide ((i : Int) < (tops.length : Int)) = true := decide_eq_true hbi.2
      have z2 : (tops.map eI)[i]? = some (eI tops[i]) := by simp [hlt]
      obtain ⟨d1, d2⟩ := umodF tops[i] 50 (by omega) (by omega)
      generalize hD : IntKind.i64.wrap ((IntKind.u64.wrap tops[i]).tmod 50) = D at *
      have hxs : smX x := by
        obtain ⟨k1, k2, k3⟩ := flow_t hb.fl
        have k4 := right_t k2
        exact ⟨by rw [hb.pa]; simp, by rw [hb.ks]; simp, ⟨by omega, by omega⟩, by rw [hb.q]; simp⟩
      have hgx := gr_of ⟨m1, m2⟩ hb (by omega) hr
      obtain ⟨b1, b2, b3, b4, b5, b6, b7, bb8⟩ := bc_of ⟨m1, m2⟩ hb (by omega) hr
      have hB := fun d => e15 1000 d (by omega) cF 1 sv x hxs
      rw [show bcP cF 1 sv x = bcG sv x by unfold bcP; rw [if_pos hgx], b1] at hB
      have hys := bc_sm (self := sv) hxs
      generalize (bcG sv x).1 = y at *
      obtain ⟨s', w, q1, q2, q3, q4, q5⟩ := ac_of (v := (i : Int)) ⟨m1, m2⟩ b2 (by omega) b3 b4 (by omega) (by omega)
      have hA := fun d => e22 1000 d (by omega) cF 1 sv y i hys
      rw [q1] at hA
      have hzb : Bare { y with s := s' } := ⟨b2.m, b2.b, b2.p, b2.a, b2.o, b2.g, b2.pa, b2.ks, b2.q, q4, q5⟩
      have hzr : Rt sv { y with s := s' } := ⟨b3.1, b3.2.1, b3.2.2.1, by show s'.e = y.r; rw [q2]; exact b3.2.2.2⟩
      have hzs : smX { y with s := s' } := by
        obtain ⟨k1, k2, k3⟩ := flow_t q5
        have k4 := right_t k2
        exact ⟨hys.1, hys.2.1, ⟨by show s'.kp.length < 900; omega, by show s'.ah.length < 900; omega⟩, hys.2.2.2⟩
      have hgz := gr_of ⟨m1, m2⟩ hzb (by show 0 ≤ y.t ∧ y.t ≤ 1073741824; omega) (.inr hzr)
      have hS := fun d => e24 1000 d (by omega) cF 1 sv { y with s := s' } hzs
      rw [if_pos hgz, hgz] at hS
      have hE := fun d => e17 1000 d y.r
      rw [b3.1, if_pos rfl, if_pos rfl, b3.2.1] at hE
      have hSt : ∀ d, TT 1000 (d + 2) 25 [aS s', aS s'] = some (bV true, []) := fun d => by rw [FA.e25 1000 d (by omega) s' s' hzs.2.2.1]; simp
      dsimp only at hA hS
      have y1 : (decide (y.r ≤ last) && !decide (y.r = x.r)) = false := by
        rcases b7 with h | h
        · simp [h]
        · simp; intro; omega
      have y2 : decide (y.r = y.t) = true := decide_eq_true b4
      have y3 : decide (y.r = y.r) = true := by simp
      have y4 : IntKind.i64.wrap (y.s.w + 1) = y.s.w + 1 := IntWalk.i64_in _ (by rcases bb8 with h | h <;> (obtain ⟨k1, k2, k3⟩ := flow_t b2.fl; have := right_t k2; omega))
      have y5 : decide (s'.w = y.s.w + 1) = true := decide_eq_true q3
      have y6 : IntKind.i64.wrap (y.t + D) = y.t + D := IntWalk.i64_in _ (by omega)
      have y7 : decide (sv = sv) = true := by simp
      have y8 : decide (y.t = y.t) = true := by simp
      have y9 : 0 ≤ y.r := by have := b3.1; simp [epOK, QA.inB] at this; omega
      have y10 : y.s.w ≤ (i : Int) + 1 := by rcases bb8 with h | h <;> omega
      by_cases c1 : y.r ≤ last
      · have c2 : decide (y.r = x.r) = true := decide_eq_true (by rcases b7 with h | h <;> omega)
        cases hp : decide (tops[i].tmod 2 = 0) with
        | true =>
          simp only [decide_eq_true c1, c2, hp, z1, hbi.1, hbi.2, z2, hB, hA, hE, hD, hS, hSt, h00, y2, y3, y4, y5, y6, y7, y8, Bool.not_true, Bool.not_false, Bool.and_self, List.length_map, Int.toNat_natCast, wi i (by omega), j5, b5, q5, qq, ww, List.replicate, Nat.reduceBEq, Nat.reduceAdd, Nat.reduceMul, Nat.reduceDiv, Nat.reduceEqDiff, Nat.reduceLeDiff, Nat.reduceLT, Int.reduceEq, Int.reduceNe, Int.reduceLT, Int.reduceLE, Int.reduceAdd, Int.reduceSub, Int.reduceMul, Int.reduceNeg, Int.reduceToNat, reduceCtorEq, reduceIte, if_true, if_false]
          exact ih hlt _ _ (by simp only [gcK, lowB, Nat.reduceLeDiff, Nat.reduceBEq, List.contains_nil, List.contains_cons, Bool.or_false, Bool.false_or, Bool.false_eq_true, if_false, Bool.true_and, Bool.and_true, pickL, look_hit, look_miss, look_end, slMent, hpMent, S.ment, S.ment.smt, ments, V.ment, List.append_nil, List.nil_append, List.cons_append, List.all_nil, List.all_cons, Option.isSome_some, Bool.and_self, if_true, reduceIte, Nat.reduceEqDiff, not_false_eq_true, reduceCtorEq, Nat.reduceMul, Nat.reduceAdd]) ⟨{ y with s := s', r := 0, t := y.t + D }, y.r, rfl, ⟨b2.m, b2.b, b2.p, b2.a, b2.o, b2.g, b2.pa, b2.ks, b2.q, q4, q5⟩, .inl rfl, by omega, by show y.r ≤ y.t + D; omega, by show y.t + D ≤ _; omega, by show s'.w ≤ _; omega⟩
        | false =>
          simp only [decide_eq_true c1, c2, hp, z1, hbi.1, hbi.2, z2, hB, hA, hE, hD, hS, hSt, h00, y2, y3, y4, y5, y6, y7, y8, Bool.not_true, Bool.not_false, Bool.and_self, List.length_map, Int.toNat_natCast, wi i (by omega), j5, b5, q5, qq, ww, List.replicate, Nat.reduceBEq, Nat.reduceAdd, Nat.reduceMul, Nat.reduceDiv, Nat.reduceEqDiff, Nat.reduceLeDiff, Nat.reduceLT, Int.reduceEq, Int.reduceNe, Int.reduceLT, Int.reduceLE, Int.reduceAdd, Int.reduceSub, Int.reduceMul, Int.reduceNeg, Int.reduceToNat, reduceCtorEq, reduceIte, if_true, if_false]
          exact ih hlt _ _ (by simp only [gcK, lowB, Nat.reduceLeDiff, Nat.reduceBEq, List.contains_nil, List.contains_cons, Bool.or_false, Bool.false_or, Bool.false_eq_true, if_false, Bool.true_and, Bool.and_true, pickL, look_hit, look_miss, look_end, slMent, hpMent, S.ment, S.ment.smt, ments, V.ment, List.append_nil, List.nil_append, List.cons_append, List.all_nil, List.all_cons, Option.isSome_some, Bool.and_self, if_true, reduceIte, Nat.reduceEqDiff, not_false_eq_true, reduceCtorEq, Nat.reduceMul, Nat.reduceAdd]) ⟨{ y with s := s', t := y.t + D }, y.r, rfl, ⟨b2.m, b2.b, b2.p, b2.a, b2.o, b2.g, b2.pa, b2.ks, b2.q, q4, q5⟩, .inr ⟨b3.1, b3.2.1, by show y.r ≤ y.t + D; omega, by show s'.e = y.r; rw [q2]; exact b3.2.2.2⟩, by omega, by show y.r ≤ y.t + D; omega, by show y.t + D ≤ _; omega, by show s'.w ≤ _; omega⟩
      ·
        cases hp : decide (tops[i].tmod 2 = 0) with
        | true =>
          simp only [decide_eq_false c1, hp, z1, hbi.1, hbi.2, z2, hB, hA, hE, hD, hS, hSt, h00, y2, y3, y4, y5, y6, y7, y8, Bool.not_true, Bool.not_false, Bool.and_self, List.length_map, Int.toNat_natCast, wi i (by omega), j5, b5, q5, qq, ww, List.replicate, Nat.reduceBEq, Nat.reduceAdd, Nat.reduceMul, Nat.reduceDiv, Nat.reduceEqDiff, Nat.reduceLeDiff, Nat.reduceLT, Int.reduceEq, Int.reduceNe, Int.reduceLT, Int.reduceLE, Int.reduceAdd, Int.reduceSub, Int.reduceMul, Int.reduceNeg, Int.reduceToNat, reduceCtorEq, reduceIte, if_true, if_false]
          exact ih hlt _ _ (by simp only [gcK, lowB, Nat.reduceLeDiff, Nat.reduceBEq, List.contains_nil, List.contains_cons, Bool.or_false, Bool.false_or, Bool.false_eq_true, if_false, Bool.true_and, Bool.and_true, pickL, look_hit, look_miss, look_end, slMent, hpMent, S.ment, S.ment.smt, ments, V.ment, List.append_nil, List.nil_append, List.cons_append, List.all_nil, List.all_cons, Option.isSome_some, Bool.and_self, if_true, reduceIte, Nat.reduceEqDiff, not_false_eq_true, reduceCtorEq, Nat.reduceMul, Nat.reduceAdd]) ⟨{ y with s := s', r := 0, t := y.t + D }, y.r, rfl, ⟨b2.m, b2.b, b2.p, b2.a, b2.o, b2.g, b2.pa, b2.ks, b2.q, q4, q5⟩, .inl rfl, by omega, by show y.r ≤ y.t + D; omega, by show y.t + D ≤ _; omega, by show s'.w ≤ _; omega⟩
        | false =>
          simp only [decide_eq_false c1, hp, z1, hbi.1, hbi.2, z2, hB, hA, hE, hD, hS, hSt, h00, y2, y3, y4, y5, y6, y7, y8, Bool.not_true, Bool.not_false, Bool.and_self, List.length_map, Int.toNat_natCast, wi i (by omega), j5, b5, q5, qq, ww, List.replicate, Nat.reduceBEq, Nat.reduceAdd, Nat.reduceMul, Nat.reduceDiv, Nat.reduceEqDiff, Nat.reduceLeDiff, Nat.reduceLT, Int.reduceEq, Int.reduceNe, Int.reduceLT, Int.reduceLE, Int.reduceAdd, Int.reduceSub, Int.reduceMul, Int.reduceNeg, Int.reduceToNat, reduceCtorEq, reduceIte, if_true, if_false]
          exact ih hlt _ _ (by simp only [gcK, lowB, Nat.reduceLeDiff, Nat.reduceBEq, List.contains_nil, List.contains_cons, Bool.or_false, Bool.false_or, Bool.false_eq_true, if_false, Bool.true_and, Bool.and_true, pickL, look_hit, look_miss, look_end, slMent, hpMent, S.ment, S.ment.smt, ments, V.ment, List.append_nil, List.nil_append, List.cons_append, List.all_nil, List.all_cons, Option.isSome_some, Bool.and_self, if_true, reduceIte, Nat.reduceEqDiff, not_false_eq_true, reduceCtorEq, Nat.reduceMul, Nat.reduceAdd]) ⟨{ y with s := s', t := y.t + D }, y.r, rfl, ⟨b2.m, b2.b, b2.p, b2.a, b2.o, b2.g, b2.pa, b2.ks, b2.q, q4, q5⟩, .inr ⟨b3.1, b3.2.1, by show y.r ≤ y.t + D; omega, by show s'.e = y.r; rw [q2]; exact b3.2.2.2⟩, by omega, by show y.r ≤ y.t + D; omega, by show y.t + D ≤ _; omega, by show s'.w ≤ _; omega⟩
    · clear ih
      obtain rfl : i = tops.length := by omega
      have g1 : decide ((tops.length : Int) < (tops.length : Int)) = false := by simp
      simp only [g1, hw, List.length_map, j5, b5, q5, qq, ww, List.replicate, Nat.reduceBEq, Nat.reduceAdd, Nat.reduceMul, Nat.reduceDiv, Nat.reduceEqDiff, Nat.reduceLeDiff, Nat.reduceLT, Int.reduceEq, Int.reduceNe, Int.reduceLT, Int.reduceLE, Int.reduceAdd, Int.reduceSub, Int.reduceMul, Int.reduceNeg, Int.reduceToNat, reduceCtorEq, reduceIte, if_true, if_false]
end Go.Proofs.YtdflglehippoiaaGreatDoor.GA
