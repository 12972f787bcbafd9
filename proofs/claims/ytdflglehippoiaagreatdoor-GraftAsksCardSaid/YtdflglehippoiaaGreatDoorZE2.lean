/- Texts joined: HM. -/
import Derived.Test.YtdflglehippoiaaGreatDoorZE1
set_option linter.unusedVariables false
set_option linter.unusedSimpArgs false
namespace Go.Proofs.YtdflglehippoiaaGreatDoor.GA
open Go Go.Proofs.YtdflglehippoiaaGreatDoorR IG
open QA (Ev eE aE rE epOK evOK qOK putE n01)
open AA (It eT aT rT wi takeT allT ahOK)
open EC (Cf eC okC)
open FA (Sm eS aS s0 smL flowC rightB heavyB heavy_t flow_t flow_of right_t q_t kpOK kRow umodF toldS toldP)
open KA (Kd eK aK rK nr okT okN kOK inB gap takeK all3 askP askT askR askS askQ hasN drp)
open MA (Mg eM aM msgOK)
open LB (j6 i6 b6 q6)
set_option maxRecDepth 100000
set_option maxHeartbeats 8000000
theorem ask_more {t s c n inc : Int} {l : List Kd} (h : kOK t s c l = true) (hn : nr t s n = true) (hi : inB inc 1 1073741824 = true) (hw : 1 ≤ (askR t c l n inc).2.1) :
  ((askR t c l n inc).2.1 = n + 1 ∧ hasN (askR t c l n inc).1 n = false ∧ hasN (askR t c l n inc).1 ((askR t c l n inc).2.2 - 1) = true) ∨ ((askR t c l n inc).2.2 = n + 1 ∧ (askR t c l n inc).2.1 ≠ n + 1 ∧ hasN (askR t c l n inc).1 n = true) := by
 have he := KA.ask_eq h hn (inc := inc)
 have hok := KA.kOK_t h
 generalize askR t c l n inc = A at *
 obtain ⟨m, who, to⟩ := A
 dsimp only at *
 unfold askT at he
 cases hh : hasN l n with
 | true => rw [hh, if_pos rfl] at he; simp only [Prod.mk.injEq] at he; omega
 | false =>
 rw [hh, if_neg (by decide)] at he
 by_cases hr : (l.length : Int) < c
 ·rw [if_pos hr] at he; simp only [Prod.mk.injEq] at he; omega
 rw [if_neg hr] at he
 cases l with
 | nil => simp at hr; omega
 | cons y r =>
  dsimp only at he
  split at he
  ·simp only [Prod.mk.injEq] at he
   obtain ⟨e1, e2, e3, _⟩ := he
   left
   rw [← e1, ← e2, ← e3]
   exact ⟨rfl, hh, by rw [Int.add_sub_cancel]; exact KA.has_of (by simp)⟩
  ·simp only [Prod.mk.injEq] at he
   obtain ⟨e1, e2, e3, _⟩ := he
   right
   rw [← e1, ← e2, ← e3]
   refine ⟨rfl, fun e => ?_, KA.has_insP⟩
   have hz := KA.hasN_f hh ((y :: r)[r.length]'(by simp)) (List.getElem_mem _)
   omega
theorem pth_cons {t self n d : Int} {l : List Int} (h : pthC t self l d = 0) (hn : nr t self n = true) (hl : ((l.length + 1 : Nat) : Int) ≤ d) : pthC t n (self :: l) d = 0 := by
 have h1 := KA.nr_t hn
 unfold pthC at h ⊢
 split at h
 ·rename_i h2
  simp only [Bool.and_eq_true] at h2
  split at h
  ·omega
  ·split at h
   ·rename_i h3
    rw [if_pos, if_neg (by simp only [List.length_cons]; omega), if_pos]
    ·rw [risP, hn, h3]; rfl
    ·simp only [Bool.and_eq_true, List.all_cons]
     exact ⟨⟨⟨h1.1, h1.2.2.1⟩, h2.1.2⟩, h1.2.1, h2.2⟩
   ·omega
 ·omega
def effM (n : Int) (p : Int × Bool) (m : Mg) : Int × Bool := if m.k = 3 then (p.1 + 1, p.2) else if m.k = 4 then (p.1, p.2 || decide (m.t = n)) else (p.1, true)
inductive Ms (c : Cf) (t u n : Int) (x y : Tp) (m : Mg) : Prop where
 | ack (k : m.k = 3) (h1 : m.t = n) (h2 : hasN y.ks n = true) (h3 : pthC t n m.pa c.d = 0) (h4 : m.pa = u :: x.pa) (h5 : m.l = y.t)
 | red (k : m.k = 4) (h1 : hasN y.ks m.t = false) (h2 : hasN y.ks m.nd = true ∨ m.t ≠ n) (h3 : nr t m.nd m.t = true)
 | ref (k : m.k = 5) (h1 : m.t = n) (h2 : hasN y.ks n = false) (h3 : ((x.pa.length + 1 : Nat) : Int) > c.d)
theorem jn_asks {c : Cf} {t self : Int} {x : Tp} {n inc : Int} (g0 : grC c t self x = 0) (hn : nr t self n = true) (hi : inB inc 1 1073741824 = true) :
  (∀ m ∈ (jnG c t self x n inc 0).2, Ms c t self n x (jnG c t self x n inc 0).1 m) ∧
  ∃ fa fs, (jnG c t self x n inc 0).2.foldl (effM n) (0, false) = (fa, fs) ∧ hasN (jnG c t self x n inc 0).1.ks n = !fs ∧ fa = if (hasW x && !fs) = true then 1 else 0 := by
 obtain ⟨q1, q2, q3, _⟩ := gr_k g0
 have hf := ask_facts q1 hn hi
 have hm := ask_more q1 hn hi
 have hnb := KA.okN_b (KA.nr_t hn).2.2.1
 unfold jnG
 rw [hn, hi, if_pos (show (true && true) = true from rfl)]
 generalize askR t c.k x.ks n inc = A at *
 obtain ⟨l, who, to⟩ := A
 dsimp only at *
 have hdr : hasN (drp l n) n = false := KA.has_drp l n
 have hsub : ∀ z, hasN l z = false → hasN (drp l n) z = false := by
  intro z hz
  cases hc : hasN (drp l n) z with
  | false => rfl
  | true =>
   obtain ⟨y, hy, e⟩ := KA.has_get hc
   have := KA.hasN_f hz y (List.mem_filter.1 hy).1
   exact absurd e this
 rcases hf.2 with ⟨e1, e2, e3⟩ | ⟨b1, b2, b3, b4, b5, b6, b7⟩
 ·-- taken
  subst e1
  rw [e3, Bool.true_and, if_neg (show ¬ (0 : Int) > 0 by omega)]
  cases hW : hasW x with
  | false =>
   rw [if_neg (by decide)]
   exact ⟨fun m hm => (by cases hm), 0, false, rfl, e3, rfl⟩
  | true =>
  rw [if_pos rfl]
  by_cases g8 : ((x.pa.length + 1 : Nat) : Int) > c.d
  ·rw [if_pos g8]
   refine ⟨fun m hm => ?_, 0, true, rfl, hdr, rfl⟩
   obtain rfl : m = refM t n := by simpa using hm
   exact .ref rfl rfl hdr g8
  ·rw [if_neg g8]
   refine ⟨fun m hm => ?_, 1, false, rfl, e3, rfl⟩
   obtain rfl : m = ackM t self (askY x 0 l) n := by simpa using hm
   exact .ack rfl rfl e3 (pth_cons q3 hn (by omega : ((x.pa.length + 1 : Nat) : Int) ≤ c.d)) rfl rfl
 ·rw [if_pos (show who > 0 by omega)]
  have w1 : IntKind.i64.wrap (who - 1) = who - 1 := IntWalk.i64_in _ (by omega)
  have w2 : IntKind.i64.wrap (to - 1) = to - 1 := IntWalk.i64_in _ (by omega)
  have r1 : (redM t who to).t = who - 1 := w1
  have r2 : (redM t who to).nd = to - 1 := w2
  rcases hm b1 with ⟨e1, e2, e3⟩ | ⟨e1, e2, e3⟩
  ·-- sent on
   rw [e2, Bool.false_and, if_neg (by decide)]
   refine ⟨fun m hm => ?_, 0, true, ?_, e2, ?_⟩
   ·obtain rfl : m = redM t who to := by simpa using hm
    exact .red rfl (by rw [r1]; exact b6) (.inl (by rw [r2]; exact e3)) (by rw [r1, r2]; exact b5)
   ·simp only [List.foldl_cons, List.foldl_nil, effM]
    rw [if_neg (by show ¬ (4 : Int) = 3; omega), if_pos (by rfl), r1, show who - 1 = n by omega]
    simp
   ·rw [Bool.not_true, Bool.and_false]; rfl
  ·have hne : ¬ (redM t who to).t = n := by rw [r1]; omega
   have hk4 : (redM t who to).k = 4 := rfl
   have hef : ∀ p : Int × Bool, effM n p (redM t who to) = p := by
    intro p
    unfold effM
    rw [if_neg (by rw [hk4]; omega), if_pos hk4, decide_eq_false hne, Bool.or_false]
   have hrl : Ms c t self n x (askY x 0 l) (redM t who to) := .red rfl (by rw [r1]; exact b6) (.inr hne) (by rw [r1, r2]; exact b5)
   rw [e3, Bool.true_and]
   cases hW : hasW x with
   | false =>
    rw [if_neg (by decide)]
    refine ⟨fun m hm => ?_, 0, false, ?_, e3, rfl⟩
    ·obtain rfl : m = redM t who to := by simpa using hm
     exact hrl
    ·simp only [List.foldl_cons, List.foldl_nil, hef]
   | true =>
   rw [if_pos rfl]
   by_cases g8 : ((x.pa.length + 1 : Nat) : Int) > c.d
   ·rw [if_pos g8]
    refine ⟨fun m hm => ?_, 0, true, ?_, hdr, rfl⟩
    ·rcases (show m = redM t who to ∨ m = refM t n by simpa using hm) with rfl | rfl
     ·exact .red rfl (by rw [r1]; exact hsub _ b6) (.inr hne) (by rw [r1, r2]; exact b5)
     ·exact .ref rfl rfl hdr g8
    ·simp only [List.cons_append, List.nil_append, List.foldl_cons, List.foldl_nil, hef]
     rfl
   ·rw [if_neg g8]
    refine ⟨fun m hm => ?_, 1, false, ?_, e3, rfl⟩
    ·rcases (show m = redM t who to ∨ m = ackM t self (askY x 0 l) n by simpa using hm) with rfl | rfl
     ·exact hrl
     ·exact .ack rfl rfl e3 (pth_cons q3 hn (by omega : ((x.pa.length + 1 : Nat) : Int) ≤ c.d)) rfl rfl
    ·simp only [List.cons_append, List.nil_append, List.foldl_cons, List.foldl_nil, hef]
     rfl
theorem e6 (c : Cf) (t self : Int) (x : Tp) (n inc : Int) (z1 : i64B x.p) (z2 : i64B x.a) (z3 : i64B x.o) : LB.TT 4000 20 6 [.agg (eC c), iV t, iV self, aX x, iV n, iV inc] = some (bV true, []) := by
 rw [LB.t6, F_ev rfl]
 have hH := fun d => e13 4000 d x
 cases hv : hvX x with
 | true => rw [hv] at hH; simp only [hH, j6, b6, q6, ww, simprocAttr]
 | false =>
 rw [hv] at hH
 obtain ⟨hx, hh⟩ := hv_t hv
 have hR := fun d => e14 4000 d (by omega) c t self x hx z1 z2 z3
 by_cases g0 : grC c t self x = 0
 rotate_left
 ·simp only [decide_eq_false g0] at hR
  simp only [hH, hR, j6, b6, q6, ww, simprocAttr]
 simp only [decide_eq_true g0] at hR
 have hN := fun d => KA.e26 4000 d n
 cases h1 : okN n with
 | false => rw [h1] at hN; simp only [hH, hR, hN, j6, b6, q6, ww, simprocAttr]
 | true =>
 rw [h1] at hN
 by_cases h2 : inc < 1
 ·simp only [hH, hR, hN, decide_eq_true h2, j6, b6, q6, ww, simprocAttr]
 by_cases h3 : inc > 1073741824
 ·simp only [hH, hR, hN, decide_eq_false h2, decide_eq_true h3, j6, b6, q6, ww, simprocAttr]
 have hi : inB inc 1 1073741824 = true := by simp [inB]; omega
 have hw := w19
 have hJ := fun d => e27 4000 d (by omega) c t self x n inc 0 hx
 unfold jnP at hJ
 rw [if_pos g0, if_pos (by decide)] at hJ
 have hNe := fun d => KA.e28 4000 d t self n
 have hsx := fun d => e19r 4000 d (by omega) x hx
 cases hn : nr t self n with
 | false =>
  rw [hn] at hNe
  rw [show jnG c t self x n inc 0 = (x, []) by unfold jnG; rw [hn, Bool.false_and, if_neg (by decide)]] at hJ
  simp only [hH, hR, hN, hJ, hNe, hsx, hw, z00, decide_eq_false h2, decide_eq_false h3, j6, b6, q6, ww, simprocAttr]
 | true =>
 rw [hn] at hNe
 obtain ⟨q1, q2, q3, q4⟩ := gr_k g0
 obtain ⟨hms, fa, fs, hfo, hhas, hfa⟩ := jn_asks g0 hn hi
 have hsm := jn_sm (n := n) (inc := inc) (top := 0) hx g0
 have hml := jn_mlen (c := c) (t := t) (self := self) (x := x) (n := n) (inc := inc) (top := 0)
 have hmp := jn_msgs (c := c) (t := t) (self := self) (n := n) (inc := inc) (top := 0) hx.1
 generalize jnG c t self x n inc 0 = G at *
 obtain ⟨y, out⟩ := G
 dsimp only at *
 have hHas := fun d z => KA.e30 4000 d y.ks z (by have := hsm.2.1; omega) (by have := hsm.2.1; omega)
 have hPt := fun d z (l : List Int) (hl : l.length < 1000) => e31 4000 d t z l c.d (by omega) (by omega)
 have hNz := fun d a b => KA.e28 4000 d t a b
 simp only [hH, hR, hN, hJ, hNe, z00, decide_eq_false h2, decide_eq_false h3, List.length_map, j6, b6, q6, ww, simprocAttr]
 refine loopI (K := fun o => fin _ (aft _ _ _ o)) (I := fun i st => ∃ a s, st = ⟨[(1, iV t), (2, iV self), (4, iV n), (6, .one (.ref 384 0 0)), (9, .one (.ref 576 0 0)), (13, .one (.ref 832 0 0)), (14, .one (rM out)), (16, iV a), (17, bV s), (18, iV i)], [(384, .box (eC c)), (576, .box (eX x)), (832, .box (eX y))]⟩ ∧ (out.drop i).foldl (effM n) (a, s) = (fa, fs) ∧ 0 ≤ a ∧ a ≤ (i : Int)) _ out.length ?hr out.length 0 4000 _ ⟨[(1, iV t), (2, iV self), (4, iV n), (6, .one (.ref 384 0 0)), (9, .one (.ref 576 0 0)), (13, .one (.ref 832 0 0)), (14, .one (rM out)), (16, iV 0), (17, bV false), (18, iV 0)], [(384, .box (eC c)), (576, .box (eX x)), (832, .box (eX y))]⟩ (by omega) (by omega) ?hk ⟨0, false, rfl, hfo, by omega, by omega⟩
 case hk => simp only [kk, simprocAttr]; try rfl
 case hr =>
  rintro i n0 st hi2 ⟨a, s, rfl, hfd, ha0, ha1⟩ ih
  (try dsimp only)
  by_cases hlt : i < out.length
  ·have hb : 0 ≤ (i : Int) ∧ (i : Int) < (out.length : Int) := by omega
   have y1 : decide ((i : Int) < (out.length : Int)) = true := decide_eq_true hb.2
   have y2 : (out.map eM)[i]? = some (eM out[i]) := by simp [hlt]
   have hd : out.drop i = out[i] :: out.drop (i + 1) := by simp
   rw [hd, List.foldl_cons] at hfd
   have hMs := hms out[i] (List.getElem_mem hlt)
   have hmq := hmp out[i] (List.getElem_mem hlt)
   generalize out[i] = m at *
   have wa : IntKind.i64.wrap (a + 1) = a + 1 := IntWalk.i64_in _ (by omega)
   have wp : IntKind.i64.wrap ((x.pa.length : Int) + 1) = ((x.pa.length + 1 : Nat) : Int) := by rw [IntWalk.i64_in _ (by omega)]; omega
   rcases hMs with ⟨k, h1, h2, h3, h4, h5⟩ | ⟨k, h1, h2, h3⟩ | ⟨k, h1, h2, h3⟩
   ·have u1 : decide (m.k = 3) = true := decide_eq_true k
    have u2 : decide (m.t = n) = true := decide_eq_true h1
    have u3 : decide ((m.pa.length : Int) = 0) = false := by rw [h4]; simp; omega
    have u4 : (m.pa.map eI)[0]? = some (eI self) := by rw [h4]; rfl
    have u5 : (0 : Int) < (m.pa.length : Int) := by rw [h4, List.length_cons]; omega
    have u6 : decide (self = self) = true := by simp
    have u7 : decide (m.l = y.t) = true := decide_eq_true h5
    have u8 : effM n (a, s) m = (a + 1, s) := by unfold effM; rw [if_pos k]
    rw [u8] at hfd
    have hP := fun d => hPt d n m.pa hmq.1
    rw [h3] at hP
    simp only [y1, y2, hb.1, hb.2, hHas, h2, hP, u1, u2, u3, u4, u5, u6, u7, wa, z00, wi i (by omega), List.length_map, j6, b6, q6, ww, simprocAttr]
    exact ih hlt _ _ (by simp only [kk, simprocAttr]) ⟨a + 1, s, rfl, hfd, by omega, by omega⟩
   ·have u1 : decide (m.k = 3) = false := decide_eq_false (by omega)
    have u2 : decide (m.k = 4) = true := decide_eq_true k
    have u8 : effM n (a, s) m = (a, s || decide (m.t = n)) := by unfold effM; rw [if_neg (by omega), if_pos k]
    rw [u8] at hfd
    cases hc : hasN y.ks m.nd with
    | true =>
     cases s with
     | true =>
      simp only [y1, y2, hb.1, hb.2, hHas, h1, hc, hNz, h3, u1, u2, wi i (by omega), List.length_map, j6, b6, q6, ww, simprocAttr]
      exact ih hlt _ _ (by simp only [kk, simprocAttr]) ⟨a, true, rfl, hfd, by omega, by omega⟩
     | false =>
      rw [Bool.false_or] at hfd
      simp only [y1, y2, hb.1, hb.2, hHas, h1, hc, hNz, h3, u1, u2, wi i (by omega), List.length_map, j6, b6, q6, ww, simprocAttr]
      exact ih hlt _ _ (by simp only [kk, simprocAttr]) ⟨a, decide (m.t = n), rfl, hfd, by omega, by omega⟩
    | false =>
     have hne : decide (m.t = n) = false := decide_eq_false (by rcases h2 with h2 | h2 <;> simp_all)
     rw [hne, Bool.or_false] at hfd
     cases s with
     | true =>
      simp only [y1, y2, hb.1, hb.2, hHas, h1, hc, hne, hNz, h3, u1, u2, wi i (by omega), List.length_map, j6, b6, q6, ww, simprocAttr]
      exact ih hlt _ _ (by simp only [kk, simprocAttr]) ⟨a, true, rfl, hfd, by omega, by omega⟩
     | false =>
      simp only [y1, y2, hb.1, hb.2, hHas, h1, hc, hne, hNz, h3, u1, u2, wi i (by omega), List.length_map, j6, b6, q6, ww, simprocAttr]
      exact ih hlt _ _ (by simp only [kk, simprocAttr]) ⟨a, false, rfl, hfd, by omega, by omega⟩
   ·have u1 : decide (m.k = 3) = false := decide_eq_false (by omega)
    have u2 : decide (m.k = 4) = false := decide_eq_false (by omega)
    have u3 : decide (m.k = 5) = true := decide_eq_true k
    have u4 : decide (m.t = n) = true := decide_eq_true h1
    have u5 : decide (((x.pa.length + 1 : Nat) : Int) ≤ c.d) = false := decide_eq_false (by omega)
    have u8 : effM n (a, s) m = (a, true) := by unfold effM; rw [if_neg (by omega), if_neg (by omega)]
    rw [u8] at hfd
    simp only [y1, y2, hb.1, hb.2, hHas, h2, u1, u2, u3, u4, u5, wp, wi i (by omega), List.length_map, j6, b6, q6, ww, simprocAttr]
    exact ih hlt _ _ (by simp only [kk, simprocAttr]) ⟨a, true, rfl, hfd, by omega, by omega⟩
  ·clear ih
   obtain rfl : i = out.length := by omega
   rw [List.drop_length, List.foldl_nil] at hfd
   obtain ⟨rfl, rfl⟩ := Prod.mk.inj hfd
   have y1 : decide ((out.length : Int) < (out.length : Int)) = false := by simp
   have v1 : decide ((1 : Int) ≤ 1) = true := rfl
   have v0 : decide ((0 : Int) ≤ 1) = true := rfl
   have v2 : decide ((0 : Int) = 1) = false := rfl
   cases hW : hasW x with
   | true =>
    have hW2 : x.r = 0 → decide ((x.pa.length : Int) > 0) = true := fun e => by unfold hasW at hW; rw [decide_eq_true e] at hW; simpa using hW
    cases s with
    | true =>
     obtain rfl : a = 0 := by rw [hfa, hW]; try rfl
     by_cases hr : x.r = 0
     ·simp only [y1, hHas, hhas, hw, hW2 hr, v0, v1, v2, decide_eq_true hr, List.length_map, j6, b6, q6, ww, simprocAttr]
     ·simp only [y1, hHas, hhas, hw, v0, v1, v2, decide_eq_false hr, List.length_map, j6, b6, q6, ww, simprocAttr]
    | false =>
     obtain rfl : a = 1 := by rw [hfa, hW]; try rfl
     by_cases hr : x.r = 0
     ·simp only [y1, hHas, hhas, hw, hW2 hr, v0, v1, v2, z11, decide_eq_true hr, List.length_map, j6, b6, q6, ww, simprocAttr]
     ·simp only [y1, hHas, hhas, hw, v0, v1, v2, z11, decide_eq_false hr, List.length_map, j6, b6, q6, ww, simprocAttr]
   | false =>
    have hr : x.r = 0 := by
     unfold hasW at hW
     rw [Bool.or_eq_false_iff] at hW
     simpa using hW.1
    have hW2 : decide ((x.pa.length : Int) > 0) = false := by unfold hasW at hW; exact (Bool.or_eq_false_iff.1 hW).2
    obtain rfl : a = 0 := by rw [hfa, hW]; try rfl
    cases s with
    | true => simp only [y1, hHas, hhas, hw, hW2, v0, v1, v2, decide_eq_true hr, List.length_map, j6, b6, q6, ww, simprocAttr]
    | false => simp only [y1, hHas, hhas, hw, hW2, v0, v1, v2, decide_eq_true hr, List.length_map, j6, b6, q6, ww, simprocAttr]
theorem e6r {A B C D E F G H I J : Prop} (c : Cf) (t self : Int) (x : Tp) (n inc : Int) (w0_ : A) (w1_ : B) (w2_ : C) (w3_ : D ∧ (E ∧ (F ∧ (G ∧ (wf8 x.p ∧ (wf8 x.a ∧ (wf8 x.o ∧ H))))))) (w4_ : I) (w5_ : J) : LB.TT 4000 20 6 [.agg (eC c), iV t, iV self, aX x, iV n, iV inc] = some (bV true, []) := e6 c t self x n inc (wf8_b w3_.2.2.2.2.1) (wf8_b w3_.2.2.2.2.2.1) (wf8_b w3_.2.2.2.2.2.2.1)
end Go.Proofs.YtdflglehippoiaaGreatDoor.GA
