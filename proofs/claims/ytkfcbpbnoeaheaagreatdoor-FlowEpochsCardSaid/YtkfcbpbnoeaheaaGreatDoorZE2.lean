/- Texts joined: FH FI FJ FK FL L4 FN. -/
import Derived.Test.YtkfcbpbnoeaheaaGreatDoorZE1
import Derived.Test.YtkfcbpbnoeaheaaGreatDoorProg
set_option linter.unusedVariables false
set_option linter.unusedSimpArgs false
namespace Go.Proofs.YtkfcbpbnoeaheaaGreatDoor.FA
open Go Go.Proofs.YtkfcbpbnoeaheaaGreatDoorR Go.Proofs.YtkfcbpbnoeaheaaGreatDoor.IF
open Go.Proofs.YtkfcbpbnoeaheaaGreatDoor.QA (Ev eE aE rE inB epOK evOK qOK putE n01 gapE lastK)
open Go.Proofs.YtkfcbpbnoeaheaaGreatDoor.AA (It eT aT rT ahOK addA leftL wi wm takeT allT take_s hR pre cP risB fitsB)
open Go.Proofs.YtkfcbpbnoeaheaaGreatDoor.EC (Cf eC okC)
set_option maxRecDepth 100000
set_option maxHeartbeats 4000000
theorem evOK_data {e s v : Int} (he : epOK e = true) (hs : 1 ≤ s ∧ s ≤ 1073741824) (hv : inB v 0 2147483647 = true) : evOK ⟨1, e, s, 0, v, 0⟩ = true := by
  have : inB s 1 1073741824 = true := by simp [inB]; omega
  simp [evOK, he, this, hv]
theorem evOK_gap {e s l : Int} (he : epOK e = true) (hs : 1 ≤ s) (hl : s ≤ l ∧ l ≤ 1073741824) : evOK ⟨2, e, s, l, 0, 0⟩ = true := by
  have h1 : inB s 1 1073741824 = true := by simp [inB]; omega
  have h2 : inB l s 1073741824 = true := by simp [inB]; omega
  simp [evOK, he, h1, h2]
theorem evOK_2 {x : Ev} (h : evOK x = true) (hk : x.k = 2) : epOK x.e = true ∧ 1 ≤ x.s ∧ x.s ≤ x.l ∧ x.l ≤ 1073741824 ∧ x.v = 0 ∧ x.c = 0 := by
  simp [evOK, hk, inB] at h
  simp [h]
theorem gap_ok {x g : Ev} (hx : evOK x = true) (hg : gapE x = some g) : g.k = 2 ∧ evOK g = true := by
  unfold gapE at hg
  split at hg
  · rename_i hk
    cases hg
    simp [evOK, hk, inB] at hx
    exact ⟨rfl, evOK_gap (by simp [hx]) (by omega) (by omega)⟩
  · split at hg
    · rename_i hk
      cases hg
      exact ⟨hk, hx⟩
    · cases hg
theorem lastK_app (l : List Ev) (y : Ev) : lastK (l ++ [y]) = y.k := by simp [lastK]
theorem q_fit {l : List Ev} {n : Int} {x : Ev} (hq : qOK l n = true) (hx : evOK x = true) : qOK (fitE l n x) n = true := by
  have hq0 := hq
  simp only [qOK, Bool.and_eq_true, Bool.or_eq_true, Bool.not_eq_true', decide_eq_true_eq, decide_eq_false_iff_not] at hq
  obtain ⟨⟨⟨⟨h1, h2⟩, h3⟩, h4⟩, h5⟩ := hq
  unfold fitE
  by_cases g1 : (l.length : Int) < n - 1
  · rw [show putE l n x = (0, l ++ [x]) by simp only [putE, hq0, hx, Bool.and_self, if_true, if_pos g1]]
    simp only [if_true, qOK, List.length_append, List.length_cons, List.length_nil, List.all_append, List.all_cons, List.all_nil, h4, hx, Bool.and_true, Bool.and_eq_true, Bool.or_eq_true, Bool.not_eq_true', decide_eq_true_eq, decide_eq_false_iff_not]
    exact ⟨⟨⟨h1, h2⟩, by omega⟩, .inl (by omega)⟩
  cases hg : gapE x with
  | none => rw [show putE l n x = (6, []) by simp only [putE, hq0, hx, hg, Bool.and_self, if_true, if_neg g1]]; exact hq0
  | some g =>
    obtain ⟨k1, k2⟩ := gap_ok hx hg
    by_cases g2 : (l.length : Int) < n
    · rw [show putE l n x = (0, l ++ [g]) by simp only [putE, hq0, hx, hg, Bool.and_self, if_true, if_neg g1, if_pos g2]]
      simp only [if_true, qOK, List.length_append, List.length_cons, List.length_nil, List.all_append, List.all_cons, List.all_nil, h4, k2, lastK_app, k1, Bool.and_true, Bool.and_eq_true, Bool.or_eq_true, Bool.not_eq_true', decide_eq_true_eq, decide_eq_false_iff_not]
      first | exact ⟨⟨⟨h1, h2⟩, by omega⟩, .inr rfl⟩ | exact ⟨⟨h1, h2⟩, by omega⟩ | (simp; omega)
    · have hlen : (l.length : Int) = n := by omega
      have hne : l ≠ [] := fun e => by subst e; simp at hlen; omega
      obtain ⟨m, y, rfl⟩ : ∃ m y, l = m ++ [y] := ⟨l.dropLast, l.getLast hne, (List.dropLast_concat_getLast hne).symm⟩
      have g1' : ¬ ((m.length : Int) + 1 < n - 1) := by simp at hlen; omega
      have g2' : ¬ ((m.length : Int) + 1 < n) := by simp at hlen; omega
      by_cases g3 : g.e = y.e ∧ g.s = y.l + 1
      · rw [show putE (m ++ [y]) n x = (0, (m ++ [y]).dropLast ++ [{ y with l := g.l }]) by simp [putE, hq0, hx, hg, g1', g2', g3]]
        have hy : y.k = 2 := by
          rcases h5 with h | h
          · exact absurd hlen h
          · rwa [lastK_app] at h
        have hyok : evOK y = true := by simp [List.all_append] at h4; exact h4.2
        have hm : m.all evOK = true := by simp [List.all_append] at h4 ⊢; exact h4.1
        obtain ⟨a1, a2, a3, a4, a5, a6⟩ := evOK_2 hyok hy
        obtain ⟨b1, b2, b3, b4, b5, b6⟩ := evOK_2 k2 k1
        have hnew : evOK { y with l := g.l } = true := by
          have : ({ y with l := g.l } : Ev) = ⟨2, y.e, y.s, g.l, 0, 0⟩ := by
            obtain ⟨k, e, s, l, v, c⟩ := y
            simp at hy a5 a6 ⊢
            exact ⟨hy, a5, a6⟩
          rw [this]
          exact evOK_gap a1 a2 ⟨by omega, b4⟩
        simp only [List.dropLast_concat, if_true, qOK, List.length_append, List.length_cons, List.length_nil, List.all_append, List.all_cons, List.all_nil, hm, hnew, lastK_app, Bool.and_true, Bool.and_eq_true, Bool.or_eq_true, Bool.not_eq_true', decide_eq_true_eq, decide_eq_false_iff_not] at h3 hlen ⊢
        exact ⟨⟨⟨h1, h2⟩, by simpa using h3⟩, .inr hy⟩
      · rw [show putE (m ++ [y]) n x = (6, []) by simp [putE, hq0, hx, hg, g1', g2', g3]]
        exact hq0
/-- The page's way to take items in. -/
def rQ (c : Cf) (s : Sm) (sub : Bool) (q : List Ev) (x : It) : List Ev := if sub then fitE q c.q ⟨1, s.e, x.s, 0, x.v, 0⟩ else q
def takeR (c : Cf) (sub : Bool) : List It → Sm → List Ev → List It → It → Sm × List Ev × List It
  | [], s, q, on, x => (⟨s.e, s.w + 1, if s.w + 1 > s.kn then s.w + 1 else s.kn, pushL s.kp s.w c.p x.v, []⟩, rQ c s sub q x, on ++ [x])
  | y :: r, s, q, on, x => if y.s = s.w + 1 then takeR c sub r ⟨s.e, s.w + 1, if s.w + 1 > s.kn then s.w + 1 else s.kn, pushL s.kp s.w c.p x.v, r⟩ (rQ c s sub q x) (on ++ [x]) y
    else (⟨s.e, s.w + 1, if s.w + 1 > s.kn then s.w + 1 else s.kn, pushL s.kp s.w c.p x.v, y :: r⟩, rQ c s sub q x, on ++ [x])
structure RI (c : Cf) (sub : Bool) (ah : List It) (s : Sm) (q : List Ev) (x : It) : Prop where
  cc : 1 ≤ c.p ∧ c.p ≤ 16
  qq : sub = true → qOK q c.q = true ∧ epOK s.e = true
  xs : x.s = s.w
  ws : 1 ≤ s.w ∧ s.w ≤ 1073741823
  xv : inB x.v 0 2147483647 = true
  ay : ∀ y ∈ ah, inB y.v 0 2147483647 = true ∧ y.s ≤ 1073741823
  kl : s.kp.length ≤ 16
  ql : q.length < 900
theorem push_len {l : List It} {want lim v : Int} (hl : l.length ≤ 16) (h : 1 ≤ lim ∧ lim ≤ 16) : (pushL l want lim v).length ≤ 16 := by
  simp [pushL]; omega
theorem rQ_ok {c : Cf} {sub : Bool} {ah : List It} {s : Sm} {q : List Ev} {x : It} (h : RI c sub ah s q x) : (sub = true → qOK (rQ c s sub q x) c.q = true ∧ epOK s.e = true) ∧ (q.length < 800 → (rQ c s sub q x).length < 900) := by
  refine ⟨fun hs => ⟨?_, (h.qq hs).2⟩, fun hl => ?_⟩
  · subst hs
    simp only [rQ, if_true]
    have := h.ws
    exact q_fit (h.qq rfl).1 (evOK_data (h.qq rfl).2 (by rw [h.xs]; omega) h.xv)
  · unfold rQ
    split
    · have := fitE_len q c.q ⟨1, s.e, x.s, 0, x.v, 0⟩; omega
    · omega
theorem e66 (N d : Nat) (hN : 1000 ≤ N) (c : Cf) (s : Sm) (sub : Bool) (q : List Ev) (v : Int) (ha : s.ah.length < 400) (hq : q.length < 400) (h : RI c sub s.ah s q ⟨s.w, v⟩) :
    ans (TT N (d + 4) 66 [.agg (eC c), aS s, bV sub, .one (rE q), iV v]) = some (.tup [aS (takeR c sub s.ah s q [] ⟨s.w, v⟩).1, .one (rE (takeR c sub s.ah s q [] ⟨s.w, v⟩).2.1), .one (rT (takeR c sub s.ah s q [] ⟨s.w, v⟩).2.2)]) := by
  rw [t66, F_ev rfl]
  simp only [List.length_map, j66, b66, q66, qq, ww, List.replicate, Nat.reduceBEq, Nat.reduceAdd, Nat.reduceMul, Nat.reduceDiv, Nat.reduceEqDiff, Nat.reduceLeDiff, Nat.reduceLT, Int.reduceEq, Int.reduceNe, Int.reduceLT, Int.reduceLE, Int.reduceAdd, Int.reduceSub, Int.reduceMul, Int.reduceNeg, Int.reduceToNat, Int.reducePow, Nat.reducePow, reduceCtorEq, reduceIte, if_true, if_false]
  generalize hF : takeR c sub s.ah s q [] ⟨s.w, v⟩ = F at *
  refine loopI (K := fun o => ans (fin _ (aft _ _ _ o))) (I := fun i st => ∃ ah s' q' on' x', st = ⟨[(2, bV sub), (3, .one (rE q')), (5, .one (.ref 320 0 0)), (6, .one (.ref 384 0 0)), (10, .one (.ref 640 0 0)), (13, .one (.sl 832 0 on'.length)), (14, .one (.ref 896 0 0))],
      [(320, .box (eC c)), (384, .box [.int .i64 s'.e, .int .i64 s'.w, .int .i64 s'.kn, rT s'.kp, rT ah]), (640, .box [.int .i64 0, .int .i64 0, .int .i64 0, .row [], .row []]), (832, .rows 29 2 (on'.map eT)), (896, .box (eT x'))]⟩ ∧ takeR c sub ah s' q' on' x' = F ∧ RI c sub ah s' q' x' ∧ ah.length + i = s.ah.length ∧ on'.length ≤ i ∧ q'.length ≤ q.length + i) _ s.ah.length ?hr s.ah.length 0 N _
      ⟨[(2, bV sub), (3, .one (rE q)), (5, .one (.ref 320 0 0)), (6, .one (.ref 384 0 0)), (10, .one (.ref 640 0 0)), (13, .one (.sl 832 0 0)), (14, .one (.ref 896 0 0))],
      [(320, .box (eC c)), (384, .box (eS s)), (640, .box [.int .i64 0, .int .i64 0, .int .i64 0, .row [], .row []]), (832, .rows 29 2 []), (896, .box (eT (⟨s.w, v⟩ : It)))]⟩ (by omega) (by omega) ?hk ⟨s.ah, s, q, [], ⟨s.w, v⟩, rfl, hF, h, by omega, by simp, by omega⟩
  case hk => simp only [gcK, lowB, Nat.reduceLeDiff, Nat.reduceBEq, List.contains_nil, List.contains_cons, Bool.or_false, Bool.false_or, Bool.false_eq_true, if_false, Bool.true_and, Bool.and_true, pickL, look_hit, look_miss, look_end, slMent, hpMent, S.ment, S.ment.smt, ments, V.ment, List.append_nil, List.nil_append, List.cons_append, List.all_nil, List.all_cons, Option.isSome_some, Bool.and_self, if_true, reduceIte, Nat.reduceEqDiff, not_false_eq_true, reduceCtorEq, Nat.reduceMul, Nat.reduceAdd]
  case hr =>
    rintro i n st hi ⟨ah, s', q', on', x', rfl, hf, hri, hal, hon, hql⟩ ih
    (try dsimp only)
    have h1 := fun d => e103 N d s'.kp s'.w c.p x'.v hri.cc (by have := hri.kl; omega)
    have hws := hri.ws
    have hwi : IntKind.i64.wrap (s'.w + 1) = s'.w + 1 := IntWalk.i64_in _ (by omega)
    have hby : (on'.length + 1) * 16 ≤ 140737488355328 := by omega
    have htk : List.take (on'.length + 1) (on'.map eT ++ [eT x']) = on'.map eT ++ [eT x'] := List.take_of_length_le (by simp)
    have hput : sub = true → ∀ d, TT N (d + 3) 69 [.one (rE q'), iV c.q, aE ⟨1, s'.e, x'.s, 0, x'.v, 0⟩] = some (.one (rE (fitE q' c.q ⟨1, s'.e, x'.s, 0, x'.v, 0⟩)), []) := fun hs d =>
      e69 N d q' c.q ⟨1, s'.e, x'.s, 0, x'.v, 0⟩ (by have := hri.ql; omega) (hri.qq hs).1 (evOK_data (hri.qq hs).2 (by rw [hri.xs]; omega) hri.xv)
    have hrq := rQ_ok hri
    have hpl := push_len (want := s'.w) (v := x'.v) hri.kl hri.cc
    have hrl : (rQ c s' sub q' x').length ≤ q'.length + 1 := by
      unfold rQ
      split
      · exact fitE_len _ _ _
      · omega
    have hqr : rQ c s' sub q' x' = (if sub = true then fitE q' c.q ⟨1, s'.e, x'.s, 0, x'.v, 0⟩ else q') := rfl
    have hxs := hri.xs
    cases ah with
    | nil =>
      clear ih
      rw [takeR] at hf
      subst hf
      cases sub with
      | true =>
        have hp := hput rfl
        simp only [if_true] at hqr
        simp only [h1, hp, hwi, hby, htk, hqr, takeT, List.map_nil, List.length_nil, List.length_map, List.length_append, List.map_append, List.length_cons, List.map_cons, Nat.zero_add, j66, b66, q66, qq, ww, List.replicate, Nat.reduceBEq, Nat.reduceAdd, Nat.reduceMul, Nat.reduceDiv, Nat.reduceEqDiff, Nat.reduceLeDiff, Nat.reduceLT, Int.reduceEq, Int.reduceNe, Int.reduceLT, Int.reduceLE, Int.reduceAdd, Int.reduceSub, Int.reduceMul, Int.reduceNeg, Int.reduceToNat, Int.reducePow, Nat.reducePow, reduceCtorEq, reduceIte, if_true, if_false]
        try (simp [rT]; done)
      | false =>
        simp only [Bool.false_eq_true, if_false] at hqr
        simp only [h1, hwi, hby, htk, hqr, takeT, List.map_nil, List.length_nil, List.length_map, List.length_append, List.map_append, List.length_cons, List.map_cons, Nat.zero_add, j66, b66, q66, qq, ww, List.replicate, Nat.reduceBEq, Nat.reduceAdd, Nat.reduceMul, Nat.reduceDiv, Nat.reduceEqDiff, Nat.reduceLeDiff, Nat.reduceLT, Int.reduceEq, Int.reduceNe, Int.reduceLT, Int.reduceLE, Int.reduceAdd, Int.reduceSub, Int.reduceMul, Int.reduceNeg, Int.reduceToNat, Int.reducePow, Nat.reducePow, reduceCtorEq, reduceIte, if_true, if_false]
        try (simp [rT]; done)
    | cons y r =>
      simp only [List.length_cons] at hal
      have hz : decide ((((y :: r).map eT).length : Int) = 0) = false := by simp; omega
      have hz2 : decide (((r.length + 1 : Nat) : Int) = 0) = false := by simp; omega
      have hb : (0 : Int) ≤ 0 ∧ (0 : Int) < ((r.length + 1 : Nat) : Int) := by omega
      have hb3 : (0 : Int) ≤ 1 := by omega
      have hif : (if (1 : Int) = ((r.length + 1 : Nat) : Int) then (some (S.one (V.row []), ([] : Hp))) else some (S.one (V.row (r.map eT)), [])) = some (.one (.row (r.map eT)), []) := by
        split
        · rename_i h
          rw [List.eq_nil_of_length_eq_zero (l := r) (by omega)]
          rfl
        · rfl
      have hb4 : (1 : Int) ≤ ((r.length + 1 : Nat) : Int) := by omega
      rw [takeR] at hf
      by_cases hy : y.s = s'.w + 1
      · rw [if_pos hy] at hf
        have hay := hri.ay y (by simp)
        have hri' : RI c sub r ⟨s'.e, s'.w + 1, if s'.w + 1 > s'.kn then s'.w + 1 else s'.kn, pushL s'.kp s'.w c.p x'.v, r⟩ (rQ c s' sub q' x') y :=
          ⟨hri.cc, hrq.1, hy, by show 1 ≤ s'.w + 1 ∧ s'.w + 1 ≤ _; omega, hay.1, fun z hz => hri.ay z (by simp [hz]), hpl, hrq.2 (by omega)⟩
        have hne : decide (y.s = s'.w + 1) = true := decide_eq_true hy
        cases sub with
        | true =>
          have hp := hput rfl
          simp only [if_true] at hqr
          simp only [h1, hp, hwi, hby, htk, hz, hz2, hb.1, hb.2, hb3, hb4, hif, hne, takeT, allT, Nat.add_sub_cancel, List.length_map, List.length_cons, List.map_cons, j66, b66, q66, qq, ww, List.replicate, Nat.reduceBEq, Nat.reduceAdd, Nat.reduceMul, Nat.reduceDiv, Nat.reduceEqDiff, Nat.reduceLeDiff, Nat.reduceLT, Int.reduceEq, Int.reduceNe, Int.reduceLT, Int.reduceLE, Int.reduceAdd, Int.reduceSub, Int.reduceMul, Int.reduceNeg, Int.reduceToNat, Int.reducePow, Nat.reducePow, reduceCtorEq, reduceIte, if_true, if_false]
          refine ih (by omega) _ _ ?_ ⟨r, _, _, _, y, rfl, hf, hri', by omega, by simp; omega, by omega⟩
          simp only [gcK, lowB, Nat.reduceLeDiff, Nat.reduceBEq, List.contains_nil, List.contains_cons, Bool.or_false, Bool.false_or, Bool.false_eq_true, if_false, Bool.true_and, Bool.and_true, pickL, look_hit, look_miss, look_end, slMent, hpMent, S.ment, S.ment.smt, ments, V.ment, List.append_nil, List.nil_append, List.cons_append, List.all_nil, List.all_cons, Option.isSome_some, Bool.and_self, if_true, reduceIte, Nat.reduceEqDiff, not_false_eq_true, reduceCtorEq, Nat.reduceMul, Nat.reduceAdd, hqr, rT, List.map_append, List.map_cons, List.map_nil, List.length_append, List.length_cons, List.length_nil, Nat.zero_add]
          try rfl
        | false =>
          simp only [Bool.false_eq_true, if_false] at hqr
          simp only [h1, hwi, hby, htk, hz, hz2, hb.1, hb.2, hb3, hb4, hif, hne, takeT, allT, Nat.add_sub_cancel, List.length_map, List.length_cons, List.map_cons, j66, b66, q66, qq, ww, List.replicate, Nat.reduceBEq, Nat.reduceAdd, Nat.reduceMul, Nat.reduceDiv, Nat.reduceEqDiff, Nat.reduceLeDiff, Nat.reduceLT, Int.reduceEq, Int.reduceNe, Int.reduceLT, Int.reduceLE, Int.reduceAdd, Int.reduceSub, Int.reduceMul, Int.reduceNeg, Int.reduceToNat, Int.reducePow, Nat.reducePow, reduceCtorEq, reduceIte, if_true, if_false]
          refine ih (by omega) _ _ ?_ ⟨r, _, _, _, y, rfl, hf, hri', by omega, by simp; omega, by omega⟩
          simp only [gcK, lowB, Nat.reduceLeDiff, Nat.reduceBEq, List.contains_nil, List.contains_cons, Bool.or_false, Bool.false_or, Bool.false_eq_true, if_false, Bool.true_and, Bool.and_true, pickL, look_hit, look_miss, look_end, slMent, hpMent, S.ment, S.ment.smt, ments, V.ment, List.append_nil, List.nil_append, List.cons_append, List.all_nil, List.all_cons, Option.isSome_some, Bool.and_self, if_true, reduceIte, Nat.reduceEqDiff, not_false_eq_true, reduceCtorEq, Nat.reduceMul, Nat.reduceAdd, hqr, rT, List.map_append, List.map_cons, List.map_nil, List.length_append, List.length_cons, List.length_nil, Nat.zero_add]
          try rfl
      · rw [if_neg hy] at hf
        clear ih
        subst hf
        have hne : decide (y.s = s'.w + 1) = false := decide_eq_false hy
        cases sub with
        | true =>
          have hp := hput rfl
          simp only [if_true] at hqr
          simp only [h1, hp, hwi, hby, htk, hz, hz2, hb.1, hb.2, hne, hqr, takeT, List.length_map, List.length_append, List.map_append, List.length_cons, List.map_cons, List.length_nil, List.map_nil, Nat.zero_add, j66, b66, q66, qq, ww, List.replicate, Nat.reduceBEq, Nat.reduceAdd, Nat.reduceMul, Nat.reduceDiv, Nat.reduceEqDiff, Nat.reduceLeDiff, Nat.reduceLT, Int.reduceEq, Int.reduceNe, Int.reduceLT, Int.reduceLE, Int.reduceAdd, Int.reduceSub, Int.reduceMul, Int.reduceNeg, Int.reduceToNat, Int.reducePow, Nat.reducePow, reduceCtorEq, reduceIte, if_true, if_false]
          try (simp [rT]; done)
        | false =>
          simp only [Bool.false_eq_true, if_false] at hqr
          simp only [h1, hwi, hby, htk, hz, hz2, hb.1, hb.2, hne, hqr, takeT, List.length_map, List.length_append, List.map_append, List.length_cons, List.map_cons, List.length_nil, List.map_nil, Nat.zero_add, j66, b66, q66, qq, ww, List.replicate, Nat.reduceBEq, Nat.reduceAdd, Nat.reduceMul, Nat.reduceDiv, Nat.reduceEqDiff, Nat.reduceLeDiff, Nat.reduceLT, Int.reduceEq, Int.reduceNe, Int.reduceLT, Int.reduceLE, Int.reduceAdd, Int.reduceSub, Int.reduceMul, Int.reduceNeg, Int.reduceToNat, Int.reducePow, Nat.reducePow, reduceCtorEq, reduceIte, if_true, if_false]
          try (simp [rT]; done)
end Go.Proofs.YtkfcbpbnoeaheaaGreatDoor.FA
namespace Go.Proofs.YtkfcbpbnoeaheaaGreatDoor.FA
open Go Go.Proofs.YtkfcbpbnoeaheaaGreatDoorR Go.Proofs.YtkfcbpbnoeaheaaGreatDoor.IF
open Go.Proofs.YtkfcbpbnoeaheaaGreatDoor.QA (Ev eE aE rE inB epOK evOK qOK putE n01 gapE lastK)
open Go.Proofs.YtkfcbpbnoeaheaaGreatDoor.AA (It eT aT rT ahOK addA leftL wi wm takeT allT take_s hR pre cP risB fitsB)
open Go.Proofs.YtkfcbpbnoeaheaaGreatDoor.EC (Cf eC okC)
set_option maxRecDepth 100000
set_option maxHeartbeats 4000000
theorem kRow_app : ∀ {l : List It} {s : Int} {x : It}, kRow s (l ++ [x]) = (kRow s l && kRow (s + l.length) [x])
  | [], s, x => by simp [kRow]
  | y :: r, s, x => by
    have ih := kRow_app (l := r) (s := s + 1) (x := x)
    rw [show s + 1 + (r.length : Int) = s + ((y :: r).length : Int) by simp; omega] at ih
    rw [List.cons_append, kRow, ih, show kRow s (y :: r) = (decide (1 ≤ y.s) && decide (y.s = s) && inB y.v 0 2147483647 && kRow (s + 1) r) from rfl]
    simp only [Bool.and_assoc]
theorem kRow_drop : ∀ {d : Nat} {l : List It} {s : Int}, kRow s l = true → d ≤ l.length → kRow (s + d) (l.drop d) = true
  | 0, l, s, h, _ => by simpa using h
  | d + 1, [], s, h, hd => by simp at hd
  | d + 1, x :: r, s, h, hd => by
    rw [kRow, Bool.and_eq_true] at h
    have := kRow_drop (d := d) h.2 (by simpa using hd)
    rw [List.drop_succ_cons, show s + ((d + 1 : Nat) : Int) = s + 1 + d by omega]
    exact this
theorem push_ok {l : List It} {w lim v : Int} (h : kpOK l w lim = true) (hw : w ≤ 1073741823) (hv : inB v 0 2147483647 = true) : kpOK (pushL l w lim v) (w + 1) lim = true := by
  simp only [kpOK, inB, Bool.and_eq_true, decide_eq_true_eq] at h
  obtain ⟨⟨⟨h1, h2⟩, h3⟩, h4⟩ := h
  have hx : kRow w [(⟨w, v⟩ : It)] = true := by
    have : decide (1 ≤ w) = true := by simp; omega
    simp [kRow, hv, this]
  have ha : kRow (w - l.length) (l ++ [(⟨w, v⟩ : It)]) = true := by
    rw [kRow_app, h4, show w - (l.length : Int) + l.length = w by omega, hx]; rfl
  have hd : l.length + 1 - lim.toNat ≤ (l ++ [(⟨w, v⟩ : It)]).length := by simp
  have := kRow_drop ha hd
  have hlen : (pushL l w lim v).length = l.length + 1 - (l.length + 1 - lim.toNat) := by simp [pushL]
  simp only [kpOK, inB, Bool.and_eq_true, decide_eq_true_eq]
  refine ⟨⟨⟨by omega, h2⟩, by rw [hlen]; omega⟩, ?_⟩
  rw [hlen, show w + 1 - ((l.length + 1 - (l.length + 1 - lim.toNat) : Nat) : Int) = w - l.length + ((l.length + 1 - lim.toNat : Nat) : Int) by omega]
  exact this
theorem pushP_ok {l : List It} {w lim v : Int} (h : kpOK l w lim = true) (hw : w ≤ 1073741823) (hv : inB v 0 2147483647 = true) : pushP l w lim v = (pushL l w lim v, 0) := by
  unfold pushP
  rw [h, hv, if_neg (by decide), if_neg (by omega)]
theorem takeR_ah {c : Cf} {sub : Bool} {ah : List It} {e w kn : Int} {kp a b : List It} {q : List Ev} {on : List It} {x : It} : takeR c sub ah ⟨e, w, kn, kp, a⟩ q on x = takeR c sub ah ⟨e, w, kn, kp, b⟩ q on x := by
  cases ah <;> rfl
theorem foldK_nil {c : Cf} {sub : Bool} {s : Sm} {q : List Ev} {on : List It} : foldK c sub [] s q on = (s, q, on) := rfl
/-- Items taken in by the page's way are those taken in one by one. -/
theorem take_fold {c : Cf} {sub : Bool} {want : Int} (hwant : 0 ≤ want ∧ want ≤ 1073741824) : ∀ {ah : List It} {s : Sm} {q : List Ev} {on : List It} {x : It} {k : Nat}, x.s = s.w → s.w + 1 = want + k → kpOK s.kp s.w c.p = true → inB x.v 0 2147483647 = true → s.w ≤ 1073741823 →
    (∀ y ∈ ah, inB y.v 0 2147483647 = true ∧ 0 ≤ y.s ∧ y.s ≤ 1073741823) →
    takeR c sub ah s q on x = (⟨(foldK c sub (ah.take (pre (cP want) ah k)) (oneS c s x.v) (oneQ c s sub q x.v) (on ++ [⟨s.w, x.v⟩])).1.e, (foldK c sub (ah.take (pre (cP want) ah k)) (oneS c s x.v) (oneQ c s sub q x.v) (on ++ [⟨s.w, x.v⟩])).1.w,
      (foldK c sub (ah.take (pre (cP want) ah k)) (oneS c s x.v) (oneQ c s sub q x.v) (on ++ [⟨s.w, x.v⟩])).1.kn, (foldK c sub (ah.take (pre (cP want) ah k)) (oneS c s x.v) (oneQ c s sub q x.v) (on ++ [⟨s.w, x.v⟩])).1.kp, ah.drop (pre (cP want) ah k)⟩,
      (foldK c sub (ah.take (pre (cP want) ah k)) (oneS c s x.v) (oneQ c s sub q x.v) (on ++ [⟨s.w, x.v⟩])).2)
  | [], s, q, on, x, k, hx, hk, hp, hv, hw, hah => by
    have e1 := pushP_ok (v := x.v) hp hw hv
    obtain ⟨xs, xv⟩ := x
    simp only at hx hv e1
    subst hx
    simp only [pre, List.take_zero, List.drop_zero, foldK, takeR, oneS, oneQ, rQ, e1]
  | y :: r, s, q, on, x, k, hx, hk, hp, hv, hw, hah => by
    have e1 := pushP_ok (v := x.v) hp hw hv
    have hy := hah y (by simp)
    have hcp : cP want y k = decide (y.s = s.w + 1) := by
      unfold cP
      rw [IntWalk.i64_in _ (by omega)]
      by_cases h : y.s = s.w + 1
      · rw [decide_eq_true h, decide_eq_true (by omega)]
      · rw [decide_eq_false h, decide_eq_false (by omega)]
    obtain ⟨xs, xv⟩ := x
    simp only at hx hv e1
    subst hx
    rw [takeR, pre, hcp]
    by_cases h : y.s = s.w + 1
    · rw [if_pos h, if_pos (decide_eq_true h)]
      have hs1 : takeR c sub r ⟨s.e, s.w + 1, if s.w + 1 > s.kn then s.w + 1 else s.kn, pushL s.kp s.w c.p xv, r⟩ (rQ c s sub q ⟨s.w, xv⟩) (on ++ [⟨s.w, xv⟩]) y =
          takeR c sub r (oneS c s xv) (oneQ c s sub q xv) (on ++ [⟨s.w, xv⟩]) y := by
        rw [oneS, e1]
        exact takeR_ah
      rw [hs1, take_fold hwant (s := oneS c s xv) (k := k + 1) h (by show s.w + 1 + 1 = _; omega) (by show kpOK (pushP s.kp s.w c.p xv).1 (s.w + 1) c.p = true; rw [e1]; exact push_ok hp hw hv) hy.1 (by show s.w + 1 ≤ _; omega) (fun z hz => hah z (by simp [hz]))]
      rfl
    · rw [if_neg h, show (if decide (y.s = s.w + 1) = true then pre (cP want) r (k + 1) + 1 else 0) = 0 from if_neg (by simp [h])]
      simp only [List.take_zero, List.drop_zero, foldK, oneS, oneQ, rQ, e1]
theorem left_all {w : Int} : ∀ {l : List It}, (∀ y ∈ l, w ≤ y.s) → leftL w l = l := fun {l} h => by
  unfold leftL
  rw [List.filter_eq_self]
  intro y hy
  simp [h y hy]
/-- The wanted item, and those behind it. -/
theorem one_more {c : Cf} {sub : Bool} {s : Sm} {q : List Ev} {v : Int} (hp : kpOK s.kp s.w c.p = true) (hv : inB v 0 2147483647 = true) (hw : 0 ≤ s.w ∧ s.w ≤ 1073741823) (hah : ∀ y ∈ s.ah, inB y.v 0 2147483647 = true ∧ s.w < y.s ∧ y.s ≤ 1073741823) :
    moreK c sub (oneS c s v) (oneQ c s sub q v) [⟨s.w, v⟩] = takeR c sub s.ah s q [] ⟨s.w, v⟩ := by
  have hl : leftL (s.w + 1) s.ah = s.ah := left_all fun y hy => by have := hah y hy; omega
  rw [take_fold (want := s.w + 1) (k := 0) (by omega) rfl (by simp) hp hv hw.2 fun y hy => ⟨(hah y hy).1, by have := hah y hy; omega, (hah y hy).2.2⟩]
  unfold moreK
  simp only [cut]
  rw [show (oneS c s v).w = s.w + 1 from rfl, show (oneS c s v).ah = s.ah from rfl, hl]
  rfl
end Go.Proofs.YtkfcbpbnoeaheaaGreatDoor.FA
namespace Go.Proofs.YtkfcbpbnoeaheaaGreatDoor.FA
open Go Go.Proofs.YtkfcbpbnoeaheaaGreatDoorR Go.Proofs.YtkfcbpbnoeaheaaGreatDoor.IF
open Go.Proofs.YtkfcbpbnoeaheaaGreatDoor.QA (Ev eE aE rE inB epOK evOK qOK putE n01 gapE lastK)
open Go.Proofs.YtkfcbpbnoeaheaaGreatDoor.AA (It eT aT rT ahOK addA addR leftL wi wm takeT allT take_s hR pre cP risB fitsB)
open Go.Proofs.YtkfcbpbnoeaheaaGreatDoor.EC (Cf eC okC)
set_option maxRecDepth 100000
set_option maxHeartbeats 4000000
abbrev gA (r : Sm × List Ev × List It) : S := .tup [aS r.1, .one (rE r.2.1), .one (rT r.2.2)]
/-- A right stream that has an epoch. -/
theorem right_e {c : Cf} {s : Sm} (h : rightB c s = true) (he : epOK s.e = true) : kpOK s.kp s.w c.p = true ∧ ahOK s.ah s.w c.w = true ∧ 1 ≤ s.w := by
  unfold rightB at h
  rw [Bool.or_eq_true] at h
  rcases h with h | h
  · rw [zeroB_iff] at h; subst h; simp [epOK, inB] at he
  · simp only [Bool.and_eq_true, decide_eq_true_eq] at h
    exact ⟨h.1.2, h.2, by have := h.1.1.1.1.2; simp [inB] at this; omega⟩
theorem okC_t {c : Cf} (h : okC c = true) : (1 ≤ c.n ∧ c.n ≤ 8) ∧ (1 ≤ c.t ∧ c.t ≤ 4) ∧ (1 ≤ c.k ∧ c.k ≤ 4) ∧ (1 ≤ c.d ∧ c.d ≤ 8) ∧ (1 ≤ c.p ∧ c.p ≤ 16) ∧ (1 ≤ c.w ∧ c.w ≤ 16) ∧ (2 ≤ c.q ∧ c.q ≤ 32) := by simpa [okC] using h
theorem e25 (N d : Nat) (hN : 1000 ≤ N) (c : Cf) (s : Sm) (sub : Bool) (q : List Ev) (at_ : Int) (x : It) (h0 : flowC c s q = 0) (h1 : epOK at_ = true) (h2 : inB x.s 1 1073741823 = true) (h3 : inB x.v 0 2147483647 = true) :
    ans (TT N (d + 5) 25 [.agg (eC c), aS s, bV sub, .one (rE q), iV at_, aT x]) = some (gA (itemG c (if at_ > s.e then ⟨at_, x.s, x.s, [], []⟩ else s) sub q (decide (at_ < s.e)) x)) := by
  obtain ⟨k1, k2, k3⟩ := flow_t h0
  have k4 := right_t k2
  have kk := k4.1
  have ka := k4.2.1
  have k5 := q_t k3
  have k6 : 1 ≤ x.s ∧ x.s ≤ 1073741823 := by simpa [inB] using h2
  have kc := okC_t k1
  have kp : 1 ≤ c.p ∧ c.p ≤ 16 := kc.2.2.2.2.1
  have hs : smL s := ⟨by omega, by omega⟩
  have t1 := fun d => e10 N d s hs
  have t2 := fun d => QA.e11 N d q (by omega)
  have t3 := fun d => e65 N d at_ x.s
  rw [t25, F_ev rfl]
  by_cases g1 : at_ < s.e
  · have g2 : ¬ at_ > s.e := by omega
    rw [if_neg g2]
    unfold itemG
    rw [if_pos (by simp [g1])]
    simp only [t1, t2, decide_eq_true g1, QA.tk, List.length_map, j25, b25, q25, qq, ww, List.replicate, Nat.reduceBEq, Nat.reduceAdd, Nat.reduceMul, Nat.reduceDiv, Nat.reduceEqDiff, Nat.reduceLeDiff, Nat.reduceLT, Int.reduceEq, Int.reduceNe, Int.reduceLT, Int.reduceLE, Int.reduceAdd, Int.reduceSub, Int.reduceMul, Int.reduceNeg, Int.reduceToNat, Int.reducePow, Nat.reducePow, reduceCtorEq, reduceIte, if_true, if_false]
    try rfl
  by_cases g2 : at_ > s.e
  · rw [if_pos g2]
    unfold itemG
    rw [if_neg (by simp; omega), if_pos rfl]
    have hri : RI c sub [] ⟨at_, x.s, x.s, [], []⟩ q ⟨x.s, x.v⟩ := ⟨kp, fun _ => ⟨k3, h1⟩, rfl, k6, h3, by simp, by simp, by omega⟩
    have ht := fun d => e66 N d hN c ⟨at_, x.s, x.s, [], []⟩ sub q x.v (by simp) (by omega) hri
    rw [one_more (by show kpOK [] x.s c.p = true; simp [kpOK, inB, kRow]; omega) h3 (by show 0 ≤ x.s ∧ x.s ≤ _; omega) (by simp)]
    dsimp only at ht ⊢
    generalize hM : takeR c sub [] ⟨at_, x.s, x.s, [], []⟩ q [] ⟨x.s, x.v⟩ = r at *
    simp only [t1, t2, t3, ht, decide_eq_false g1, decide_eq_true g2, decide_true, QA.tk, takeT, gA, List.length_map, j25, b25, q25, qq, ww, List.replicate, Nat.reduceBEq, Nat.reduceAdd, Nat.reduceMul, Nat.reduceDiv, Nat.reduceEqDiff, Nat.reduceLeDiff, Nat.reduceLT, Int.reduceEq, Int.reduceNe, Int.reduceLT, Int.reduceLE, Int.reduceAdd, Int.reduceSub, Int.reduceMul, Int.reduceNeg, Int.reduceToNat, Int.reducePow, Nat.reducePow, reduceCtorEq, reduceIte, if_true, if_false]
  rw [if_neg g2]
  obtain rfl : at_ = s.e := by omega
  obtain ⟨r1, r2, r3⟩ := right_e k2 h1
  have hah := right_ah k2
  by_cases g3 : x.s = s.w
  · unfold itemG
    rw [if_neg (by simp; omega), if_pos g3]
    have hri : RI c sub s.ah s q ⟨s.w, x.v⟩ := ⟨kp, fun _ => ⟨k3, h1⟩, rfl, by omega, h3, fun y hy => by have := hah y hy; exact ⟨this.2.2, by omega⟩, by omega, by omega⟩
    have ht := fun d => e66 N d hN c s sub q x.v (by omega) (by omega) hri
    rw [one_more r1 h3 (by omega) (fun y hy => by have := hah y hy; exact ⟨this.2.2, this.1, by omega⟩)]
    generalize hM : takeR c sub s.ah s q [] ⟨s.w, x.v⟩ = r at *
    simp only [t1, t2, ht, decide_eq_false g1, decide_eq_false g2, decide_eq_true g3, QA.tk, takeT, gA, List.length_map, j25, b25, q25, qq, ww, List.replicate, Nat.reduceBEq, Nat.reduceAdd, Nat.reduceMul, Nat.reduceDiv, Nat.reduceEqDiff, Nat.reduceLeDiff, Nat.reduceLT, Int.reduceEq, Int.reduceNe, Int.reduceLT, Int.reduceLE, Int.reduceAdd, Int.reduceSub, Int.reduceMul, Int.reduceNeg, Int.reduceToNat, Int.reducePow, Nat.reducePow, reduceCtorEq, reduceIte, if_true, if_false]
  by_cases g4 : x.s > s.w
  · unfold itemG
    rw [if_neg (by simp; omega), if_neg g3]
    have hwx : IntKind.i64.wrap (x.s + 1) = x.s + 1 := IntWalk.i64_in _ (by omega)
    have hww : IntKind.i64.wrap (s.w + c.w) = s.w + c.w := IntWalk.i64_in _ (by omega)
    have ha := fun d => AA.e67 N d s.ah s.w c.w x (by omega) (by omega) hww
    cases g5 : fitsB x.s s.w c.w with
    | false =>
      rw [g5] at ha
      rw [show addA s.ah s.w c.w x = ([], 6) by simp [addA, r2, show AA.inB x.v 0 2147483647 = true from h3, g5]]
      simp only [t1, t2, ha, hwx, decide_eq_false g1, decide_eq_false g2, decide_eq_false g3, decide_eq_true g4, QA.tk, takeT, gA, List.length_map, Bool.false_eq_true, if_false, List.map_nil, j25, b25, q25, qq, ww, List.replicate, Nat.reduceBEq, Nat.reduceAdd, Nat.reduceMul, Nat.reduceDiv, Nat.reduceEqDiff, Nat.reduceLeDiff, Nat.reduceLT, Int.reduceEq, Int.reduceNe, Int.reduceLT, Int.reduceLE, Int.reduceAdd, Int.reduceSub, Int.reduceMul, Int.reduceNeg, Int.reduceToNat, Int.reducePow, Nat.reducePow, reduceCtorEq, reduceIte, if_true, if_false]
      try rfl
    | true =>
      rw [g5] at ha
      rw [AA.add_eq r2 h3 g5]
      generalize hM : addR s.ah x = a at *
      obtain ⟨m, e⟩ := a
      dsimp only at ha ⊢
      by_cases g6 : e = 0
      · rw [if_pos g6]
        simp only [t1, t2, ha, hwx, decide_eq_false g1, decide_eq_false g2, decide_eq_false g3, decide_eq_true g4, decide_eq_true g6, QA.tk, takeT, gA, List.length_map, if_true, j25, b25, q25, qq, ww, List.replicate, Nat.reduceBEq, Nat.reduceAdd, Nat.reduceMul, Nat.reduceDiv, Nat.reduceEqDiff, Nat.reduceLeDiff, Nat.reduceLT, Int.reduceEq, Int.reduceNe, Int.reduceLT, Int.reduceLE, Int.reduceAdd, Int.reduceSub, Int.reduceMul, Int.reduceNeg, Int.reduceToNat, Int.reducePow, Nat.reducePow, reduceCtorEq, reduceIte, if_true, if_false]
        try rfl
      · rw [if_neg g6]
        simp only [t1, t2, ha, hwx, decide_eq_false g1, decide_eq_false g2, decide_eq_false g3, decide_eq_true g4, decide_eq_false g6, QA.tk, takeT, gA, List.length_map, if_true, j25, b25, q25, qq, ww, List.replicate, Nat.reduceBEq, Nat.reduceAdd, Nat.reduceMul, Nat.reduceDiv, Nat.reduceEqDiff, Nat.reduceLeDiff, Nat.reduceLT, Int.reduceEq, Int.reduceNe, Int.reduceLT, Int.reduceLE, Int.reduceAdd, Int.reduceSub, Int.reduceMul, Int.reduceNeg, Int.reduceToNat, Int.reducePow, Nat.reducePow, reduceCtorEq, reduceIte, if_true, if_false]
        try rfl
  · unfold itemG
    rw [if_pos (by simp; omega)]
    simp only [t1, t2, decide_eq_false g1, decide_eq_false g2, decide_eq_false g3, decide_eq_false g4, QA.tk, takeT, gA, List.length_map, j25, b25, q25, qq, ww, List.replicate, Nat.reduceBEq, Nat.reduceAdd, Nat.reduceMul, Nat.reduceDiv, Nat.reduceEqDiff, Nat.reduceLeDiff, Nat.reduceLT, Int.reduceEq, Int.reduceNe, Int.reduceLT, Int.reduceLE, Int.reduceAdd, Int.reduceSub, Int.reduceMul, Int.reduceNeg, Int.reduceToNat, Int.reducePow, Nat.reducePow, reduceCtorEq, reduceIte, if_true, if_false]
    try rfl
theorem gone_more {c : Cf} {sub : Bool} {e w kn : Int} {ah : List It} {q : List Ev} (hw : 1 ≤ w ∧ w ≤ 1073741824) (hc : okC c = true) (hah : ∀ y ∈ ah, inB y.v 0 2147483647 = true ∧ 0 ≤ y.s ∧ y.s ≤ 1073741823) :
    moreK c sub ⟨e, w, kn, [], ah⟩ q [] = (match leftL w ah with
      | [] => (⟨e, w, kn, [], []⟩, q, [])
      | y :: r => if y.s = w then takeR c sub r ⟨e, w, kn, [], r⟩ q [] y else (⟨e, w, kn, [], y :: r⟩, q, [])) := by
  have kc := okC_t hc
  unfold moreK
  simp only [cut]
  have hm : ∀ y ∈ leftL w ah, inB y.v 0 2147483647 = true ∧ 0 ≤ y.s ∧ y.s ≤ 1073741823 := fun y hy => hah y (List.mem_filter.1 hy).1
  generalize leftL w ah = l at *
  cases l with
  | nil => rfl
  | cons y r =>
    have hy := hm y (by simp)
    have hcp : cP w y ((0 : Nat) : Int) = decide (y.s = w) := by
      unfold cP
      rw [IntWalk.i64_in _ (by omega)]
      by_cases h : y.s = w
      · rw [decide_eq_true h, decide_eq_true (by omega)]
      · rw [decide_eq_false h, decide_eq_false (by omega)]
    simp only [pre, hcp]
    by_cases h : y.s = w
    · rw [if_pos h, if_pos (decide_eq_true h)]
      have hk : kpOK [] w c.p = true := by simp [kpOK, inB, kRow]; omega
      rw [takeR_ah (b := ah), take_fold (want := w) (k := 1) (s := ⟨e, w, kn, [], ah⟩) (by omega) h (by simp) hk hy.1 (by show w ≤ _; omega) fun z hz => hm z (by simp [hz])]
      rfl
    · rw [if_neg h, show (if decide (y.s = w) = true then pre (cP w) r (0 + 1) + 1 else 0) = 0 from if_neg (by simp [h])]
      rfl
end Go.Proofs.YtkfcbpbnoeaheaaGreatDoor.FA
namespace Go.Proofs.YtkfcbpbnoeaheaaGreatDoor.FA
open Go Go.Proofs.YtkfcbpbnoeaheaaGreatDoorR Go.Proofs.YtkfcbpbnoeaheaaGreatDoor.IF
open Go.Proofs.YtkfcbpbnoeaheaaGreatDoor.QA (Ev eE aE rE inB epOK evOK qOK putE n01 gapE lastK)
open Go.Proofs.YtkfcbpbnoeaheaaGreatDoor.AA (It eT aT rT ahOK addA addR leftL wi wm takeT allT take_s hR pre cP risB fitsB left_s)
open Go.Proofs.YtkfcbpbnoeaheaaGreatDoor.EC (Cf eC okC)
set_option maxRecDepth 100000
set_option maxHeartbeats 4000000
theorem e28 (N d : Nat) (hN : 1000 ≤ N) (c : Cf) (s : Sm) (sub : Bool) (q : List Ev) (at_ fr to : Int) (h0 : flowC c s q = 0) (h1 : epOK at_ = true) (h2 : 1 ≤ fr ∧ fr ≤ to ∧ to ≤ 1073741823) :
    ans (TT N (d + 5) 28 [.agg (eC c), aS s, bV sub, .one (rE q), iV at_, iV fr, iV to]) = some (gA (goneG c s sub q at_ fr to)) := by
  obtain ⟨k1, k2, k3⟩ := flow_t h0
  have k4 := right_t k2
  have kk := k4.1
  have ka := k4.2.1
  have k5 := q_t k3
  have kc := okC_t k1
  have kp : 1 ≤ c.p ∧ c.p ≤ 16 := kc.2.2.2.2.1
  have hs : smL s := ⟨by omega, by omega⟩
  have t1 := fun d => e10 N d s hs
  have t2 := fun d => QA.e11 N d q (by omega)
  have t3 := fun d => QA.e58 N d s.w fr to
  rw [t28, F_ev rfl]
  unfold goneG
  by_cases g1 : at_ = s.e
  case neg =>
    rw [if_neg (fun h => g1 h.1)]
    simp only [t1, t2, decide_eq_false g1, QA.tk, takeT, gA, Bool.not_false, Bool.not_true, List.length_map, j28, b28, q28, qq, ww, List.replicate, Nat.reduceBEq, Nat.reduceAdd, Nat.reduceMul, Nat.reduceDiv, Nat.reduceEqDiff, Nat.reduceLeDiff, Nat.reduceLT, Int.reduceEq, Int.reduceNe, Int.reduceLT, Int.reduceLE, Int.reduceAdd, Int.reduceSub, Int.reduceMul, Int.reduceNeg, Int.reduceToNat, Int.reducePow, Nat.reducePow, reduceCtorEq, reduceIte, if_true, if_false]
    try rfl
  by_cases g2 : s.w ≥ fr ∧ s.w ≤ to
  case neg =>
    rw [if_neg (fun h => g2 h.2)]
    have : inB s.w fr to = false := by
      cases h : inB s.w fr to with
      | false => rfl
      | true => exfalso; simp [inB] at h; omega
    rw [this] at t3
    simp only [t1, t2, t3, decide_eq_true g1, QA.tk, takeT, gA, Bool.not_false, Bool.not_true, List.length_map, j28, b28, q28, qq, ww, List.replicate, Nat.reduceBEq, Nat.reduceAdd, Nat.reduceMul, Nat.reduceDiv, Nat.reduceEqDiff, Nat.reduceLeDiff, Nat.reduceLT, Int.reduceEq, Int.reduceNe, Int.reduceLT, Int.reduceLE, Int.reduceAdd, Int.reduceSub, Int.reduceMul, Int.reduceNeg, Int.reduceToNat, Int.reducePow, Nat.reducePow, reduceCtorEq, reduceIte, if_true, if_false]
    try rfl
  rw [if_pos ⟨g1, g2⟩]
  have : inB s.w fr to = true := by simp [inB]; omega
  rw [this] at t3
  have g1' := decide_eq_true g1
  have h1' := h1
  subst g1
  obtain ⟨r1, r2, r3⟩ := right_e k2 h1
  have hah := right_ah k2
  have hgev : evOK ⟨2, s.e, s.w, to, 0, 0⟩ = true := evOK_gap h1 (by omega) (by omega)
  have t4 := fun d => e69 N d q c.q ⟨2, s.e, s.w, to, 0, 0⟩ (by omega) k3 hgev
  have hwt : IntKind.i64.wrap (to + 1) = to + 1 := IntWalk.i64_in _ (by omega)
  have hql : (if sub = true then fitE q c.q ⟨2, s.e, s.w, to, 0, 0⟩ else q).length ≤ 33 := by
    split
    · have := fitE_len q c.q ⟨2, s.e, s.w, to, 0, 0⟩; omega
    · omega
  have hqk : qOK (if sub = true then fitE q c.q ⟨2, s.e, s.w, to, 0, 0⟩ else q) c.q = true := by
    split
    · exact q_fit k3 hgev
    · exact k3
  rw [gone_more (by omega) k1 (fun y hy => by have := hah y hy; exact ⟨this.2.2, by omega, by omega⟩)]
  obtain ⟨q1, hq1⟩ : ∃ q1, q1 = (if sub = true then fitE q c.q ⟨2, s.e, s.w, to, 0, 0⟩ else q) := ⟨_, rfl⟩
  rw [← hq1] at hql hqk ⊢
  generalize hK : (if to + 1 > s.kn then to + 1 else s.kn) = kn at *
  generalize hF : (some (gA (match leftL (to + 1) s.ah with
      | [] => (⟨s.e, to + 1, kn, [], []⟩, q1, [])
      | y :: r => if y.s = to + 1 then takeR c sub r ⟨s.e, to + 1, kn, [], r⟩ q1 [] y else (⟨s.e, to + 1, kn, [], y :: r⟩, q1, []))) : Option S) = F
  have hll : ∀ l : List It, (leftL (to + 1) l).length ≤ l.length := fun l => List.length_filter_le _ _
  cases sub
  case true =>
    simp only [if_true] at hq1
    simp only [t1, t2, t3, t4, g1', ← hq1, hwt, hK, QA.tk, takeT, Bool.not_false, Bool.not_true, List.length_map, j28, b28, q28, qq, ww, List.replicate, Nat.reduceBEq, Nat.reduceAdd, Nat.reduceMul, Nat.reduceDiv, Nat.reduceEqDiff, Nat.reduceLeDiff, Nat.reduceLT, Int.reduceEq, Int.reduceNe, Int.reduceLT, Int.reduceLE, Int.reduceAdd, Int.reduceSub, Int.reduceMul, Int.reduceNeg, Int.reduceToNat, Int.reducePow, Nat.reducePow, reduceCtorEq, reduceIte, if_true, if_false]
    refine loopK (K := fun o => ans (fin _ (aft _ _ _ o))) (fun i => ⟨[(2, .one (.bool true)), (7, .one (.ref 448 0 0)), (14, .one (.ref 896 0 0)), (17, .one (.ref 1088 0 0)), (18, .one (rE q1)), (19, .one (.sl 1216 0 (leftL (to + 1) (s.ah.take i)).length)), (20, iV i)],
      [(448, .box (eC c)), (896, .box [.int .i64 0, .int .i64 0, .int .i64 0, .row [], .row []]), (1088, .box [.int .i64 s.e, .int .i64 (to + 1), .int .i64 kn, .row [], rT s.ah]), (1216, .rows 29 2 ((leftL (to + 1) (s.ah.take i)).map eT))]⟩) (fun _ => F) s.ah.length ?hr s.ah.length 0 N _ (by omega) (by omega) ?hk
    case hk => simp only [gcK, lowB, Nat.reduceLeDiff, Nat.reduceBEq, List.contains_nil, List.contains_cons, Bool.or_false, Bool.false_or, Bool.false_eq_true, if_false, Bool.true_and, Bool.and_true, pickL, look_hit, look_miss, look_end, slMent, hpMent, S.ment, S.ment.smt, ments, V.ment, List.append_nil, List.nil_append, List.cons_append, List.all_nil, List.all_cons, Option.isSome_some, Bool.and_self, if_true, reduceIte, Nat.reduceEqDiff, not_false_eq_true, reduceCtorEq, Nat.reduceMul, Nat.reduceAdd]; rfl
    case hr =>
      intro i n hi ih
      (try dsimp only)
      by_cases hlt : i < s.ah.length
      · have h1 : decide ((i : Int) < (s.ah.length : Int)) = true := by simp; omega
        have hg1 : (s.ah.map eT)[i]? = some (eT s.ah[i]) := by simp [hlt]
        have hb : 0 ≤ (i : Int) ∧ (i : Int) < (s.ah.length : Int) := by omega
        have hls := left_s (want := to + 1) hlt
        have hl2 := hll (s.ah.take i)
        rw [List.length_take] at hl2
        have hby : ((leftL (to + 1) (s.ah.take i)).length + 1) * 16 ≤ 140737488355328 := by omega
        by_cases g : s.ah[i].s ≥ to + 1
        · rw [if_pos g] at hls
          simp only [h1, hg1, hb.1, hb.2, hby, decide_eq_true g, takeT, wi i (by omega), List.length_map, Int.toNat_natCast, j28, b28, q28, qq, ww, List.replicate, Nat.reduceBEq, Nat.reduceAdd, Nat.reduceMul, Nat.reduceDiv, Nat.reduceEqDiff, Nat.reduceLeDiff, Nat.reduceLT, Int.reduceEq, Int.reduceNe, Int.reduceLT, Int.reduceLE, Int.reduceAdd, Int.reduceSub, Int.reduceMul, Int.reduceNeg, Int.reduceToNat, Int.reducePow, Nat.reducePow, reduceCtorEq, reduceIte, if_true, if_false]
          exact ih hlt _ (by simp only [gcK, lowB, Nat.reduceLeDiff, Nat.reduceBEq, List.contains_nil, List.contains_cons, Bool.or_false, Bool.false_or, Bool.false_eq_true, if_false, Bool.true_and, Bool.and_true, pickL, look_hit, look_miss, look_end, slMent, hpMent, S.ment, S.ment.smt, ments, V.ment, List.append_nil, List.nil_append, List.cons_append, List.all_nil, List.all_cons, Option.isSome_some, Bool.and_self, if_true, reduceIte, Nat.reduceEqDiff, not_false_eq_true, reduceCtorEq, Nat.reduceMul, Nat.reduceAdd, hls, List.map_append, List.map_cons, List.map_nil, List.length_append, List.length_cons, List.length_nil, Nat.zero_add])
        · rw [if_neg g] at hls
          simp only [h1, hg1, hb.1, hb.2, decide_eq_false g, takeT, wi i (by omega), List.length_map, Int.toNat_natCast, j28, b28, q28, qq, ww, List.replicate, Nat.reduceBEq, Nat.reduceAdd, Nat.reduceMul, Nat.reduceDiv, Nat.reduceEqDiff, Nat.reduceLeDiff, Nat.reduceLT, Int.reduceEq, Int.reduceNe, Int.reduceLT, Int.reduceLE, Int.reduceAdd, Int.reduceSub, Int.reduceMul, Int.reduceNeg, Int.reduceToNat, Int.reducePow, Nat.reducePow, reduceCtorEq, reduceIte, if_true, if_false]
          exact ih hlt _ (by simp only [gcK, lowB, Nat.reduceLeDiff, Nat.reduceBEq, List.contains_nil, List.contains_cons, Bool.or_false, Bool.false_or, Bool.false_eq_true, if_false, Bool.true_and, Bool.and_true, pickL, look_hit, look_miss, look_end, slMent, hpMent, S.ment, S.ment.smt, ments, V.ment, List.append_nil, List.nil_append, List.cons_append, List.all_nil, List.all_cons, Option.isSome_some, Bool.and_self, if_true, reduceIte, Nat.reduceEqDiff, not_false_eq_true, reduceCtorEq, Nat.reduceMul, Nat.reduceAdd, hls, List.append_nil])
      · clear ih
        obtain rfl : i = s.ah.length := by omega
        rw [List.take_length]
        have h1 : decide ((s.ah.length : Int) < (s.ah.length : Int)) = false := by simp
        subst hF
        have hml : ∀ y ∈ leftL (to + 1) s.ah, inB y.v 0 2147483647 = true ∧ s.w < y.s ∧ y.s < 1073741824 := fun y hy => by
          have := hah y (List.mem_filter.1 hy).1
          exact ⟨this.2.2, this.1, this.2.1⟩
        have hl3 := hll s.ah
        generalize leftL (to + 1) s.ah = l at *
        cases l with
        | nil =>
          simp only [h1, takeT, gA, List.map_nil, List.length_nil, List.length_map, j28, b28, q28, qq, ww, List.replicate, Nat.reduceBEq, Nat.reduceAdd, Nat.reduceMul, Nat.reduceDiv, Nat.reduceEqDiff, Nat.reduceLeDiff, Nat.reduceLT, Int.reduceEq, Int.reduceNe, Int.reduceLT, Int.reduceLE, Int.reduceAdd, Int.reduceSub, Int.reduceMul, Int.reduceNeg, Int.reduceToNat, Int.reducePow, Nat.reducePow, reduceCtorEq, reduceIte, if_true, if_false]
          try rfl
        | cons y r =>
          simp only [List.length_cons] at hl3
          have hz : decide (((r.length + 1 : Nat) : Int) > 0) = true := decide_eq_true (by omega)
          have hb : (0 : Int) ≤ 0 ∧ (0 : Int) < ((r.length + 1 : Nat) : Int) := by omega
          have hb3 : (0 : Int) ≤ 1 := by omega
          have hb4 : (1 : Int) ≤ ((r.length + 1 : Nat) : Int) := by omega
          have hle : r.length + 1 ≤ r.length + 1 := Nat.le_refl _
          have hif : (if (1 : Int) = ((r.length + 1 : Nat) : Int) then (some (S.one (V.row []), ([] : Hp))) else some (S.one (V.row (r.map eT)), [])) = some (.one (.row (r.map eT)), []) := by
            split
            · rename_i h
              rw [List.eq_nil_of_length_eq_zero (l := r) (by omega)]
              rfl
            · rfl
          have htk : List.take (r.length + 1) (eT y :: r.map eT) = eT y :: r.map eT := List.take_of_length_le (by simp)
          by_cases hy : y.s = to + 1
          · have hay := hml y (by simp)
            have hri : RI c true r ⟨s.e, to + 1, kn, [], r⟩ q1 ⟨to + 1, y.v⟩ := ⟨kp, fun _ => ⟨hqk, h1'⟩, rfl, by show 1 ≤ to + 1 ∧ to + 1 ≤ _; omega, hay.1, fun z hz => by have := hml z (by simp [hz]); exact ⟨this.1, by omega⟩, by simp, by omega⟩
            have ht := fun d => e66 N d hN c ⟨s.e, to + 1, kn, [], r⟩ true q1 y.v (by show r.length < 400; omega) (by omega) hri
            have hy2 : y = ⟨to + 1, y.v⟩ := by rw [← hy]
            dsimp only at ht ⊢
            rw [if_pos hy]
            rw [← hy2] at ht
            simp only [aS, eS, rT, List.map_nil] at ht
            generalize takeR c true r ⟨s.e, to + 1, kn, [], r⟩ q1 [] y = G at *
            simp only [h1, hz, hb.1, hb.2, hb3, hb4, hle, hif, htk, ht, decide_eq_true hy, takeT, allT, gA, aS, eS, rT, Nat.add_sub_cancel, List.map_nil, List.length_nil, List.length_map, List.length_cons, List.map_cons, j28, b28, q28, qq, ww, List.replicate, Nat.reduceBEq, Nat.reduceAdd, Nat.reduceMul, Nat.reduceDiv, Nat.reduceEqDiff, Nat.reduceLeDiff, Nat.reduceLT, Int.reduceEq, Int.reduceNe, Int.reduceLT, Int.reduceLE, Int.reduceAdd, Int.reduceSub, Int.reduceMul, Int.reduceNeg, Int.reduceToNat, Int.reducePow, Nat.reducePow, reduceCtorEq, reduceIte, if_true, if_false]
          · dsimp only
            rw [if_neg hy]
            simp only [h1, hz, hb.1, hb.2, hb3, hb4, hle, htk, decide_eq_false hy, takeT, gA, List.map_nil, List.length_nil, List.length_map, List.length_cons, List.map_cons, j28, b28, q28, qq, ww, List.replicate, Nat.reduceBEq, Nat.reduceAdd, Nat.reduceMul, Nat.reduceDiv, Nat.reduceEqDiff, Nat.reduceLeDiff, Nat.reduceLT, Int.reduceEq, Int.reduceNe, Int.reduceLT, Int.reduceLE, Int.reduceAdd, Int.reduceSub, Int.reduceMul, Int.reduceNeg, Int.reduceToNat, Int.reducePow, Nat.reducePow, reduceCtorEq, reduceIte, if_true, if_false]
            try rfl
  case false =>
    simp only [Bool.false_eq_true, if_false] at hq1
    subst hq1
    simp only [t1, t2, t3, t4, g1', hwt, hK, QA.tk, takeT, Bool.not_false, Bool.not_true, List.length_map, j28, b28, q28, qq, ww, List.replicate, Nat.reduceBEq, Nat.reduceAdd, Nat.reduceMul, Nat.reduceDiv, Nat.reduceEqDiff, Nat.reduceLeDiff, Nat.reduceLT, Int.reduceEq, Int.reduceNe, Int.reduceLT, Int.reduceLE, Int.reduceAdd, Int.reduceSub, Int.reduceMul, Int.reduceNeg, Int.reduceToNat, Int.reducePow, Nat.reducePow, reduceCtorEq, reduceIte, if_true, if_false]
    refine loopK (K := fun o => ans (fin _ (aft _ _ _ o))) (fun i => ⟨[(2, .one (.bool false)), (7, .one (.ref 448 0 0)), (14, .one (.ref 896 0 0)), (17, .one (.ref 1088 0 0)), (18, .one (rE q1)), (19, .one (.sl 1216 0 (leftL (to + 1) (s.ah.take i)).length)), (20, iV i)],
      [(448, .box (eC c)), (896, .box [.int .i64 0, .int .i64 0, .int .i64 0, .row [], .row []]), (1088, .box [.int .i64 s.e, .int .i64 (to + 1), .int .i64 kn, .row [], rT s.ah]), (1216, .rows 29 2 ((leftL (to + 1) (s.ah.take i)).map eT))]⟩) (fun _ => F) s.ah.length ?hr s.ah.length 0 N _ (by omega) (by omega) ?hk
    case hk => simp only [gcK, lowB, Nat.reduceLeDiff, Nat.reduceBEq, List.contains_nil, List.contains_cons, Bool.or_false, Bool.false_or, Bool.false_eq_true, if_false, Bool.true_and, Bool.and_true, pickL, look_hit, look_miss, look_end, slMent, hpMent, S.ment, S.ment.smt, ments, V.ment, List.append_nil, List.nil_append, List.cons_append, List.all_nil, List.all_cons, Option.isSome_some, Bool.and_self, if_true, reduceIte, Nat.reduceEqDiff, not_false_eq_true, reduceCtorEq, Nat.reduceMul, Nat.reduceAdd]; rfl
    case hr =>
      intro i n hi ih
      (try dsimp only)
      by_cases hlt : i < s.ah.length
      · have h1 : decide ((i : Int) < (s.ah.length : Int)) = true := by simp; omega
        have hg1 : (s.ah.map eT)[i]? = some (eT s.ah[i]) := by simp [hlt]
        have hb : 0 ≤ (i : Int) ∧ (i : Int) < (s.ah.length : Int) := by omega
        have hls := left_s (want := to + 1) hlt
        have hl2 := hll (s.ah.take i)
        rw [List.length_take] at hl2
        have hby : ((leftL (to + 1) (s.ah.take i)).length + 1) * 16 ≤ 140737488355328 := by omega
        by_cases g : s.ah[i].s ≥ to + 1
        · rw [if_pos g] at hls
          simp only [h1, hg1, hb.1, hb.2, hby, decide_eq_true g, takeT, wi i (by omega), List.length_map, Int.toNat_natCast, j28, b28, q28, qq, ww, List.replicate, Nat.reduceBEq, Nat.reduceAdd, Nat.reduceMul, Nat.reduceDiv, Nat.reduceEqDiff, Nat.reduceLeDiff, Nat.reduceLT, Int.reduceEq, Int.reduceNe, Int.reduceLT, Int.reduceLE, Int.reduceAdd, Int.reduceSub, Int.reduceMul, Int.reduceNeg, Int.reduceToNat, Int.reducePow, Nat.reducePow, reduceCtorEq, reduceIte, if_true, if_false]
          exact ih hlt _ (by simp only [gcK, lowB, Nat.reduceLeDiff, Nat.reduceBEq, List.contains_nil, List.contains_cons, Bool.or_false, Bool.false_or, Bool.false_eq_true, if_false, Bool.true_and, Bool.and_true, pickL, look_hit, look_miss, look_end, slMent, hpMent, S.ment, S.ment.smt, ments, V.ment, List.append_nil, List.nil_append, List.cons_append, List.all_nil, List.all_cons, Option.isSome_some, Bool.and_self, if_true, reduceIte, Nat.reduceEqDiff, not_false_eq_true, reduceCtorEq, Nat.reduceMul, Nat.reduceAdd, hls, List.map_append, List.map_cons, List.map_nil, List.length_append, List.length_cons, List.length_nil, Nat.zero_add])
        · rw [if_neg g] at hls
          simp only [h1, hg1, hb.1, hb.2, decide_eq_false g, takeT, wi i (by omega), List.length_map, Int.toNat_natCast, j28, b28, q28, qq, ww, List.replicate, Nat.reduceBEq, Nat.reduceAdd, Nat.reduceMul, Nat.reduceDiv, Nat.reduceEqDiff, Nat.reduceLeDiff, Nat.reduceLT, Int.reduceEq, Int.reduceNe, Int.reduceLT, Int.reduceLE, Int.reduceAdd, Int.reduceSub, Int.reduceMul, Int.reduceNeg, Int.reduceToNat, Int.reducePow, Nat.reducePow, reduceCtorEq, reduceIte, if_true, if_false]
          exact ih hlt _ (by simp only [gcK, lowB, Nat.reduceLeDiff, Nat.reduceBEq, List.contains_nil, List.contains_cons, Bool.or_false, Bool.false_or, Bool.false_eq_true, if_false, Bool.true_and, Bool.and_true, pickL, look_hit, look_miss, look_end, slMent, hpMent, S.ment, S.ment.smt, ments, V.ment, List.append_nil, List.nil_append, List.cons_append, List.all_nil, List.all_cons, Option.isSome_some, Bool.and_self, if_true, reduceIte, Nat.reduceEqDiff, not_false_eq_true, reduceCtorEq, Nat.reduceMul, Nat.reduceAdd, hls, List.append_nil])
      · clear ih
        obtain rfl : i = s.ah.length := by omega
        rw [List.take_length]
        have h1 : decide ((s.ah.length : Int) < (s.ah.length : Int)) = false := by simp
        subst hF
        have hml : ∀ y ∈ leftL (to + 1) s.ah, inB y.v 0 2147483647 = true ∧ s.w < y.s ∧ y.s < 1073741824 := fun y hy => by
          have := hah y (List.mem_filter.1 hy).1
          exact ⟨this.2.2, this.1, this.2.1⟩
        have hl3 := hll s.ah
        generalize leftL (to + 1) s.ah = l at *
        cases l with
        | nil =>
          simp only [h1, takeT, gA, List.map_nil, List.length_nil, List.length_map, j28, b28, q28, qq, ww, List.replicate, Nat.reduceBEq, Nat.reduceAdd, Nat.reduceMul, Nat.reduceDiv, Nat.reduceEqDiff, Nat.reduceLeDiff, Nat.reduceLT, Int.reduceEq, Int.reduceNe, Int.reduceLT, Int.reduceLE, Int.reduceAdd, Int.reduceSub, Int.reduceMul, Int.reduceNeg, Int.reduceToNat, Int.reducePow, Nat.reducePow, reduceCtorEq, reduceIte, if_true, if_false]
          try rfl
        | cons y r =>
          simp only [List.length_cons] at hl3
          have hz : decide (((r.length + 1 : Nat) : Int) > 0) = true := decide_eq_true (by omega)
          have hb : (0 : Int) ≤ 0 ∧ (0 : Int) < ((r.length + 1 : Nat) : Int) := by omega
          have hb3 : (0 : Int) ≤ 1 := by omega
          have hb4 : (1 : Int) ≤ ((r.length + 1 : Nat) : Int) := by omega
          have hle : r.length + 1 ≤ r.length + 1 := Nat.le_refl _
          have hif : (if (1 : Int) = ((r.length + 1 : Nat) : Int) then (some (S.one (V.row []), ([] : Hp))) else some (S.one (V.row (r.map eT)), [])) = some (.one (.row (r.map eT)), []) := by
            split
            · rename_i h
              rw [List.eq_nil_of_length_eq_zero (l := r) (by omega)]
              rfl
            · rfl
          have htk : List.take (r.length + 1) (eT y :: r.map eT) = eT y :: r.map eT := List.take_of_length_le (by simp)
          by_cases hy : y.s = to + 1
          · have hay := hml y (by simp)
            have hri : RI c false r ⟨s.e, to + 1, kn, [], r⟩ q1 ⟨to + 1, y.v⟩ := ⟨kp, fun _ => ⟨hqk, h1'⟩, rfl, by show 1 ≤ to + 1 ∧ to + 1 ≤ _; omega, hay.1, fun z hz => by have := hml z (by simp [hz]); exact ⟨this.1, by omega⟩, by simp, by omega⟩
            have ht := fun d => e66 N d hN c ⟨s.e, to + 1, kn, [], r⟩ false q1 y.v (by show r.length < 400; omega) (by omega) hri
            have hy2 : y = ⟨to + 1, y.v⟩ := by rw [← hy]
            dsimp only at ht ⊢
            rw [if_pos hy]
            rw [← hy2] at ht
            simp only [aS, eS, rT, List.map_nil] at ht
            generalize takeR c false r ⟨s.e, to + 1, kn, [], r⟩ q1 [] y = G at *
            simp only [h1, hz, hb.1, hb.2, hb3, hb4, hle, hif, htk, ht, decide_eq_true hy, takeT, allT, gA, aS, eS, rT, Nat.add_sub_cancel, List.map_nil, List.length_nil, List.length_map, List.length_cons, List.map_cons, j28, b28, q28, qq, ww, List.replicate, Nat.reduceBEq, Nat.reduceAdd, Nat.reduceMul, Nat.reduceDiv, Nat.reduceEqDiff, Nat.reduceLeDiff, Nat.reduceLT, Int.reduceEq, Int.reduceNe, Int.reduceLT, Int.reduceLE, Int.reduceAdd, Int.reduceSub, Int.reduceMul, Int.reduceNeg, Int.reduceToNat, Int.reducePow, Nat.reducePow, reduceCtorEq, reduceIte, if_true, if_false]
          · dsimp only
            rw [if_neg hy]
            simp only [h1, hz, hb.1, hb.2, hb3, hb4, hle, htk, decide_eq_false hy, takeT, gA, List.map_nil, List.length_nil, List.length_map, List.length_cons, List.map_cons, j28, b28, q28, qq, ww, List.replicate, Nat.reduceBEq, Nat.reduceAdd, Nat.reduceMul, Nat.reduceDiv, Nat.reduceEqDiff, Nat.reduceLeDiff, Nat.reduceLT, Int.reduceEq, Int.reduceNe, Int.reduceLT, Int.reduceLE, Int.reduceAdd, Int.reduceSub, Int.reduceMul, Int.reduceNeg, Int.reduceToNat, Int.reducePow, Nat.reducePow, reduceCtorEq, reduceIte, if_true, if_false]
            try rfl
end Go.Proofs.YtkfcbpbnoeaheaaGreatDoor.FA
namespace Go.Proofs.YtkfcbpbnoeaheaaGreatDoor.FA
open Go Go.Proofs.YtkfcbpbnoeaheaaGreatDoorR Go.Proofs.YtkfcbpbnoeaheaaGreatDoor.IF
open Go.Proofs.YtkfcbpbnoeaheaaGreatDoor.QA (Ev eE aE rE inB epOK evOK qOK putE n01 gapE lastK)
open Go.Proofs.YtkfcbpbnoeaheaaGreatDoor.AA (It eT aT rT ahOK addA addR leftL wi wm takeT allT take_s hR pre cP risB fitsB left_s)
open Go.Proofs.YtkfcbpbnoeaheaaGreatDoor.EC (Cf eC okC)
set_option maxRecDepth 100000
set_option maxHeartbeats 4000000
theorem okC_b (c : Cf) : okC c = (inB c.n 1 8 && (inB c.t 1 4 && (inB c.k 1 4 && (inB c.d 1 8 && (inB c.p 1 16 && (inB c.w 1 16 && inB c.q 2 32)))))) := by
  simp only [okC, inB, ← Bool.decide_and]
theorem e18 (N d : Nat) (c : Cf) : TT N (d + 2) 18 [.agg (eC c)] = some (bV (okC c), []) := by
  have h16 := fun d n lo hi => QA.e56 N d n lo hi
  rw [t18, F_ev rfl, okC_b]
  cases h1 : inB c.n 1 8
  · simp only [h16, h1, Bool.and_self, Bool.and_false, Bool.false_and, Bool.true_and, j18, b18, q18, qq, ww, List.replicate, Nat.reduceBEq, Nat.reduceAdd, Nat.reduceMul, Nat.reduceDiv, Nat.reduceEqDiff, Nat.reduceLeDiff, Nat.reduceLT, Int.reduceEq, Int.reduceNe, Int.reduceLT, Int.reduceLE, Int.reduceAdd, Int.reduceSub, Int.reduceMul, Int.reduceNeg, Int.reduceToNat, Int.reducePow, Nat.reducePow, reduceCtorEq, reduceIte, if_true, if_false]
  cases h2 : inB c.t 1 4
  · simp only [h16, h1, h2, Bool.and_self, Bool.and_false, Bool.false_and, Bool.true_and, j18, b18, q18, qq, ww, List.replicate, Nat.reduceBEq, Nat.reduceAdd, Nat.reduceMul, Nat.reduceDiv, Nat.reduceEqDiff, Nat.reduceLeDiff, Nat.reduceLT, Int.reduceEq, Int.reduceNe, Int.reduceLT, Int.reduceLE, Int.reduceAdd, Int.reduceSub, Int.reduceMul, Int.reduceNeg, Int.reduceToNat, Int.reducePow, Nat.reducePow, reduceCtorEq, reduceIte, if_true, if_false]
  cases h3 : inB c.k 1 4
  · simp only [h16, h1, h2, h3, Bool.and_self, Bool.and_false, Bool.false_and, Bool.true_and, j18, b18, q18, qq, ww, List.replicate, Nat.reduceBEq, Nat.reduceAdd, Nat.reduceMul, Nat.reduceDiv, Nat.reduceEqDiff, Nat.reduceLeDiff, Nat.reduceLT, Int.reduceEq, Int.reduceNe, Int.reduceLT, Int.reduceLE, Int.reduceAdd, Int.reduceSub, Int.reduceMul, Int.reduceNeg, Int.reduceToNat, Int.reducePow, Nat.reducePow, reduceCtorEq, reduceIte, if_true, if_false]
  cases h4 : inB c.d 1 8
  · simp only [h16, h1, h2, h3, h4, Bool.and_self, Bool.and_false, Bool.false_and, Bool.true_and, j18, b18, q18, qq, ww, List.replicate, Nat.reduceBEq, Nat.reduceAdd, Nat.reduceMul, Nat.reduceDiv, Nat.reduceEqDiff, Nat.reduceLeDiff, Nat.reduceLT, Int.reduceEq, Int.reduceNe, Int.reduceLT, Int.reduceLE, Int.reduceAdd, Int.reduceSub, Int.reduceMul, Int.reduceNeg, Int.reduceToNat, Int.reducePow, Nat.reducePow, reduceCtorEq, reduceIte, if_true, if_false]
  cases h5 : inB c.p 1 16
  · simp only [h16, h1, h2, h3, h4, h5, Bool.and_self, Bool.and_false, Bool.false_and, Bool.true_and, j18, b18, q18, qq, ww, List.replicate, Nat.reduceBEq, Nat.reduceAdd, Nat.reduceMul, Nat.reduceDiv, Nat.reduceEqDiff, Nat.reduceLeDiff, Nat.reduceLT, Int.reduceEq, Int.reduceNe, Int.reduceLT, Int.reduceLE, Int.reduceAdd, Int.reduceSub, Int.reduceMul, Int.reduceNeg, Int.reduceToNat, Int.reducePow, Nat.reducePow, reduceCtorEq, reduceIte, if_true, if_false]
  cases h6 : inB c.w 1 16
  · simp only [h16, h1, h2, h3, h4, h5, h6, Bool.and_self, Bool.and_false, Bool.false_and, Bool.true_and, j18, b18, q18, qq, ww, List.replicate, Nat.reduceBEq, Nat.reduceAdd, Nat.reduceMul, Nat.reduceDiv, Nat.reduceEqDiff, Nat.reduceLeDiff, Nat.reduceLT, Int.reduceEq, Int.reduceNe, Int.reduceLT, Int.reduceLE, Int.reduceAdd, Int.reduceSub, Int.reduceMul, Int.reduceNeg, Int.reduceToNat, Int.reducePow, Nat.reducePow, reduceCtorEq, reduceIte, if_true, if_false]
  cases h7 : inB c.q 2 32
  · simp only [h16, h1, h2, h3, h4, h5, h6, h7, Bool.and_self, Bool.and_false, Bool.false_and, Bool.true_and, j18, b18, q18, qq, ww, List.replicate, Nat.reduceBEq, Nat.reduceAdd, Nat.reduceMul, Nat.reduceDiv, Nat.reduceEqDiff, Nat.reduceLeDiff, Nat.reduceLT, Int.reduceEq, Int.reduceNe, Int.reduceLT, Int.reduceLE, Int.reduceAdd, Int.reduceSub, Int.reduceMul, Int.reduceNeg, Int.reduceToNat, Int.reducePow, Nat.reducePow, reduceCtorEq, reduceIte, if_true, if_false]
  simp only [h16, h1, h2, h3, h4, h5, h6, h7, Bool.and_self, Bool.and_false, Bool.false_and, Bool.true_and, j18, b18, q18, qq, ww, List.replicate, Nat.reduceBEq, Nat.reduceAdd, Nat.reduceMul, Nat.reduceDiv, Nat.reduceEqDiff, Nat.reduceLeDiff, Nat.reduceLT, Int.reduceEq, Int.reduceNe, Int.reduceLT, Int.reduceLE, Int.reduceAdd, Int.reduceSub, Int.reduceMul, Int.reduceNeg, Int.reduceToNat, Int.reducePow, Nat.reducePow, reduceCtorEq, reduceIte, if_true, if_false]
def heavyB (s : Sm) (q : List Ev) : Bool := decide ((s.kp.length : Int) > 30) || decide ((s.ah.length : Int) > 30) || decide ((q.length : Int) > 50)
theorem e9 (N d : Nat) (s : Sm) (q : List Ev) : TT N (d + 1) 9 [aS s, .one (rE q)] = some (bV (heavyB s q), []) := by
  rw [t9, F_ev rfl]
  simp only [List.length_map, j9, b9, q9, qq, ww, List.replicate, Nat.reduceBEq, Nat.reduceAdd, Nat.reduceMul, Nat.reduceDiv, Nat.reduceEqDiff, Nat.reduceLeDiff, Nat.reduceLT, Int.reduceEq, Int.reduceNe, Int.reduceLT, Int.reduceLE, Int.reduceAdd, Int.reduceSub, Int.reduceMul, Int.reduceNeg, Int.reduceToNat, Int.reducePow, Nat.reducePow, reduceCtorEq, reduceIte, if_true, if_false]
  repeat' (refine fin_cases (fun h1 => ?_) (fun h1 => ?_) <;> simp only [h1, List.length_map, j9, b9, q9, qq, ww, List.replicate, Nat.reduceBEq, Nat.reduceAdd, Nat.reduceMul, Nat.reduceDiv, Nat.reduceEqDiff, Nat.reduceLeDiff, Nat.reduceLT, Int.reduceEq, Int.reduceNe, Int.reduceLT, Int.reduceLE, Int.reduceAdd, Int.reduceSub, Int.reduceMul, Int.reduceNeg, Int.reduceToNat, Int.reducePow, Nat.reducePow, reduceCtorEq, reduceIte, if_true, if_false])
  all_goals (first | (simp_all [heavyB]; done) | (simp_all [heavyB]; omega))
theorem heavy_t {s : Sm} {q : List Ev} (h : heavyB s q = false) : s.kp.length ≤ 30 ∧ s.ah.length ≤ 30 ∧ q.length ≤ 50 := by
  simp [heavyB] at h; omega
theorem w18 : TT 1000 17 27 [] = some (bV true, []) := by kernel_rfl
theorem foldK_len {c : Cf} {sub : Bool} : ∀ {l : List It} {s : Sm} {q : List Ev} {on : List It}, s.kp.length < 900 → (foldK c sub l s q on).1.kp.length < 900 ∧ (foldK c sub l s q on).1.ah = s.ah ∧ (foldK c sub l s q on).2.1.length ≤ q.length + l.length ∧ (foldK c sub l s q on).2.2.length = on.length + l.length
  | [], s, q, on, h => ⟨h, rfl, Nat.le_refl _, rfl⟩
  | x :: r, s, q, on, h => by
    have hp := pushP_len s.kp s.w c.p x.v
    have hq := oneQ_len c s sub q x.v
    obtain ⟨h1, h2, h3, h4⟩ := foldK_len (c := c) (sub := sub) (l := r) (s := oneS c s x.v) (q := oneQ c s sub q x.v) (on := on ++ [⟨s.w, x.v⟩]) (by show (pushP s.kp s.w c.p x.v).1.length < 900; omega)
    simp only [List.length_append, List.length_cons, List.length_nil] at h4
    simp only [foldK, List.length_cons]
    exact ⟨h1, h2, by omega, by omega⟩
theorem moreK_len {c : Cf} {sub : Bool} {s : Sm} {q : List Ev} {on : List It} (h : s.kp.length < 900) : (moreK c sub s q on).1.kp.length < 900 ∧ (moreK c sub s q on).1.ah.length ≤ s.ah.length ∧ (moreK c sub s q on).2.1.length ≤ q.length + s.ah.length ∧ (moreK c sub s q on).2.2.length ≤ on.length + s.ah.length := by
  have hl : (leftL s.w s.ah).length ≤ s.ah.length := List.length_filter_le _ _
  have ht : ((leftL s.w s.ah).take (cut s)).length ≤ s.ah.length := by rw [List.length_take]; omega
  obtain ⟨h1, h2, h3, h4⟩ := foldK_len (c := c) (sub := sub) (l := (leftL s.w s.ah).take (cut s)) (s := s) (q := q) (on := on) h
  unfold moreK
  exact ⟨h1, by show (List.drop _ _).length ≤ _; rw [List.length_drop]; omega, by show _ ≤ _; dsimp only; omega, by show _ ≤ _; dsimp only; omega⟩
theorem itemG_len {c : Cf} {s : Sm} {sub : Bool} {q : List Ev} {old : Bool} {x : It} (hs : s.kp.length ≤ 30 ∧ s.ah.length ≤ 30) (hq : q.length ≤ 50) : smL (itemG c s sub q old x).1 ∧ (itemG c s sub q old x).2.1.length < 900 ∧ (itemG c s sub q old x).2.2.length < 900 := by
  unfold itemG
  split
  · exact ⟨⟨by show s.kp.length < 900; omega, by show s.ah.length < 900; omega⟩, by show q.length < 900; omega, by simp⟩
  · split
    · have hp := pushP_len s.kp s.w c.p x.v
      have hq2 := oneQ_len c s sub q x.v
      obtain ⟨h1, h2, h3, h4⟩ := moreK_len (c := c) (sub := sub) (s := oneS c s x.v) (q := oneQ c s sub q x.v) (on := [⟨s.w, x.v⟩]) (by show (pushP s.kp s.w c.p x.v).1.length < 900; omega)
      have e1 : (oneS c s x.v).ah.length = s.ah.length := rfl
      simp only [List.length_cons, List.length_nil] at h4
      exact ⟨⟨h1, by omega⟩, by omega, by omega⟩
    · have ha := AA.addA_len s.ah s.w c.w x
      refine ⟨⟨by show s.kp.length < 900; omega, ?_⟩, by show q.length < 900; omega, by simp⟩
      show (if (addA s.ah s.w c.w x).2 = 0 then (addA s.ah s.w c.w x).1 else s.ah).length < 900
      split <;> omega
theorem goneG_len {c : Cf} {s : Sm} {sub : Bool} {q : List Ev} {a f t : Int} (hs : s.kp.length ≤ 30 ∧ s.ah.length ≤ 30) (hq : q.length ≤ 50) : smL (goneG c s sub q a f t).1 ∧ (goneG c s sub q a f t).2.1.length < 900 ∧ (goneG c s sub q a f t).2.2.length < 900 := by
  unfold goneG
  split
  · have hql : (if sub = true then fitE q c.q ⟨2, a, s.w, t, 0, 0⟩ else q).length ≤ 51 := by
      split
      · have := fitE_len q c.q ⟨2, a, s.w, t, 0, 0⟩; omega
      · omega
    obtain ⟨h1, h2, h3, h4⟩ := moreK_len (c := c) (sub := sub) (s := ⟨s.e, t + 1, if t + 1 > s.kn then t + 1 else s.kn, [], s.ah⟩) (q := (if sub = true then fitE q c.q ⟨2, a, s.w, t, 0, 0⟩ else q)) (on := []) (by simp)
    have e1 : (⟨s.e, t + 1, if t + 1 > s.kn then t + 1 else s.kn, [], s.ah⟩ : Sm).ah.length = s.ah.length := rfl
    simp only [List.length_nil] at h4
    exact ⟨⟨h1, by omega⟩, by omega, by omega⟩
  · exact ⟨⟨by show s.kp.length < 900; omega, by show s.ah.length < 900; omega⟩, by show q.length < 900; omega, by simp⟩
theorem toldS_len {s : Sm} {a n : Int} (hs : smL s) : smL (toldS s a n) := by
  unfold toldS
  split
  · simp
  · split
    · exact hs
    · exact hs
theorem q_nil {n : Int} (h : 2 ≤ n ∧ n ≤ 32) : qOK [] n = true := by
  simp [qOK]; omega
end Go.Proofs.YtkfcbpbnoeaheaaGreatDoor.FA
/- Functions of the program in the evaluator's form, each checked against the program (written by wip/prog/irgen.py). -/
set_option maxRecDepth 100000
namespace Go.Proofs.YtkfcbpbnoeaheaaGreatDoor.L4
open Go Go.Proofs.YtkfcbpbnoeaheaaGreatDoorR
/-- bellwether/bellwetherlaw18.FlowEpochs -/
def j4 : C := (.seq (.region [⟨some 7, .box (.t 0), none, [], []⟩,
  ⟨some 8, .box (.t 1), none, [], []⟩,
  ⟨some 14, .mov (.c (.bool false)), none, [], []⟩] false)
 (.seq (.seq (.region [⟨some 33, .load true 5 (.t 8), none, [], []⟩,
  ⟨some 34, .mov (.t 3), none, [], []⟩,
  ⟨some 35, .call false 9 [(.t 33), (.t 34)], none, [], []⟩,
  ⟨some 36, .mov (.t 35), none, [], []⟩,
  ⟨some 37, .load true 7 (.t 7), some (36, false), [], []⟩,
  ⟨some 38, .call false 18 [(.t 37)], some (36, false), [], []⟩,
  ⟨some 39, .un .not (.t 38), some (36, false), [], []⟩,
  ⟨some 40, .pick (.t 36) (.c (.bool true)) (.t 39), none, [], []⟩,
  ⟨some 41, .mov (.t 40), none, [], []⟩,
  ⟨some 42, .load true 7 (.t 7), some (41, false), [], []⟩,
  ⟨some 43, .load true 5 (.t 8), some (41, false), [], []⟩,
  ⟨some 44, .mov (.t 3), some (41, false), [], []⟩,
  ⟨some 45, .call false 20 [(.t 42), (.t 43), (.t 44)], some (41, false), [], []⟩,
  ⟨some 46, .un .not (.t 45), some (41, false), [], []⟩,
  ⟨some 47, .pick (.t 41) (.c (.bool true)) (.t 46), none, [], []⟩] false)
 (.cond (.t 47) (.seq (.region [⟨some 14, .mov (.c (.bool true)), none, [], []⟩] false)
 .ret) .skip))
 (.seq (.region [⟨some 48, .mov (.t 5), none, [], []⟩,
  ⟨some 49, .conv .u64 (.t 48), none, [], []⟩,
  ⟨some 50, .bin .rem (.t 49) (.c (.int .u64 1073741822)), none, [], []⟩,
  ⟨some 51, .conv .i64 (.t 50), none, [], []⟩,
  ⟨some 52, .bin .add (.c (.int .i64 1)) (.t 51), none, [], []⟩,
  ⟨some 53, .mov (.t 6), none, [], []⟩,
  ⟨some 54, .conv .u64 (.t 53), none, [], []⟩,
  ⟨some 55, .bin .rem (.t 54) (.c (.int .u64 1000)), none, [], []⟩,
  ⟨some 56, .conv .i64 (.t 55), none, [], []⟩,
  ⟨some 5, .mov (.t 52), none, [], []⟩,
  ⟨some 6, .mov (.t 56), none, [], []⟩] false)
 (.seq (.region [⟨some 57, .fad 0 (.t 8), none, [], []⟩,
  ⟨some 58, .load false 1 (.t 57), none, [], []⟩,
  ⟨some 59, .fad 0 (.t 8), none, [], []⟩,
  ⟨some 60, .load false 1 (.t 59), none, [], []⟩,
  ⟨some 61, .bin .rem (.t 60) (.c (.int .i64 16)), none, [], []⟩,
  ⟨some 62, .bin .sub (.t 58) (.t 61), none, [], []⟩,
  ⟨some 63, .mov (.t 4), none, [], []⟩,
  ⟨some 64, .conv .u64 (.t 63), none, [], []⟩,
  ⟨some 65, .bin .rem (.t 64) (.c (.int .u64 100)), none, [], []⟩,
  ⟨some 66, .conv .i64 (.t 65), none, [], []⟩,
  ⟨some 67, .bin .add (.c (.int .i64 1)) (.t 66), none, [], []⟩,
  ⟨some 68, .bin .mul (.c (.int .i64 16)) (.t 67), none, [], []⟩,
  ⟨some 69, .bin .add (.t 62) (.t 68), none, [], []⟩,
  ⟨some 15, .mov (.t 69), none, [], []⟩] false)
 (.seq (.seq (.region [⟨some 70, .mov (.t 15), none, [], []⟩,
  ⟨some 71, .bin .gtr (.t 70) (.c (.int .i64 1073741824)), none, [], []⟩] false)
 (.cond (.t 71) (.seq (.region [⟨some 72, .call false 27 [], none, [], []⟩,
  ⟨some 14, .mov (.t 72), none, [], []⟩] false)
 .ret) .skip))
 (.seq (.region [⟨some 74, .load true 7 (.t 7), none, [], []⟩,
  ⟨some 75, .load true 5 (.t 8), none, [], []⟩,
  ⟨some 76, .mov (.t 2), none, [], []⟩,
  ⟨some 77, .mov (.t 3), none, [], []⟩,
  ⟨some 78, .mov (.t 15), none, [], []⟩,
  ⟨some 79, .mov (.t 5), none, [], []⟩,
  ⟨some 80, .mov (.t 6), none, [], []⟩,
  ⟨some 81, .build [.int .i64 0, .int .i64 0] [(0, 1, (.t 79)), (1, 1, (.t 80))], none, [], []⟩,
  ⟨some 82, .call false 13 [(.t 74), (.t 75), (.t 76), (.t 77), (.t 78), (.t 81)], none, [], []⟩,
  ⟨some 73, .mov (.t 82), none, [], []⟩,
  ⟨some 83, .ext (.t 73) 0, none, [], []⟩,
  ⟨some 84, .ext (.t 73) 1, none, [], []⟩,
  ⟨some 85, .ext (.t 73) 2, none, [], []⟩,
  ⟨some 86, .ext (.t 73) 3, none, [], []⟩,
  ⟨some 16, .alloc [.int .i64 0, .int .i64 0, .int .i64 0, .row [], .row []], none, [], []⟩,
  ⟨none, .store none 5 (.t 16) (.t 83), none, [], []⟩,
  ⟨some 17, .mov (.t 84), none, [], []⟩,
  ⟨some 18, .mov (.t 85), none, [], []⟩,
  ⟨some 19, .mov (.t 86), none, [], []⟩] false)
 (.seq (.region [⟨some 88, .load true 7 (.t 7), none, [], []⟩,
  ⟨some 89, .load true 5 (.t 8), none, [], []⟩,
  ⟨some 90, .mov (.t 15), none, [], []⟩,
  ⟨some 91, .mov (.t 5), none, [], []⟩,
  ⟨some 92, .call false 12 [(.t 88), (.t 89), (.t 90), (.t 91)], none, [], []⟩,
  ⟨some 87, .mov (.t 92), none, [], []⟩,
  ⟨some 93, .ext (.t 87) 0, none, [], []⟩,
  ⟨some 94, .ext (.t 87) 1, none, [], []⟩,
  ⟨some 20, .alloc [.int .i64 0, .int .i64 0, .int .i64 0, .row [], .row []], none, [], []⟩,
  ⟨none, .store none 5 (.t 20) (.t 93), none, [], []⟩,
  ⟨some 21, .mov (.t 94), none, [], []⟩] false)
 (.seq (.seq (.region [⟨some 95, .mov (.t 19), none, [], []⟩,
  ⟨some 96, .bin .neq (.t 95) (.c (.int .i64 0)), none, [], []⟩,
  ⟨some 97, .mov (.t 96), none, [], []⟩,
  ⟨some 98, .mov (.t 21), some (97, false), [], []⟩,
  ⟨some 99, .bin .neq (.t 98) (.c (.int .i64 0)), some (97, false), [], []⟩,
  ⟨some 100, .pick (.t 97) (.c (.bool true)) (.t 99), none, [], []⟩,
  ⟨some 101, .mov (.t 100), none, [], []⟩,
  ⟨some 102, .fad 0 (.t 16), some (101, false), [], []⟩,
  ⟨some 103, .load false 1 (.t 102), some (101, false), [], []⟩,
  ⟨some 104, .mov (.t 15), some (101, false), [], []⟩,
  ⟨some 105, .bin .neq (.t 103) (.t 104), some (101, false), [], []⟩,
  ⟨some 106, .pick (.t 101) (.c (.bool true)) (.t 105), none, [], []⟩,
  ⟨some 107, .mov (.t 106), none, [], []⟩,
  ⟨some 108, .fad 1 (.t 16), some (107, false), [], []⟩,
  ⟨some 109, .load false 1 (.t 108), some (107, false), [], []⟩,
  ⟨some 110, .mov (.t 5), some (107, false), [], []⟩,
  ⟨some 111, .bin .add (.t 110) (.c (.int .i64 1)), some (107, false), [], []⟩,
  ⟨some 112, .bin .neq (.t 109) (.t 111), some (107, false), [], []⟩,
  ⟨some 113, .pick (.t 107) (.c (.bool true)) (.t 112), none, [], []⟩,
  ⟨some 114, .mov (.t 113), none, [], []⟩,
  ⟨some 115, .mov (.t 18), some (114, false), [], []⟩,
  ⟨some 116, .len (.t 115), some (114, false), [], []⟩,
  ⟨some 117, .bin .neq (.t 116) (.c (.int .i64 1)), some (114, false), [], []⟩,
  ⟨some 118, .pick (.t 114) (.c (.bool true)) (.t 117), none, [], []⟩,
  ⟨some 119, .mov (.t 118), none, [], []⟩,
  ⟨some 120, .fad 3 (.t 16), some (119, false), [], []⟩,
  ⟨some 121, .load false 1 (.t 120), some (119, false), [], []⟩,
  ⟨some 122, .len (.t 121), some (119, false), [], []⟩,
  ⟨some 123, .bin .neq (.t 122) (.c (.int .i64 1)), some (119, false), [], []⟩,
  ⟨some 124, .pick (.t 119) (.c (.bool true)) (.t 123), none, [], []⟩,
  ⟨some 125, .mov (.t 124), none, [], []⟩,
  ⟨some 126, .fad 0 (.t 20), some (125, false), [], []⟩,
  ⟨some 127, .load false 1 (.t 126), some (125, false), [], []⟩,
  ⟨some 128, .mov (.t 15), some (125, false), [], []⟩,
  ⟨some 129, .bin .neq (.t 127) (.t 128), some (125, false), [], []⟩,
  ⟨some 130, .pick (.t 125) (.c (.bool true)) (.t 129), none, [], []⟩,
  ⟨some 131, .mov (.t 130), none, [], []⟩,
  ⟨some 132, .fad 1 (.t 20), some (131, false), [], []⟩,
  ⟨some 133, .load false 1 (.t 132), some (131, false), [], []⟩,
  ⟨some 134, .mov (.t 5), some (131, false), [], []⟩,
  ⟨some 135, .bin .neq (.t 133) (.t 134), some (131, false), [], []⟩,
  ⟨some 136, .pick (.t 131) (.c (.bool true)) (.t 135), none, [], []⟩,
  ⟨some 137, .mov (.t 136), none, [], []⟩,
  ⟨some 138, .fad 2 (.t 20), some (137, false), [], []⟩,
  ⟨some 139, .load false 1 (.t 138), some (137, false), [], []⟩,
  ⟨some 140, .mov (.t 5), some (137, false), [], []⟩,
  ⟨some 141, .bin .neq (.t 139) (.t 140), some (137, false), [], []⟩,
  ⟨some 142, .pick (.t 137) (.c (.bool true)) (.t 141), none, [], []⟩,
  ⟨some 143, .mov (.t 142), none, [], []⟩,
  ⟨some 144, .fad 3 (.t 20), some (143, false), [], []⟩,
  ⟨some 145, .load false 1 (.t 144), some (143, false), [], []⟩,
  ⟨some 146, .len (.t 145), some (143, false), [], []⟩,
  ⟨some 147, .fad 4 (.t 20), some (143, false), [], []⟩,
  ⟨some 148, .load false 1 (.t 147), some (143, false), [], []⟩,
  ⟨some 149, .len (.t 148), some (143, false), [], []⟩,
  ⟨some 150, .bin .add (.t 146) (.t 149), some (143, false), [], []⟩,
  ⟨some 151, .bin .neq (.t 150) (.c (.int .i64 0)), some (143, false), [], []⟩,
  ⟨some 152, .pick (.t 143) (.c (.bool true)) (.t 151), none, [], []⟩,
  ⟨some 153, .mov (.t 152), none, [], []⟩,
  ⟨some 154, .mov (.t 2), some (153, false), [], []⟩,
  ⟨some 155, .un .not (.t 154), some (153, false), [], []⟩,
  ⟨some 156, .mov (.t 155), some (153, false), [], []⟩,
  ⟨some 157, .mov (.t 17), some (156, true), [], []⟩,
  ⟨some 158, .mov (.t 3), some (156, true), [], []⟩,
  ⟨some 159, .call false 17 [(.t 157), (.t 158)], some (156, true), [], []⟩,
  ⟨some 160, .un .not (.t 159), some (156, true), [], []⟩,
  ⟨some 161, .pick (.t 156) (.t 160) (.c (.bool false)), some (153, false), [], []⟩,
  ⟨some 162, .pick (.t 153) (.c (.bool true)) (.t 161), none, [], []⟩] false)
 (.cond (.t 162) (.seq (.region [⟨some 14, .mov (.c (.bool false)), none, [], []⟩] false)
 .ret) .skip))
 (.seq (.seq (.region [⟨some 163, .fad 0 (.t 8), none, [], []⟩,
  ⟨some 164, .load false 1 (.t 163), none, [], []⟩,
  ⟨some 165, .bin .lss (.t 164) (.c (.int .i64 16)), none, [], []⟩] false)
 (.cond (.t 165) (.seq (.region [⟨some 166, .call false 27 [], none, [], []⟩,
  ⟨some 14, .mov (.t 166), none, [], []⟩] false)
 .ret) .skip))
 (.seq (.region [⟨some 167, .fad 0 (.t 8), none, [], []⟩,
  ⟨some 168, .load false 1 (.t 167), none, [], []⟩,
  ⟨some 169, .bin .sub (.t 168) (.c (.int .i64 16)), none, [], []⟩,
  ⟨some 22, .mov (.t 169), none, [], []⟩] false)
 (.seq (.seq (.region [⟨some 170, .mov (.t 22), none, [], []⟩,
  ⟨some 171, .bin .lss (.t 170) (.c (.int .i64 1)), none, [], []⟩] false)
 (.cond (.t 171) (.seq (.region [⟨some 172, .call false 27 [], none, [], []⟩,
  ⟨some 14, .mov (.t 172), none, [], []⟩] false)
 .ret) .skip))
 (.seq (.region [⟨some 174, .load true 7 (.t 7), none, [], []⟩,
  ⟨some 175, .load true 5 (.t 8), none, [], []⟩,
  ⟨some 176, .mov (.t 2), none, [], []⟩,
  ⟨some 177, .mov (.t 3), none, [], []⟩,
  ⟨some 178, .mov (.t 22), none, [], []⟩,
  ⟨some 179, .mov (.t 5), none, [], []⟩,
  ⟨some 180, .mov (.t 6), none, [], []⟩,
  ⟨some 181, .build [.int .i64 0, .int .i64 0] [(0, 1, (.t 179)), (1, 1, (.t 180))], none, [], []⟩,
  ⟨some 182, .call false 13 [(.t 174), (.t 175), (.t 176), (.t 177), (.t 178), (.t 181)], none, [], []⟩,
  ⟨some 173, .mov (.t 182), none, [], []⟩,
  ⟨some 183, .ext (.t 173) 0, none, [], []⟩,
  ⟨some 184, .ext (.t 173) 1, none, [], []⟩,
  ⟨some 185, .ext (.t 173) 2, none, [], []⟩,
  ⟨some 186, .ext (.t 173) 3, none, [], []⟩,
  ⟨some 23, .alloc [.int .i64 0, .int .i64 0, .int .i64 0, .row [], .row []], none, [], []⟩,
  ⟨none, .store none 5 (.t 23) (.t 183), none, [], []⟩,
  ⟨some 24, .mov (.t 184), none, [], []⟩,
  ⟨some 25, .mov (.t 185), none, [], []⟩,
  ⟨some 26, .mov (.t 186), none, [], []⟩] false)
 (.seq (.region [⟨some 188, .load true 7 (.t 7), none, [], []⟩,
  ⟨some 189, .load true 5 (.t 8), none, [], []⟩,
  ⟨some 190, .mov (.t 22), none, [], []⟩,
  ⟨some 191, .mov (.t 5), none, [], []⟩,
  ⟨some 192, .call false 12 [(.t 188), (.t 189), (.t 190), (.t 191)], none, [], []⟩,
  ⟨some 187, .mov (.t 192), none, [], []⟩,
  ⟨some 193, .ext (.t 187) 0, none, [], []⟩,
  ⟨some 194, .ext (.t 187) 1, none, [], []⟩,
  ⟨some 27, .alloc [.int .i64 0, .int .i64 0, .int .i64 0, .row [], .row []], none, [], []⟩,
  ⟨none, .store none 5 (.t 27) (.t 193), none, [], []⟩,
  ⟨some 28, .mov (.t 194), none, [], []⟩] false)
 (.seq (.region [⟨some 196, .load true 7 (.t 7), none, [], []⟩,
  ⟨some 197, .load true 5 (.t 8), none, [], []⟩,
  ⟨some 198, .mov (.t 2), none, [], []⟩,
  ⟨some 199, .mov (.t 3), none, [], []⟩,
  ⟨some 200, .mov (.t 22), none, [], []⟩,
  ⟨some 201, .mov (.t 5), none, [], []⟩,
  ⟨some 202, .call false 14 [(.t 196), (.t 197), (.t 198), (.t 199), (.t 200), (.c (.int .i64 1)), (.t 201)], none, [], []⟩,
  ⟨some 195, .mov (.t 202), none, [], []⟩,
  ⟨some 203, .ext (.t 195) 0, none, [], []⟩,
  ⟨some 204, .ext (.t 195) 1, none, [], []⟩,
  ⟨some 205, .ext (.t 195) 2, none, [], []⟩,
  ⟨some 206, .ext (.t 195) 3, none, [], []⟩,
  ⟨some 29, .alloc [.int .i64 0, .int .i64 0, .int .i64 0, .row [], .row []], none, [], []⟩,
  ⟨none, .store none 5 (.t 29) (.t 203), none, [], []⟩,
  ⟨some 30, .mov (.t 204), none, [], []⟩,
  ⟨some 31, .mov (.t 205), none, [], []⟩,
  ⟨some 32, .mov (.t 206), none, [], []⟩] false)
 (.seq (.region [⟨some 207, .mov (.t 26), none, [], []⟩,
  ⟨some 208, .bin .eql (.t 207) (.c (.int .i64 0)), none, [], []⟩,
  ⟨some 209, .mov (.t 208), none, [], []⟩,
  ⟨some 210, .mov (.t 28), some (209, true), [], []⟩,
  ⟨some 211, .bin .eql (.t 210) (.c (.int .i64 0)), some (209, true), [], []⟩,
  ⟨some 212, .pick (.t 209) (.t 211) (.c (.bool false)), none, [], []⟩,
  ⟨some 213, .mov (.t 212), none, [], []⟩,
  ⟨some 214, .mov (.t 32), some (213, true), [], []⟩,
  ⟨some 215, .bin .eql (.t 214) (.c (.int .i64 0)), some (213, true), [], []⟩,
  ⟨some 216, .pick (.t 213) (.t 215) (.c (.bool false)), none, [], []⟩,
  ⟨some 217, .mov (.t 216), none, [], []⟩,
  ⟨some 218, .load true 5 (.t 23), some (217, true), [], []⟩,
  ⟨some 219, .load true 5 (.t 8), some (217, true), [], []⟩,
  ⟨some 220, .call false 16 [(.t 218), (.t 219)], some (217, true), [], []⟩,
  ⟨some 221, .pick (.t 217) (.t 220) (.c (.bool false)), none, [], []⟩,
  ⟨some 222, .mov (.t 221), none, [], []⟩,
  ⟨some 223, .mov (.t 24), some (222, true), [], []⟩,
  ⟨some 224, .mov (.t 3), some (222, true), [], []⟩,
  ⟨some 225, .call false 17 [(.t 223), (.t 224)], some (222, true), [], []⟩,
  ⟨some 226, .pick (.t 222) (.t 225) (.c (.bool false)), none, [], []⟩,
  ⟨some 227, .mov (.t 226), none, [], []⟩,
  ⟨some 228, .mov (.t 25), some (227, true), [], []⟩,
  ⟨some 229, .len (.t 228), some (227, true), [], []⟩,
  ⟨some 230, .bin .eql (.t 229) (.c (.int .i64 0)), some (227, true), [], []⟩,
  ⟨some 231, .pick (.t 227) (.t 230) (.c (.bool false)), none, [], []⟩,
  ⟨some 232, .mov (.t 231), none, [], []⟩,
  ⟨some 233, .load true 5 (.t 27), some (232, true), [], []⟩,
  ⟨some 234, .load true 5 (.t 8), some (232, true), [], []⟩,
  ⟨some 235, .call false 16 [(.t 233), (.t 234)], some (232, true), [], []⟩,
  ⟨some 236, .pick (.t 232) (.t 235) (.c (.bool false)), none, [], []⟩,
  ⟨some 237, .mov (.t 236), none, [], []⟩,
  ⟨some 238, .load true 5 (.t 29), some (237, true), [], []⟩,
  ⟨some 239, .load true 5 (.t 8), some (237, true), [], []⟩,
  ⟨some 240, .call false 16 [(.t 238), (.t 239)], some (237, true), [], []⟩,
  ⟨some 241, .pick (.t 237) (.t 240) (.c (.bool false)), none, [], []⟩,
  ⟨some 242, .mov (.t 241), none, [], []⟩,
  ⟨some 243, .mov (.t 30), some (242, true), [], []⟩,
  ⟨some 244, .mov (.t 3), some (242, true), [], []⟩,
  ⟨some 245, .call false 17 [(.t 243), (.t 244)], some (242, true), [], []⟩,
  ⟨some 246, .pick (.t 242) (.t 245) (.c (.bool false)), none, [], []⟩,
  ⟨some 247, .mov (.t 246), none, [], []⟩,
  ⟨some 248, .mov (.t 31), some (247, true), [], []⟩,
  ⟨some 249, .len (.t 248), some (247, true), [], []⟩,
  ⟨some 250, .bin .eql (.t 249) (.c (.int .i64 0)), some (247, true), [], []⟩,
  ⟨some 251, .pick (.t 247) (.t 250) (.c (.bool false)), none, [], []⟩,
  ⟨some 252, .mov (.t 251), none, [], []⟩,
  ⟨some 253, .call false 27 [], some (252, true), [], []⟩,
  ⟨some 254, .pick (.t 252) (.t 253) (.c (.bool false)), none, [], []⟩,
  ⟨some 14, .mov (.t 254), none, [], []⟩] false)
 .ret)))))))))))))))
def i4 : F := ⟨7, 255, j4, [.t 14]⟩
theorem b4 : i4.body = j4 := rfl
theorem q4 : i4.res = [.t 14] := rfl
theorem c4 : chkF Tryz.prog Tryz.f4 i4 = true := by kernel_rfl
theorem s4 {m : Model} {E : Nat → Model} (hE : ∀ f, Sound Tryz.prog f (E f)) (hm : ∀ args r, m args = some r → ∃ N, i4.ev E N args = some r) : Sound Tryz.prog 4 m := sound_of i4 Tryz.func4 rfl c4 hE hm
def xt : List (Nat × Model) := []
def tb : List (Nat × F) := [(4, i4)]
theorem xt_ok : ∀ p ∈ xt, Sound Tryz.prog p.1 p.2 := all_nil
theorem tb_ok (N : Nat) : ∀ p ∈ tb, ∀ E : Nat → Model, (∀ f, Sound Tryz.prog f (E f)) → Sound Tryz.prog p.1 (p.2.ev E N) := all_cons (fun E hE => s4 hE fun _ _ h => ⟨N, h⟩) (all_nil)
abbrev TT (N : Nat) : Nat → Nat → Model := T1 (IF.TT N) 4 i4 N
theorem TT_ok (N d f : Nat) : Sound Tryz.prog f (TT N d f) := T1_ok (IF.TT_ok N) (fun E hE => s4 hE fun _ _ h => ⟨N, h⟩) d f
theorem t4 (N d : Nat) : TT N (d + 1) 4 = i4.ev (IF.TT N d) N := rfl
end Go.Proofs.YtkfcbpbnoeaheaaGreatDoor.L4
namespace Go.Proofs.YtkfcbpbnoeaheaaGreatDoor.FA
open Go Go.Proofs.YtkfcbpbnoeaheaaGreatDoorR Go.Proofs.YtkfcbpbnoeaheaaGreatDoor.IF
open Go.Proofs.YtkfcbpbnoeaheaaGreatDoor.QA (Ev eE aE rE inB epOK evOK qOK putE n01 gapE lastK)
open Go.Proofs.YtkfcbpbnoeaheaaGreatDoor.AA (It eT aT rT ahOK addA addR leftL wi wm takeT allT take_s hR pre cP risB fitsB left_s)
open Go.Proofs.YtkfcbpbnoeaheaaGreatDoor.EC (Cf eC okC)
open Go.Proofs.YtkfcbpbnoeaheaaGreatDoor.L4 (j4 i4 b4 q4)
set_option maxRecDepth 100000
set_option maxHeartbeats 8000000
theorem umod (z m : Int) (hm : 0 < m) (hm2 : m ≤ 4611686018427387904) : 0 ≤ IntKind.i64.wrap ((IntKind.u64.wrap z).tmod m) ∧ IntKind.i64.wrap ((IntKind.u64.wrap z).tmod m) < m := by
  have h : 0 ≤ IntKind.u64.wrap z := by
    simp [IntKind.wrap, IntKind.signed, IntKind.bits]
    omega
  have h1 := Int.tmod_nonneg m h
  have h2 := Int.tmod_lt_of_pos (IntKind.u64.wrap z) hm
  rw [IntWalk.i64_in _ (by omega)]
  exact ⟨h1, h2⟩
theorem st_same (d : Nat) (s : Sm) (h : smL s) : TT 1000 (d + 2) 16 [aS s, aS s] = some (bV true, []) := by rw [e16 1000 d (by omega) s s h]; simp
theorem ev_same (d : Nat) (q : List Ev) (h : q.length < 900) : TT 1000 (d + 1) 17 [.one (rE q), .one (rE q)] = some (bV true, []) := by rw [QA.e17 1000 d q q (by omega) (by omega)]; simp
/-- The first item of a new epoch. -/
theorem item_new {c : Cf} {e n v : Int} {sub : Bool} {q : List Ev} (hc : okC c = true) (hn : 1 ≤ n ∧ n ≤ 1073741823) (hv : inB v 0 2147483647 = true) :
    itemG c ⟨e, n, n, [], []⟩ sub q false ⟨n, v⟩ = (⟨e, n + 1, n + 1, [⟨n, v⟩], []⟩, oneQ c ⟨e, n, n, [], []⟩ sub q v, [⟨n, v⟩]) := by
  have kc := okC_t hc
  have hk : kpOK [] n c.p = true := by simp [kpOK, inB, kRow]; omega
  unfold itemG
  rw [if_neg (by simp), if_pos rfl, one_more hk hv (by show 0 ≤ n ∧ n ≤ _; omega) (by simp)]
  have hp : pushL [] n c.p v = [⟨n, v⟩] := by
    unfold pushL
    rw [show ([] : List It).length + 1 - c.p.toNat = 0 by simp; omega]
    rfl
  have hgt : n + 1 > n := by omega
  simp only [takeR, rQ, oneQ, hp, if_pos hgt, List.nil_append]
theorem toldS_new {s : Sm} {a n : Int} (h : a > s.e) : toldS s a n = ⟨a, n, n, [], []⟩ := by unfold toldS; rw [if_pos h]
theorem e4 (c : Cf) (s : Sm) (sub : Bool) (q : List Ev) (up seq value : Int) : L4.TT 1000 18 4 [.agg (eC c), aS s, bV sub, .one (rE q), iV up, iV seq, iV value] = some (bV true, []) := by
  rw [L4.t4, F_ev rfl]
  have hH := fun d => e9 1000 d s q
  cases hv : heavyB s q with
  | true => rw [hv] at hH; simp only [hH, j4, b4, q4, qq, ww, List.replicate, Nat.reduceBEq, Nat.reduceAdd, Nat.reduceMul, Nat.reduceDiv, Nat.reduceEqDiff, Nat.reduceLeDiff, Nat.reduceLT, Int.reduceEq, Int.reduceNe, Int.reduceLT, Int.reduceLE, Int.reduceAdd, Int.reduceSub, Int.reduceMul, Int.reduceNeg, Int.reduceToNat, Int.reducePow, Nat.reducePow, reduceCtorEq, reduceIte, if_true, if_false]
  | false =>
  rw [hv] at hH
  have hh := heavy_t hv
  have hs : smL s := ⟨by omega, by omega⟩
  have h3 := fun d => e18 1000 d c
  have h5 := fun d => e20 1000 d (by omega) c s q hs (by omega)
  have hw := w18
  cases hc : okC c with
  | false => rw [hc] at h3; simp only [hH, h3, j4, b4, q4, qq, ww, List.replicate, Nat.reduceBEq, Nat.reduceAdd, Nat.reduceMul, Nat.reduceDiv, Nat.reduceEqDiff, Nat.reduceLeDiff, Nat.reduceLT, Int.reduceEq, Int.reduceNe, Int.reduceLT, Int.reduceLE, Int.reduceAdd, Int.reduceSub, Int.reduceMul, Int.reduceNeg, Int.reduceToNat, Int.reducePow, Nat.reducePow, reduceCtorEq, reduceIte, if_true, if_false]
  | true =>
  rw [hc] at h3
  cases hf : (rightB c s && qOK q c.q) with
  | false => rw [hf] at h5; simp only [hH, h3, h5, j4, b4, q4, qq, ww, List.replicate, Nat.reduceBEq, Nat.reduceAdd, Nat.reduceMul, Nat.reduceDiv, Nat.reduceEqDiff, Nat.reduceLeDiff, Nat.reduceLT, Int.reduceEq, Int.reduceNe, Int.reduceLT, Int.reduceLE, Int.reduceAdd, Int.reduceSub, Int.reduceMul, Int.reduceNeg, Int.reduceToNat, Int.reducePow, Nat.reducePow, reduceCtorEq, reduceIte, if_true, if_false]
  | true =>
  rw [hf] at h5
  rw [Bool.and_eq_true] at hf
  have kc := okC_t hc
  have hqn := q_nil kc.2.2.2.2.2.2
  have f1 : flowC c s q = 0 := flow_of hc hf.1 hf.2
  have f0 : flowC c s [] = 0 := flow_of hc hf.1 hqn
  have kr := right_t hf.1
  have ke : 0 ≤ s.e ∧ s.e ≤ 1073741824 := kr.2.2.2.2.2.2.2
  obtain ⟨a1, a2⟩ := umod seq 1073741822 (by omega) (by omega)
  obtain ⟨b1, b2⟩ := umod value 1000 (by omega) (by omega)
  obtain ⟨u1, u2⟩ := umod up 100 (by omega) (by omega)
  generalize hA : IntKind.i64.wrap ((IntKind.u64.wrap seq).tmod 1073741822) = A at *
  generalize hB : IntKind.i64.wrap ((IntKind.u64.wrap value).tmod 1000) = B at *
  generalize hU : IntKind.i64.wrap ((IntKind.u64.wrap up).tmod 100) = U at *
  have w1 : IntKind.i64.wrap (1 + A) = 1 + A := IntWalk.i64_in _ (by omega)
  have w2 : IntKind.i64.wrap (1 + U) = 1 + U := IntWalk.i64_in _ (by omega)
  have w3 : IntKind.i64.wrap (16 * (1 + U)) = 16 * (1 + U) := IntWalk.i64_in _ (by omega)
  have hmod : s.e.tmod 16 = s.e % 16 := Int.tmod_eq_emod_of_nonneg ke.1
  have w4 : IntKind.i64.wrap (s.e - s.e % 16) = s.e - s.e % 16 := IntWalk.i64_in _ (by omega)
  have w5 : IntKind.i64.wrap (s.e - s.e % 16 + 16 * (1 + U)) = s.e - s.e % 16 + 16 * (1 + U) := IntWalk.i64_in _ (by omega)
  have hnw : s.e - s.e % 16 + 16 * (1 + U) > s.e := by omega
  have hn16 : (s.e - s.e % 16 + 16 * (1 + U)) % 16 = 0 := by omega
  have hn1 : 1 ≤ s.e - s.e % 16 + 16 * (1 + U) := by omega
  generalize hE : s.e - s.e % 16 + 16 * (1 + U) = E at *
  by_cases g1 : E > 1073741824
  · simp only [hH, h3, h5, hw, hA, hB, hU, w1, w2, w3, w4, hE, w5, hmod, decide_eq_true g1, j4, b4, q4, qq, ww, List.replicate, Nat.reduceBEq, Nat.reduceAdd, Nat.reduceMul, Nat.reduceDiv, Nat.reduceEqDiff, Nat.reduceLeDiff, Nat.reduceLT, Int.reduceEq, Int.reduceNe, Int.reduceLT, Int.reduceLE, Int.reduceAdd, Int.reduceSub, Int.reduceMul, Int.reduceNeg, Int.reduceToNat, Int.reducePow, Nat.reducePow, reduceCtorEq, reduceIte, if_true, if_false]
  have heE : epOK E = true := by
    have : E.tmod 16 = E % 16 := Int.tmod_eq_emod_of_nonneg (by omega)
    simp [epOK, inB, this, hn16]; omega
  have hx : inB (1 + A) 1 1073741823 = true := by simp [inB]; omega
  have hx2 : inB (1 + A) 1 1073741824 = true := by simp [inB]; omega
  have hval : inB B 0 2147483647 = true := by simp [inB]; omega
  have w6 : IntKind.i64.wrap (1 + A + 1) = 1 + A + 1 := IntWalk.i64_in _ (by omega)
  have hI : ∀ d, ans (TT 1000 (d + 16) 13 [.agg (eC c), aS s, bV sub, .one (rE q), iV E, aT ⟨1 + A, B⟩]) = some (.tup [.agg [.int .i64 E, .int .i64 (1 + A + 1), .int .i64 (1 + A + 1), .row [[.int .i64 (1 + A), .int .i64 B]], .row []], .one (rE (oneQ c ⟨E, 1 + A, 1 + A, [], []⟩ sub q B)), .one (.row [[.int .i64 (1 + A), .int .i64 B]]), iV 0]) := fun d => by
    rw [e13 1000 d (by omega) c s sub q E ⟨1 + A, B⟩ hs (by omega)]
    have hne : decide (E < s.e) = false := by simp; omega
    rw [show itemP c s sub q E ⟨1 + A, B⟩ = (itemG c ⟨E, 1 + A, 1 + A, [], []⟩ sub q false ⟨1 + A, B⟩, 0) by simp only [itemP, f1, heE, hx, hval, if_pos hnw, hne, Bool.and_self, if_true]]
    rw [item_new hc (by omega) hval]
    rfl
  have hT : ∀ d, TT 1000 (d + 12) 12 [.agg (eC c), aS s, iV E, iV (1 + A)] = some (.tup [.agg [.int .i64 E, .int .i64 (1 + A), .int .i64 (1 + A), .row [], .row []], iV 0], []) := fun d => by
    rw [e12 1000 d (by omega) c s E (1 + A) hs, show toldP c s E (1 + A) = (⟨E, 1 + A, 1 + A, [], []⟩, 0) by simp [toldP, f0, heE, hx2, toldS_new hnw]]
    rfl
  have hsame := fun d => st_same d s hs
  have hse := fun d => ev_same d q (by omega)
  have hsub : sub = false → oneQ c ⟨E, 1 + A, 1 + A, [], []⟩ sub q B = q := fun h => by simp [oneQ, h]
  have w0 : IntKind.i64.wrap 0 = 0 := rfl
  generalize hQ : oneQ c ⟨E, 1 + A, 1 + A, [], []⟩ sub q B = Q at *
  by_cases g2 : s.e < 16
  · cases sub with
    | true => simp only [hH, h3, h5, hw, hA, hB, hU, w0, w1, w2, w3, w4, hE, w5, w6, hmod, hI, hT, hsame, hse, decide_eq_false g1, decide_eq_true g2, beq_self_eq_true, Bool.not_true, Bool.not_false, decide_true, List.length_map, List.length_nil, List.length_cons, j4, b4, q4, qq, ww, List.replicate, Nat.reduceBEq, Nat.reduceAdd, Nat.reduceMul, Nat.reduceDiv, Nat.reduceEqDiff, Nat.reduceLeDiff, Nat.reduceLT, Int.reduceEq, Int.reduceNe, Int.reduceLT, Int.reduceLE, Int.reduceAdd, Int.reduceSub, Int.reduceMul, Int.reduceNeg, Int.reduceToNat, Int.reducePow, Nat.reducePow, reduceCtorEq, reduceIte, if_true, if_false]
    | false =>
      have := hsub rfl
      subst this
      simp only [hH, h3, h5, hw, hA, hB, hU, w0, w1, w2, w3, w4, hE, w5, w6, hmod, hI, hT, hsame, hse, decide_eq_false g1, decide_eq_true g2, beq_self_eq_true, Bool.not_true, Bool.not_false, decide_true, List.length_map, List.length_nil, List.length_cons, j4, b4, q4, qq, ww, List.replicate, Nat.reduceBEq, Nat.reduceAdd, Nat.reduceMul, Nat.reduceDiv, Nat.reduceEqDiff, Nat.reduceLeDiff, Nat.reduceLT, Int.reduceEq, Int.reduceNe, Int.reduceLT, Int.reduceLE, Int.reduceAdd, Int.reduceSub, Int.reduceMul, Int.reduceNeg, Int.reduceToNat, Int.reducePow, Nat.reducePow, reduceCtorEq, reduceIte, if_true, if_false]
  have w7 : IntKind.i64.wrap (s.e - 16) = s.e - 16 := IntWalk.i64_in _ (by omega)
  by_cases g3 : s.e - 16 < 1
  · cases sub with
    | true => simp only [hH, h3, h5, hw, hA, hB, hU, w0, w1, w2, w3, w4, hE, w5, w6, w7, hmod, hI, hT, hsame, hse, decide_eq_false g1, decide_eq_false g2, decide_eq_true g3, beq_self_eq_true, Bool.not_true, Bool.not_false, decide_true, List.length_map, List.length_nil, List.length_cons, j4, b4, q4, qq, ww, List.replicate, Nat.reduceBEq, Nat.reduceAdd, Nat.reduceMul, Nat.reduceDiv, Nat.reduceEqDiff, Nat.reduceLeDiff, Nat.reduceLT, Int.reduceEq, Int.reduceNe, Int.reduceLT, Int.reduceLE, Int.reduceAdd, Int.reduceSub, Int.reduceMul, Int.reduceNeg, Int.reduceToNat, Int.reducePow, Nat.reducePow, reduceCtorEq, reduceIte, if_true, if_false]
    | false =>
      have := hsub rfl
      subst this
      simp only [hH, h3, h5, hw, hA, hB, hU, w0, w1, w2, w3, w4, hE, w5, w6, w7, hmod, hI, hT, hsame, hse, decide_eq_false g1, decide_eq_false g2, decide_eq_true g3, beq_self_eq_true, Bool.not_true, Bool.not_false, decide_true, List.length_map, List.length_nil, List.length_cons, j4, b4, q4, qq, ww, List.replicate, Nat.reduceBEq, Nat.reduceAdd, Nat.reduceMul, Nat.reduceDiv, Nat.reduceEqDiff, Nat.reduceLeDiff, Nat.reduceLT, Int.reduceEq, Int.reduceNe, Int.reduceLT, Int.reduceLE, Int.reduceAdd, Int.reduceSub, Int.reduceMul, Int.reduceNeg, Int.reduceToNat, Int.reducePow, Nat.reducePow, reduceCtorEq, reduceIte, if_true, if_false]
  have heo : epOK (s.e - 16) = true := by
    have hz : epOK s.e = true := by
      have := hf.1
      unfold rightB at this
      rw [Bool.or_eq_true] at this
      rcases this with h | h
      · rw [zeroB_iff] at h; rw [h] at g2; simp at g2
      · simp only [Bool.and_eq_true] at h; exact h.1.1.1.1.1
    simp only [epOK, inB, Bool.and_eq_true, decide_eq_true_eq] at hz ⊢
    rw [hmod] at hz
    rw [Int.tmod_eq_emod_of_nonneg (by omega)]
    omega
  have hlt : s.e - 16 < s.e := by omega
  have hngt : ¬ s.e - 16 > s.e := by omega
  have hI2 : ∀ d, ans (TT 1000 (d + 16) 13 [.agg (eC c), aS s, bV sub, .one (rE q), iV (s.e - 16), aT ⟨1 + A, B⟩]) = some (.tup [aS s, .one (rE q), .one (.row []), iV 0]) := fun d => by
    rw [e13 1000 d (by omega) c s sub q (s.e - 16) ⟨1 + A, B⟩ hs (by omega)]
    rw [show itemP c s sub q (s.e - 16) ⟨1 + A, B⟩ = ((s, q, []), 0) by simp only [itemP, f1, heo, hx, hval, if_neg hngt, decide_eq_true hlt, Bool.and_self, if_true, itemG, Bool.true_or]]
    rfl
  have hT2 : ∀ d, TT 1000 (d + 12) 12 [.agg (eC c), aS s, iV (s.e - 16), iV (1 + A)] = some (.tup [aS s, iV 0], []) := fun d => by
    have hne : ¬ s.e - 16 = s.e := by omega
    rw [e12 1000 d (by omega) c s (s.e - 16) (1 + A) hs, show toldP c s (s.e - 16) (1 + A) = (s, 0) by simp only [toldP, f0, heo, hx2, toldS, if_neg hngt, if_neg hne, Bool.and_self, if_true]]
  have hG2 : ∀ d, ans (TT 1000 (d + 16) 14 [.agg (eC c), aS s, bV sub, .one (rE q), iV (s.e - 16), iV 1, iV (1 + A)]) = some (.tup [aS s, .one (rE q), .one (.row []), iV 0]) := fun d => by
    have hne : ¬ (s.e - 16 = s.e ∧ s.w ≥ 1 ∧ s.w ≤ 1 + A) := fun h => by omega
    rw [e14 1000 d (by omega) c s sub q (s.e - 16) 1 (1 + A) hs (by omega)]
    have h1 : decide ((1 : Int) ≤ 1) = true := rfl
    have h2 : decide ((1 : Int) ≤ 1 + A) = true := by simp; omega
    rw [show goneP c s sub q (s.e - 16) 1 (1 + A) = ((s, q, []), 0) by simp only [goneP, f1, heo, hx, h1, h2, goneG, if_neg hne, Bool.and_self, if_true]]
    rfl
  cases sub with
  | true => simp only [hH, h3, h5, hw, hA, hB, hU, w0, w1, w2, w3, w4, hE, w5, w6, w7, hmod, hI, hT, hI2, hT2, hG2, hsame, hse, decide_eq_false g1, decide_eq_false g2, decide_eq_false g3, beq_self_eq_true, Bool.not_true, Bool.not_false, decide_true, List.length_map, List.length_nil, List.length_cons, j4, b4, q4, qq, ww, List.replicate, Nat.reduceBEq, Nat.reduceAdd, Nat.reduceMul, Nat.reduceDiv, Nat.reduceEqDiff, Nat.reduceLeDiff, Nat.reduceLT, Int.reduceEq, Int.reduceNe, Int.reduceLT, Int.reduceLE, Int.reduceAdd, Int.reduceSub, Int.reduceMul, Int.reduceNeg, Int.reduceToNat, Int.reducePow, Nat.reducePow, reduceCtorEq, reduceIte, if_true, if_false]
  | false =>
    have := hsub rfl
    subst this
    simp only [hH, h3, h5, hw, hA, hB, hU, w0, w1, w2, w3, w4, hE, w5, w6, w7, hmod, hI, hT, hI2, hT2, hG2, hsame, hse, decide_eq_false g1, decide_eq_false g2, decide_eq_false g3, beq_self_eq_true, Bool.not_true, Bool.not_false, decide_true, List.length_map, List.length_nil, List.length_cons, j4, b4, q4, qq, ww, List.replicate, Nat.reduceBEq, Nat.reduceAdd, Nat.reduceMul, Nat.reduceDiv, Nat.reduceEqDiff, Nat.reduceLeDiff, Nat.reduceLT, Int.reduceEq, Int.reduceNe, Int.reduceLT, Int.reduceLE, Int.reduceAdd, Int.reduceSub, Int.reduceMul, Int.reduceNeg, Int.reduceToNat, Int.reducePow, Nat.reducePow, reduceCtorEq, reduceIte, if_true, if_false]
end Go.Proofs.YtkfcbpbnoeaheaaGreatDoor.FA
