/- Texts joined: FH FI FJ FK FL L3 FM. -/
import Derived.Test.YtkfcbpbnoeaheaaGreatDoorZE1
import Derived.Test.YtkfcbpbnoeaheaaGreatDoorProg
set_option linter.unusedVariables false
set_option linter.unusedSimpArgs false
namespace Go.Proofs.YtkfcbpbnoeaheaaGreatDoor.FA
open Go Go.Proofs.YtkfcbpbnoeaheaaGreatDoorR Go.Proofs.YtkfcbpbnoeaheaaGreatDoor.IF
open Go.Proofs.YtkfcbpbnoeaheaaGreatDoor.QA (Ev eE aE rE inB epOK evOK qOK putE n01 gapE lastK)
open Go.Proofs.YtkfcbpbnoeaheaaGreatDoor.AA (It eT aT rT ahOK addA leftL wi wm takeT allT take_s hR pre cP risB fitsB)
open Go.Proofs.YtkfcbpbnoeaheaaGreatDoor.EC (Cf eC okC)
set_option maxRecDepth 100000
set_option maxHeartbeats 4000000
theorem evOK_data {e s v : Int} (he : epOK e = true) (hs : 1 ≤ s ∧ s ≤ 1073741824) (hv : inB v 0 2147483647 = true) : evOK ⟨1, e, s, 0, v, 0⟩ = true := by
  have : inB s 1 1073741824 = true := by simp [inB]; omega
  simp [evOK, he, this, hv]
theorem evOK_gap {e s l : Int} (he : epOK e = true) (hs : 1 ≤ s) (hl : s ≤ l ∧ l ≤ 1073741824) : evOK ⟨2, e, s, l, 0, 0⟩ = true := by
  have h1 : inB s 1 1073741824 = true := by simp [inB]; omega
  have h2 : inB l s 1073741824 = true := by simp [inB]; omega
  simp [evOK, he, h1, h2]
theorem evOK_2 {x : Ev} (h : evOK x = true) (hk : x.k = 2) : epOK x.e = true ∧ 1 ≤ x.s ∧ x.s ≤ x.l ∧ x.l ≤ 1073741824 ∧ x.v = 0 ∧ x.c = 0 := by
  simp [evOK, hk, inB] at h
  simp [h]
theorem gap_ok {x g : Ev} (hx : evOK x = true) (hg : gapE x = some g) : g.k = 2 ∧ evOK g = true := by
  unfold gapE at hg
  split at hg
  · rename_i hk
    cases hg
    simp [evOK, hk, inB] at hx
    exact ⟨rfl, evOK_gap (by simp [hx]) (by omega) (by omega)⟩
  · split at hg
    · rename_i hk
      cases hg
      exact ⟨hk, hx⟩
    · cases hg
theorem lastK_app (l : List Ev) (y : Ev) : lastK (l ++ [y]) = y.k := by simp [lastK]
theorem q_fit {l : List Ev} {n : Int} {x : Ev} (hq : qOK l n = true) (hx : evOK x = true) : qOK (fitE l n x) n = true := by
  have hq0 := hq
  simp only [qOK, Bool.and_eq_true, Bool.or_eq_true, Bool.not_eq_true', decide_eq_true_eq, decide_eq_false_iff_not] at hq
  obtain ⟨⟨⟨⟨h1, h2⟩, h3⟩, h4⟩, h5⟩ := hq
  unfold fitE
  by_cases g1 : (l.length : Int) < n - 1
  · rw [show putE l n x = (0, l ++ [x]) by simp only [putE, hq0, hx, Bool.and_self, if_true, if_pos g1]]
    simp only [if_true, qOK, List.length_append, List.length_cons, List.length_nil, List.all_append, List.all_cons, List.all_nil, h4, hx, Bool.and_true, Bool.and_eq_true, Bool.or_eq_true, Bool.not_eq_true', decide_eq_true_eq, decide_eq_false_iff_not]
    exact ⟨⟨⟨h1, h2⟩, by omega⟩, .inl (by omega)⟩
  cases hg : gapE x with
  | none => rw [show putE l n x = (6, []) by simp only [putE, hq0, hx, hg, Bool.and_self, if_true, if_neg g1]]; exact hq0
  | some g =>
    obtain ⟨k1, k2⟩ := gap_ok hx hg
    by_cases g2 : (l.length : Int) < n
    · rw [show putE l n x = (0, l ++ [g]) by simp only [putE, hq0, hx, hg, Bool.and_self, if_true, if_neg g1, if_pos g2]]
      simp only [if_true, qOK, List.length_append, List.length_cons, List.length_nil, List.all_append, List.all_cons, List.all_nil, h4, k2, lastK_app, k1, Bool.and_true, Bool.and_eq_true, Bool.or_eq_true, Bool.not_eq_true', decide_eq_true_eq, decide_eq_false_iff_not]
      first | exact ⟨⟨⟨h1, h2⟩, by omega⟩, .inr rfl⟩ | exact ⟨⟨h1, h2⟩, by omega⟩ | (simp; omega)
    · have hlen : (l.length : Int) = n := by omega
      have hne : l ≠ [] := fun e => by subst e; simp at hlen; omega
      obtain ⟨m, y, rfl⟩ : ∃ m y, l = m ++ [y] := ⟨l.dropLast, l.getLast hne, (List.dropLast_concat_getLast hne).symm⟩
      have g1' : ¬ ((m.length : Int) + 1 < n - 1) := by simp at hlen; omega
      have g2' : ¬ ((m.length : Int) + 1 < n) := by simp at hlen; omega
      by_cases g3 : g.e = y.e ∧ g.s = y.l + 1
      · rw [show putE (m ++ [y]) n x = (0, (m ++ [y]).dropLast ++ [{ y with l := g.l }]) by simp [putE, hq0, hx, hg, g1', g2', g3]]
        have hy : y.k = 2 := by
          rcases h5 with h | h
          · exact absurd hlen h
          · rwa [lastK_app] at h
        have hyok : evOK y = true := by simp [List.all_append] at h4; exact h4.2
        have hm : m.all evOK = true := by simp [List.all_append] at h4 ⊢; exact h4.1
        obtain ⟨a1, a2, a3, a4, a5, a6⟩ := evOK_2 hyok hy
        obtain ⟨b1, b2, b3, b4, b5, b6⟩ := evOK_2 k2 k1
        have hnew : evOK { y with l := g.l } = true := by
          have : ({ y with l := g.l } : Ev) = ⟨2, y.e, y.s, g.l, 0, 0⟩ := by
            obtain ⟨k, e, s, l, v, c⟩ := y
            simp at hy a5 a6 ⊢
            exact ⟨hy, a5, a6⟩
          rw [this]
          exact evOK_gap a1 a2 ⟨by omega, b4⟩
        simp only [List.dropLast_concat, if_true, qOK, List.length_append, List.length_cons, List.length_nil, List.all_append, List.all_cons, List.all_nil, hm, hnew, lastK_app, Bool.and_true, Bool.and_eq_true, Bool.or_eq_true, Bool.not_eq_true', decide_eq_true_eq, decide_eq_false_iff_not] at h3 hlen ⊢
        exact ⟨⟨⟨h1, h2⟩, by simpa using h3⟩, .inr hy⟩
      · rw [show putE (m ++ [y]) n x = (6, []) by simp [putE, hq0, hx, hg, g1', g2', g3]]
        exact hq0
/-- The page's way to take items in. -/
def rQ (c : Cf) (s : Sm) (sub : Bool) (q : List Ev) (x : It) : List Ev := if sub then fitE q c.q ⟨1, s.e, x.s, 0, x.v, 0⟩ else q
def takeR (c : Cf) (sub : Bool) : List It → Sm → List Ev → List It → It → Sm × List Ev × List It
  | [], s, q, on, x => (⟨s.e, s.w + 1, if s.w + 1 > s.kn then s.w + 1 else s.kn, pushL s.kp s.w c.p x.v, []⟩, rQ c s sub q x, on ++ [x])
  | y :: r, s, q, on, x => if y.s = s.w + 1 then takeR c sub r ⟨s.e, s.w + 1, if s.w + 1 > s.kn then s.w + 1 else s.kn, pushL s.kp s.w c.p x.v, r⟩ (rQ c s sub q x) (on ++ [x]) y
    else (⟨s.e, s.w + 1, if s.w + 1 > s.kn then s.w + 1 else s.kn, pushL s.kp s.w c.p x.v, y :: r⟩, rQ c s sub q x, on ++ [x])
structure RI (c : Cf) (sub : Bool) (ah : List It) (s : Sm) (q : List Ev) (x : It) : Prop where
  cc : 1 ≤ c.p ∧ c.p ≤ 16
  qq : sub = true → qOK q c.q = true ∧ epOK s.e = true
  xs : x.s = s.w
  ws : 1 ≤ s.w ∧ s.w ≤ 1073741823
  xv : inB x.v 0 2147483647 = true
  ay : ∀ y ∈ ah, inB y.v 0 2147483647 = true ∧ y.s ≤ 1073741823
  kl : s.kp.length ≤ 16
  ql : q.length < 900
theorem push_len {l : List It} {want lim v : Int} (hl : l.length ≤ 16) (h : 1 ≤ lim ∧ lim ≤ 16) : (pushL l want lim v).length ≤ 16 := by
  simp [pushL]; omega
theorem rQ_ok {c : Cf} {sub : Bool} {ah : List It} {s : Sm} {q : List Ev} {x : It} (h : RI c sub ah s q x) : (sub = true → qOK (rQ c s sub q x) c.q = true ∧ epOK s.e = true) ∧ (q.length < 800 → (rQ c s sub q x).length < 900) := by
  refine ⟨fun hs => ⟨?_, (h.qq hs).2⟩, fun hl => ?_⟩
  · subst hs
    simp only [rQ, if_true]
    have := h.ws
    exact q_fit (h.qq rfl).1 (evOK_data (h.qq rfl).2 (by rw [h.xs]; omega) h.xv)
  · unfold rQ
    split
    · have := fitE_len q c.q ⟨1, s.e, x.s, 0, x.v, 0⟩; omega
    · omega
theorem e66 (N d : Nat) (hN : 1000 ≤ N) (c : Cf) (s : Sm) (sub : Bool) (q : List Ev) (v : Int) (ha : s.ah.length < 400) (hq : q.length < 400) (h : RI c sub s.ah s q ⟨s.w, v⟩) :
    ans (TT N (d + 4) 66 [.agg (eC c), aS s, bV sub, .one (rE q), iV v]) = some (.tup [aS (takeR c sub s.ah s q [] ⟨s.w, v⟩).1, .one (rE (takeR c sub s.ah s q [] ⟨s.w, v⟩).2.1), .one (rT (takeR c sub s.ah s q [] ⟨s.w, v⟩).2.2)]) := by
  rw [t66, F_ev rfl]
  simp only [List.length_map, j66, b66, q66, qq, ww, List.replicate, Nat.reduceBEq, Nat.reduceAdd, Nat.reduceMul, Nat.reduceDiv, Nat.reduceEqDiff, Nat.reduceLeDiff, Nat.reduceLT, Int.reduceEq, Int.reduceNe, Int.reduceLT, Int.reduceLE, Int.reduceAdd, Int.reduceSub, Int.reduceMul, Int.reduceNeg, Int.reduceToNat, Int.reducePow, Nat.reducePow, reduceCtorEq, reduceIte, if_true, if_false]
  generalize hF : takeR c sub s.ah s q [] ⟨s.w, v⟩ = F at *
  refine loopI (K := fun o => ans (fin _ (aft _ _ _ o))) (I := fun i st => ∃ ah s' q' on' x', st = ⟨[(2, bV sub), (3, .one (rE q')), (5, .one (.ref 320 0 0)), (6, .one (.ref 384 0 0)), (10, .one (.ref 640 0 0)), (13, .one (.sl 832 0 on'.length)), (14, .one (.ref 896 0 0))],
      [(320, .box (eC c)), (384, .box [.int .i64 s'.e, .int .i64 s'.w, .int .i64 s'.kn, rT s'.kp, rT ah]), (640, .box [.int .i64 0, .int .i64 0, .int .i64 0, .row [], .row []]), (832, .rows 29 2 (on'.map eT)), (896, .box (eT x'))]⟩ ∧ takeR c sub ah s' q' on' x' = F ∧ RI c sub ah s' q' x' ∧ ah.length + i = s.ah.length ∧ on'.length ≤ i ∧ q'.length ≤ q.length + i) _ s.ah.length ?hr s.ah.length 0 N _
      ⟨[(2, bV sub), (3, .one (rE q)), (5, .one (.ref 320 0 0)), (6, .one (.ref 384 0 0)), (10, .one (.ref 640 0 0)), (13, .one (.sl 832 0 0)), (14, .one (.ref 896 0 0))],
      [(320, .box (eC c)), (384, .box (eS s)), (640, .box [.int .i64 0, .int .i64 0, .int .i64 0, .row [], .row []]), (832, .rows 29 2 []), (896, .box (eT (⟨s.w, v⟩ : It)))]⟩ (by omega) (by omega) ?hk ⟨s.ah, s, q, [], ⟨s.w, v⟩, rfl, hF, h, by omega, by simp, by omega⟩
  case hk => simp only [gcK, lowB, Nat.reduceLeDiff, Nat.reduceBEq, List.contains_nil, List.contains_cons, Bool.or_false, Bool.false_or, Bool.false_eq_true, if_false, Bool.true_and, Bool.and_true, pickL, look_hit, look_miss, look_end, slMent, hpMent, S.ment, S.ment.smt, ments, V.ment, List.append_nil, List.nil_append, List.cons_append, List.all_nil, List.all_cons, Option.isSome_some, Bool.and_self, if_true, reduceIte, Nat.reduceEqDiff, not_false_eq_true, reduceCtorEq, Nat.reduceMul, Nat.reduceAdd]
  case hr =>
    rintro i n st hi ⟨ah, s', q', on', x', rfl, hf, hri, hal, hon, hql⟩ ih
    (try dsimp only)
    have h1 := fun d => e103 N d s'.kp s'.w c.p x'.v hri.cc (by have := hri.kl; omega)
    have hws := hri.ws
    have hwi : IntKind.i64.wrap (s'.w + 1) = s'.w + 1 := IntWalk.i64_in _ (by omega)
    have hby : (on'.length + 1) * 16 ≤ 140737488355328 := by omega
    have htk : List.take (on'.length + 1) (on'.map eT ++ [eT x']) = on'.map eT ++ [eT x'] := List.take_of_length_le (by simp)
    have hput : sub = true → ∀ d, TT N (d + 3) 69 [.one (rE q'), iV c.q, aE ⟨1, s'.e, x'.s, 0, x'.v, 0⟩] = some (.one (rE (fitE q' c.q ⟨1, s'.e, x'.s, 0, x'.v, 0⟩)), []) := fun hs d =>
      e69 N d q' c.q ⟨1, s'.e, x'.s, 0, x'.v, 0⟩ (by have := hri.ql; omega) (hri.qq hs).1 (evOK_data (hri.qq hs).2 (by rw [hri.xs]; omega) hri.xv)
    have hrq := rQ_ok hri
    have hpl := push_len (want := s'.w) (v := x'.v) hri.kl hri.cc
    have hrl : (rQ c s' sub q' x').length ≤ q'.length + 1 := by
      unfold rQ
      split
      · exact fitE_len _ _ _
      · omega
    have hqr : rQ c s' sub q' x' = (if sub = true then fitE q' c.q ⟨1, s'.e, x'.s, 0, x'.v, 0⟩ else q') := rfl
    have hxs := hri.xs
    cases ah with
    | nil =>
      clear ih
      rw [takeR] at hf
      subst hf
      cases sub with
      | true =>
        have hp := hput rfl
        simp only [if_true] at hqr
        simp only [h1, hp, hwi, hby, htk, hqr, takeT, List.map_nil, List.length_nil, List.length_map, List.length_append, List.map_append, List.length_cons, List.map_cons, Nat.zero_add, j66, b66, q66, qq, ww, List.replicate, Nat.reduceBEq, Nat.reduceAdd, Nat.reduceMul, Nat.reduceDiv, Nat.reduceEqDiff, Nat.reduceLeDiff, Nat.reduceLT, Int.reduceEq, Int.reduceNe, Int.reduceLT, Int.reduceLE, Int.reduceAdd, Int.reduceSub, Int.reduceMul, Int.reduceNeg, Int.reduceToNat, Int.reducePow, Nat.reducePow, reduceCtorEq, reduceIte, if_true, if_false]
        try (simp [rT]; done)
      | false =>
        simp only [Bool.false_eq_true, if_false] at hqr
        simp only [h1, hwi, hby, htk, hqr, takeT, List.map_nil, List.length_nil, List.length_map, List.length_append, List.map_append, List.length_cons, List.map_cons, Nat.zero_add, j66, b66, q66, qq, ww, List.replicate, Nat.reduceBEq, Nat.reduceAdd, Nat.reduceMul, Nat.reduceDiv, Nat.reduceEqDiff, Nat.reduceLeDiff, Nat.reduceLT, Int.reduceEq, Int.reduceNe, Int.reduceLT, Int.reduceLE, Int.reduceAdd, Int.reduceSub, Int.reduceMul, Int.reduceNeg, Int.reduceToNat, Int.reducePow, Nat.reducePow, reduceCtorEq, reduceIte, if_true, if_false]
        try (simp [rT]; done)
    | cons y r =>
      simp only [List.length_cons] at hal
      have hz : decide ((((y :: r).map eT).length : Int) = 0) = false := by simp; omega
      have hz2 : decide (((r.length + 1 : Nat) : Int) = 0) = false := by simp; omega
      have hb : (0 : Int) ≤ 0 ∧ (0 : Int) < ((r.length + 1 : Nat) : Int) := by omega
      have hb3 : (0 : Int) ≤ 1 := by omega
      have hif : (if (1 : Int) = ((r.length + 1 : Nat) : Int) then (some (S.one (V.row []), ([] : Hp))) else some (S.one (V.row (r.map eT)), [])) = some (.one (.row (r.map eT)), []) := by
        split
        · rename_i h
          rw [List.eq_nil_of_length_eq_zero (l := r) (by omega)]
          rfl
        · rfl
      have hb4 : (1 : Int) ≤ ((r.length + 1 : Nat) : Int) := by omega
      rw [takeR] at hf
      by_cases hy : y.s = s'.w + 1
      · rw [if_pos hy] at hf
        have hay := hri.ay y (by simp)
        have hri' : RI c sub r ⟨s'.e, s'.w + 1, if s'.w + 1 > s'.kn then s'.w + 1 else s'.kn, pushL s'.kp s'.w c.p x'.v, r⟩ (rQ c s' sub q' x') y :=
          ⟨hri.cc, hrq.1, hy, by show 1 ≤ s'.w + 1 ∧ s'.w + 1 ≤ _; omega, hay.1, fun z hz => hri.ay z (by simp [hz]), hpl, hrq.2 (by omega)⟩
        have hne : decide (y.s = s'.w + 1) = true := decide_eq_true hy
        cases sub with
        | true =>
          have hp := hput rfl
          simp only [if_true] at hqr
          simp only [h1, hp, hwi, hby, htk, hz, hz2, hb.1, hb.2, hb3, hb4, hif, hne, takeT, allT, Nat.add_sub_cancel, List.length_map, List.length_cons, List.map_cons, j66, b66, q66, qq, ww, List.replicate, Nat.reduceBEq, Nat.reduceAdd, Nat.reduceMul, Nat.reduceDiv, Nat.reduceEqDiff, Nat.reduceLeDiff, Nat.reduceLT, Int.reduceEq, Int.reduceNe, Int.reduceLT, Int.reduceLE, Int.reduceAdd, Int.reduceSub, Int.reduceMul, Int.reduceNeg, Int.reduceToNat, Int.reducePow, Nat.reducePow, reduceCtorEq, reduceIte, if_true, if_false]
          refine ih (by omega) _ _ ?_ ⟨r, _, _, _, y, rfl, hf, hri', by omega, by simp; omega, by omega⟩
          simp only [gcK, lowB, Nat.reduceLeDiff, Nat.reduceBEq, List.contains_nil, List.contains_cons, Bool.or_false, Bool.false_or, Bool.false_eq_true, if_false, Bool.true_and, Bool.and_true, pickL, look_hit, look_miss, look_end, slMent, hpMent, S.ment, S.ment.smt, ments, V.ment, List.append_nil, List.nil_append, List.cons_append, List.all_nil, List.all_cons, Option.isSome_some, Bool.and_self, if_true, reduceIte, Nat.reduceEqDiff, not_false_eq_true, reduceCtorEq, Nat.reduceMul, Nat.reduceAdd, hqr, rT, List.map_append, List.map_cons, List.map_nil, List.length_append, List.length_cons, List.length_nil, Nat.zero_add]
          try rfl
        | false =>
          simp only [Bool.false_eq_true, if_false] at hqr
          simp only [h1, hwi, hby, htk, hz, hz2, hb.1, hb.2, hb3, hb4, hif, hne, takeT, allT, Nat.add_sub_cancel, List.length_map, List.length_cons, List.map_cons, j66, b66, q66, qq, ww, List.replicate, Nat.reduceBEq, Nat.reduceAdd, Nat.reduceMul, Nat.reduceDiv, Nat.reduceEqDiff, Nat.reduceLeDiff, Nat.reduceLT, Int.reduceEq, Int.reduceNe, Int.reduceLT, Int.reduceLE, Int.reduceAdd, Int.reduceSub, Int.reduceMul, Int.reduceNeg, Int.reduceToNat, Int.reducePow, Nat.reducePow, reduceCtorEq, reduceIte, if_true, if_false]
          refine ih (by omega) _ _ ?_ ⟨r, _, _, _, y, rfl, hf, hri', by omega, by simp; omega, by omega⟩
          simp only [gcK, lowB, Nat.reduceLeDiff, Nat.reduceBEq, List.contains_nil, List.contains_cons, Bool.or_false, Bool.false_or, Bool.false_eq_true, if_false, Bool.true_and, Bool.and_true, pickL, look_hit, look_miss, look_end, slMent, hpMent, S.ment, S.ment.smt, ments, V.ment, List.append_nil, List.nil_append, List.cons_append, List.all_nil, List.all_cons, Option.isSome_some, Bool.and_self, if_true, reduceIte, Nat.reduceEqDiff, not_false_eq_true, reduceCtorEq, Nat.reduceMul, Nat.reduceAdd, hqr, rT, List.map_append, List.map_cons, List.map_nil, List.length_append, List.length_cons, List.length_nil, Nat.zero_add]
          try rfl
      · rw [if_neg hy] at hf
        clear ih
        subst hf
        have hne : decide (y.s = s'.w + 1) = false := decide_eq_false hy
        cases sub with
        | true =>
          have hp := hput rfl
          simp only [if_true] at hqr
          simp only [h1, hp, hwi, hby, htk, hz, hz2, hb.1, hb.2, hne, hqr, takeT, List.length_map, List.length_append, List.map_append, List.length_cons, List.map_cons, List.length_nil, List.map_nil, Nat.zero_add, j66, b66, q66, qq, ww, List.replicate, Nat.reduceBEq, Nat.reduceAdd, Nat.reduceMul, Nat.reduceDiv, Nat.reduceEqDiff, Nat.reduceLeDiff, Nat.reduceLT, Int.reduceEq, Int.reduceNe, Int.reduceLT, Int.reduceLE, Int.reduceAdd, Int.reduceSub, Int.reduceMul, Int.reduceNeg, Int.reduceToNat, Int.reducePow, Nat.reducePow, reduceCtorEq, reduceIte, if_true, if_false]
          try (simp [rT]; done)
        | false =>
          simp only [Bool.false_eq_true, if_false] at hqr
          simp only [h1, hwi, hby, htk, hz, hz2, hb.1, hb.2, hne, hqr, takeT, List.length_map, List.length_append, List.map_append, List.length_cons, List.map_cons, List.length_nil, List.map_nil, Nat.zero_add, j66, b66, q66, qq, ww, List.replicate, Nat.reduceBEq, Nat.reduceAdd, Nat.reduceMul, Nat.reduceDiv, Nat.reduceEqDiff, Nat.reduceLeDiff, Nat.reduceLT, Int.reduceEq, Int.reduceNe, Int.reduceLT, Int.reduceLE, Int.reduceAdd, Int.reduceSub, Int.reduceMul, Int.reduceNeg, Int.reduceToNat, Int.reducePow, Nat.reducePow, reduceCtorEq, reduceIte, if_true, if_false]
          try (simp [rT]; done)
end Go.Proofs.YtkfcbpbnoeaheaaGreatDoor.FA
namespace Go.Proofs.YtkfcbpbnoeaheaaGreatDoor.FA
open Go Go.Proofs.YtkfcbpbnoeaheaaGreatDoorR Go.Proofs.YtkfcbpbnoeaheaaGreatDoor.IF
open Go.Proofs.YtkfcbpbnoeaheaaGreatDoor.QA (Ev eE aE rE inB epOK evOK qOK putE n01 gapE lastK)
open Go.Proofs.YtkfcbpbnoeaheaaGreatDoor.AA (It eT aT rT ahOK addA leftL wi wm takeT allT take_s hR pre cP risB fitsB)
open Go.Proofs.YtkfcbpbnoeaheaaGreatDoor.EC (Cf eC okC)
set_option maxRecDepth 100000
set_option maxHeartbeats 4000000
theorem kRow_app : ∀ {l : List It} {s : Int} {x : It}, kRow s (l ++ [x]) = (kRow s l && kRow (s + l.length) [x])
  | [], s, x => by simp [kRow]
  | y :: r, s, x => by
    have ih := kRow_app (l := r) (s := s + 1) (x := x)
    rw [show s + 1 + (r.length : Int) = s + ((y :: r).length : Int) by simp; omega] at ih
    rw [List.cons_append, kRow, ih, show kRow s (y :: r) = (decide (1 ≤ y.s) && decide (y.s = s) && inB y.v 0 2147483647 && kRow (s + 1) r) from rfl]
    simp only [Bool.and_assoc]
theorem kRow_drop : ∀ {d : Nat} {l : List It} {s : Int}, kRow s l = true → d ≤ l.length → kRow (s + d) (l.drop d) = true
  | 0, l, s, h, _ => by simpa using h
  | d + 1, [], s, h, hd => by simp at hd
  | d + 1, x :: r, s, h, hd => by
    rw [kRow, Bool.and_eq_true] at h
    have := kRow_drop (d := d) h.2 (by simpa using hd)
    rw [List.drop_succ_cons, show s + ((d + 1 : Nat) : Int) = s + 1 + d by omega]
    exact this
theorem push_ok {l : List It} {w lim v : Int} (h : kpOK l w lim = true) (hw : w ≤ 1073741823) (hv : inB v 0 2147483647 = true) : kpOK (pushL l w lim v) (w + 1) lim = true := by
  simp only [kpOK, inB, Bool.and_eq_true, decide_eq_true_eq] at h
  obtain ⟨⟨⟨h1, h2⟩, h3⟩, h4⟩ := h
  have hx : kRow w [(⟨w, v⟩ : It)] = true := by
    have : decide (1 ≤ w) = true := by simp; omega
    simp [kRow, hv, this]
  have ha : kRow (w - l.length) (l ++ [(⟨w, v⟩ : It)]) = true := by
    rw [kRow_app, h4, show w - (l.length : Int) + l.length = w by omega, hx]; rfl
  have hd : l.length + 1 - lim.toNat ≤ (l ++ [(⟨w, v⟩ : It)]).length := by simp
  have := kRow_drop ha hd
  have hlen : (pushL l w lim v).length = l.length + 1 - (l.length + 1 - lim.toNat) := by simp [pushL]
  simp only [kpOK, inB, Bool.and_eq_true, decide_eq_true_eq]
  refine ⟨⟨⟨by omega, h2⟩, by rw [hlen]; omega⟩, ?_⟩
  rw [hlen, show w + 1 - ((l.length + 1 - (l.length + 1 - lim.toNat) : Nat) : Int) = w - l.length + ((l.length + 1 - lim.toNat : Nat) : Int) by omega]
  exact this
theorem pushP_ok {l : List It} {w lim v : Int} (h : kpOK l w lim = true) (hw : w ≤ 1073741823) (hv : inB v 0 2147483647 = true) : pushP l w lim v = (pushL l w lim v, 0) := by
  unfold pushP
  rw [h, hv, if_neg (by decide), if_neg (by omega)]
theorem takeR_ah {c : Cf} {sub : Bool} {ah : List It} {e w kn : Int} {kp a b : List It} {q : List Ev} {on : List It} {x : It} : takeR c sub ah ⟨e, w, kn, kp, a⟩ q on x = takeR c sub ah ⟨e, w, kn, kp, b⟩ q on x := by
  cases ah <;> rfl
theorem foldK_nil {c : Cf} {sub : Bool} {s : Sm} {q : List Ev} {on : List It} : foldK c sub [] s q on = (s, q, on) := rfl
/-- Items taken in by the page's way are those taken in one by one. -/
theorem take_fold {c : Cf} {sub : Bool} {want : Int} (hwant : 0 ≤ want ∧ want ≤ 1073741824) : ∀ {ah : List It} {s : Sm} {q : List Ev} {on : List It} {x : It} {k : Nat}, x.s = s.w → s.w + 1 = want + k → kpOK s.kp s.w c.p = true → inB x.v 0 2147483647 = true → s.w ≤ 1073741823 →
    (∀ y ∈ ah, inB y.v 0 2147483647 = true ∧ 0 ≤ y.s ∧ y.s ≤ 1073741823) →
    takeR c sub ah s q on x = (⟨(foldK c sub (ah.take (pre (cP want) ah k)) (oneS c s x.v) (oneQ c s sub q x.v) (on ++ [⟨s.w, x.v⟩])).1.e, (foldK c sub (ah.take (pre (cP want) ah k)) (oneS c s x.v) (oneQ c s sub q x.v) (on ++ [⟨s.w, x.v⟩])).1.w,
      (foldK c sub (ah.take (pre (cP want) ah k)) (oneS c s x.v) (oneQ c s sub q x.v) (on ++ [⟨s.w, x.v⟩])).1.kn, (foldK c sub (ah.take (pre (cP want) ah k)) (oneS c s x.v) (oneQ c s sub q x.v) (on ++ [⟨s.w, x.v⟩])).1.kp, ah.drop (pre (cP want) ah k)⟩,
      (foldK c sub (ah.take (pre (cP want) ah k)) (oneS c s x.v) (oneQ c s sub q x.v) (on ++ [⟨s.w, x.v⟩])).2)
  | [], s, q, on, x, k, hx, hk, hp, hv, hw, hah => by
    have e1 := pushP_ok (v := x.v) hp hw hv
    obtain ⟨xs, xv⟩ := x
    simp only at hx hv e1
    subst hx
    simp only [pre, List.take_zero, List.drop_zero, foldK, takeR, oneS, oneQ, rQ, e1]
  | y :: r, s, q, on, x, k, hx, hk, hp, hv, hw, hah => by
    have e1 := pushP_ok (v := x.v) hp hw hv
    have hy := hah y (by simp)
    have hcp : cP want y k = decide (y.s = s.w + 1) := by
      unfold cP
      rw [IntWalk.i64_in _ (by omega)]
      by_cases h : y.s = s.w + 1
      · rw [decide_eq_true h, decide_eq_true (by omega)]
      · rw [decide_eq_false h, decide_eq_false (by omega)]
    obtain ⟨xs, xv⟩ := x
    simp only at hx hv e1
    subst hx
    rw [takeR, pre, hcp]
    by_cases h : y.s = s.w + 1
    · rw [if_pos h, if_pos (decide_eq_true h)]
      have hs1 : takeR c sub r ⟨s.e, s.w + 1, if s.w + 1 > s.kn then s.w + 1 else s.kn, pushL s.kp s.w c.p xv, r⟩ (rQ c s sub q ⟨s.w, xv⟩) (on ++ [⟨s.w, xv⟩]) y =
          takeR c sub r (oneS c s xv) (oneQ c s sub q xv) (on ++ [⟨s.w, xv⟩]) y := by
        rw [oneS, e1]
        exact takeR_ah
      rw [hs1, take_fold hwant (s := oneS c s xv) (k := k + 1) h (by show s.w + 1 + 1 = _; omega) (by show kpOK (pushP s.kp s.w c.p xv).1 (s.w + 1) c.p = true; rw [e1]; exact push_ok hp hw hv) hy.1 (by show s.w + 1 ≤ _; omega) (fun z hz => hah z (by simp [hz]))]
      rfl
    · rw [if_neg h, show (if decide (y.s = s.w + 1) = true then pre (cP want) r (k + 1) + 1 else 0) = 0 from if_neg (by simp [h])]
      simp only [List.take_zero, List.drop_zero, foldK, oneS, oneQ, rQ, e1]
theorem left_all {w : Int} : ∀ {l : List It}, (∀ y ∈ l, w ≤ y.s) → leftL w l = l := fun {l} h => by
  unfold leftL
  rw [List.filter_eq_self]
  intro y hy
  simp [h y hy]
/-- The wanted item, and those behind it. -/
theorem one_more {c : Cf} {sub : Bool} {s : Sm} {q : List Ev} {v : Int} (hp : kpOK s.kp s.w c.p = true) (hv : inB v 0 2147483647 = true) (hw : 0 ≤ s.w ∧ s.w ≤ 1073741823) (hah : ∀ y ∈ s.ah, inB y.v 0 2147483647 = true ∧ s.w < y.s ∧ y.s ≤ 1073741823) :
    moreK c sub (oneS c s v) (oneQ c s sub q v) [⟨s.w, v⟩] = takeR c sub s.ah s q [] ⟨s.w, v⟩ := by
  have hl : leftL (s.w + 1) s.ah = s.ah := left_all fun y hy => by have := hah y hy; omega
  rw [take_fold (want := s.w + 1) (k := 0) (by omega) rfl (by simp) hp hv hw.2 fun y hy => ⟨(hah y hy).1, by have := hah y hy; omega, (hah y hy).2.2⟩]
  unfold moreK
  simp only [cut]
  rw [show (oneS c s v).w = s.w + 1 from rfl, show (oneS c s v).ah = s.ah from rfl, hl]
  rfl
end Go.Proofs.YtkfcbpbnoeaheaaGreatDoor.FA
namespace Go.Proofs.YtkfcbpbnoeaheaaGreatDoor.FA
open Go Go.Proofs.YtkfcbpbnoeaheaaGreatDoorR Go.Proofs.YtkfcbpbnoeaheaaGreatDoor.IF
open Go.Proofs.YtkfcbpbnoeaheaaGreatDoor.QA (Ev eE aE rE inB epOK evOK qOK putE n01 gapE lastK)
open Go.Proofs.YtkfcbpbnoeaheaaGreatDoor.AA (It eT aT rT ahOK addA addR leftL wi wm takeT allT take_s hR pre cP risB fitsB)
open Go.Proofs.YtkfcbpbnoeaheaaGreatDoor.EC (Cf eC okC)
set_option maxRecDepth 100000
set_option maxHeartbeats 4000000
abbrev gA (r : Sm × List Ev × List It) : S := .tup [aS r.1, .one (rE r.2.1), .one (rT r.2.2)]
/-- A right stream that has an epoch. -/
theorem right_e {c : Cf} {s : Sm} (h : rightB c s = true) (he : epOK s.e = true) : kpOK s.kp s.w c.p = true ∧ ahOK s.ah s.w c.w = true ∧ 1 ≤ s.w := by
  unfold rightB at h
  rw [Bool.or_eq_true] at h
  rcases h with h | h
  · rw [zeroB_iff] at h; subst h; simp [epOK, inB] at he
  · simp only [Bool.and_eq_true, decide_eq_true_eq] at h
    exact ⟨h.1.2, h.2, by have := h.1.1.1.1.2; simp [inB] at this; omega⟩
theorem okC_t {c : Cf} (h : okC c = true) : (1 ≤ c.n ∧ c.n ≤ 8) ∧ (1 ≤ c.t ∧ c.t ≤ 4) ∧ (1 ≤ c.k ∧ c.k ≤ 4) ∧ (1 ≤ c.d ∧ c.d ≤ 8) ∧ (1 ≤ c.p ∧ c.p ≤ 16) ∧ (1 ≤ c.w ∧ c.w ≤ 16) ∧ (2 ≤ c.q ∧ c.q ≤ 32) := by simpa [okC] using h
theorem e25 (N d : Nat) (hN : 1000 ≤ N) (c : Cf) (s : Sm) (sub : Bool) (q : List Ev) (at_ : Int) (x : It) (h0 : flowC c s q = 0) (h1 : epOK at_ = true) (h2 : inB x.s 1 1073741823 = true) (h3 : inB x.v 0 2147483647 = true) :
    ans (TT N (d + 5) 25 [.agg (eC c), aS s, bV sub, .one (rE q), iV at_, aT x]) = some (gA (itemG c (if at_ > s.e then ⟨at_, x.s, x.s, [], []⟩ else s) sub q (decide (at_ < s.e)) x)) := by
  obtain ⟨k1, k2, k3⟩ := flow_t h0
  have k4 := right_t k2
  have kk := k4.1
  have ka := k4.2.1
  have k5 := q_t k3
  have k6 : 1 ≤ x.s ∧ x.s ≤ 1073741823 := by simpa [inB] using h2
  have kc := okC_t k1
  have kp : 1 ≤ c.p ∧ c.p ≤ 16 := kc.2.2.2.2.1
  have hs : smL s := ⟨by omega, by omega⟩
  have t1 := fun d => e10 N d s hs
  have t2 := fun d => QA.e11 N d q (by omega)
  have t3 := fun d => e65 N d at_ x.s
  rw [t25, F_ev rfl]
  by_cases g1 : at_ < s.e
  · have g2 : ¬ at_ > s.e := by omega
    rw [if_neg g2]
    unfold itemG
    rw [if_pos (by simp [g1])]
    simp only [t1, t2, decide_eq_true g1, QA.tk, List.length_map, j25, b25, q25, qq, ww, List.replicate, Nat.reduceBEq, Nat.reduceAdd, Nat.reduceMul, Nat.reduceDiv, Nat.reduceEqDiff, Nat.reduceLeDiff, Nat.reduceLT, Int.reduceEq, Int.reduceNe, Int.reduceLT, Int.reduceLE, Int.reduceAdd, Int.reduceSub, Int.reduceMul, Int.reduceNeg, Int.reduceToNat, Int.reducePow, Nat.reducePow, reduceCtorEq, reduceIte, if_true, if_false]
    try rfl
  by_cases g2 : at_ > s.e
  · rw [if_pos g2]
    unfold itemG
    rw [if_neg (by simp; omega), if_pos rfl]
    have hri : RI c sub [] ⟨at_, x.s, x.s, [], []⟩ q ⟨x.s, x.v⟩ := ⟨kp, fun _ => ⟨k3, h1⟩, rfl, k6, h3, by simp, by simp, by omega⟩
    have ht := fun d => e66 N d hN c ⟨at_, x.s, x.s, [], []⟩ sub q x.v (by simp) (by omega) hri
    rw [one_more (by show kpOK [] x.s c.p = true; simp [kpOK, inB, kRow]; omega) h3 (by show 0 ≤ x.s ∧ x.s ≤ _; omega) (by simp)]
    dsimp only at ht ⊢
    generalize hM : takeR c sub [] ⟨at_, x.s, x.s, [], []⟩ q [] ⟨x.s, x.v⟩ = r at *
    simp only [t1, t2, t3, ht, decide_eq_false g1, decide_eq_true g2, decide_true, QA.tk, takeT, gA, List.length_map, j25, b25, q25, qq, ww, List.replicate, Nat.reduceBEq, Nat.reduceAdd, Nat.reduceMul, Nat.reduceDiv, Nat.reduceEqDiff, Nat.reduceLeDiff, Nat.reduceLT, Int.reduceEq, Int.reduceNe, Int.reduceLT, Int.reduceLE, Int.reduceAdd, Int.reduceSub, Int.reduceMul, Int.reduceNeg, Int.reduceToNat, Int.reducePow, Nat.reducePow, reduceCtorEq, reduceIte, if_true, if_false]
  rw [if_neg g2]
  obtain rfl : at_ = s.e := by omega
  obtain ⟨r1, r2, r3⟩ := right_e k2 h1
  have hah := right_ah k2
  by_cases g3 : x.s = s.w
  · unfold itemG
    rw [if_neg (by simp; omega), if_pos g3]
    have hri : RI c sub s.ah s q ⟨s.w, x.v⟩ := ⟨kp, fun _ => ⟨k3, h1⟩, rfl, by omega, h3, fun y hy => by have := hah y hy; exact ⟨this.2.2, by omega⟩, by omega, by omega⟩
    have ht := fun d => e66 N d hN c s sub q x.v (by omega) (by omega) hri
    rw [one_more r1 h3 (by omega) (fun y hy => by have := hah y hy; exact ⟨this.2.2, this.1, by omega⟩)]
    generalize hM : takeR c sub s.ah s q [] ⟨s.w, x.v⟩ = r at *
    simp only [t1, t2, ht, decide_eq_false g1, decide_eq_false g2, decide_eq_true g3, QA.tk, takeT, gA, List.length_map, j25, b25, q25, qq, ww, List.replicate, Nat.reduceBEq, Nat.reduceAdd, Nat.reduceMul, Nat.reduceDiv, Nat.reduceEqDiff, Nat.reduceLeDiff, Nat.reduceLT, Int.reduceEq, Int.reduceNe, Int.reduceLT, Int.reduceLE, Int.reduceAdd, Int.reduceSub, Int.reduceMul, Int.reduceNeg, Int.reduceToNat, Int.reducePow, Nat.reducePow, reduceCtorEq, reduceIte, if_true, if_false]
  by_cases g4 : x.s > s.w
  · unfold itemG
    rw [if_neg (by simp; omega), if_neg g3]
    have hwx : IntKind.i64.wrap (x.s + 1) = x.s + 1 := IntWalk.i64_in _ (by omega)
    have hww : IntKind.i64.wrap (s.w + c.w) = s.w + c.w := IntWalk.i64_in _ (by omega)
    have ha := fun d => AA.e67 N d s.ah s.w c.w x (by omega) (by omega) hww
    cases g5 : fitsB x.s s.w c.w with
    | false =>
      rw [g5] at ha
      rw [show addA s.ah s.w c.w x = ([], 6) by simp [addA, r2, show AA.inB x.v 0 2147483647 = true from h3, g5]]
      simp only [t1, t2, ha, hwx, decide_eq_false g1, decide_eq_false g2, decide_eq_false g3, decide_eq_true g4, QA.tk, takeT, gA, List.length_map, Bool.false_eq_true, if_false, List.map_nil, j25, b25, q25, qq, ww, List.replicate, Nat.reduceBEq, Nat.reduceAdd, Nat.reduceMul, Nat.reduceDiv, Nat.reduceEqDiff, Nat.reduceLeDiff, Nat.reduceLT, Int.reduceEq, Int.reduceNe, Int.reduceLT, Int.reduceLE, Int.reduceAdd, Int.reduceSub, Int.reduceMul, Int.reduceNeg, Int.reduceToNat, Int.reducePow, Nat.reducePow, reduceCtorEq, reduceIte, if_true, if_false]
      try rfl
    | true =>
      rw [g5] at ha
      rw [AA.add_eq r2 h3 g5]
      generalize hM : addR s.ah x = a at *
      obtain ⟨m, e⟩ := a
      dsimp only at ha ⊢
      by_cases g6 : e = 0
      · rw [if_pos g6]
        simp only [t1, t2, ha, hwx, decide_eq_false g1, decide_eq_false g2, decide_eq_false g3, decide_eq_true g4, decide_eq_true g6, QA.tk, takeT, gA, List.length_map, if_true, j25, b25, q25, qq, ww, List.replicate, Nat.reduceBEq, Nat.reduceAdd, Nat.reduceMul, Nat.reduceDiv, Nat.reduceEqDiff, Nat.reduceLeDiff, Nat.reduceLT, Int.reduceEq, Int.reduceNe, Int.reduceLT, Int.reduceLE, Int.reduceAdd, Int.reduceSub, Int.reduceMul, Int.reduceNeg, Int.reduceToNat, Int.reducePow, Nat.reducePow, reduceCtorEq, reduceIte, if_true, if_false]
        try rfl
      · rw [if_neg g6]
        simp only [t1, t2, ha, hwx, decide_eq_false g1, decide_eq_false g2, decide_eq_false g3, decide_eq_true g4, decide_eq_false g6, QA.tk, takeT, gA, List.length_map, if_true, j25, b25, q25, qq, ww, List.replicate, Nat.reduceBEq, Nat.reduceAdd, Nat.reduceMul, Nat.reduceDiv, Nat.reduceEqDiff, Nat.reduceLeDiff, Nat.reduceLT, Int.reduceEq, Int.reduceNe, Int.reduceLT, Int.reduceLE, Int.reduceAdd, Int.reduceSub, Int.reduceMul, Int.reduceNeg, Int.reduceToNat, Int.reducePow, Nat.reducePow, reduceCtorEq, reduceIte, if_true, if_false]
        try rfl
  · unfold itemG
    rw [if_pos (by simp; omega)]
    simp only [t1, t2, decide_eq_false g1, decide_eq_false g2, decide_eq_false g3, decide_eq_false g4, QA.tk, takeT, gA, List.length_map, j25, b25, q25, qq, ww, List.replicate, Nat.reduceBEq, Nat.reduceAdd, Nat.reduceMul, Nat.reduceDiv, Nat.reduceEqDiff, Nat.reduceLeDiff, Nat.reduceLT, Int.reduceEq, Int.reduceNe, Int.reduceLT, Int.reduceLE, Int.reduceAdd, Int.reduceSub, Int.reduceMul, Int.reduceNeg, Int.reduceToNat, Int.reducePow, Nat.reducePow, reduceCtorEq, reduceIte, if_true, if_false]
    try rfl
theorem gone_more {c : Cf} {sub : Bool} {e w kn : Int} {ah : List It} {q : List Ev} (hw : 1 ≤ w ∧ w ≤ 1073741824) (hc : okC c = true) (hah : ∀ y ∈ ah, inB y.v 0 2147483647 = true ∧ 0 ≤ y.s ∧ y.s ≤ 1073741823) :
    moreK c sub ⟨e, w, kn, [], ah⟩ q [] = (match leftL w ah with
      | [] => (⟨e, w, kn, [], []⟩, q, [])
      | y :: r => if y.s = w then takeR c sub r ⟨e, w, kn, [], r⟩ q [] y else (⟨e, w, kn, [], y :: r⟩, q, [])) := by
  have kc := okC_t hc
  unfold moreK
  simp only [cut]
  have hm : ∀ y ∈ leftL w ah, inB y.v 0 2147483647 = true ∧ 0 ≤ y.s ∧ y.s ≤ 1073741823 := fun y hy => hah y (List.mem_filter.1 hy).1
  generalize leftL w ah = l at *
  cases l with
  | nil => rfl
  | cons y r =>
    have hy := hm y (by simp)
    have hcp : cP w y ((0 : Nat) : Int) = decide (y.s = w) := by
      unfold cP
      rw [IntWalk.i64_in _ (by omega)]
      by_cases h : y.s = w
      · rw [decide_eq_true h, decide_eq_true (by omega)]
      · rw [decide_eq_false h, decide_eq_false (by omega)]
    simp only [pre, hcp]
    by_cases h : y.s = w
    · rw [if_pos h, if_pos (decide_eq_true h)]
      have hk : kpOK [] w c.p = true := by simp [kpOK, inB, kRow]; omega
      rw [takeR_ah (b := ah), take_fold (want := w) (k := 1) (s := ⟨e, w, kn, [], ah⟩) (by omega) h (by simp) hk hy.1 (by show w ≤ _; omega) fun z hz => hm z (by simp [hz])]
      rfl
    · rw [if_neg h, show (if decide (y.s = w) = true then pre (cP w) r (0 + 1) + 1 else 0) = 0 from if_neg (by simp [h])]
      rfl
end Go.Proofs.YtkfcbpbnoeaheaaGreatDoor.FA
namespace Go.Proofs.YtkfcbpbnoeaheaaGreatDoor.FA
open Go Go.Proofs.YtkfcbpbnoeaheaaGreatDoorR Go.Proofs.YtkfcbpbnoeaheaaGreatDoor.IF
open Go.Proofs.YtkfcbpbnoeaheaaGreatDoor.QA (Ev eE aE rE inB epOK evOK qOK putE n01 gapE lastK)
open Go.Proofs.YtkfcbpbnoeaheaaGreatDoor.AA (It eT aT rT ahOK addA addR leftL wi wm takeT allT take_s hR pre cP risB fitsB left_s)
open Go.Proofs.YtkfcbpbnoeaheaaGreatDoor.EC (Cf eC okC)
set_option maxRecDepth 100000
set_option maxHeartbeats 4000000
theorem e28 (N d : Nat) (hN : 1000 ≤ N) (c : Cf) (s : Sm) (sub : Bool) (q : List Ev) (at_ fr to : Int) (h0 : flowC c s q = 0) (h1 : epOK at_ = true) (h2 : 1 ≤ fr ∧ fr ≤ to ∧ to ≤ 1073741823) :
    ans (TT N (d + 5) 28 [.agg (eC c), aS s, bV sub, .one (rE q), iV at_, iV fr, iV to]) = some (gA (goneG c s sub q at_ fr to)) := by
  obtain ⟨k1, k2, k3⟩ := flow_t h0
  have k4 := right_t k2
  have kk := k4.1
  have ka := k4.2.1
  have k5 := q_t k3
  have kc := okC_t k1
  have kp : 1 ≤ c.p ∧ c.p ≤ 16 := kc.2.2.2.2.1
  have hs : smL s := ⟨by omega, by omega⟩
  have t1 := fun d => e10 N d s hs
  have t2 := fun d => QA.e11 N d q (by omega)
  have t3 := fun d => QA.e58 N d s.w fr to
  rw [t28, F_ev rfl]
  unfold goneG
  by_cases g1 : at_ = s.e
  case neg =>
    rw [if_neg (fun h => g1 h.1)]
    simp only [t1, t2, decide_eq_false g1, QA.tk, takeT, gA, Bool.not_false, Bool.not_true, List.length_map, j28, b28, q28, qq, ww, List.replicate, Nat.reduceBEq, Nat.reduceAdd, Nat.reduceMul, Nat.reduceDiv, Nat.reduceEqDiff, Nat.reduceLeDiff, Nat.reduceLT, Int.reduceEq, Int.reduceNe, Int.reduceLT, Int.reduceLE, Int.reduceAdd, Int.reduceSub, Int.reduceMul, Int.reduceNeg, Int.reduceToNat, Int.reducePow, Nat.reducePow, reduceCtorEq, reduceIte, if_true, if_false]
    try rfl
  by_cases g2 : s.w ≥ fr ∧ s.w ≤ to
  case neg =>
    rw [if_neg (fun h => g2 h.2)]
    have : inB s.w fr to = false := by
      cases h : inB s.w fr to with
      | false => rfl
      | true => exfalso; simp [inB] at h; omega
    rw [this] at t3
    simp only [t1, t2, t3, decide_eq_true g1, QA.tk, takeT, gA, Bool.not_false, Bool.not_true, List.length_map, j28, b28, q28, qq, ww, List.replicate, Nat.reduceBEq, Nat.reduceAdd, Nat.reduceMul, Nat.reduceDiv, Nat.reduceEqDiff, Nat.reduceLeDiff, Nat.reduceLT, Int.reduceEq, Int.reduceNe, Int.reduceLT, Int.reduceLE, Int.reduceAdd, Int.reduceSub, Int.reduceMul, Int.reduceNeg, Int.reduceToNat, Int.reducePow, Nat.reducePow, reduceCtorEq, reduceIte, if_true, if_false]
    try rfl
  rw [if_pos ⟨g1, g2⟩]
  have : inB s.w fr to = true := by simp [inB]; omega
  rw [this] at t3
  have g1' := decide_eq_true g1
  have h1' := h1
  subst g1
  obtain ⟨r1, r2, r3⟩ := right_e k2 h1
  have hah := right_ah k2
  have hgev : evOK ⟨2, s.e, s.w, to, 0, 0⟩ = true := evOK_gap h1 (by omega) (by omega)
  have t4 := fun d => e69 N d q c.q ⟨2, s.e, s.w, to, 0, 0⟩ (by omega) k3 hgev
  have hwt : IntKind.i64.wrap (to + 1) = to + 1 := IntWalk.i64_in _ (by omega)
  have hql : (if sub = true then fitE q c.q ⟨2, s.e, s.w, to, 0, 0⟩ else q).length ≤ 33 := by
    split
    · have := fitE_len q c.q ⟨2, s.e, s.w, to, 0, 0⟩; omega
    · omega
  have hqk : qOK (if sub = true then fitE q c.q ⟨2, s.e, s.w, to, 0, 0⟩ else q) c.q = true := by
    split
    · exact q_fit k3 hgev
    · exact k3
  rw [gone_more (by omega) k1 (fun y hy => by have := hah y hy; exact ⟨this.2.2, by omega, by omega⟩)]
  obtain ⟨q1, hq1⟩ : ∃ q1, q1 = (if sub = true then fitE q c.q ⟨2, s.e, s.w, to, 0, 0⟩ else q) := ⟨_, rfl⟩
  rw [← hq1] at hql hqk ⊢
  generalize hK : (if to + 1 > s.kn then to + 1 else s.kn) = kn at *
  generalize hF : (some (gA (match leftL (to + 1) s.ah with
      | [] => (⟨s.e, to + 1, kn, [], []⟩, q1, [])
      | y :: r => if y.s = to + 1 then takeR c sub r ⟨s.e, to + 1, kn, [], r⟩ q1 [] y else (⟨s.e, to + 1, kn, [], y :: r⟩, q1, []))) : Option S) = F
  have hll : ∀ l : List It, (leftL (to + 1) l).length ≤ l.length := fun l => List.length_filter_le _ _
  cases sub
  case true =>
    simp only [if_true] at hq1
    simp only [t1, t2, t3, t4, g1', ← hq1, hwt, hK, QA.tk, takeT, Bool.not_false, Bool.not_true, List.length_map, j28, b28, q28, qq, ww, List.replicate, Nat.reduceBEq, Nat.reduceAdd, Nat.reduceMul, Nat.reduceDiv, Nat.reduceEqDiff, Nat.reduceLeDiff, Nat.reduceLT, Int.reduceEq, Int.reduceNe, Int.reduceLT, Int.reduceLE, Int.reduceAdd, Int.reduceSub, Int.reduceMul, Int.reduceNeg, Int.reduceToNat, Int.reducePow, Nat.reducePow, reduceCtorEq, reduceIte, if_true, if_false]
    refine loopK (K := fun o => ans (fin _ (aft _ _ _ o))) (fun i => ⟨[(2, .one (.bool true)), (7, .one (.ref 448 0 0)), (14, .one (.ref 896 0 0)), (17, .one (.ref 1088 0 0)), (18, .one (rE q1)), (19, .one (.sl 1216 0 (leftL (to + 1) (s.ah.take i)).length)), (20, iV i)],
      [(448, .box (eC c)), (896, .box [.int .i64 0, .int .i64 0, .int .i64 0, .row [], .row []]), (1088, .box [.int .i64 s.e, .int .i64 (to + 1), .int .i64 kn, .row [], rT s.ah]), (1216, .rows 29 2 ((leftL (to + 1) (s.ah.take i)).map eT))]⟩) (fun _ => F) s.ah.length ?hr s.ah.length 0 N _ (by omega) (by omega) ?hk
    case hk => simp only [gcK, lowB, Nat.reduceLeDiff, Nat.reduceBEq, List.contains_nil, List.contains_cons, Bool.or_false, Bool.false_or, Bool.false_eq_true, if_false, Bool.true_and, Bool.and_true, pickL, look_hit, look_miss, look_end, slMent, hpMent, S.ment, S.ment.smt, ments, V.ment, List.append_nil, List.nil_append, List.cons_append, List.all_nil, List.all_cons, Option.isSome_some, Bool.and_self, if_true, reduceIte, Nat.reduceEqDiff, not_false_eq_true, reduceCtorEq, Nat.reduceMul, Nat.reduceAdd]; rfl
    case hr =>
      intro i n hi ih
      (try dsimp only)
      by_cases hlt : i < s.ah.length
      · have h1 : decide ((i : Int) < (s.ah.length : Int)) = true := by simp; omega
        have hg1 : (s.ah.map eT)[i]? = some (eT s.ah[i]) := by simp [hlt]
        have hb : 0 ≤ (i : Int) ∧ (i : Int) < (s.ah.length : Int) := by omega
        have hls := left_s (want := to + 1) hlt
        have hl2 := hll (s.ah.take i)
        rw [List.length_take] at hl2
        have hby : ((leftL (to + 1) (s.ah.take i)).length + 1) * 16 ≤ 140737488355328 := by omega
        by_cases g : s.ah[i].s ≥ to + 1
        · rw [if_pos g] at hls
          simp only [h1, hg1, hb.1, hb.2, hby, decide_eq_true g, takeT, wi i (by omega), List.length_map, Int.toNat_natCast, j28, b28, q28, qq, ww, List.replicate, Nat.reduceBEq, Nat.reduceAdd, Nat.reduceMul, Nat.reduceDiv, Nat.reduceEqDiff, Nat.reduceLeDiff, Nat.reduceLT, Int.reduceEq, Int.reduceNe, Int.reduceLT, Int.reduceLE, Int.reduceAdd, Int.reduceSub, Int.reduceMul, Int.reduceNeg, Int.reduceToNat, Int.reducePow, Nat.reducePow, reduceCtorEq, reduceIte, if_true, if_false]
          exact ih hlt _ (by simp only [gcK, lowB, Nat.reduceLeDiff, Nat.reduceBEq, List.contains_nil, List.contains_cons, Bool.or_false, Bool.false_or, Bool.false_eq_true, if_false, Bool.true_and, Bool.and_true, pickL, look_hit, look_miss, look_end, slMent, hpMent, S.ment, S.ment.smt, ments, V.ment, List.append_nil, List.nil_append, List.cons_append, List.all_nil, List.all_cons, Option.isSome_some, Bool.and_self, if_true, reduceIte, Nat.reduceEqDiff, not_false_eq_true, reduceCtorEq, Nat.reduceMul, Nat.reduceAdd, hls, List.map_append, List.map_cons, List.map_nil, List.length_append, List.length_cons, List.length_nil, Nat.zero_add])
        · rw [if_neg g] at hls
          simp only [h1, hg1, hb.1, hb.2, decide_eq_false g, takeT, wi i (by omega), List.length_map, Int.toNat_natCast, j28, b28, q28, qq, ww, List.replicate, Nat.reduceBEq, Nat.reduceAdd, Nat.reduceMul, Nat.reduceDiv, Nat.reduceEqDiff, Nat.reduceLeDiff, Nat.reduceLT, Int.reduceEq, Int.reduceNe, Int.reduceLT, Int.reduceLE, Int.reduceAdd, Int.reduceSub, Int.reduceMul, Int.reduceNeg, Int.reduceToNat, Int.reducePow, Nat.reducePow, reduceCtorEq, reduceIte, if_true, if_false]
          exact ih hlt _ (by simp only [gcK, lowB, Nat.reduceLeDiff, Nat.reduceBEq, List.contains_nil, List.contains_cons, Bool.or_false, Bool.false_or, Bool.false_eq_true, if_false, Bool.true_and, Bool.and_true, pickL, look_hit, look_miss, look_end, slMent, hpMent, S.ment, S.ment.smt, ments, V.ment, List.append_nil, List.nil_append, List.cons_append, List.all_nil, List.all_cons, Option.isSome_some, Bool.and_self, if_true, reduceIte, Nat.reduceEqDiff, not_false_eq_true, reduceCtorEq, Nat.reduceMul, Nat.reduceAdd, hls, List.append_nil])
      · clear ih
        obtain rfl : i = s.ah.length := by omega
        rw [List.take_length]
        have h1 : decide ((s.ah.length : Int) < (s.ah.length : Int)) = false := by simp
        subst hF
        have hml : ∀ y ∈ leftL (to + 1) s.ah, inB y.v 0 2147483647 = true ∧ s.w < y.s ∧ y.s < 1073741824 := fun y hy => by
          have := hah y (List.mem_filter.1 hy).1
          exact ⟨this.2.2, this.1, this.2.1⟩
        have hl3 := hll s.ah
        generalize leftL (to + 1) s.ah = l at *
        cases l with
        | nil =>
          simp only [h1, takeT, gA, List.map_nil, List.length_nil, List.length_map, j28, b28, q28, qq, ww, List.replicate, Nat.reduceBEq, Nat.reduceAdd, Nat.reduceMul, Nat.reduceDiv, Nat.reduceEqDiff, Nat.reduceLeDiff, Nat.reduceLT, Int.reduceEq, Int.reduceNe, Int.reduceLT, Int.reduceLE, Int.reduceAdd, Int.reduceSub, Int.reduceMul, Int.reduceNeg, Int.reduceToNat, Int.reducePow, Nat.reducePow, reduceCtorEq, reduceIte, if_true, if_false]
          try rfl
        | cons y r =>
          simp only [List.length_cons] at hl3
          have hz : decide (((r.length + 1 : Nat) : Int) > 0) = true := decide_eq_true (by omega)
          have hb : (0 : Int) ≤ 0 ∧ (0 : Int) < ((r.length + 1 : Nat) : Int) := by omega
          have hb3 : (0 : Int) ≤ 1 := by omega
          have hb4 : (1 : Int) ≤ ((r.length + 1 : Nat) : Int) := by omega
          have hle : r.length + 1 ≤ r.length + 1 := Nat.le_refl _
          have hif : (if (1 : Int) = ((r.length + 1 : Nat) : Int) then (some (S.one (V.row []), ([] : Hp))) else some (S.one (V.row (r.map eT)), [])) = some (.one (.row (r.map eT)), []) := by
            split
            · rename_i h
              rw [List.eq_nil_of_length_eq_zero (l := r) (by omega)]
              rfl
            · rfl
          have htk : List.take (r.length + 1) (eT y :: r.map eT) = eT y :: r.map eT := List.take_of_length_le (by simp)
          by_cases hy : y.s = to + 1
          · have hay := hml y (by simp)
            have hri : RI c true r ⟨s.e, to + 1, kn, [], r⟩ q1 ⟨to + 1, y.v⟩ := ⟨kp, fun _ => ⟨hqk, h1'⟩, rfl, by show 1 ≤ to + 1 ∧ to + 1 ≤ _; omega, hay.1, fun z hz => by have := hml z (by simp [hz]); exact ⟨this.1, by omega⟩, by simp, by omega⟩
            have ht := fun d => e66 N d hN c ⟨s.e, to + 1, kn, [], r⟩ true q1 y.v (by show r.length < 400; omega) (by omega) hri
            have hy2 : y = ⟨to + 1, y.v⟩ := by rw [← hy]
            dsimp only at ht ⊢
            rw [if_pos hy]
            rw [← hy2] at ht
            simp only [aS, eS, rT, List.map_nil] at ht
            generalize takeR c true r ⟨s.e, to + 1, kn, [], r⟩ q1 [] y = G at *
            simp only [h1, hz, hb.1, hb.2, hb3, hb4, hle, hif, htk, ht, decide_eq_true hy, takeT, allT, gA, aS, eS, rT, Nat.add_sub_cancel, List.map_nil, List.length_nil, List.length_map, List.length_cons, List.map_cons, j28, b28, q28, qq, ww, List.replicate, Nat.reduceBEq, Nat.reduceAdd, Nat.reduceMul, Nat.reduceDiv, Nat.reduceEqDiff, Nat.reduceLeDiff, Nat.reduceLT, Int.reduceEq, Int.reduceNe, Int.reduceLT, Int.reduceLE, Int.reduceAdd, Int.reduceSub, Int.reduceMul, Int.reduceNeg, Int.reduceToNat, Int.reducePow, Nat.reducePow, reduceCtorEq, reduceIte, if_true, if_false]
          · dsimp only
            rw [if_neg hy]
            simp only [h1, hz, hb.1, hb.2, hb3, hb4, hle, htk, decide_eq_false hy, takeT, gA, List.map_nil, List.length_nil, List.length_map, List.length_cons, List.map_cons, j28, b28, q28, qq, ww, List.replicate, Nat.reduceBEq, Nat.reduceAdd, Nat.reduceMul, Nat.reduceDiv, Nat.reduceEqDiff, Nat.reduceLeDiff, Nat.reduceLT, Int.reduceEq, Int.reduceNe, Int.reduceLT, Int.reduceLE, Int.reduceAdd, Int.reduceSub, Int.reduceMul, Int.reduceNeg, Int.reduceToNat, Int.reducePow, Nat.reducePow, reduceCtorEq, reduceIte, if_true, if_false]
            try rfl
  case false =>
    simp only [Bool.false_eq_true, if_false] at hq1
    subst hq1
    simp only [t1, t2, t3, t4, g1', hwt, hK, QA.tk, takeT, Bool.not_false, Bool.not_true, List.length_map, j28, b28, q28, qq, ww, List.replicate, Nat.reduceBEq, Nat.reduceAdd, Nat.reduceMul, Nat.reduceDiv, Nat.reduceEqDiff, Nat.reduceLeDiff, Nat.reduceLT, Int.reduceEq, Int.reduceNe, Int.reduceLT, Int.reduceLE, Int.reduceAdd, Int.reduceSub, Int.reduceMul, Int.reduceNeg, Int.reduceToNat, Int.reducePow, Nat.reducePow, reduceCtorEq, reduceIte, if_true, if_false]
    refine loopK (K := fun o => ans (fin _ (aft _ _ _ o))) (fun i => ⟨[(2, .one (.bool false)), (7, .one (.ref 448 0 0)), (14, .one (.ref 896 0 0)), (17, .one (.ref 1088 0 0)), (18, .one (rE q1)), (19, .one (.sl 1216 0 (leftL (to + 1) (s.ah.take i)).length)), (20, iV i)],
      [(448, .box (eC c)), (896, .box [.int .i64 0, .int .i64 0, .int .i64 0, .row [], .row []]), (1088, .box [.int .i64 s.e, .int .i64 (to + 1), .int .i64 kn, .row [], rT s.ah]), (1216, .rows 29 2 ((leftL (to + 1) (s.ah.take i)).map eT))]⟩) (fun _ => F) s.ah.length ?hr s.ah.length 0 N _ (by omega) (by omega) ?hk
    case hk => simp only [gcK, lowB, Nat.reduceLeDiff, Nat.reduceBEq, List.contains_nil, List.contains_cons, Bool.or_false, Bool.false_or, Bool.false_eq_true, if_false, Bool.true_and, Bool.and_true, pickL, look_hit, look_miss, look_end, slMent, hpMent, S.ment, S.ment.smt, ments, V.ment, List.append_nil, List.nil_append, List.cons_append, List.all_nil, List.all_cons, Option.isSome_some, Bool.and_self, if_true, reduceIte, Nat.reduceEqDiff, not_false_eq_true, reduceCtorEq, Nat.reduceMul, Nat.reduceAdd]; rfl
    case hr =>
      intro i n hi ih
      (try dsimp only)
      by_cases hlt : i < s.ah.length
      · have h1 : decide ((i : Int) < (s.ah.length : Int)) = true := by simp; omega
        have hg1 : (s.ah.map eT)[i]? = some (eT s.ah[i]) := by simp [hlt]
        have hb : 0 ≤ (i : Int) ∧ (i : Int) < (s.ah.length : Int) := by omega
        have hls := left_s (want := to + 1) hlt
        have hl2 := hll (s.ah.take i)
        rw [List.length_take] at hl2
        have hby : ((leftL (to + 1) (s.ah.take i)).length + 1) * 16 ≤ 140737488355328 := by omega
        by_cases g : s.ah[i].s ≥ to + 1
        · rw [if_pos g] at hls
          simp only [h1, hg1, hb.1, hb.2, hby, decide_eq_true g, takeT, wi i (by omega), List.length_map, Int.toNat_natCast, j28, b28, q28, qq, ww, List.replicate, Nat.reduceBEq, Nat.reduceAdd, Nat.reduceMul, Nat.reduceDiv, Nat.reduceEqDiff, Nat.reduceLeDiff, Nat.reduceLT, Int.reduceEq, Int.reduceNe, Int.reduceLT, Int.reduceLE, Int.reduceAdd, Int.reduceSub, Int.reduceMul, Int.reduceNeg, Int.reduceToNat, Int.reducePow, Nat.reducePow, reduceCtorEq, reduceIte, if_true, if_false]
          exact ih hlt _ (by simp only [gcK, lowB, Nat.reduceLeDiff, Nat.reduceBEq, List.contains_nil, List.contains_cons, Bool.or_false, Bool.false_or, Bool.false_eq_true, if_false, Bool.true_and, Bool.and_true, pickL, look_hit, look_miss, look_end, slMent, hpMent, S.ment, S.ment.smt, ments, V.ment, List.append_nil, List.nil_append, List.cons_append, List.all_nil, List.all_cons, Option.isSome_some, Bool.and_self, if_true, reduceIte, Nat.reduceEqDiff, not_false_eq_true, reduceCtorEq, Nat.reduceMul, Nat.reduceAdd, hls, List.map_append, List.map_cons, List.map_nil, List.length_append, List.length_cons, List.length_nil, Nat.zero_add])
        · rw [if_neg g] at hls
          simp only [h1, hg1, hb.1, hb.2, decide_eq_false g, takeT, wi i (by omega), List.length_map, Int.toNat_natCast, j28, b28, q28, qq, ww, List.replicate, Nat.reduceBEq, Nat.reduceAdd, Nat.reduceMul, Nat.reduceDiv, Nat.reduceEqDiff, Nat.reduceLeDiff, Nat.reduceLT, Int.reduceEq, Int.reduceNe, Int.reduceLT, Int.reduceLE, Int.reduceAdd, Int.reduceSub, Int.reduceMul, Int.reduceNeg, Int.reduceToNat, Int.reducePow, Nat.reducePow, reduceCtorEq, reduceIte, if_true, if_false]
          exact ih hlt _ (by simp only [gcK, lowB, Nat.reduceLeDiff, Nat.reduceBEq, List.contains_nil, List.contains_cons, Bool.or_false, Bool.false_or, Bool.false_eq_true, if_false, Bool.true_and, Bool.and_true, pickL, look_hit, look_miss, look_end, slMent, hpMent, S.ment, S.ment.smt, ments, V.ment, List.append_nil, List.nil_append, List.cons_append, List.all_nil, List.all_cons, Option.isSome_some, Bool.and_self, if_true, reduceIte, Nat.reduceEqDiff, not_false_eq_true, reduceCtorEq, Nat.reduceMul, Nat.reduceAdd, hls, List.append_nil])
      · clear ih
        obtain rfl : i = s.ah.length := by omega
        rw [List.take_length]
        have h1 : decide ((s.ah.length : Int) < (s.ah.length : Int)) = false := by simp
        subst hF
        have hml : ∀ y ∈ leftL (to + 1) s.ah, inB y.v 0 2147483647 = true ∧ s.w < y.s ∧ y.s < 1073741824 := fun y hy => by
          have := hah y (List.mem_filter.1 hy).1
          exact ⟨this.2.2, this.1, this.2.1⟩
        have hl3 := hll s.ah
        generalize leftL (to + 1) s.ah = l at *
        cases l with
        | nil =>
          simp only [h1, takeT, gA, List.map_nil, List.length_nil, List.length_map, j28, b28, q28, qq, ww, List.replicate, Nat.reduceBEq, Nat.reduceAdd, Nat.reduceMul, Nat.reduceDiv, Nat.reduceEqDiff, Nat.reduceLeDiff, Nat.reduceLT, Int.reduceEq, Int.reduceNe, Int.reduceLT, Int.reduceLE, Int.reduceAdd, Int.reduceSub, Int.reduceMul, Int.reduceNeg, Int.reduceToNat, Int.reducePow, Nat.reducePow, reduceCtorEq, reduceIte, if_true, if_false]
          try rfl
        | cons y r =>
          simp only [List.length_cons] at hl3
          have hz : decide (((r.length + 1 : Nat) : Int) > 0) = true := decide_eq_true (by omega)
          have hb : (0 : Int) ≤ 0 ∧ (0 : Int) < ((r.length + 1 : Nat) : Int) := by omega
          have hb3 : (0 : Int) ≤ 1 := by omega
          have hb4 : (1 : Int) ≤ ((r.length + 1 : Nat) : Int) := by omega
          have hle : r.length + 1 ≤ r.length + 1 := Nat.le_refl _
          have hif : (if (1 : Int) = ((r.length + 1 : Nat) : Int) then (some (S.one (V.row []), ([] : Hp))) else some (S.one (V.row (r.map eT)), [])) = some (.one (.row (r.map eT)), []) := by
            split
            · rename_i h
              rw [List.eq_nil_of_length_eq_zero (l := r) (by omega)]
              rfl
            · rfl
          have htk : List.take (r.length + 1) (eT y :: r.map eT) = eT y :: r.map eT := List.take_of_length_le (by simp)
          by_cases hy : y.s = to + 1
          · have hay := hml y (by simp)
            have hri : RI c false r ⟨s.e, to + 1, kn, [], r⟩ q1 ⟨to + 1, y.v⟩ := ⟨kp, fun _ => ⟨hqk, h1'⟩, rfl, by show 1 ≤ to + 1 ∧ to + 1 ≤ _; omega, hay.1, fun z hz => by have := hml z (by simp [hz]); exact ⟨this.1, by omega⟩, by simp, by omega⟩
            have ht := fun d => e66 N d hN c ⟨s.e, to + 1, kn, [], r⟩ false q1 y.v (by show r.length < 400; omega) (by omega) hri
            have hy2 : y = ⟨to + 1, y.v⟩ := by rw [← hy]
            dsimp only at ht ⊢
            rw [if_pos hy]
            rw [← hy2] at ht
            simp only [aS, eS, rT, List.map_nil] at ht
            generalize takeR c false r ⟨s.e, to + 1, kn, [], r⟩ q1 [] y = G at *
            simp only [h1, hz, hb.1, hb.2, hb3, hb4, hle, hif, htk, ht, decide_eq_true hy, takeT, allT, gA, aS, eS, rT, Nat.add_sub_cancel, List.map_nil, List.length_nil, List.length_map, List.length_cons, List.map_cons, j28, b28, q28, qq, ww, List.replicate, Nat.reduceBEq, Nat.reduceAdd, Nat.reduceMul, Nat.reduceDiv, Nat.reduceEqDiff, Nat.reduceLeDiff, Nat.reduceLT, Int.reduceEq, Int.reduceNe, Int.reduceLT, Int.reduceLE, Int.reduceAdd, Int.reduceSub, Int.reduceMul, Int.reduceNeg, Int.reduceToNat, Int.reducePow, Nat.reducePow, reduceCtorEq, reduceIte, if_true, if_false]
          · dsimp only
            rw [if_neg hy]
            simp only [h1, hz, hb.1, hb.2, hb3, hb4, hle, htk, decide_eq_false hy, takeT, gA, List.map_nil, List.length_nil, List.length_map, List.length_cons, List.map_cons, j28, b28, q28, qq, ww, List.replicate, Nat.reduceBEq, Nat.reduceAdd, Nat.reduceMul, Nat.reduceDiv, Nat.reduceEqDiff, Nat.reduceLeDiff, Nat.reduceLT, Int.reduceEq, Int.reduceNe, Int.reduceLT, Int.reduceLE, Int.reduceAdd, Int.reduceSub, Int.reduceMul, Int.reduceNeg, Int.reduceToNat, Int.reducePow, Nat.reducePow, reduceCtorEq, reduceIte, if_true, if_false]
            try rfl
end Go.Proofs.YtkfcbpbnoeaheaaGreatDoor.FA
namespace Go.Proofs.YtkfcbpbnoeaheaaGreatDoor.FA
open Go Go.Proofs.YtkfcbpbnoeaheaaGreatDoorR Go.Proofs.YtkfcbpbnoeaheaaGreatDoor.IF
open Go.Proofs.YtkfcbpbnoeaheaaGreatDoor.QA (Ev eE aE rE inB epOK evOK qOK putE n01 gapE lastK)
open Go.Proofs.YtkfcbpbnoeaheaaGreatDoor.AA (It eT aT rT ahOK addA addR leftL wi wm takeT allT take_s hR pre cP risB fitsB left_s)
open Go.Proofs.YtkfcbpbnoeaheaaGreatDoor.EC (Cf eC okC)
set_option maxRecDepth 100000
set_option maxHeartbeats 4000000
theorem okC_b (c : Cf) : okC c = (inB c.n 1 8 && (inB c.t 1 4 && (inB c.k 1 4 && (inB c.d 1 8 && (inB c.p 1 16 && (inB c.w 1 16 && inB c.q 2 32)))))) := by
  simp only [okC, inB, ← Bool.decide_and]
theorem e18 (N d : Nat) (c : Cf) : TT N (d + 2) 18 [.agg (eC c)] = some (bV (okC c), []) := by
  have h16 := fun d n lo hi => QA.e56 N d n lo hi
  rw [t18, F_ev rfl, okC_b]
  cases h1 : inB c.n 1 8
  · simp only [h16, h1, Bool.and_self, Bool.and_false, Bool.false_and, Bool.true_and, j18, b18, q18, qq, ww, List.replicate, Nat.reduceBEq, Nat.reduceAdd, Nat.reduceMul, Nat.reduceDiv, Nat.reduceEqDiff, Nat.reduceLeDiff, Nat.reduceLT, Int.reduceEq, Int.reduceNe, Int.reduceLT, Int.reduceLE, Int.reduceAdd, Int.reduceSub, Int.reduceMul, Int.reduceNeg, Int.reduceToNat, Int.reducePow, Nat.reducePow, reduceCtorEq, reduceIte, if_true, if_false]
  cases h2 : inB c.t 1 4
  · simp only [h16, h1, h2, Bool.and_self, Bool.and_false, Bool.false_and, Bool.true_and, j18, b18, q18, qq, ww, List.replicate, Nat.reduceBEq, Nat.reduceAdd, Nat.reduceMul, Nat.reduceDiv, Nat.reduceEqDiff, Nat.reduceLeDiff, Nat.reduceLT, Int.reduceEq, Int.reduceNe, Int.reduceLT, Int.reduceLE, Int.reduceAdd, Int.reduceSub, Int.reduceMul, Int.reduceNeg, Int.reduceToNat, Int.reducePow, Nat.reducePow, reduceCtorEq, reduceIte, if_true, if_false]
  cases h3 : inB c.k 1 4
  · simp only [h16, h1, h2, h3, Bool.and_self, Bool.and_false, Bool.false_and, Bool.true_and, j18, b18, q18, qq, ww, List.replicate, Nat.reduceBEq, Nat.reduceAdd, Nat.reduceMul, Nat.reduceDiv, Nat.reduceEqDiff, Nat.reduceLeDiff, Nat.reduceLT, Int.reduceEq, Int.reduceNe, Int.reduceLT, Int.reduceLE, Int.reduceAdd, Int.reduceSub, Int.reduceMul, Int.reduceNeg, Int.reduceToNat, Int.reducePow, Nat.reducePow, reduceCtorEq, reduceIte, if_true, if_false]
  cases h4 : inB c.d 1 8
  · simp only [h16, h1, h2, h3, h4, Bool.and_self, Bool.and_false, Bool.false_and, Bool.true_and, j18, b18, q18, qq, ww, List.replicate, Nat.reduceBEq, Nat.reduceAdd, Nat.reduceMul, Nat.reduceDiv, Nat.reduceEqDiff, Nat.reduceLeDiff, Nat.reduceLT, Int.reduceEq, Int.reduceNe, Int.reduceLT, Int.reduceLE, Int.reduceAdd, Int.reduceSub, Int.reduceMul, Int.reduceNeg, Int.reduceToNat, Int.reducePow, Nat.reducePow, reduceCtorEq, reduceIte, if_true, if_false]
  cases h5 : inB c.p 1 16
  · simp only [h16, h1, h2, h3, h4, h5, Bool.and_self, Bool.and_false, Bool.false_and, Bool.true_and, j18, b18, q18, qq, ww, List.replicate, Nat.reduceBEq, Nat.reduceAdd, Nat.reduceMul, Nat.reduceDiv, Nat.reduceEqDiff, Nat.reduceLeDiff, Nat.reduceLT, Int.reduceEq, Int.reduceNe, Int.reduceLT, Int.reduceLE, Int.reduceAdd, Int.reduceSub, Int.reduceMul, Int.reduceNeg, Int.reduceToNat, Int.reducePow, Nat.reducePow, reduceCtorEq, reduceIte, if_true, if_false]
  cases h6 : inB c.w 1 16
  · simp only [h16, h1, h2, h3, h4, h5, h6, Bool.and_self, Bool.and_false, Bool.false_and, Bool.true_and, j18, b18, q18, qq, ww, List.replicate, Nat.reduceBEq, Nat.reduceAdd, Nat.reduceMul, Nat.reduceDiv, Nat.reduceEqDiff, Nat.reduceLeDiff, Nat.reduceLT, Int.reduceEq, Int.reduceNe, Int.reduceLT, Int.reduceLE, Int.reduceAdd, Int.reduceSub, Int.reduceMul, Int.reduceNeg, Int.reduceToNat, Int.reducePow, Nat.reducePow, reduceCtorEq, reduceIte, if_true, if_false]
  cases h7 : inB c.q 2 32
  · simp only [h16, h1, h2, h3, h4, h5, h6, h7, Bool.and_self, Bool.and_false, Bool.false_and, Bool.true_and, j18, b18, q18, qq, ww, List.replicate, Nat.reduceBEq, Nat.reduceAdd, Nat.reduceMul, Nat.reduceDiv, Nat.reduceEqDiff, Nat.reduceLeDiff, Nat.reduceLT, Int.reduceEq, Int.reduceNe, Int.reduceLT, Int.reduceLE, Int.reduceAdd, Int.reduceSub, Int.reduceMul, Int.reduceNeg, Int.reduceToNat, Int.reducePow, Nat.reducePow, reduceCtorEq, reduceIte, if_true, if_false]
  simp only [h16, h1, h2, h3, h4, h5, h6, h7, Bool.and_self, Bool.and_false, Bool.false_and, Bool.true_and, j18, b18, q18, qq, ww, List.replicate, Nat.reduceBEq, Nat.reduceAdd, Nat.reduceMul, Nat.reduceDiv, Nat.reduceEqDiff, Nat.reduceLeDiff, Nat.reduceLT, Int.reduceEq, Int.reduceNe, Int.reduceLT, Int.reduceLE, Int.reduceAdd, Int.reduceSub, Int.reduceMul, Int.reduceNeg, Int.reduceToNat, Int.reducePow, Nat.reducePow, reduceCtorEq, reduceIte, if_true, if_false]
def heavyB (s : Sm) (q : List Ev) : Bool := decide ((s.kp.length : Int) > 30) || decide ((s.ah.length : Int) > 30) || decide ((q.length : Int) > 50)
theorem e9 (N d : Nat) (s : Sm) (q : List Ev) : TT N (d + 1) 9 [aS s, .one (rE q)] = some (bV (heavyB s q), []) := by
  rw [t9, F_ev rfl]
  simp only [List.length_map, j9, b9, q9, qq, ww, List.replicate, Nat.reduceBEq, Nat.reduceAdd, Nat.reduceMul, Nat.reduceDiv, Nat.reduceEqDiff, Nat.reduceLeDiff, Nat.reduceLT, Int.reduceEq, Int.reduceNe, Int.reduceLT, Int.reduceLE, Int.reduceAdd, Int.reduceSub, Int.reduceMul, Int.reduceNeg, Int.reduceToNat, Int.reducePow, Nat.reducePow, reduceCtorEq, reduceIte, if_true, if_false]
  repeat' (refine fin_cases (fun h1 => ?_) (fun h1 => ?_) <;> simp only [h1, List.length_map, j9, b9, q9, qq, ww, List.replicate, Nat.reduceBEq, Nat.reduceAdd, Nat.reduceMul, Nat.reduceDiv, Nat.reduceEqDiff, Nat.reduceLeDiff, Nat.reduceLT, Int.reduceEq, Int.reduceNe, Int.reduceLT, Int.reduceLE, Int.reduceAdd, Int.reduceSub, Int.reduceMul, Int.reduceNeg, Int.reduceToNat, Int.reducePow, Nat.reducePow, reduceCtorEq, reduceIte, if_true, if_false])
  all_goals (first | (simp_all [heavyB]; done) | (simp_all [heavyB]; omega))
theorem heavy_t {s : Sm} {q : List Ev} (h : heavyB s q = false) : s.kp.length ≤ 30 ∧ s.ah.length ≤ 30 ∧ q.length ≤ 50 := by
  simp [heavyB] at h; omega
theorem w18 : TT 1000 17 27 [] = some (bV true, []) := by kernel_rfl
theorem foldK_len {c : Cf} {sub : Bool} : ∀ {l : List It} {s : Sm} {q : List Ev} {on : List It}, s.kp.length < 900 → (foldK c sub l s q on).1.kp.length < 900 ∧ (foldK c sub l s q on).1.ah = s.ah ∧ (foldK c sub l s q on).2.1.length ≤ q.length + l.length ∧ (foldK c sub l s q on).2.2.length = on.length + l.length
  | [], s, q, on, h => ⟨h, rfl, Nat.le_refl _, rfl⟩
  | x :: r, s, q, on, h => by
    have hp := pushP_len s.kp s.w c.p x.v
    have hq := oneQ_len c s sub q x.v
    obtain ⟨h1, h2, h3, h4⟩ := foldK_len (c := c) (sub := sub) (l := r) (s := oneS c s x.v) (q := oneQ c s sub q x.v) (on := on ++ [⟨s.w, x.v⟩]) (by show (pushP s.kp s.w c.p x.v).1.length < 900; omega)
    simp only [List.length_append, List.length_cons, List.length_nil] at h4
    simp only [foldK, List.length_cons]
    exact ⟨h1, h2, by omega, by omega⟩
theorem moreK_len {c : Cf} {sub : Bool} {s : Sm} {q : List Ev} {on : List It} (h : s.kp.length < 900) : (moreK c sub s q on).1.kp.length < 900 ∧ (moreK c sub s q on).1.ah.length ≤ s.ah.length ∧ (moreK c sub s q on).2.1.length ≤ q.length + s.ah.length ∧ (moreK c sub s q on).2.2.length ≤ on.length + s.ah.length := by
  have hl : (leftL s.w s.ah).length ≤ s.ah.length := List.length_filter_le _ _
  have ht : ((leftL s.w s.ah).take (cut s)).length ≤ s.ah.length := by rw [List.length_take]; omega
  obtain ⟨h1, h2, h3, h4⟩ := foldK_len (c := c) (sub := sub) (l := (leftL s.w s.ah).take (cut s)) (s := s) (q := q) (on := on) h
  unfold moreK
  exact ⟨h1, by show (List.drop _ _).length ≤ _; rw [List.length_drop]; omega, by show _ ≤ _; dsimp only; omega, by show _ ≤ _; dsimp only; omega⟩
theorem itemG_len {c : Cf} {s : Sm} {sub : Bool} {q : List Ev} {old : Bool} {x : It} (hs : s.kp.length ≤ 30 ∧ s.ah.length ≤ 30) (hq : q.length ≤ 50) : smL (itemG c s sub q old x).1 ∧ (itemG c s sub q old x).2.1.length < 900 ∧ (itemG c s sub q old x).2.2.length < 900 := by
  unfold itemG
  split
  · exact ⟨⟨by show s.kp.length < 900; omega, by show s.ah.length < 900; omega⟩, by show q.length < 900; omega, by simp⟩
  · split
    · have hp := pushP_len s.kp s.w c.p x.v
      have hq2 := oneQ_len c s sub q x.v
      obtain ⟨h1, h2, h3, h4⟩ := moreK_len (c := c) (sub := sub) (s := oneS c s x.v) (q := oneQ c s sub q x.v) (on := [⟨s.w, x.v⟩]) (by show (pushP s.kp s.w c.p x.v).1.length < 900; omega)
      have e1 : (oneS c s x.v).ah.length = s.ah.length := rfl
      simp only [List.length_cons, List.length_nil] at h4
      exact ⟨⟨h1, by omega⟩, by omega, by omega⟩
    · have ha := AA.addA_len s.ah s.w c.w x
      refine ⟨⟨by show s.kp.length < 900; omega, ?_⟩, by show q.length < 900; omega, by simp⟩
      show (if (addA s.ah s.w c.w x).2 = 0 then (addA s.ah s.w c.w x).1 else s.ah).length < 900
      split <;> omega
theorem goneG_len {c : Cf} {s : Sm} {sub : Bool} {q : List Ev} {a f t : Int} (hs : s.kp.length ≤ 30 ∧ s.ah.length ≤ 30) (hq : q.length ≤ 50) : smL (goneG c s sub q a f t).1 ∧ (goneG c s sub q a f t).2.1.length < 900 ∧ (goneG c s sub q a f t).2.2.length < 900 := by
  unfold goneG
  split
  · have hql : (if sub = true then fitE q c.q ⟨2, a, s.w, t, 0, 0⟩ else q).length ≤ 51 := by
      split
      · have := fitE_len q c.q ⟨2, a, s.w, t, 0, 0⟩; omega
      · omega
    obtain ⟨h1, h2, h3, h4⟩ := moreK_len (c := c) (sub := sub) (s := ⟨s.e, t + 1, if t + 1 > s.kn then t + 1 else s.kn, [], s.ah⟩) (q := (if sub = true then fitE q c.q ⟨2, a, s.w, t, 0, 0⟩ else q)) (on := []) (by simp)
    have e1 : (⟨s.e, t + 1, if t + 1 > s.kn then t + 1 else s.kn, [], s.ah⟩ : Sm).ah.length = s.ah.length := rfl
    simp only [List.length_nil] at h4
    exact ⟨⟨h1, by omega⟩, by omega, by omega⟩
  · exact ⟨⟨by show s.kp.length < 900; omega, by show s.ah.length < 900; omega⟩, by show q.length < 900; omega, by simp⟩
theorem toldS_len {s : Sm} {a n : Int} (hs : smL s) : smL (toldS s a n) := by
  unfold toldS
  split
  · simp
  · split
    · exact hs
    · exact hs
theorem q_nil {n : Int} (h : 2 ≤ n ∧ n ≤ 32) : qOK [] n = true := by
  simp [qOK]; omega
end Go.Proofs.YtkfcbpbnoeaheaaGreatDoor.FA
/- Functions of the program in the evaluator's form, each checked against the program (written by wip/prog/irgen.py). -/
set_option maxRecDepth 100000
namespace Go.Proofs.YtkfcbpbnoeaheaaGreatDoor.L3
open Go Go.Proofs.YtkfcbpbnoeaheaaGreatDoorR
/-- bellwether/bellwetherlaw18.FlowExact -/
def j3 : C := (.seq (.region [⟨some 7, .box (.t 0), none, [], []⟩,
  ⟨some 8, .box (.t 1), none, [], []⟩,
  ⟨some 12, .box (.t 5), none, [], []⟩,
  ⟨some 14, .mov (.c (.bool false)), none, [], []⟩] false)
 (.seq (.seq (.region [⟨some 38, .load true 5 (.t 8), none, [], []⟩,
  ⟨some 39, .mov (.t 3), none, [], []⟩,
  ⟨some 40, .call false 9 [(.t 38), (.t 39)], none, [], []⟩] false)
 (.cond (.t 40) (.seq (.region [⟨some 14, .mov (.c (.bool true)), none, [], []⟩] false)
 .ret) .skip))
 (.seq (.region [⟨some 41, .load true 5 (.t 8), none, [], []⟩,
  ⟨some 42, .call false 10 [(.t 41)], none, [], []⟩,
  ⟨some 43, .mov (.t 3), none, [], []⟩,
  ⟨some 44, .call false 11 [(.t 43)], none, [], []⟩,
  ⟨some 15, .alloc [.int .i64 0, .int .i64 0, .int .i64 0, .row [], .row []], none, [], []⟩,
  ⟨none, .store none 5 (.t 15) (.t 42), none, [], []⟩,
  ⟨some 16, .mov (.t 44), none, [], []⟩] false)
 (.seq (.region [⟨some 46, .load true 7 (.t 7), none, [], []⟩,
  ⟨some 47, .load true 5 (.t 15), none, [], []⟩,
  ⟨some 48, .mov (.t 4), none, [], []⟩,
  ⟨some 49, .fad 0 (.t 12), none, [], []⟩,
  ⟨some 50, .load false 1 (.t 49), none, [], []⟩,
  ⟨some 51, .call false 12 [(.t 46), (.t 47), (.t 48), (.t 50)], none, [], []⟩,
  ⟨some 45, .mov (.t 51), none, [], []⟩,
  ⟨some 52, .ext (.t 45) 0, none, [], []⟩,
  ⟨some 53, .ext (.t 45) 1, none, [], []⟩,
  ⟨some 17, .alloc [.int .i64 0, .int .i64 0, .int .i64 0, .row [], .row []], none, [], []⟩,
  ⟨none, .store none 5 (.t 17) (.t 52), none, [], []⟩,
  ⟨some 18, .mov (.t 53), none, [], []⟩] false)
 (.seq (.region [⟨some 55, .load true 7 (.t 7), none, [], []⟩,
  ⟨some 56, .load true 5 (.t 15), none, [], []⟩,
  ⟨some 57, .mov (.t 2), none, [], []⟩,
  ⟨some 58, .mov (.t 16), none, [], []⟩,
  ⟨some 59, .mov (.t 4), none, [], []⟩,
  ⟨some 60, .load true 2 (.t 12), none, [], []⟩,
  ⟨some 61, .call false 13 [(.t 55), (.t 56), (.t 57), (.t 58), (.t 59), (.t 60)], none, [], []⟩,
  ⟨some 54, .mov (.t 61), none, [], []⟩,
  ⟨some 62, .ext (.t 54) 0, none, [], []⟩,
  ⟨some 63, .ext (.t 54) 1, none, [], []⟩,
  ⟨some 64, .ext (.t 54) 2, none, [], []⟩,
  ⟨some 65, .ext (.t 54) 3, none, [], []⟩,
  ⟨some 19, .alloc [.int .i64 0, .int .i64 0, .int .i64 0, .row [], .row []], none, [], []⟩,
  ⟨none, .store none 5 (.t 19) (.t 62), none, [], []⟩,
  ⟨some 20, .mov (.t 63), none, [], []⟩,
  ⟨some 21, .mov (.t 64), none, [], []⟩,
  ⟨some 22, .mov (.t 65), none, [], []⟩] false)
 (.seq (.region [⟨some 67, .load true 7 (.t 7), none, [], []⟩,
  ⟨some 68, .load true 5 (.t 15), none, [], []⟩,
  ⟨some 69, .mov (.t 2), none, [], []⟩,
  ⟨some 70, .mov (.t 16), none, [], []⟩,
  ⟨some 71, .mov (.t 4), none, [], []⟩,
  ⟨some 72, .fad 0 (.t 12), none, [], []⟩,
  ⟨some 73, .load false 1 (.t 72), none, [], []⟩,
  ⟨some 74, .mov (.t 6), none, [], []⟩,
  ⟨some 75, .call false 14 [(.t 67), (.t 68), (.t 69), (.t 70), (.t 71), (.t 73), (.t 74)], none, [], []⟩,
  ⟨some 66, .mov (.t 75), none, [], []⟩,
  ⟨some 76, .ext (.t 66) 0, none, [], []⟩,
  ⟨some 77, .ext (.t 66) 1, none, [], []⟩,
  ⟨some 78, .ext (.t 66) 2, none, [], []⟩,
  ⟨some 79, .ext (.t 66) 3, none, [], []⟩,
  ⟨some 23, .alloc [.int .i64 0, .int .i64 0, .int .i64 0, .row [], .row []], none, [], []⟩,
  ⟨none, .store none 5 (.t 23) (.t 76), none, [], []⟩,
  ⟨some 24, .mov (.t 77), none, [], []⟩,
  ⟨some 25, .mov (.t 78), none, [], []⟩,
  ⟨some 26, .mov (.t 79), none, [], []⟩] false)
 (.seq (.seq (.region [⟨some 80, .load true 5 (.t 15), none, [82, 83, 84, 85, 86], []⟩,
  ⟨some 81, .call false 15 [(.t 80)], none, [82, 83, 84, 85, 86], [0]⟩,
  ⟨some 82, .fad 2 (.t 8), none, [80, 81, 84, 85], []⟩,
  ⟨some 83, .load false 1 (.t 82), none, [80, 81, 84, 85], [2]⟩,
  ⟨some 84, .fad 1 (.t 8), none, [80, 81, 82, 83], []⟩,
  ⟨some 85, .load false 1 (.t 84), none, [80, 81, 82, 83], [4]⟩,
  ⟨some 86, .bin .gtr (.t 83) (.t 85), none, [80, 81], [2, 3, 4, 5]⟩,
  ⟨some 87, .eqb true (.t 81) (.t 86), none, [], [0, 1, 2, 3, 4, 5, 6]⟩,
  ⟨some 88, .mov (.t 87), none, [], [0, 1, 2, 3, 4, 5, 6, 7]⟩,
  ⟨some 89, .load true 5 (.t 15), some (88, false), [90], [0, 1, 2, 3, 4, 5, 6, 7, 8]⟩,
  ⟨some 90, .load true 5 (.t 8), some (88, false), [89], [0, 1, 2, 3, 4, 5, 6, 7, 8]⟩,
  ⟨some 91, .call false 16 [(.t 89), (.t 90)], some (88, false), [], [0, 1, 2, 3, 4, 5, 6, 7, 8, 9, 10]⟩,
  ⟨some 92, .un .not (.t 91), some (88, false), [], [0, 1, 2, 3, 4, 5, 6, 7, 8, 9, 10, 11]⟩,
  ⟨some 93, .pick (.t 88) (.c (.bool true)) (.t 92), none, [], [0, 1, 2, 3, 4, 5, 6, 7, 8, 9, 10, 11, 12]⟩,
  ⟨some 94, .mov (.t 93), none, [], [0, 1, 2, 3, 4, 5, 6, 7, 8, 9, 10, 11, 12, 13]⟩,
  ⟨some 95, .mov (.t 16), some (94, false), [96], [0, 1, 2, 3, 4, 5, 6, 7, 8, 9, 10, 11, 12, 13, 14]⟩,
  ⟨some 96, .mov (.t 3), some (94, false), [95], [0, 1, 2, 3, 4, 5, 6, 7, 8, 9, 10, 11, 12, 13, 14]⟩,
  ⟨some 97, .call false 17 [(.t 95), (.t 96)], some (94, false), [], [0, 1, 2, 3, 4, 5, 6, 7, 8, 9, 10, 11, 12, 13, 14, 15, 16]⟩,
  ⟨some 98, .un .not (.t 97), some (94, false), [], [0, 1, 2, 3, 4, 5, 6, 7, 8, 9, 10, 11, 12, 13, 14, 15, 16, 17]⟩,
  ⟨some 99, .pick (.t 94) (.c (.bool true)) (.t 98), none, [], [0, 1, 2, 3, 4, 5, 6, 7, 8, 9, 10, 11, 12, 13, 14, 15, 16, 17, 18]⟩] true)
 (.cond (.t 99) (.seq (.region [⟨some 14, .mov (.c (.bool false)), none, [], []⟩] false)
 .ret) .skip))
 (.seq (.region [⟨some 27, .mov (.c (.int .i64 0)), none, [], []⟩,
  ⟨some 28, .mov (.c (.int .i64 0)), none, [], []⟩] false)
 (.seq (.seq (.region [⟨some 100, .load true 7 (.t 7), none, [], []⟩,
  ⟨some 101, .call false 18 [(.t 100)], none, [], []⟩,
  ⟨some 102, .un .not (.t 101), none, [], []⟩] false)
 (.cond (.t 102) (.region [⟨some 27, .mov (.c (.int .i64 13)), none, [], []⟩,
  ⟨some 28, .mov (.c (.int .i64 13)), none, [], []⟩] false) (.seq (.seq (.region [⟨some 103, .load true 7 (.t 7), none, [], []⟩,
  ⟨some 104, .load true 5 (.t 8), none, [], []⟩,
  ⟨some 105, .call false 19 [(.t 103), (.t 104)], none, [], []⟩,
  ⟨some 106, .un .not (.t 105), none, [], []⟩] false)
 (.cond (.t 106) (.region [⟨some 28, .mov (.c (.int .i64 1)), none, [], []⟩] false) .skip))
 (.seq (.region [⟨some 107, .load true 7 (.t 7), none, [], []⟩,
  ⟨some 108, .load true 5 (.t 8), none, [], []⟩,
  ⟨some 109, .mov (.t 3), none, [], []⟩,
  ⟨some 110, .call false 20 [(.t 107), (.t 108), (.t 109)], none, [], []⟩,
  ⟨some 111, .un .not (.t 110), none, [], []⟩] false)
 (.cond (.t 111) (.region [⟨some 27, .mov (.c (.int .i64 1)), none, [], []⟩] false) .skip)))))
 (.seq (.seq (.region [⟨some 112, .load true 7 (.t 7), none, [], []⟩,
  ⟨some 113, .load true 5 (.t 15), none, [], []⟩,
  ⟨some 114, .mov (.t 16), none, [], []⟩,
  ⟨some 115, .call false 21 [(.t 112), (.t 113), (.t 114)], none, [], []⟩,
  ⟨some 116, .mov (.t 27), none, [], []⟩,
  ⟨some 117, .bin .neq (.t 115) (.t 116), none, [], []⟩] false)
 (.cond (.t 117) (.seq (.region [⟨some 14, .mov (.c (.bool false)), none, [], []⟩] false)
 .ret) .skip))
 (.seq (.region [⟨some 118, .mov (.t 4), none, [], []⟩,
  ⟨some 119, .call false 22 [(.t 118)], none, [], []⟩,
  ⟨some 29, .mov (.t 119), none, [], []⟩] false)
 (.seq (.seq (.region [⟨some 120, .mov (.t 28), none, [], []⟩,
  ⟨some 121, .bin .eql (.t 120) (.c (.int .i64 0)), none, [], []⟩,
  ⟨some 122, .mov (.t 121), none, [], []⟩,
  ⟨some 123, .mov (.t 29), some (122, true), [], []⟩,
  ⟨some 124, .un .not (.t 123), some (122, true), [], []⟩,
  ⟨some 125, .mov (.t 124), some (122, true), [], []⟩,
  ⟨some 126, .fad 0 (.t 12), some (125, false), [], []⟩,
  ⟨some 127, .load false 1 (.t 126), some (125, false), [], []⟩,
  ⟨some 128, .bin .lss (.t 127) (.c (.int .i64 1)), some (125, false), [], []⟩,
  ⟨some 129, .pick (.t 125) (.c (.bool true)) (.t 128), some (122, true), [], []⟩,
  ⟨some 130, .mov (.t 129), some (122, true), [], []⟩,
  ⟨some 131, .fad 0 (.t 12), some (130, false), [], []⟩,
  ⟨some 132, .load false 1 (.t 131), some (130, false), [], []⟩,
  ⟨some 133, .bin .gtr (.t 132) (.c (.int .i64 1073741824)), some (130, false), [], []⟩,
  ⟨some 134, .pick (.t 130) (.c (.bool true)) (.t 133), some (122, true), [], []⟩,
  ⟨some 135, .pick (.t 122) (.t 134) (.c (.bool false)), none, [], []⟩] false)
 (.cond (.t 135) (.region [⟨some 28, .mov (.c (.int .i64 1)), none, [], []⟩] false) .skip))
 (.seq (.seq (.region [⟨some 136, .mov (.t 28), none, [], []⟩,
  ⟨some 137, .bin .neq (.t 136) (.c (.int .i64 0)), none, [], []⟩] false)
 (.cond (.t 137) (.seq (.region [⟨some 138, .mov (.t 18), none, [], []⟩,
  ⟨some 139, .mov (.t 28), none, [], []⟩,
  ⟨some 140, .bin .neq (.t 138) (.t 139), none, [], []⟩,
  ⟨some 141, .mov (.t 140), none, [], []⟩,
  ⟨some 142, .load true 5 (.t 17), some (141, false), [], []⟩,
  ⟨some 143, .build [.int .i64 0, .int .i64 0, .int .i64 0, .row [], .row []] [], some (141, false), [], []⟩,
  ⟨some 144, .call false 16 [(.t 142), (.t 143)], some (141, false), [], []⟩,
  ⟨some 145, .un .not (.t 144), some (141, false), [], []⟩,
  ⟨some 146, .pick (.t 141) (.c (.bool true)) (.t 145), none, [], []⟩] false)
 (.cond (.t 146) (.seq (.region [⟨some 14, .mov (.c (.bool false)), none, [], []⟩] false)
 .ret) .skip)) (.seq (.region [⟨some 147, .mov (.t 18), none, [], []⟩,
  ⟨some 148, .bin .neq (.t 147) (.c (.int .i64 0)), none, [], [0]⟩,
  ⟨some 149, .mov (.t 148), none, [], [0, 1]⟩,
  ⟨some 150, .load true 5 (.t 17), some (149, false), [151, 152, 153, 154, 155], [0, 1, 2]⟩,
  ⟨some 151, .load true 5 (.t 8), some (149, false), [150, 152, 153, 154], [0, 1, 2]⟩,
  ⟨some 152, .mov (.t 4), some (149, false), [150, 151, 153, 154], [0, 1, 2]⟩,
  ⟨some 153, .fad 0 (.t 12), some (149, false), [150, 151, 152], [0, 1, 2]⟩,
  ⟨some 154, .load false 1 (.t 153), some (149, false), [150, 151, 152], [0, 1, 2, 6]⟩,
  ⟨some 155, .call false 23 [(.t 151), (.t 152), (.t 154)], some (149, false), [150], [0, 1, 2, 4, 5, 6, 7]⟩,
  ⟨some 156, .call false 16 [(.t 150), (.t 155)], some (149, false), [], [0, 1, 2, 3, 4, 5, 6, 7, 8]⟩,
  ⟨some 157, .un .not (.t 156), some (149, false), [], [0, 1, 2, 3, 4, 5, 6, 7, 8, 9]⟩,
  ⟨some 158, .pick (.t 149) (.c (.bool true)) (.t 157), none, [], [0, 1, 2, 3, 4, 5, 6, 7, 8, 9, 10]⟩] true)
 (.cond (.t 158) (.seq (.region [⟨some 14, .mov (.c (.bool false)), none, [], []⟩] false)
 .ret) .skip))))
 (.seq (.region [⟨some 159, .mov (.t 27), none, [], []⟩,
  ⟨some 160, .mov (.t 27), none, [], []⟩,
  ⟨some 30, .mov (.t 159), none, [], []⟩,
  ⟨some 31, .mov (.t 160), none, [], []⟩] false)
 (.seq (.seq (.region [⟨some 161, .mov (.t 27), none, [], []⟩,
  ⟨some 162, .bin .eql (.t 161) (.c (.int .i64 0)), none, [], []⟩] false)
 (.cond (.t 162) (.seq (.seq (.region [⟨some 163, .mov (.t 29), none, [], []⟩,
  ⟨some 164, .un .not (.t 163), none, [], []⟩,
  ⟨some 165, .mov (.t 164), none, [], []⟩,
  ⟨some 166, .fad 0 (.t 12), some (165, false), [], []⟩,
  ⟨some 167, .load false 1 (.t 166), some (165, false), [], []⟩,
  ⟨some 168, .bin .lss (.t 167) (.c (.int .i64 1)), some (165, false), [], []⟩,
  ⟨some 169, .pick (.t 165) (.c (.bool true)) (.t 168), none, [], []⟩,
  ⟨some 170, .mov (.t 169), none, [], []⟩,
  ⟨some 171, .fad 0 (.t 12), some (170, false), [], []⟩,
  ⟨some 172, .load false 1 (.t 171), some (170, false), [], []⟩,
  ⟨some 173, .bin .geq (.t 172) (.c (.int .i64 1073741824)), some (170, false), [], []⟩,
  ⟨some 174, .pick (.t 170) (.c (.bool true)) (.t 173), none, [], []⟩,
  ⟨some 175, .mov (.t 174), none, [], []⟩,
  ⟨some 176, .fad 1 (.t 12), some (175, false), [], []⟩,
  ⟨some 177, .load false 1 (.t 176), some (175, false), [], []⟩,
  ⟨some 178, .call false 24 [(.t 177)], some (175, false), [], []⟩,
  ⟨some 179, .un .not (.t 178), some (175, false), [], []⟩,
  ⟨some 180, .pick (.t 175) (.c (.bool true)) (.t 179), none, [], []⟩] false)
 (.cond (.t 180) (.region [⟨some 30, .mov (.c (.int .i64 1)), none, [], []⟩] false) .skip))
 (.seq (.region [⟨some 181, .mov (.t 29), none, [], []⟩,
  ⟨some 182, .un .not (.t 181), none, [], []⟩,
  ⟨some 183, .mov (.t 182), none, [], []⟩,
  ⟨some 184, .fad 0 (.t 12), some (183, false), [], []⟩,
  ⟨some 185, .load false 1 (.t 184), some (183, false), [], []⟩,
  ⟨some 186, .bin .lss (.t 185) (.c (.int .i64 1)), some (183, false), [], []⟩,
  ⟨some 187, .pick (.t 183) (.c (.bool true)) (.t 186), none, [], []⟩,
  ⟨some 188, .mov (.t 187), none, [], []⟩,
  ⟨some 189, .mov (.t 6), some (188, false), [], []⟩,
  ⟨some 190, .fad 0 (.t 12), some (188, false), [], []⟩,
  ⟨some 191, .load false 1 (.t 190), some (188, false), [], []⟩,
  ⟨some 192, .bin .lss (.t 189) (.t 191), some (188, false), [], []⟩,
  ⟨some 193, .pick (.t 188) (.c (.bool true)) (.t 192), none, [], []⟩,
  ⟨some 194, .mov (.t 193), none, [], []⟩,
  ⟨some 195, .mov (.t 6), some (194, false), [], []⟩,
  ⟨some 196, .bin .geq (.t 195) (.c (.int .i64 1073741824)), some (194, false), [], []⟩,
  ⟨some 197, .pick (.t 194) (.c (.bool true)) (.t 196), none, [], []⟩] false)
 (.cond (.t 197) (.region [⟨some 31, .mov (.c (.int .i64 1)), none, [], []⟩] false) .skip))) .skip))
 (.seq (.seq (.region [⟨some 198, .mov (.t 30), none, [], []⟩,
  ⟨some 199, .bin .neq (.t 198) (.c (.int .i64 0)), none, [], []⟩] false)
 (.cond (.t 199) (.seq (.region [⟨some 200, .mov (.t 22), none, [], []⟩,
  ⟨some 201, .mov (.t 30), none, [], []⟩,
  ⟨some 202, .bin .neq (.t 200) (.t 201), none, [], []⟩,
  ⟨some 203, .mov (.t 202), none, [], []⟩,
  ⟨some 204, .load true 5 (.t 19), some (203, false), [], []⟩,
  ⟨some 205, .build [.int .i64 0, .int .i64 0, .int .i64 0, .row [], .row []] [], some (203, false), [], []⟩,
  ⟨some 206, .call false 16 [(.t 204), (.t 205)], some (203, false), [], []⟩,
  ⟨some 207, .un .not (.t 206), some (203, false), [], []⟩,
  ⟨some 208, .pick (.t 203) (.c (.bool true)) (.t 207), none, [], []⟩,
  ⟨some 209, .mov (.t 208), none, [], []⟩,
  ⟨some 210, .mov (.t 20), some (209, false), [], []⟩,
  ⟨some 211, .len (.t 210), some (209, false), [], []⟩,
  ⟨some 212, .mov (.t 21), some (209, false), [], []⟩,
  ⟨some 213, .len (.t 212), some (209, false), [], []⟩,
  ⟨some 214, .bin .add (.t 211) (.t 213), some (209, false), [], []⟩,
  ⟨some 215, .bin .gtr (.t 214) (.c (.int .i64 0)), some (209, false), [], []⟩,
  ⟨some 216, .pick (.t 209) (.c (.bool true)) (.t 215), none, [], []⟩] false)
 (.cond (.t 216) (.seq (.region [⟨some 14, .mov (.c (.bool false)), none, [], []⟩] false)
 .ret) .skip)) (.seq (.region [⟨some 218, .load true 7 (.t 7), none, [], []⟩,
  ⟨some 219, .load true 5 (.t 8), none, [], []⟩,
  ⟨some 220, .mov (.t 2), none, [], []⟩,
  ⟨some 221, .mov (.t 3), none, [], []⟩,
  ⟨some 222, .mov (.t 4), none, [], []⟩,
  ⟨some 223, .load true 2 (.t 12), none, [], []⟩,
  ⟨some 224, .call false 25 [(.t 218), (.t 219), (.t 220), (.t 221), (.t 222), (.t 223)], none, [], []⟩,
  ⟨some 217, .mov (.t 224), none, [], []⟩,
  ⟨some 225, .ext (.t 217) 0, none, [], []⟩,
  ⟨some 226, .ext (.t 217) 1, none, [], []⟩,
  ⟨some 227, .ext (.t 217) 2, none, [], []⟩,
  ⟨some 32, .alloc [.int .i64 0, .int .i64 0, .int .i64 0, .row [], .row []], none, [], []⟩,
  ⟨none, .store none 5 (.t 32) (.t 225), none, [], []⟩,
  ⟨some 33, .mov (.t 226), none, [], []⟩,
  ⟨some 34, .mov (.t 227), none, [], []⟩] false)
 (.seq (.region [⟨some 228, .mov (.t 22), none, [], []⟩,
  ⟨some 229, .bin .neq (.t 228) (.c (.int .i64 0)), none, [], []⟩,
  ⟨some 230, .mov (.t 229), none, [], []⟩,
  ⟨some 231, .load true 5 (.t 19), some (230, false), [], []⟩,
  ⟨some 232, .load true 5 (.t 32), some (230, false), [], []⟩,
  ⟨some 233, .call false 16 [(.t 231), (.t 232)], some (230, false), [], []⟩,
  ⟨some 234, .un .not (.t 233), some (230, false), [], []⟩,
  ⟨some 235, .pick (.t 230) (.c (.bool true)) (.t 234), none, [], []⟩,
  ⟨some 236, .mov (.t 235), none, [], []⟩,
  ⟨some 237, .mov (.t 20), some (236, false), [], []⟩,
  ⟨some 238, .mov (.t 33), some (236, false), [], []⟩,
  ⟨some 239, .call false 17 [(.t 237), (.t 238)], some (236, false), [], []⟩,
  ⟨some 240, .un .not (.t 239), some (236, false), [], []⟩,
  ⟨some 241, .pick (.t 236) (.c (.bool true)) (.t 240), none, [], []⟩,
  ⟨some 242, .mov (.t 241), none, [], []⟩,
  ⟨some 243, .mov (.t 21), some (242, false), [], []⟩,
  ⟨some 244, .mov (.t 34), some (242, false), [], []⟩,
  ⟨some 245, .call false 26 [(.t 243), (.t 244)], some (242, false), [], []⟩,
  ⟨some 246, .un .not (.t 245), some (242, false), [], []⟩,
  ⟨some 247, .pick (.t 242) (.c (.bool true)) (.t 246), none, [], []⟩] false)
 (.cond (.t 247) (.seq (.region [⟨some 14, .mov (.c (.bool false)), none, [], []⟩] false)
 .ret) .skip)))))
 (.seq (.seq (.region [⟨some 248, .mov (.t 31), none, [], []⟩,
  ⟨some 249, .bin .neq (.t 248) (.c (.int .i64 0)), none, [], []⟩] false)
 (.cond (.t 249) (.seq (.region [⟨some 250, .mov (.t 26), none, [], []⟩,
  ⟨some 251, .mov (.t 31), none, [], []⟩,
  ⟨some 252, .bin .eql (.t 250) (.t 251), none, [], []⟩,
  ⟨some 253, .mov (.t 252), none, [], []⟩,
  ⟨some 254, .load true 5 (.t 23), some (253, true), [], []⟩,
  ⟨some 255, .build [.int .i64 0, .int .i64 0, .int .i64 0, .row [], .row []] [], some (253, true), [], []⟩,
  ⟨some 256, .call false 16 [(.t 254), (.t 255)], some (253, true), [], []⟩,
  ⟨some 257, .pick (.t 253) (.t 256) (.c (.bool false)), none, [], []⟩,
  ⟨some 258, .mov (.t 257), none, [], []⟩,
  ⟨some 259, .mov (.t 24), some (258, true), [], []⟩,
  ⟨some 260, .len (.t 259), some (258, true), [], []⟩,
  ⟨some 261, .mov (.t 25), some (258, true), [], []⟩,
  ⟨some 262, .len (.t 261), some (258, true), [], []⟩,
  ⟨some 263, .bin .add (.t 260) (.t 262), some (258, true), [], []⟩,
  ⟨some 264, .bin .eql (.t 263) (.c (.int .i64 0)), some (258, true), [], []⟩,
  ⟨some 265, .pick (.t 258) (.t 264) (.c (.bool false)), none, [], []⟩,
  ⟨some 266, .mov (.t 265), none, [], []⟩,
  ⟨some 267, .call false 27 [], some (266, true), [], []⟩,
  ⟨some 268, .pick (.t 266) (.t 267) (.c (.bool false)), none, [], []⟩,
  ⟨some 14, .mov (.t 268), none, [], []⟩] false)
 .ret) .skip))
 (.seq (.region [⟨some 270, .load true 7 (.t 7), none, [], []⟩,
  ⟨some 271, .load true 5 (.t 8), none, [], []⟩,
  ⟨some 272, .mov (.t 2), none, [], []⟩,
  ⟨some 273, .mov (.t 3), none, [], []⟩,
  ⟨some 274, .mov (.t 4), none, [], []⟩,
  ⟨some 275, .fad 0 (.t 12), none, [], []⟩,
  ⟨some 276, .load false 1 (.t 275), none, [], []⟩,
  ⟨some 277, .mov (.t 6), none, [], []⟩,
  ⟨some 278, .call false 28 [(.t 270), (.t 271), (.t 272), (.t 273), (.t 274), (.t 276), (.t 277)], none, [], []⟩,
  ⟨some 269, .mov (.t 278), none, [], []⟩,
  ⟨some 279, .ext (.t 269) 0, none, [], []⟩,
  ⟨some 280, .ext (.t 269) 1, none, [], []⟩,
  ⟨some 281, .ext (.t 269) 2, none, [], []⟩,
  ⟨some 35, .alloc [.int .i64 0, .int .i64 0, .int .i64 0, .row [], .row []], none, [], []⟩,
  ⟨none, .store none 5 (.t 35) (.t 279), none, [], []⟩,
  ⟨some 36, .mov (.t 280), none, [], []⟩,
  ⟨some 37, .mov (.t 281), none, [], []⟩] false)
 (.seq (.region [⟨some 282, .mov (.t 26), none, [], []⟩,
  ⟨some 283, .bin .eql (.t 282) (.c (.int .i64 0)), none, [], []⟩,
  ⟨some 284, .mov (.t 283), none, [], []⟩,
  ⟨some 285, .load true 5 (.t 23), some (284, true), [], []⟩,
  ⟨some 286, .load true 5 (.t 35), some (284, true), [], []⟩,
  ⟨some 287, .call false 16 [(.t 285), (.t 286)], some (284, true), [], []⟩,
  ⟨some 288, .pick (.t 284) (.t 287) (.c (.bool false)), none, [], []⟩,
  ⟨some 289, .mov (.t 288), none, [], []⟩,
  ⟨some 290, .mov (.t 24), some (289, true), [], []⟩,
  ⟨some 291, .mov (.t 36), some (289, true), [], []⟩,
  ⟨some 292, .call false 17 [(.t 290), (.t 291)], some (289, true), [], []⟩,
  ⟨some 293, .pick (.t 289) (.t 292) (.c (.bool false)), none, [], []⟩,
  ⟨some 294, .mov (.t 293), none, [], []⟩,
  ⟨some 295, .mov (.t 25), some (294, true), [], []⟩,
  ⟨some 296, .mov (.t 37), some (294, true), [], []⟩,
  ⟨some 297, .call false 26 [(.t 295), (.t 296)], some (294, true), [], []⟩,
  ⟨some 298, .pick (.t 294) (.t 297) (.c (.bool false)), none, [], []⟩,
  ⟨some 299, .mov (.t 298), none, [], []⟩,
  ⟨some 300, .call false 27 [], some (299, true), [], []⟩,
  ⟨some 301, .pick (.t 299) (.t 300) (.c (.bool false)), none, [], []⟩,
  ⟨some 14, .mov (.t 301), none, [], []⟩] false)
 .ret)))))))))))))))))))
def i3 : F := ⟨7, 302, j3, [.t 14]⟩
theorem b3 : i3.body = j3 := rfl
theorem q3 : i3.res = [.t 14] := rfl
theorem c3 : chkF Tryz.prog Tryz.f3 i3 = true := by kernel_rfl
theorem s3 {m : Model} {E : Nat → Model} (hE : ∀ f, Sound Tryz.prog f (E f)) (hm : ∀ args r, m args = some r → ∃ N, i3.ev E N args = some r) : Sound Tryz.prog 3 m := sound_of i3 Tryz.func3 rfl c3 hE hm
def xt : List (Nat × Model) := []
def tb : List (Nat × F) := [(3, i3)]
theorem xt_ok : ∀ p ∈ xt, Sound Tryz.prog p.1 p.2 := all_nil
theorem tb_ok (N : Nat) : ∀ p ∈ tb, ∀ E : Nat → Model, (∀ f, Sound Tryz.prog f (E f)) → Sound Tryz.prog p.1 (p.2.ev E N) := all_cons (fun E hE => s3 hE fun _ _ h => ⟨N, h⟩) (all_nil)
abbrev TT (N : Nat) : Nat → Nat → Model := T1 (IF.TT N) 3 i3 N
theorem TT_ok (N d f : Nat) : Sound Tryz.prog f (TT N d f) := T1_ok (IF.TT_ok N) (fun E hE => s3 hE fun _ _ h => ⟨N, h⟩) d f
theorem t3 (N d : Nat) : TT N (d + 1) 3 = i3.ev (IF.TT N d) N := rfl
end Go.Proofs.YtkfcbpbnoeaheaaGreatDoor.L3
namespace Go.Proofs.YtkfcbpbnoeaheaaGreatDoor.FA
open Go Go.Proofs.YtkfcbpbnoeaheaaGreatDoorR Go.Proofs.YtkfcbpbnoeaheaaGreatDoor.IF
open Go.Proofs.YtkfcbpbnoeaheaaGreatDoor.QA (Ev eE aE rE inB epOK evOK qOK putE n01 gapE lastK)
open Go.Proofs.YtkfcbpbnoeaheaaGreatDoor.AA (It eT aT rT ahOK addA addR leftL wi wm takeT allT take_s hR pre cP risB fitsB left_s)
open Go.Proofs.YtkfcbpbnoeaheaaGreatDoor.EC (Cf eC okC)
open Go.Proofs.YtkfcbpbnoeaheaaGreatDoor.L3 (j3 i3 b3 q3)
set_option maxRecDepth 100000
set_option maxHeartbeats 8000000
abbrev zS : S := .agg [.int .i64 0, .int .i64 0, .int .i64 0, .row [], .row []]
theorem zz (d : Nat) : TT 1000 (d + 2) 16 [zS, zS] = some (bV true, []) := e16 1000 d (by omega) s0 s0 (by simp)
theorem same_st (d : Nat) (s : Sm) (h : smL s) : TT 1000 (d + 2) 16 [aS s, aS s] = some (bV true, []) := by rw [e16 1000 d (by omega) s s h]; simp
theorem same_ev (d : Nat) (q : List Ev) (h : q.length < 900) : TT 1000 (d + 1) 17 [.one (rE q), .one (rE q)] = some (bV true, []) := by rw [QA.e17 1000 d q q (by omega) (by omega)]; simp
theorem same_it (d : Nat) (q : List It) (h : q.length < 900) : TT 1000 (d + 1) 26 [.one (rT q), .one (rT q)] = some (bV true, []) := by rw [AA.e26 1000 d q q (by omega) (by omega)]; simp
theorem wr0 : IntKind.i64.wrap 0 = 0 := rfl
theorem e3 (c : Cf) (s : Sm) (sub : Bool) (q : List Ev) (at_ : Int) (x : It) (to : Int) : L3.TT 1000 18 3 [.agg (eC c), aS s, bV sub, .one (rE q), iV at_, aT x, iV to] = some (bV true, []) := by
  rw [L3.t3, F_ev rfl]
  have hH := fun d => e9 1000 d s q
  cases hv : heavyB s q with
  | true => rw [hv] at hH; simp only [hH, j3, b3, q3, qq, ww, List.replicate, Nat.reduceBEq, Nat.reduceAdd, Nat.reduceMul, Nat.reduceDiv, Nat.reduceEqDiff, Nat.reduceLeDiff, Nat.reduceLT, Int.reduceEq, Int.reduceNe, Int.reduceLT, Int.reduceLE, Int.reduceAdd, Int.reduceSub, Int.reduceMul, Int.reduceNeg, Int.reduceToNat, Int.reducePow, Nat.reducePow, reduceCtorEq, reduceIte, if_true, if_false]
  | false =>
  rw [hv] at hH
  have hh := heavy_t hv
  have hs : smL s := ⟨by omega, by omega⟩
  have tS := fun d => e10 1000 d s hs
  have tE := fun d => QA.e11 1000 d q (by omega)
  have hT := fun d => e12 1000 d (by omega) c s at_ x.s hs
  have hI := fun d => e13 1000 d (by omega) c s sub q at_ x hs (by omega)
  have hG := fun d => e14 1000 d (by omega) c s sub q at_ x.s to hs (by omega)
  have hL := fun d => e15 1000 d s
  have h1 := fun d => same_st d s hs
  have h2 := fun d => same_ev d q (by omega)
  have h3 := fun d => e18 1000 d c
  have h4 := fun d => e19 1000 d (by omega) c s hs
  have h5 := fun d => e20 1000 d (by omega) c s q hs (by omega)
  have h6 := fun d => e21 1000 d (by omega) c s q hs (by omega)
  have h7 := fun d => QA.e22 1000 d at_
  have h8 := fun d => QA.e24 1000 d x.v
  have hz := zz
  have hw := w18
  have hw0 := wr0
  have hq := QA.tk
  have hln : ((([] : List Ev).length : Nat) : Int) = 0 := rfl
  cases hc : okC c with
  | false =>
    rw [hc] at h3
    have f0 : flowC c s [] = 13 := by simp [flowC, hc]
    have f1 : flowC c s q = 13 := by simp [flowC, hc]
    rw [f1] at h6
    have hT : ∀ d, TT 1000 (d + 12) 12 [.agg (eC c), aS s, iV at_, iV x.s] = some (.tup [zS, iV 13], []) := fun d => by rw [hT d, show toldP c s at_ x.s = (s0, 13) by simp [toldP, f0]]; rfl
    have hI : ∀ d, ans (TT 1000 (d + 16) 13 [.agg (eC c), aS s, bV sub, .one (rE q), iV at_, aT x]) = some (.tup [zS, .one (.row []), .one (.row []), iV 13]) := fun d => by rw [hI d, show itemP c s sub q at_ x = ((s0, [], []), 13) by simp [itemP, f1]]; rfl
    have hG : ∀ d, ans (TT 1000 (d + 16) 14 [.agg (eC c), aS s, bV sub, .one (rE q), iV at_, iV x.s, iV to]) = some (.tup [zS, .one (.row []), .one (.row []), iV 13]) := fun d => by rw [hG d, show goneP c s sub q at_ x.s to = ((s0, [], []), 13) by simp [goneP, f1]]; rfl
    simp only [hH, tS, tE, hT, hI, hG, hL, h1, h2, h3, h4, h5, h6, h7, h8, hz, hw, hw0, hq, takeT, fA, gA, beq_self_eq_true, Bool.not_true, Bool.not_false, decide_true, List.length_map, List.length_nil, List.map_nil, j3, b3, q3, qq, ww, List.replicate, Nat.reduceBEq, Nat.reduceAdd, Nat.reduceMul, Nat.reduceDiv, Nat.reduceEqDiff, Nat.reduceLeDiff, Nat.reduceLT, Int.reduceEq, Int.reduceNe, Int.reduceLT, Int.reduceLE, Int.reduceAdd, Int.reduceSub, Int.reduceMul, Int.reduceNeg, Int.reduceToNat, Int.reducePow, Nat.reducePow, reduceCtorEq, reduceIte, if_true, if_false]
  | true =>
  rw [hc] at h3
  have kc := okC_t hc
  have hqn := q_nil kc.2.2.2.2.2.2
  cases hr : rightB c s with
  | false =>
    rw [hr] at h4 h5
    have f0 : flowC c s [] = 1 := by simp [flowC, hc, hr]
    have f1 : flowC c s q = 1 := by simp [flowC, hc, hr]
    rw [f1] at h6
    have hT : ∀ d, TT 1000 (d + 12) 12 [.agg (eC c), aS s, iV at_, iV x.s] = some (.tup [zS, iV 1], []) := fun d => by rw [hT d, show toldP c s at_ x.s = (s0, 1) by simp [toldP, f0]]; rfl
    have hI : ∀ d, ans (TT 1000 (d + 16) 13 [.agg (eC c), aS s, bV sub, .one (rE q), iV at_, aT x]) = some (.tup [zS, .one (.row []), .one (.row []), iV 1]) := fun d => by rw [hI d, show itemP c s sub q at_ x = ((s0, [], []), 1) by simp [itemP, f1]]; rfl
    have hG : ∀ d, ans (TT 1000 (d + 16) 14 [.agg (eC c), aS s, bV sub, .one (rE q), iV at_, iV x.s, iV to]) = some (.tup [zS, .one (.row []), .one (.row []), iV 1]) := fun d => by rw [hG d, show goneP c s sub q at_ x.s to = ((s0, [], []), 1) by simp [goneP, f1]]; rfl
    simp only [hH, tS, tE, hT, hI, hG, hL, h1, h2, h3, h4, h5, h6, h7, h8, hz, hw, hw0, hq, takeT, fA, gA, beq_self_eq_true, Bool.not_true, Bool.not_false, decide_true, List.length_map, List.length_nil, List.map_nil, Bool.false_and, j3, b3, q3, qq, ww, List.replicate, Nat.reduceBEq, Nat.reduceAdd, Nat.reduceMul, Nat.reduceDiv, Nat.reduceEqDiff, Nat.reduceLeDiff, Nat.reduceLT, Int.reduceEq, Int.reduceNe, Int.reduceLT, Int.reduceLE, Int.reduceAdd, Int.reduceSub, Int.reduceMul, Int.reduceNeg, Int.reduceToNat, Int.reducePow, Nat.reducePow, reduceCtorEq, reduceIte, if_true, if_false]
  | true =>
  rw [hr] at h4 h5
  have f0 : flowC c s [] = 0 := by simp [flowC, hc, hr, hqn]
  cases hqk : qOK q c.q with
  | false =>
    rw [hqk] at h5
    have f1 : flowC c s q = 1 := by simp [flowC, hc, hr, hqk]
    rw [f1] at h6
    have hI : ∀ d, ans (TT 1000 (d + 16) 13 [.agg (eC c), aS s, bV sub, .one (rE q), iV at_, aT x]) = some (.tup [zS, .one (.row []), .one (.row []), iV 1]) := fun d => by rw [hI d, show itemP c s sub q at_ x = ((s0, [], []), 1) by simp [itemP, f1]]; rfl
    have hG : ∀ d, ans (TT 1000 (d + 16) 14 [.agg (eC c), aS s, bV sub, .one (rE q), iV at_, iV x.s, iV to]) = some (.tup [zS, .one (.row []), .one (.row []), iV 1]) := fun d => by rw [hG d, show goneP c s sub q at_ x.s to = ((s0, [], []), 1) by simp [goneP, f1]]; rfl
    cases ge : epOK at_ with
    | false =>
      rw [ge] at h7
      have hT : ∀ d, TT 1000 (d + 12) 12 [.agg (eC c), aS s, iV at_, iV x.s] = some (.tup [zS, iV 1], []) := fun d => by rw [hT d, show toldP c s at_ x.s = (s0, 1) by simp [toldP, f0, ge]]; rfl
      simp only [hH, tS, tE, hT, hI, hG, hL, h1, h2, h3, h4, h5, h6, h7, h8, hz, hw, hw0, hq, takeT, fA, gA, beq_self_eq_true, Bool.not_true, Bool.not_false, decide_true, List.length_map, List.length_nil, List.map_nil, Bool.and_false, j3, b3, q3, qq, ww, List.replicate, Nat.reduceBEq, Nat.reduceAdd, Nat.reduceMul, Nat.reduceDiv, Nat.reduceEqDiff, Nat.reduceLeDiff, Nat.reduceLT, Int.reduceEq, Int.reduceNe, Int.reduceLT, Int.reduceLE, Int.reduceAdd, Int.reduceSub, Int.reduceMul, Int.reduceNeg, Int.reduceToNat, Int.reducePow, Nat.reducePow, reduceCtorEq, reduceIte, if_true, if_false]
    | true =>
    rw [ge] at h7
    by_cases d1 : x.s < 1
    · have ht : inB x.s 1 1073741824 = false := by simp [inB]; omega
      have hT : ∀ d, TT 1000 (d + 12) 12 [.agg (eC c), aS s, iV at_, iV x.s] = some (.tup [zS, iV 1], []) := fun d => by rw [hT d, show toldP c s at_ x.s = (s0, 1) by simp [toldP, f0, ge, ht]]; rfl
      simp only [hH, tS, tE, hT, hI, hG, hL, h1, h2, h3, h4, h5, h6, h7, h8, hz, hw, hw0, hq, takeT, fA, gA, beq_self_eq_true, Bool.not_true, Bool.not_false, decide_true, List.length_map, List.length_nil, List.map_nil, Bool.and_false, decide_eq_true d1, j3, b3, q3, qq, ww, List.replicate, Nat.reduceBEq, Nat.reduceAdd, Nat.reduceMul, Nat.reduceDiv, Nat.reduceEqDiff, Nat.reduceLeDiff, Nat.reduceLT, Int.reduceEq, Int.reduceNe, Int.reduceLT, Int.reduceLE, Int.reduceAdd, Int.reduceSub, Int.reduceMul, Int.reduceNeg, Int.reduceToNat, Int.reducePow, Nat.reducePow, reduceCtorEq, reduceIte, if_true, if_false]
    by_cases d2 : x.s > 1073741824
    · have ht : inB x.s 1 1073741824 = false := by simp [inB]; omega
      have hT : ∀ d, TT 1000 (d + 12) 12 [.agg (eC c), aS s, iV at_, iV x.s] = some (.tup [zS, iV 1], []) := fun d => by rw [hT d, show toldP c s at_ x.s = (s0, 1) by simp [toldP, f0, ge, ht]]; rfl
      simp only [hH, tS, tE, hT, hI, hG, hL, h1, h2, h3, h4, h5, h6, h7, h8, hz, hw, hw0, hq, takeT, fA, gA, beq_self_eq_true, Bool.not_true, Bool.not_false, decide_true, List.length_map, List.length_nil, List.map_nil, Bool.and_false, decide_eq_false d1, decide_eq_true d2, j3, b3, q3, qq, ww, List.replicate, Nat.reduceBEq, Nat.reduceAdd, Nat.reduceMul, Nat.reduceDiv, Nat.reduceEqDiff, Nat.reduceLeDiff, Nat.reduceLT, Int.reduceEq, Int.reduceNe, Int.reduceLT, Int.reduceLE, Int.reduceAdd, Int.reduceSub, Int.reduceMul, Int.reduceNeg, Int.reduceToNat, Int.reducePow, Nat.reducePow, reduceCtorEq, reduceIte, if_true, if_false]
    have ht : inB x.s 1 1073741824 = true := by simp [inB]; omega
    have hT : ∀ d, TT 1000 (d + 12) 12 [.agg (eC c), aS s, iV at_, iV x.s] = some (.tup [aS (toldS s at_ x.s), iV 0], []) := fun d => by rw [hT d, show toldP c s at_ x.s = (toldS s at_ x.s, 0) by simp [toldP, f0, ge, ht]]
    have g1 := fun d => e23 1000 d s at_ x.s hs
    have g2 := fun d => same_st d _ (toldS_len (a := at_) (n := x.s) hs)
    generalize toldS s at_ x.s = T at *
    simp only [hH, tS, tE, hT, hI, hG, hL, h1, h2, h3, h4, h5, h6, h7, h8, hz, hw, hw0, hq, takeT, fA, gA, beq_self_eq_true, Bool.not_true, Bool.not_false, decide_true, List.length_map, List.length_nil, List.map_nil, g1, g2, Bool.and_false, decide_eq_false d1, decide_eq_false d2, j3, b3, q3, qq, ww, List.replicate, Nat.reduceBEq, Nat.reduceAdd, Nat.reduceMul, Nat.reduceDiv, Nat.reduceEqDiff, Nat.reduceLeDiff, Nat.reduceLT, Int.reduceEq, Int.reduceNe, Int.reduceLT, Int.reduceLE, Int.reduceAdd, Int.reduceSub, Int.reduceMul, Int.reduceNeg, Int.reduceToNat, Int.reducePow, Nat.reducePow, reduceCtorEq, reduceIte, if_true, if_false]
  | true =>
  rw [hqk] at h5
  have f1 : flowC c s q = 0 := by simp [flowC, hc, hr, hqk]
  rw [f1] at h6
  cases ge : epOK at_ with
  | false =>
    rw [ge] at h7
    have hT : ∀ d, TT 1000 (d + 12) 12 [.agg (eC c), aS s, iV at_, iV x.s] = some (.tup [zS, iV 1], []) := fun d => by rw [hT d, show toldP c s at_ x.s = (s0, 1) by simp [toldP, f0, ge]]; rfl
    have hI : ∀ d, ans (TT 1000 (d + 16) 13 [.agg (eC c), aS s, bV sub, .one (rE q), iV at_, aT x]) = some (.tup [zS, .one (.row []), .one (.row []), iV 1]) := fun d => by rw [hI d, show itemP c s sub q at_ x = ((s0, [], []), 1) by simp [itemP, f1, ge]]; rfl
    have hG : ∀ d, ans (TT 1000 (d + 16) 14 [.agg (eC c), aS s, bV sub, .one (rE q), iV at_, iV x.s, iV to]) = some (.tup [zS, .one (.row []), .one (.row []), iV 1]) := fun d => by rw [hG d, show goneP c s sub q at_ x.s to = ((s0, [], []), 1) by simp [goneP, f1, ge]]; rfl
    simp only [hH, tS, tE, hT, hI, hG, hL, h1, h2, h3, h4, h5, h6, h7, h8, hz, hw, hw0, hq, takeT, fA, gA, beq_self_eq_true, Bool.not_true, Bool.not_false, decide_true, List.length_map, List.length_nil, List.map_nil, Bool.and_self, j3, b3, q3, qq, ww, List.replicate, Nat.reduceBEq, Nat.reduceAdd, Nat.reduceMul, Nat.reduceDiv, Nat.reduceEqDiff, Nat.reduceLeDiff, Nat.reduceLT, Int.reduceEq, Int.reduceNe, Int.reduceLT, Int.reduceLE, Int.reduceAdd, Int.reduceSub, Int.reduceMul, Int.reduceNeg, Int.reduceToNat, Int.reducePow, Nat.reducePow, reduceCtorEq, reduceIte, if_true, if_false]
  | true =>
  rw [ge] at h7
  by_cases d1 : x.s < 1
  · have ht : inB x.s 1 1073741824 = false := by simp [inB]; omega
    have hi : inB x.s 1 1073741823 = false := by simp [inB]; omega
    have hg : decide (1 ≤ x.s) = false := by simp; omega
    have hT : ∀ d, TT 1000 (d + 12) 12 [.agg (eC c), aS s, iV at_, iV x.s] = some (.tup [zS, iV 1], []) := fun d => by rw [hT d, show toldP c s at_ x.s = (s0, 1) by simp [toldP, f0, ge, ht]]; rfl
    have hI : ∀ d, ans (TT 1000 (d + 16) 13 [.agg (eC c), aS s, bV sub, .one (rE q), iV at_, aT x]) = some (.tup [zS, .one (.row []), .one (.row []), iV 1]) := fun d => by rw [hI d, show itemP c s sub q at_ x = ((s0, [], []), 1) by simp [itemP, f1, ge, hi]]; rfl
    have hG : ∀ d, ans (TT 1000 (d + 16) 14 [.agg (eC c), aS s, bV sub, .one (rE q), iV at_, iV x.s, iV to]) = some (.tup [zS, .one (.row []), .one (.row []), iV 1]) := fun d => by rw [hG d, show goneP c s sub q at_ x.s to = ((s0, [], []), 1) by simp [goneP, f1, ge, hg]]; rfl
    simp only [hH, tS, tE, hT, hI, hG, hL, h1, h2, h3, h4, h5, h6, h7, h8, hz, hw, hw0, hq, takeT, fA, gA, beq_self_eq_true, Bool.not_true, Bool.not_false, decide_true, List.length_map, List.length_nil, List.map_nil, Bool.and_self, decide_eq_true d1, j3, b3, q3, qq, ww, List.replicate, Nat.reduceBEq, Nat.reduceAdd, Nat.reduceMul, Nat.reduceDiv, Nat.reduceEqDiff, Nat.reduceLeDiff, Nat.reduceLT, Int.reduceEq, Int.reduceNe, Int.reduceLT, Int.reduceLE, Int.reduceAdd, Int.reduceSub, Int.reduceMul, Int.reduceNeg, Int.reduceToNat, Int.reducePow, Nat.reducePow, reduceCtorEq, reduceIte, if_true, if_false]
  by_cases d2 : x.s > 1073741824
  · have d3 : x.s ≥ 1073741824 := by omega
    have ht : inB x.s 1 1073741824 = false := by simp [inB]; omega
    have hi : inB x.s 1 1073741823 = false := by simp [inB]; omega
    have hT : ∀ d, TT 1000 (d + 12) 12 [.agg (eC c), aS s, iV at_, iV x.s] = some (.tup [zS, iV 1], []) := fun d => by rw [hT d, show toldP c s at_ x.s = (s0, 1) by simp [toldP, f0, ge, ht]]; rfl
    have hI : ∀ d, ans (TT 1000 (d + 16) 13 [.agg (eC c), aS s, bV sub, .one (rE q), iV at_, aT x]) = some (.tup [zS, .one (.row []), .one (.row []), iV 1]) := fun d => by rw [hI d, show itemP c s sub q at_ x = ((s0, [], []), 1) by simp [itemP, f1, ge, hi]]; rfl
    have hg : (decide (x.s ≤ to) && inB to 1 1073741823) = false := by
      cases h : (decide (x.s ≤ to) && inB to 1 1073741823) with
      | false => rfl
      | true => exfalso; simp [inB] at h; omega
    have hG : ∀ d, ans (TT 1000 (d + 16) 14 [.agg (eC c), aS s, bV sub, .one (rE q), iV at_, iV x.s, iV to]) = some (.tup [zS, .one (.row []), .one (.row []), iV 1]) := fun d => by rw [hG d, show goneP c s sub q at_ x.s to = ((s0, [], []), 1) by simp [goneP, f1, ge]; intro h1 h2; simp [h2] at hg; exact hg]; rfl
    by_cases d4 : to < x.s
    · simp only [hH, tS, tE, hT, hI, hG, hL, h1, h2, h3, h4, h5, h6, h7, h8, hz, hw, hw0, hq, takeT, fA, gA, beq_self_eq_true, Bool.not_true, Bool.not_false, decide_true, List.length_map, List.length_nil, List.map_nil, Bool.and_self, decide_eq_false d1, decide_eq_true d2, decide_eq_true d3, decide_eq_true d4, j3, b3, q3, qq, ww, List.replicate, Nat.reduceBEq, Nat.reduceAdd, Nat.reduceMul, Nat.reduceDiv, Nat.reduceEqDiff, Nat.reduceLeDiff, Nat.reduceLT, Int.reduceEq, Int.reduceNe, Int.reduceLT, Int.reduceLE, Int.reduceAdd, Int.reduceSub, Int.reduceMul, Int.reduceNeg, Int.reduceToNat, Int.reducePow, Nat.reducePow, reduceCtorEq, reduceIte, if_true, if_false]
    · have d5 : to ≥ 1073741824 := by omega
      simp only [hH, tS, tE, hT, hI, hG, hL, h1, h2, h3, h4, h5, h6, h7, h8, hz, hw, hw0, hq, takeT, fA, gA, beq_self_eq_true, Bool.not_true, Bool.not_false, decide_true, List.length_map, List.length_nil, List.map_nil, Bool.and_self, decide_eq_false d1, decide_eq_true d2, decide_eq_true d3, decide_eq_false d4, decide_eq_true d5, j3, b3, q3, qq, ww, List.replicate, Nat.reduceBEq, Nat.reduceAdd, Nat.reduceMul, Nat.reduceDiv, Nat.reduceEqDiff, Nat.reduceLeDiff, Nat.reduceLT, Int.reduceEq, Int.reduceNe, Int.reduceLT, Int.reduceLE, Int.reduceAdd, Int.reduceSub, Int.reduceMul, Int.reduceNeg, Int.reduceToNat, Int.reducePow, Nat.reducePow, reduceCtorEq, reduceIte, if_true, if_false]
  have ht : inB x.s 1 1073741824 = true := by simp [inB]; omega
  have hT : ∀ d, TT 1000 (d + 12) 12 [.agg (eC c), aS s, iV at_, iV x.s] = some (.tup [aS (toldS s at_ x.s), iV 0], []) := fun d => by rw [hT d, show toldP c s at_ x.s = (toldS s at_ x.s, 0) by simp [toldP, f0, ge, ht]]
  have g1 := fun d => e23 1000 d s at_ x.s hs
  have g2 := fun d => same_st d _ (toldS_len (a := at_) (n := x.s) hs)
  generalize toldS s at_ x.s = T at *
  by_cases d3 : x.s ≥ 1073741824
  · have hi : inB x.s 1 1073741823 = false := by simp [inB]; omega
    have hI : ∀ d, ans (TT 1000 (d + 16) 13 [.agg (eC c), aS s, bV sub, .one (rE q), iV at_, aT x]) = some (.tup [zS, .one (.row []), .one (.row []), iV 1]) := fun d => by rw [hI d, show itemP c s sub q at_ x = ((s0, [], []), 1) by simp [itemP, f1, ge, hi]]; rfl
    have hg : (decide (x.s ≤ to) && inB to 1 1073741823) = false := by
      cases h : (decide (x.s ≤ to) && inB to 1 1073741823) with
      | false => rfl
      | true => exfalso; simp [inB] at h; omega
    have hG : ∀ d, ans (TT 1000 (d + 16) 14 [.agg (eC c), aS s, bV sub, .one (rE q), iV at_, iV x.s, iV to]) = some (.tup [zS, .one (.row []), .one (.row []), iV 1]) := fun d => by rw [hG d, show goneP c s sub q at_ x.s to = ((s0, [], []), 1) by simp [goneP, f1, ge]; intro h1 h2; simp [h2] at hg; exact hg]; rfl
    by_cases d4 : to < x.s
    · simp only [hH, tS, tE, hT, hI, hG, hL, h1, h2, h3, h4, h5, h6, h7, h8, hz, hw, hw0, hq, takeT, fA, gA, beq_self_eq_true, Bool.not_true, Bool.not_false, decide_true, List.length_map, List.length_nil, List.map_nil, g1, g2, Bool.and_self, decide_eq_false d1, decide_eq_false d2, decide_eq_true d3, decide_eq_true d4, j3, b3, q3, qq, ww, List.replicate, Nat.reduceBEq, Nat.reduceAdd, Nat.reduceMul, Nat.reduceDiv, Nat.reduceEqDiff, Nat.reduceLeDiff, Nat.reduceLT, Int.reduceEq, Int.reduceNe, Int.reduceLT, Int.reduceLE, Int.reduceAdd, Int.reduceSub, Int.reduceMul, Int.reduceNeg, Int.reduceToNat, Int.reducePow, Nat.reducePow, reduceCtorEq, reduceIte, if_true, if_false]
    · have d5 : to ≥ 1073741824 := by omega
      simp only [hH, tS, tE, hT, hI, hG, hL, h1, h2, h3, h4, h5, h6, h7, h8, hz, hw, hw0, hq, takeT, fA, gA, beq_self_eq_true, Bool.not_true, Bool.not_false, decide_true, List.length_map, List.length_nil, List.map_nil, g1, g2, Bool.and_self, decide_eq_false d1, decide_eq_false d2, decide_eq_true d3, decide_eq_false d4, decide_eq_true d5, j3, b3, q3, qq, ww, List.replicate, Nat.reduceBEq, Nat.reduceAdd, Nat.reduceMul, Nat.reduceDiv, Nat.reduceEqDiff, Nat.reduceLeDiff, Nat.reduceLT, Int.reduceEq, Int.reduceNe, Int.reduceLT, Int.reduceLE, Int.reduceAdd, Int.reduceSub, Int.reduceMul, Int.reduceNeg, Int.reduceToNat, Int.reducePow, Nat.reducePow, reduceCtorEq, reduceIte, if_true, if_false]
  have hi : inB x.s 1 1073741823 = true := by simp [inB]; omega
  have hG3 : (to < x.s ∧ decide (x.s ≤ to) = false) ∨ (¬ to < x.s ∧ to ≥ 1073741824 ∧ inB to 1 1073741823 = false) ∨ (¬ to < x.s ∧ ¬ to ≥ 1073741824 ∧ inB to 1 1073741823 = true) := by
    by_cases h : to < x.s
    · exact .inl ⟨h, by simp; omega⟩
    · by_cases h' : to ≥ 1073741824
      · exact .inr (.inl ⟨h, h', by simp [inB]; omega⟩)
      · exact .inr (.inr ⟨h, h', by simp [inB]; omega⟩)
  cases hval : inB x.v 0 2147483647 with
  | false =>
    rw [hval] at h8
    have hI : ∀ d, ans (TT 1000 (d + 16) 13 [.agg (eC c), aS s, bV sub, .one (rE q), iV at_, aT x]) = some (.tup [zS, .one (.row []), .one (.row []), iV 1]) := fun d => by rw [hI d, show itemP c s sub q at_ x = ((s0, [], []), 1) by simp [itemP, f1, ge, hi, hval]]; rfl
    rcases hG3 with ⟨d4, hg⟩ | ⟨d4, d5, hg⟩ | ⟨d4, d5, hg⟩
    · have hG : ∀ d, ans (TT 1000 (d + 16) 14 [.agg (eC c), aS s, bV sub, .one (rE q), iV at_, iV x.s, iV to]) = some (.tup [zS, .one (.row []), .one (.row []), iV 1]) := fun d => by rw [hG d, show goneP c s sub q at_ x.s to = ((s0, [], []), 1) by simp [goneP, f1, ge, hg]]; rfl
      simp only [hH, tS, tE, hT, hI, hG, hL, h1, h2, h3, h4, h5, h6, h7, h8, hz, hw, hw0, hq, takeT, fA, gA, beq_self_eq_true, Bool.not_true, Bool.not_false, decide_true, List.length_map, List.length_nil, List.map_nil, g1, g2, Bool.and_self, decide_eq_false d1, decide_eq_false d2, decide_eq_false d3, decide_eq_true d4, j3, b3, q3, qq, ww, List.replicate, Nat.reduceBEq, Nat.reduceAdd, Nat.reduceMul, Nat.reduceDiv, Nat.reduceEqDiff, Nat.reduceLeDiff, Nat.reduceLT, Int.reduceEq, Int.reduceNe, Int.reduceLT, Int.reduceLE, Int.reduceAdd, Int.reduceSub, Int.reduceMul, Int.reduceNeg, Int.reduceToNat, Int.reducePow, Nat.reducePow, reduceCtorEq, reduceIte, if_true, if_false]
    · have hG : ∀ d, ans (TT 1000 (d + 16) 14 [.agg (eC c), aS s, bV sub, .one (rE q), iV at_, iV x.s, iV to]) = some (.tup [zS, .one (.row []), .one (.row []), iV 1]) := fun d => by rw [hG d, show goneP c s sub q at_ x.s to = ((s0, [], []), 1) by simp [goneP, f1, ge, hg]]; rfl
      simp only [hH, tS, tE, hT, hI, hG, hL, h1, h2, h3, h4, h5, h6, h7, h8, hz, hw, hw0, hq, takeT, fA, gA, beq_self_eq_true, Bool.not_true, Bool.not_false, decide_true, List.length_map, List.length_nil, List.map_nil, g1, g2, Bool.and_self, decide_eq_false d1, decide_eq_false d2, decide_eq_false d3, decide_eq_false d4, decide_eq_true d5, j3, b3, q3, qq, ww, List.replicate, Nat.reduceBEq, Nat.reduceAdd, Nat.reduceMul, Nat.reduceDiv, Nat.reduceEqDiff, Nat.reduceLeDiff, Nat.reduceLT, Int.reduceEq, Int.reduceNe, Int.reduceLT, Int.reduceLE, Int.reduceAdd, Int.reduceSub, Int.reduceMul, Int.reduceNeg, Int.reduceToNat, Int.reducePow, Nat.reducePow, reduceCtorEq, reduceIte, if_true, if_false]
    · have hG : ∀ d, ans (TT 1000 (d + 16) 14 [.agg (eC c), aS s, bV sub, .one (rE q), iV at_, iV x.s, iV to]) = some (fA (goneG c s sub q at_ x.s to, 0)) := fun d => by rw [hG d, show goneP c s sub q at_ x.s to = (goneG c s sub q at_ x.s to, 0) by simp [goneP, f1, ge, hg]; omega]
      have g7 := fun d => e28 1000 d (by omega) c s sub q at_ x.s to f1 ge (by omega)
      have hm := goneG_len (c := c) (s := s) (sub := sub) (q := q) (a := at_) (f := x.s) (t := to) (by omega) (by omega)
      have g8 := fun d => same_st d _ hm.1
      have g9 := fun d => same_ev d _ hm.2.1
      have g10 := fun d => same_it d _ hm.2.2
      generalize goneG c s sub q at_ x.s to = G at *
      simp only [hH, tS, tE, hT, hI, hG, hL, h1, h2, h3, h4, h5, h6, h7, h8, hz, hw, hw0, hq, takeT, fA, gA, beq_self_eq_true, Bool.not_true, Bool.not_false, decide_true, List.length_map, List.length_nil, List.map_nil, g1, g2, Bool.and_self, decide_eq_false d1, decide_eq_false d2, decide_eq_false d3, g7, g8, g9, g10, decide_eq_false d4, decide_eq_false d5, j3, b3, q3, qq, ww, List.replicate, Nat.reduceBEq, Nat.reduceAdd, Nat.reduceMul, Nat.reduceDiv, Nat.reduceEqDiff, Nat.reduceLeDiff, Nat.reduceLT, Int.reduceEq, Int.reduceNe, Int.reduceLT, Int.reduceLE, Int.reduceAdd, Int.reduceSub, Int.reduceMul, Int.reduceNeg, Int.reduceToNat, Int.reducePow, Nat.reducePow, reduceCtorEq, reduceIte, if_true, if_false]
  | true =>
    rw [hval] at h8
    have hI : ∀ d, ans (TT 1000 (d + 16) 13 [.agg (eC c), aS s, bV sub, .one (rE q), iV at_, aT x]) = some (fA (itemG c (if at_ > s.e then ⟨at_, x.s, x.s, [], []⟩ else s) sub q (decide (at_ < s.e)) x, 0)) := fun d => by rw [hI d, show itemP c s sub q at_ x = (itemG c (if at_ > s.e then ⟨at_, x.s, x.s, [], []⟩ else s) sub q (decide (at_ < s.e)) x, 0) by simp [itemP, f1, ge, hi, hval]]
    have g3 := fun d => e25 1000 d (by omega) c s sub q at_ x f1 ge hi hval
    have hl : smL (itemG c (if at_ > s.e then ⟨at_, x.s, x.s, [], []⟩ else s) sub q (decide (at_ < s.e)) x).1 ∧ _ := itemG_len (by split <;> exact ⟨by first | omega | (show 0 ≤ 30; omega), by first | omega | (show 0 ≤ 30; omega)⟩) (by omega)
    have g4 := fun d => same_st d _ hl.1
    have g5 := fun d => same_ev d _ hl.2.1
    have g6 := fun d => same_it d _ hl.2.2
    generalize itemG c (if at_ > s.e then ⟨at_, x.s, x.s, [], []⟩ else s) sub q (decide (at_ < s.e)) x = I at *
    rcases hG3 with ⟨d4, hg⟩ | ⟨d4, d5, hg⟩ | ⟨d4, d5, hg⟩
    · have hG : ∀ d, ans (TT 1000 (d + 16) 14 [.agg (eC c), aS s, bV sub, .one (rE q), iV at_, iV x.s, iV to]) = some (.tup [zS, .one (.row []), .one (.row []), iV 1]) := fun d => by rw [hG d, show goneP c s sub q at_ x.s to = ((s0, [], []), 1) by simp [goneP, f1, ge, hg]]; rfl
      simp only [hH, tS, tE, hT, hI, hG, hL, h1, h2, h3, h4, h5, h6, h7, h8, hz, hw, hw0, hq, takeT, fA, gA, beq_self_eq_true, Bool.not_true, Bool.not_false, decide_true, List.length_map, List.length_nil, List.map_nil, g1, g2, Bool.and_self, decide_eq_false d1, decide_eq_false d2, decide_eq_false d3, g3, g4, g5, g6, decide_eq_true d4, j3, b3, q3, qq, ww, List.replicate, Nat.reduceBEq, Nat.reduceAdd, Nat.reduceMul, Nat.reduceDiv, Nat.reduceEqDiff, Nat.reduceLeDiff, Nat.reduceLT, Int.reduceEq, Int.reduceNe, Int.reduceLT, Int.reduceLE, Int.reduceAdd, Int.reduceSub, Int.reduceMul, Int.reduceNeg, Int.reduceToNat, Int.reducePow, Nat.reducePow, reduceCtorEq, reduceIte, if_true, if_false]
    · have hG : ∀ d, ans (TT 1000 (d + 16) 14 [.agg (eC c), aS s, bV sub, .one (rE q), iV at_, iV x.s, iV to]) = some (.tup [zS, .one (.row []), .one (.row []), iV 1]) := fun d => by rw [hG d, show goneP c s sub q at_ x.s to = ((s0, [], []), 1) by simp [goneP, f1, ge, hg]]; rfl
      simp only [hH, tS, tE, hT, hI, hG, hL, h1, h2, h3, h4, h5, h6, h7, h8, hz, hw, hw0, hq, takeT, fA, gA, beq_self_eq_true, Bool.not_true, Bool.not_false, decide_true, List.length_map, List.length_nil, List.map_nil, g1, g2, Bool.and_self, decide_eq_false d1, decide_eq_false d2, decide_eq_false d3, g3, g4, g5, g6, decide_eq_false d4, decide_eq_true d5, j3, b3, q3, qq, ww, List.replicate, Nat.reduceBEq, Nat.reduceAdd, Nat.reduceMul, Nat.reduceDiv, Nat.reduceEqDiff, Nat.reduceLeDiff, Nat.reduceLT, Int.reduceEq, Int.reduceNe, Int.reduceLT, Int.reduceLE, Int.reduceAdd, Int.reduceSub, Int.reduceMul, Int.reduceNeg, Int.reduceToNat, Int.reducePow, Nat.reducePow, reduceCtorEq, reduceIte, if_true, if_false]
    · have hG : ∀ d, ans (TT 1000 (d + 16) 14 [.agg (eC c), aS s, bV sub, .one (rE q), iV at_, iV x.s, iV to]) = some (fA (goneG c s sub q at_ x.s to, 0)) := fun d => by rw [hG d, show goneP c s sub q at_ x.s to = (goneG c s sub q at_ x.s to, 0) by simp [goneP, f1, ge, hg]; omega]
      have g7 := fun d => e28 1000 d (by omega) c s sub q at_ x.s to f1 ge (by omega)
      have hm := goneG_len (c := c) (s := s) (sub := sub) (q := q) (a := at_) (f := x.s) (t := to) (by omega) (by omega)
      have g8 := fun d => same_st d _ hm.1
      have g9 := fun d => same_ev d _ hm.2.1
      have g10 := fun d => same_it d _ hm.2.2
      generalize goneG c s sub q at_ x.s to = G at *
      simp only [hH, tS, tE, hT, hI, hG, hL, h1, h2, h3, h4, h5, h6, h7, h8, hz, hw, hw0, hq, takeT, fA, gA, beq_self_eq_true, Bool.not_true, Bool.not_false, decide_true, List.length_map, List.length_nil, List.map_nil, g1, g2, Bool.and_self, decide_eq_false d1, decide_eq_false d2, decide_eq_false d3, g3, g4, g5, g6, g7, g8, g9, g10, decide_eq_false d4, decide_eq_false d5, j3, b3, q3, qq, ww, List.replicate, Nat.reduceBEq, Nat.reduceAdd, Nat.reduceMul, Nat.reduceDiv, Nat.reduceEqDiff, Nat.reduceLeDiff, Nat.reduceLT, Int.reduceEq, Int.reduceNe, Int.reduceLT, Int.reduceLE, Int.reduceAdd, Int.reduceSub, Int.reduceMul, Int.reduceNeg, Int.reduceToNat, Int.reducePow, Nat.reducePow, reduceCtorEq, reduceIte, if_true, if_false]
end Go.Proofs.YtkfcbpbnoeaheaaGreatDoor.FA
