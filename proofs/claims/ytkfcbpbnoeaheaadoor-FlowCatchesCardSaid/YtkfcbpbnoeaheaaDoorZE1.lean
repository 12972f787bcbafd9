/- Texts joined: EC ED QA QB QC QD QE QF AA AB AC AD AE AF AG AH FA FB FC FD FE FF FG FH FI FJ FK FP FQ FL EE FT FV FW. -/
import Derived.Test.YtkfcbpbnoeaheaaDoorZI1
import Derived.IntWalk
set_option linter.unusedVariables false
set_option linter.unusedSimpArgs false
namespace Go.Proofs.YtkfcbpbnoeaheaaDoor.EC
open Go Go.Proofs.YtkfcbpbnoeaheaaDoorR Go.Proofs.YtkfcbpbnoeaheaaDoor.IF Go.Proofs.YtkfcbpbnoeaheaaDoor.EA
set_option maxRecDepth 100000
set_option maxHeartbeats 4000000
theorem e61 (N d : Nat) (s : ByteArray) (n lo hi e : Int) : TT N (d + 1) 61 [.one (.k (.string s)), iV n, iV lo, iV hi, iV e] = some (.one (oV (if lo ≤ n ∧ n ≤ hi then none else some (s, e))), []) := by
  rw [t61, F_ev rfl]
  simp only [j61, b61, q61, qq, ww, List.replicate, Nat.reduceBEq, Nat.reduceAdd, Nat.reduceMul, Nat.reduceDiv, Nat.reduceEqDiff, Nat.reduceLeDiff, Nat.reduceLT, Int.reduceEq, Int.reduceNe, Int.reduceLT, Int.reduceLE, Int.reduceAdd, Int.reduceSub, Int.reduceMul, Int.reduceNeg, Int.reduceToNat, Int.reducePow, Nat.reducePow, reduceCtorEq, reduceIte, if_true, if_false]
  refine fin_cases (fun h1 => ?_) (fun h1 => ?_) <;> simp only [h1, blkMents, Blk.mentB, j61, b61, q61, qq, ww, List.replicate, Nat.reduceBEq, Nat.reduceAdd, Nat.reduceMul, Nat.reduceDiv, Nat.reduceEqDiff, Nat.reduceLeDiff, Nat.reduceLT, Int.reduceEq, Int.reduceNe, Int.reduceLT, Int.reduceLE, Int.reduceAdd, Int.reduceSub, Int.reduceMul, Int.reduceNeg, Int.reduceToNat, Int.reducePow, Nat.reducePow, reduceCtorEq, reduceIte, if_true, if_false]
  · have h1 : n < lo := by simpa using h1
    rw [if_neg (by omega)]
    rfl
  · have h1 : ¬ n < lo := by simpa using h1
    refine fin_cases (fun h2 => ?_) (fun h2 => ?_) <;> simp only [h2, blkMents, Blk.mentB, j61, b61, q61, qq, ww, List.replicate, Nat.reduceBEq, Nat.reduceAdd, Nat.reduceMul, Nat.reduceDiv, Nat.reduceEqDiff, Nat.reduceLeDiff, Nat.reduceLT, Int.reduceEq, Int.reduceNe, Int.reduceLT, Int.reduceLE, Int.reduceAdd, Int.reduceSub, Int.reduceMul, Int.reduceNeg, Int.reduceToNat, Int.reducePow, Nat.reducePow, reduceCtorEq, reduceIte, if_true, if_false]
    · have h2 : hi < n := by simpa using h2
      rw [if_neg (by omega)]
      rfl
    · have h2 : ¬ hi < n := by simpa using h2
      rw [if_pos (by omega)]
      rfl
theorem e60 (N d : Nat) (os : List Ow) (hN : os.length < N) (hl : os.length < 1000000) : TT N (d + 1) 60 [.one (.row (oR os))] = some (.one (joinV os), []) := by
  have hol : (oR os).length = os.length := by simp [oR]
  have hget : ∀ {i : Nat} (h : i < os.length), (oR os)[i]? = some [oV os[i]] := fun h => by simp [oR, h]
  have hle := oks_le os
  rw [t60, F_ev rfl]
  simp only [j60, b60, q60, qq, ww, List.replicate, Nat.reduceBEq, Nat.reduceAdd, Nat.reduceMul, Nat.reduceDiv, Nat.reduceEqDiff, Nat.reduceLeDiff, Nat.reduceLT, Int.reduceEq, Int.reduceNe, Int.reduceLT, Int.reduceLE, Int.reduceAdd, Int.reduceSub, Int.reduceMul, Int.reduceNeg, Int.reduceToNat, Int.reducePow, Nat.reducePow, reduceCtorEq, reduceIte, if_true, if_false]
  refine loopK (K := fun o => fin _ (aft _ _ _ o)) (fun i => ⟨[(0, .one (.row (oR os))), (3, iV (oks (os.take i)).length), (9, .one (.row (oR os))), (10, iV (oR os).length), (11, iV i)], []⟩) (fun i => some (.one (joinV os), [])) os.length ?hr os.length 0 N _ (by omega) hN ?hk
  case hk => simp only [gcK, lowB, Nat.reduceLeDiff, Nat.reduceBEq, List.contains_nil, List.contains_cons, Bool.or_false, Bool.false_or, Bool.false_eq_true, if_false, Bool.true_and, Bool.and_true, pickL, look_hit, look_miss, look_end, slMent, hpMent, S.ment, S.ment.smt, ments, V.ment, List.append_nil, List.nil_append, List.cons_append, List.all_nil, List.all_cons, Option.isSome_some, Bool.and_self, if_true, reduceIte, Nat.reduceEqDiff, not_false_eq_true, reduceCtorEq, Nat.reduceMul, Nat.reduceAdd]; rfl
  case hr =>
    intro i q hi ih
    (try dsimp only)
    by_cases hlt : i < os.length
    · have g1 : decide ((i : Int) < ((oR os).length : Int)) = true := by rw [hol]; simp; omega
      have hb : 0 ≤ (i : Int) ∧ (i : Int) < ((oR os).length : Int) := by rw [hol]; omega
      have hs := hget hlt
      have hst := oks_s hlt
      have hti := oks_le (os.take i)
      rw [List.length_take] at hti
      cases ho : os[i] with
      | none =>
        rw [ho] at hs hst
        simp only [oV] at hs
        simp only [g1, hb.1, hb.2, hs, wi i (by omega), Int.toNat_natCast, j60, b60, q60, qq, ww, List.replicate, Nat.reduceBEq, Nat.reduceAdd, Nat.reduceMul, Nat.reduceDiv, Nat.reduceEqDiff, Nat.reduceLeDiff, Nat.reduceLT, Int.reduceEq, Int.reduceNe, Int.reduceLT, Int.reduceLE, Int.reduceAdd, Int.reduceSub, Int.reduceMul, Int.reduceNeg, Int.reduceToNat, Int.reducePow, Nat.reducePow, reduceCtorEq, reduceIte, if_true, if_false]
        exact ih hlt _ (by simp only [hst, List.append_nil, gcK, lowB, Nat.reduceLeDiff, Nat.reduceBEq, List.contains_nil, List.contains_cons, Bool.or_false, Bool.false_or, Bool.false_eq_true, if_false, Bool.true_and, Bool.and_true, pickL, look_hit, look_miss, look_end, slMent, hpMent, S.ment, S.ment.smt, ments, V.ment, List.append_nil, List.nil_append, List.cons_append, List.all_nil, List.all_cons, Option.isSome_some, Bool.and_self, if_true, reduceIte, Nat.reduceEqDiff, not_false_eq_true, reduceCtorEq, Nat.reduceMul, Nat.reduceAdd])
      | some p =>
        rw [ho] at hs hst
        simp only [oV] at hs
        simp only [g1, hb.1, hb.2, hs, wi i (by omega), wi (oks (os.take i)).length (by omega), Int.toNat_natCast, j60, b60, q60, qq, ww, List.replicate, Nat.reduceBEq, Nat.reduceAdd, Nat.reduceMul, Nat.reduceDiv, Nat.reduceEqDiff, Nat.reduceLeDiff, Nat.reduceLT, Int.reduceEq, Int.reduceNe, Int.reduceLT, Int.reduceLE, Int.reduceAdd, Int.reduceSub, Int.reduceMul, Int.reduceNeg, Int.reduceToNat, Int.reducePow, Nat.reducePow, reduceCtorEq, reduceIte, if_true, if_false]
        exact ih hlt _ (by simp only [hst, List.length_append, List.length_cons, List.length_nil, Nat.zero_add, gcK, lowB, Nat.reduceLeDiff, Nat.reduceBEq, List.contains_nil, List.contains_cons, Bool.or_false, Bool.false_or, Bool.false_eq_true, if_false, Bool.true_and, Bool.and_true, pickL, look_hit, look_miss, look_end, slMent, hpMent, S.ment, S.ment.smt, ments, V.ment, List.append_nil, List.nil_append, List.cons_append, List.all_nil, List.all_cons, Option.isSome_some, Bool.and_self, if_true, reduceIte, Nat.reduceEqDiff, not_false_eq_true, reduceCtorEq, Nat.reduceMul, Nat.reduceAdd])
    · clear ih
      obtain rfl : i = os.length := by omega
      have g1 : decide ((os.length : Int) < ((oR os).length : Int)) = false := by rw [hol]; simp
      rw [List.take_length]
      by_cases h0 : (oks os).length = 0
      · have g2 : decide (((oks os).length : Int) = 0) = true := decide_eq_true (by omega)
        rw [joinV, if_pos h0]
        simp only [g1, g2, j60, b60, q60, qq, ww, List.replicate, Nat.reduceBEq, Nat.reduceAdd, Nat.reduceMul, Nat.reduceDiv, Nat.reduceEqDiff, Nat.reduceLeDiff, Nat.reduceLT, Int.reduceEq, Int.reduceNe, Int.reduceLT, Int.reduceLE, Int.reduceAdd, Int.reduceSub, Int.reduceMul, Int.reduceNeg, Int.reduceToNat, Int.reducePow, Nat.reducePow, reduceCtorEq, reduceIte, if_true, if_false]
      · have g2 : decide (((oks os).length : Int) = 0) = false := decide_eq_false (by omega)
        have hby : ((oks os).length : Int) * 16 ≤ 140737488355328 := by omega
        have hz : (0 : Int) ≤ ((oks os).length : Int) := by omega
        rw [joinV, if_neg h0]
        simp only [g1, g2, hby, hz, blkMents, Blk.mentB, j60, b60, q60, qq, ww, List.replicate, Nat.reduceBEq, Nat.reduceAdd, Nat.reduceMul, Nat.reduceDiv, Nat.reduceEqDiff, Nat.reduceLeDiff, Nat.reduceLT, Int.reduceEq, Int.reduceNe, Int.reduceLT, Int.reduceLE, Int.reduceAdd, Int.reduceSub, Int.reduceMul, Int.reduceNeg, Int.reduceToNat, Int.reducePow, Nat.reducePow, reduceCtorEq, reduceIte, if_true, if_false]
        refine loopK (K := fun o => fin _ (aft _ _ _ o)) (fun i => ⟨[(6, .one (.ref 1600 0 0)), (26, .one (.row (oR os))), (27, iV (oR os).length), (28, iV i)], [(1600, .box [.sl 1472 0 (oks (os.take i)).length]), (1472, .rows 83 1 (wR (oks (os.take i))))]⟩) (fun i => some (.one (jV (wR (oks os))), [])) os.length ?hr2 os.length 0 N _ (by omega) hN ?hk2
        case hk2 => simp only [gcK, lowB, Nat.reduceLeDiff, Nat.reduceBEq, List.contains_nil, List.contains_cons, Bool.or_false, Bool.false_or, Bool.false_eq_true, if_false, Bool.true_and, Bool.and_true, pickL, look_hit, look_miss, look_end, slMent, hpMent, S.ment, S.ment.smt, ments, V.ment, List.append_nil, List.nil_append, List.cons_append, List.all_nil, List.all_cons, Option.isSome_some, Bool.and_self, if_true, reduceIte, Nat.reduceEqDiff, not_false_eq_true, reduceCtorEq, Nat.reduceMul, Nat.reduceAdd]; rfl
        case hr2 =>
          intro j q2 hj ih
          (try dsimp only)
          have htj := oks_le (os.take j)
          rw [List.length_take] at htj
          have hwl : (wR (oks (os.take j))).length = (oks (os.take j)).length := by simp [wR]
          have htk : List.take (oks (os.take j)).length (wR (oks (os.take j))) = wR (oks (os.take j)) := List.take_of_length_le (by omega)
          by_cases hlt : j < os.length
          · have g1 : decide ((j : Int) < ((oR os).length : Int)) = true := by rw [hol]; simp; omega
            have hb : 0 ≤ (j : Int) ∧ (j : Int) < ((oR os).length : Int) := by rw [hol]; omega
            have hs := hget hlt
            have hst := oks_s hlt
            cases ho : os[j] with
            | none =>
              rw [ho] at hs hst
              simp only [oV] at hs
              simp only [g1, hb.1, hb.2, hs, wi j (by omega), Int.toNat_natCast, j60, b60, q60, qq, ww, List.replicate, Nat.reduceBEq, Nat.reduceAdd, Nat.reduceMul, Nat.reduceDiv, Nat.reduceEqDiff, Nat.reduceLeDiff, Nat.reduceLT, Int.reduceEq, Int.reduceNe, Int.reduceLT, Int.reduceLE, Int.reduceAdd, Int.reduceSub, Int.reduceMul, Int.reduceNeg, Int.reduceToNat, Int.reducePow, Nat.reducePow, reduceCtorEq, reduceIte, if_true, if_false]
              exact ih hlt _ (by simp only [hst, List.append_nil, gcK, lowB, Nat.reduceLeDiff, Nat.reduceBEq, List.contains_nil, List.contains_cons, Bool.or_false, Bool.false_or, Bool.false_eq_true, if_false, Bool.true_and, Bool.and_true, pickL, look_hit, look_miss, look_end, slMent, hpMent, S.ment, S.ment.smt, ments, V.ment, List.append_nil, List.nil_append, List.cons_append, List.all_nil, List.all_cons, Option.isSome_some, Bool.and_self, if_true, reduceIte, Nat.reduceEqDiff, not_false_eq_true, reduceCtorEq, Nat.reduceMul, Nat.reduceAdd])
            | some p =>
              rw [ho] at hs hst
              simp only [oV] at hs
              have hby2 : ((oks (os.take j)).length + 1) * 16 ≤ 140737488355328 := by omega
              have hwa : wR (oks (os.take j) ++ [p]) = wR (oks (os.take j)) ++ [[wV p.1 p.2]] := by simp [wR]
              simp only [g1, hb.1, hb.2, hs, hwl, htk, hby2, wi j (by omega), Int.toNat_natCast, Nat.le_refl, BEq.rfl, j60, b60, q60, qq, ww, List.replicate, Nat.reduceBEq, Nat.reduceAdd, Nat.reduceMul, Nat.reduceDiv, Nat.reduceEqDiff, Nat.reduceLeDiff, Nat.reduceLT, Int.reduceEq, Int.reduceNe, Int.reduceLT, Int.reduceLE, Int.reduceAdd, Int.reduceSub, Int.reduceMul, Int.reduceNeg, Int.reduceToNat, Int.reducePow, Nat.reducePow, reduceCtorEq, reduceIte, if_true, if_false]
              exact ih hlt _ (by simp only [hst, hwa, List.length_append, List.length_cons, List.length_nil, Nat.zero_add, gcK, lowB, Nat.reduceLeDiff, Nat.reduceBEq, List.contains_nil, List.contains_cons, Bool.or_false, Bool.false_or, Bool.false_eq_true, if_false, Bool.true_and, Bool.and_true, pickL, look_hit, look_miss, look_end, slMent, hpMent, S.ment, S.ment.smt, ments, V.ment, List.append_nil, List.nil_append, List.cons_append, List.all_nil, List.all_cons, Option.isSome_some, Bool.and_self, if_true, reduceIte, Nat.reduceEqDiff, not_false_eq_true, reduceCtorEq, Nat.reduceMul, Nat.reduceAdd])
          · obtain rfl : j = os.length := by omega
            have g1 : decide ((os.length : Int) < ((oR os).length : Int)) = false := by rw [hol]; simp
            rw [List.take_length] at hwl htk ⊢
            simp only [g1, blkMents, Blk.mentB, j60, b60, q60, qq, ww, List.replicate, Nat.reduceBEq, Nat.reduceAdd, Nat.reduceMul, Nat.reduceDiv, Nat.reduceEqDiff, Nat.reduceLeDiff, Nat.reduceLT, Int.reduceEq, Int.reduceNe, Int.reduceLT, Int.reduceLE, Int.reduceAdd, Int.reduceSub, Int.reduceMul, Int.reduceNeg, Int.reduceToNat, Int.reducePow, Nat.reducePow, reduceCtorEq, reduceIte, if_true, if_false]
            simp only [hwl, htk, Nat.le_refl, j60, b60, q60, qq, ww, List.replicate, Nat.reduceBEq, Nat.reduceAdd, Nat.reduceMul, Nat.reduceDiv, Nat.reduceEqDiff, Nat.reduceLeDiff, Nat.reduceLT, Int.reduceEq, Int.reduceNe, Int.reduceLT, Int.reduceLE, Int.reduceAdd, Int.reduceSub, Int.reduceMul, Int.reduceNeg, Int.reduceToNat, Int.reducePow, Nat.reducePow, reduceCtorEq, reduceIte, if_true, if_false]
end Go.Proofs.YtkfcbpbnoeaheaaDoor.EC
namespace Go.Proofs.YtkfcbpbnoeaheaaDoor.EC
open Go Go.Proofs.YtkfcbpbnoeaheaaDoorR Go.Proofs.YtkfcbpbnoeaheaaDoor.IF Go.Proofs.YtkfcbpbnoeaheaaDoor.EA
set_option maxRecDepth 100000
set_option maxHeartbeats 4000000
/-- A config, a step. -/
structure Cf where
  (n t k d p w q : Int)
structure Sp where
  (k n t v m : Int)
abbrev eC (c : Cf) : List V := [.int .i64 c.n, .int .i64 c.t, .int .i64 c.k, .int .i64 c.d, .int .i64 c.p, .int .i64 c.w, .int .i64 c.q]
abbrev eP (s : Sp) : List V := [.int .i64 s.k, .int .i64 s.n, .int .i64 s.t, .int .i64 s.v, .int .i64 s.m]
theorem oV_live (o : Ow) : V.live (oV o) = true := by rcases o with _ | ⟨s, e⟩ <;> rfl
theorem oV_ment (o : Ow) : V.ment (oV o) = none := by rcases o with _ | ⟨s, e⟩ <;> rfl
theorem jo_ment (os : List Ow) : V.ment (joinV os) = none := by
  unfold joinV
  split <;> rfl
theorem oV_pur (o : Ow) (h : Nat → Option Blk) : V.pur h (oV o) = some (oV o) := by rcases o with _ | ⟨s, e⟩ <;> rfl
theorem oV_pur1 (o : Ow) (h : Nat → Option Blk) : V.pur1 h (oV o) = some (oV o) := by rcases o with _ | ⟨s, e⟩ <;> rfl
theorem jo_pur (os : List Ow) (h : Nat → Option Blk) : V.pur h (joinV os) = some (joinV os) := by
  unfold joinV
  split <;> rfl
theorem jo_hand (os : List Ow) (h : Nat → Option Blk) (m k : Nat) (u : List Nat) : handS h m u k (.one (joinV os)) = some (.one (joinV os), u, k + 1, []) := by
  unfold joinV
  split
  · rfl
  · cases u <;> rfl
theorem oV_hand (o : Ow) (h : Nat → Option Blk) (m k : Nat) (u : List Nat) : handS h m u k (.one (oV o)) = some (.one (oV o), u, k + 1, []) := by rcases o with _ | ⟨s, e⟩ <;> rfl
theorem jo_live (os : List Ow) : V.live (joinV os) = true := by
  unfold joinV
  split <;> rfl
theorem whys_w : ∀ ws : List (ByteArray × Int), whys (wR ws) = some (ws.map (·.2))
  | [] => rfl
  | p :: r => by
    have := whys_w r
    simp only [wR] at this
    simp [wR, whys, why1, this]
/-- What errno makes of wrong ones. -/
def errW : List (ByteArray × Int) → Int
  | [] => 0
  | p :: r => if ((p :: r).map (·.2)).any (fun x => decide (x = 9)) then 9 else p.2
theorem errno_j (os : List Ow) (h : os.length < 1000) : XE.errnoM [.one (joinV os)] = some (iV (errW (oks os)), []) := by
  have hle := oks_le os
  unfold joinV
  by_cases h0 : (oks os).length = 0
  · rw [if_pos h0, List.eq_nil_of_length_eq_zero h0]; rfl
  · rw [if_neg h0]
    cases hq : oks os with
    | nil => rw [hq] at h0; exact absurd rfl h0
    | cons p r =>
      rw [hq] at hle
      simp only [List.length_cons] at hle
      have hw := whys_w (p :: r)
      rw [List.map_cons] at hw
      simp only [XE.errnoM, hw, List.length_map]
      rw [if_pos (by omega)]
      rfl
theorem errno_o (o : Ow) : XE.errnoM [.one (oV o)] = some (iV (match o with | none => 0 | some p => p.2), []) := by rcases o with _ | ⟨s, e⟩ <;> rfl
abbrev fl (s : ByteArray) (n lo hi e : Int) : Ow := if lo ≤ n ∧ n ≤ hi then none else some (s, e)
abbrev cfl (c : Cf) : List Ow := [fl ⟨#[110, 111, 100, 101, 115]⟩ c.n 1 8 13, fl ⟨#[116, 111, 112, 105, 99, 115]⟩ c.t 1 4 13, fl ⟨#[107, 105, 100, 115]⟩ c.k 1 4 13, fl ⟨#[100, 101, 112, 116, 104]⟩ c.d 1 8 13, fl ⟨#[107, 101, 101, 112]⟩ c.p 1 16 13, fl ⟨#[119, 105, 110, 100, 111, 119]⟩ c.w 1 16 13, fl ⟨#[113, 117, 101, 117, 101]⟩ c.q 2 32 13]
theorem e46 (N d : Nat) (c : Cf) (hN : 7 < N) : TT N (d + 2) 46 [.agg (eC c)] = some (.one (joinV (cfl c)), []) := by
  have h30 := fun d s n lo hi e => e61 N d s n lo hi e
  have h29 : ∀ d, TT N (d + 1) 60 [.one (.row [[oV (fl ⟨#[110, 111, 100, 101, 115]⟩ c.n 1 8 13)], [oV (fl ⟨#[116, 111, 112, 105, 99, 115]⟩ c.t 1 4 13)], [oV (fl ⟨#[107, 105, 100, 115]⟩ c.k 1 4 13)], [oV (fl ⟨#[100, 101, 112, 116, 104]⟩ c.d 1 8 13)], [oV (fl ⟨#[107, 101, 101, 112]⟩ c.p 1 16 13)], [oV (fl ⟨#[119, 105, 110, 100, 111, 119]⟩ c.w 1 16 13)], [oV (fl ⟨#[113, 117, 101, 117, 101]⟩ c.q 2 32 13)]])] = some (.one (joinV (cfl c)), []) := fun d => e60 N d (cfl c) (by simpa using hN) (by simp)
  rw [t46, F_ev rfl]
  simp only [h30, h29, ↓oV_pur, ↓oV_pur1, ↓jo_pur, ↓oV_live, ↓oV_ment, ↓jo_hand, ↓oV_hand, ↓jo_live, ↓jo_ment, j46, b46, q46, qq, ww, List.replicate, Nat.reduceBEq, Nat.reduceAdd, Nat.reduceMul, Nat.reduceDiv, Nat.reduceEqDiff, Nat.reduceLeDiff, Nat.reduceLT, Int.reduceEq, Int.reduceNe, Int.reduceLT, Int.reduceLE, Int.reduceAdd, Int.reduceSub, Int.reduceMul, Int.reduceNeg, Int.reduceToNat, Int.reducePow, Nat.reducePow, reduceCtorEq, reduceIte, if_true, if_false]
/-- In bounds. -/
def okC (c : Cf) : Bool := decide ((1 ≤ c.n ∧ c.n ≤ 8) ∧ (1 ≤ c.t ∧ c.t ≤ 4) ∧ (1 ≤ c.k ∧ c.k ≤ 4) ∧ (1 ≤ c.d ∧ c.d ≤ 8) ∧ (1 ≤ c.p ∧ c.p ≤ 16) ∧ (1 ≤ c.w ∧ c.w ≤ 16) ∧ (2 ≤ c.q ∧ c.q ≤ 32))
theorem errW_13 : ∀ ws : List (ByteArray × Int), (∀ p ∈ ws, p.2 = 13) → errW ws = if ws = [] then 0 else 13
  | [], _ => rfl
  | p :: r, h => by
    have h1 : ((p :: r).map (·.2)).any (fun x => decide (x = 9)) = false := by
      rw [List.any_eq_false]
      intro x hx
      obtain ⟨q, hq, rfl⟩ := List.mem_map.1 hx
      simp [h q hq]
    rw [errW, h1, if_neg (by decide), if_neg (by simp)]
    exact h p (by simp)
theorem errW_c (c : Cf) : errW (oks (cfl c)) = if okC c then 0 else 13 := by
  rw [errW_13]
  · congr 1
    apply propext
    simp only [okC, oks, decide_eq_true_eq, List.filterMap_eq_nil_iff]
    constructor
    · intro h
      refine ⟨?_, ?_, ?_, ?_, ?_, ?_, ?_⟩
      all_goals (apply Decidable.byContradiction; intro hc)
      · have := h (fl ⟨#[110, 111, 100, 101, 115]⟩ c.n 1 8 13) (by simp); rw [fl, if_neg hc] at this; cases this
      · have := h (fl ⟨#[116, 111, 112, 105, 99, 115]⟩ c.t 1 4 13) (by simp); rw [fl, if_neg hc] at this; cases this
      · have := h (fl ⟨#[107, 105, 100, 115]⟩ c.k 1 4 13) (by simp); rw [fl, if_neg hc] at this; cases this
      · have := h (fl ⟨#[100, 101, 112, 116, 104]⟩ c.d 1 8 13) (by simp); rw [fl, if_neg hc] at this; cases this
      · have := h (fl ⟨#[107, 101, 101, 112]⟩ c.p 1 16 13) (by simp); rw [fl, if_neg hc] at this; cases this
      · have := h (fl ⟨#[119, 105, 110, 100, 111, 119]⟩ c.w 1 16 13) (by simp); rw [fl, if_neg hc] at this; cases this
      · have := h (fl ⟨#[113, 117, 101, 117, 101]⟩ c.q 2 32 13) (by simp); rw [fl, if_neg hc] at this; cases this
    · rintro ⟨h1, h2, h3, h4, h5, h6, h7⟩ o ho
      simp only [fl, if_pos h1, if_pos h2, if_pos h3, if_pos h4, if_pos h5, if_pos h6, if_pos h7, List.mem_cons, List.not_mem_nil, or_false, or_self] at ho
      subst ho
      rfl
  · intro p hp
    simp only [oks, List.mem_filterMap, id] at hp
    obtain ⟨o, ho, rfl⟩ := hp
    simp only [List.mem_cons, List.not_mem_nil, or_false, fl] at ho
    rcases ho with h | h | h | h | h | h | h <;> split at h <;> first | (cases h; rfl) | cases h
theorem e29 (N d : Nat) (c : Cf) (hN : 7 < N) : TT N (d + 3) 29 [.agg (eC c)] = some (iV (if okC c then 0 else 13), []) := by
  have h24 := fun d => e46 N d c hN
  have h23 : ∀ d, TT N (d + 1) 45 [.one (joinV (cfl c))] = some (iV (if okC c then 0 else 13), []) := fun d => by
    rw [t45, errno_j _ (by simp), errW_c]
  rw [t29, F_ev rfl]
  simp only [h24, h23, ↓jo_pur, ↓jo_hand, ↓oV_hand, ↓jo_live, ↓jo_ment, j29, b29, q29, qq, ww, List.replicate, Nat.reduceBEq, Nat.reduceAdd, Nat.reduceMul, Nat.reduceDiv, Nat.reduceEqDiff, Nat.reduceLeDiff, Nat.reduceLT, Int.reduceEq, Int.reduceNe, Int.reduceLT, Int.reduceLE, Int.reduceAdd, Int.reduceSub, Int.reduceMul, Int.reduceNeg, Int.reduceToNat, Int.reducePow, Nat.reducePow, reduceCtorEq, reduceIte, if_true, if_false]
end Go.Proofs.YtkfcbpbnoeaheaaDoor.EC
namespace Go.Proofs.YtkfcbpbnoeaheaaDoor.QA
open Go Go.Proofs.YtkfcbpbnoeaheaaDoorR Go.Proofs.YtkfcbpbnoeaheaaDoor.IF
set_option maxRecDepth 100000
structure Ev where
  (k e s l v c : Int)
  deriving DecidableEq
abbrev eE (x : Ev) : List V := [.int .i64 x.k, .int .i64 x.e, .int .i64 x.s, .int .i64 x.l, .int .i64 x.v, .int .i64 x.c]
abbrev aE (x : Ev) : S := .agg (eE x)
abbrev rE (l : List Ev) : V := .row (l.map eE)
def inB (n lo hi : Int) : Bool := decide (lo ≤ n) && decide (n ≤ hi)
/-- An epoch. -/
def epOK (n : Int) : Bool := inB n 1 1073741824 && decide (n.tmod 16 < 8)
abbrev pl (x : Ev) : Bool := epOK x.e && inB x.s 1 1073741824
/-- Is an event right? -/
def evOK (x : Ev) : Bool :=
  if x.k = 1 then pl x && inB x.v 0 2147483647 && decide (x.l = 0) && decide (x.c = 0)
  else if x.k = 2 then pl x && inB x.l x.s 1073741824 && decide (x.v = 0) && decide (x.c = 0)
  else if x.k = 3 then inB x.c 1 40 && inB x.v 0 7 && decide (x.e = 0) && decide (x.s = 0) && decide (x.l = 0)
  else if x.k = 4 then inB x.c 1 40 && decide (x.v = 0) && decide (x.e = 0) && decide (x.s = 0) && decide (x.l = 0)
  else if x.k = 5 then decide (x.c = 0) && decide (x.v = 0) && decide (x.e = 0) && decide (x.s = 0) && decide (x.l = 0)
  else false
theorem e36 (N d) (n lo hi) : TT N (d + 1) 36 [iV n, iV lo, iV hi] = some (bV (inB n lo hi), []) := by
  rw [t36, F_ev rfl]
  simp only [j36, b36, q36, qq, ww, List.replicate, Nat.reduceBEq, Nat.reduceAdd, Nat.reduceMul, Nat.reduceDiv, Nat.reduceEqDiff, Nat.reduceLeDiff, Nat.reduceLT, Int.reduceEq, Int.reduceNe, Int.reduceLT, Int.reduceLE, Int.reduceAdd, Int.reduceSub, Int.reduceMul, Int.reduceNeg, Int.reduceToNat, Int.reducePow, Nat.reducePow, reduceCtorEq, reduceIte, if_true, if_false]
  repeat' (refine fin_cases (fun h1 => ?_) (fun h1 => ?_) <;> simp only [h1, j36, b36, q36, qq, ww, List.replicate, Nat.reduceBEq, Nat.reduceAdd, Nat.reduceMul, Nat.reduceDiv, Nat.reduceEqDiff, Nat.reduceLeDiff, Nat.reduceLT, Int.reduceEq, Int.reduceNe, Int.reduceLT, Int.reduceLE, Int.reduceAdd, Int.reduceSub, Int.reduceMul, Int.reduceNeg, Int.reduceToNat, Int.reducePow, Nat.reducePow, reduceCtorEq, reduceIte, if_true, if_false])
  all_goals grind [inB]
theorem e20 (N d) (n) : TT N (d + 2) 20 [iV n] = some (bV (inB n 1 1073741824), []) := by
  rw [t20, F_ev rfl]
  simp only [e36, j20, b20, q20, qq, ww, List.replicate, Nat.reduceBEq, Nat.reduceAdd, Nat.reduceMul, Nat.reduceDiv, Nat.reduceEqDiff, Nat.reduceLeDiff, Nat.reduceLT, Int.reduceEq, Int.reduceNe, Int.reduceLT, Int.reduceLE, Int.reduceAdd, Int.reduceSub, Int.reduceMul, Int.reduceNeg, Int.reduceToNat, Int.reducePow, Nat.reducePow, reduceCtorEq, reduceIte, if_true, if_false]
  repeat' (refine fin_cases (fun h1 => ?_) (fun h1 => ?_) <;> simp only [h1, e36, j20, b20, q20, qq, ww, List.replicate, Nat.reduceBEq, Nat.reduceAdd, Nat.reduceMul, Nat.reduceDiv, Nat.reduceEqDiff, Nat.reduceLeDiff, Nat.reduceLT, Int.reduceEq, Int.reduceNe, Int.reduceLT, Int.reduceLE, Int.reduceAdd, Int.reduceSub, Int.reduceMul, Int.reduceNeg, Int.reduceToNat, Int.reducePow, Nat.reducePow, reduceCtorEq, reduceIte, if_true, if_false])
theorem e25 (N d) (n) : TT N (d + 2) 25 [iV n] = some (bV (inB n 0 2147483647), []) := by
  rw [t25, F_ev rfl]
  simp only [e36, j25, b25, q25, qq, ww, List.replicate, Nat.reduceBEq, Nat.reduceAdd, Nat.reduceMul, Nat.reduceDiv, Nat.reduceEqDiff, Nat.reduceLeDiff, Nat.reduceLT, Int.reduceEq, Int.reduceNe, Int.reduceLT, Int.reduceLE, Int.reduceAdd, Int.reduceSub, Int.reduceMul, Int.reduceNeg, Int.reduceToNat, Int.reducePow, Nat.reducePow, reduceCtorEq, reduceIte, if_true, if_false]
  repeat' (refine fin_cases (fun h1 => ?_) (fun h1 => ?_) <;> simp only [h1, e36, j25, b25, q25, qq, ww, List.replicate, Nat.reduceBEq, Nat.reduceAdd, Nat.reduceMul, Nat.reduceDiv, Nat.reduceEqDiff, Nat.reduceLeDiff, Nat.reduceLT, Int.reduceEq, Int.reduceNe, Int.reduceLT, Int.reduceLE, Int.reduceAdd, Int.reduceSub, Int.reduceMul, Int.reduceNeg, Int.reduceToNat, Int.reducePow, Nat.reducePow, reduceCtorEq, reduceIte, if_true, if_false])
theorem e53 (N d) (n lo) : TT N (d + 1) 53 [iV n, iV lo] = some (bV (inB n 0 (lo - 1)), []) := by
  rw [t53, F_ev rfl]
  simp only [j53, b53, q53, qq, ww, List.replicate, Nat.reduceBEq, Nat.reduceAdd, Nat.reduceMul, Nat.reduceDiv, Nat.reduceEqDiff, Nat.reduceLeDiff, Nat.reduceLT, Int.reduceEq, Int.reduceNe, Int.reduceLT, Int.reduceLE, Int.reduceAdd, Int.reduceSub, Int.reduceMul, Int.reduceNeg, Int.reduceToNat, Int.reducePow, Nat.reducePow, reduceCtorEq, reduceIte, if_true, if_false]
  repeat' (refine fin_cases (fun h1 => ?_) (fun h1 => ?_) <;> simp only [h1, j53, b53, q53, qq, ww, List.replicate, Nat.reduceBEq, Nat.reduceAdd, Nat.reduceMul, Nat.reduceDiv, Nat.reduceEqDiff, Nat.reduceLeDiff, Nat.reduceLT, Int.reduceEq, Int.reduceNe, Int.reduceLT, Int.reduceLE, Int.reduceAdd, Int.reduceSub, Int.reduceMul, Int.reduceNeg, Int.reduceToNat, Int.reducePow, Nat.reducePow, reduceCtorEq, reduceIte, if_true, if_false])
  all_goals grind [inB]
theorem e35 (N d) (n) : TT N (d + 2) 35 [iV n] = some (bV (inB n 0 7), []) := by
  rw [t35, F_ev rfl]
  simp only [e53, j35, b35, q35, qq, ww, List.replicate, Nat.reduceBEq, Nat.reduceAdd, Nat.reduceMul, Nat.reduceDiv, Nat.reduceEqDiff, Nat.reduceLeDiff, Nat.reduceLT, Int.reduceEq, Int.reduceNe, Int.reduceLT, Int.reduceLE, Int.reduceAdd, Int.reduceSub, Int.reduceMul, Int.reduceNeg, Int.reduceToNat, Int.reducePow, Nat.reducePow, reduceCtorEq, reduceIte, if_true, if_false]
  repeat' (refine fin_cases (fun h1 => ?_) (fun h1 => ?_) <;> simp only [h1, e53, j35, b35, q35, qq, ww, List.replicate, Nat.reduceBEq, Nat.reduceAdd, Nat.reduceMul, Nat.reduceDiv, Nat.reduceEqDiff, Nat.reduceLeDiff, Nat.reduceLT, Int.reduceEq, Int.reduceNe, Int.reduceLT, Int.reduceLE, Int.reduceAdd, Int.reduceSub, Int.reduceMul, Int.reduceNeg, Int.reduceToNat, Int.reducePow, Nat.reducePow, reduceCtorEq, reduceIte, if_true, if_false])
theorem e19 (N d) (n) : TT N (d + 3) 19 [iV n] = some (iV (if epOK n then 0 else 1), []) := by
  rw [t19, F_ev rfl]
  simp only [e35, j19, b19, q19, qq, ww, List.replicate, Nat.reduceBEq, Nat.reduceAdd, Nat.reduceMul, Nat.reduceDiv, Nat.reduceEqDiff, Nat.reduceLeDiff, Nat.reduceLT, Int.reduceEq, Int.reduceNe, Int.reduceLT, Int.reduceLE, Int.reduceAdd, Int.reduceSub, Int.reduceMul, Int.reduceNeg, Int.reduceToNat, Int.reducePow, Nat.reducePow, reduceCtorEq, reduceIte, if_true, if_false]
  repeat' (refine fin_cases (fun h1 => ?_) (fun h1 => ?_) <;> simp only [h1, e35, j19, b19, q19, qq, ww, List.replicate, Nat.reduceBEq, Nat.reduceAdd, Nat.reduceMul, Nat.reduceDiv, Nat.reduceEqDiff, Nat.reduceLeDiff, Nat.reduceLT, Int.reduceEq, Int.reduceNe, Int.reduceLT, Int.reduceLE, Int.reduceAdd, Int.reduceSub, Int.reduceMul, Int.reduceNeg, Int.reduceToNat, Int.reducePow, Nat.reducePow, reduceCtorEq, reduceIte, if_true, if_false])
  all_goals (first | (simp_all [epOK, inB]; done) | (simp_all [epOK, inB]; omega) | grind [inB, epOK])
theorem e73 (N d) (n) : TT N (d + 1) 73 [iV n] = some (bV (inB n 1 40), []) := by
  rw [t73, F_ev rfl]
  simp only [j73, b73, q73, qq, ww, List.replicate, Nat.reduceBEq, Nat.reduceAdd, Nat.reduceMul, Nat.reduceDiv, Nat.reduceEqDiff, Nat.reduceLeDiff, Nat.reduceLT, Int.reduceEq, Int.reduceNe, Int.reduceLT, Int.reduceLE, Int.reduceAdd, Int.reduceSub, Int.reduceMul, Int.reduceNeg, Int.reduceToNat, Int.reducePow, Nat.reducePow, reduceCtorEq, reduceIte, if_true, if_false]
  repeat' (refine fin_cases (fun h1 => ?_) (fun h1 => ?_) <;> simp only [h1, j73, b73, q73, qq, ww, List.replicate, Nat.reduceBEq, Nat.reduceAdd, Nat.reduceMul, Nat.reduceDiv, Nat.reduceEqDiff, Nat.reduceLeDiff, Nat.reduceLT, Int.reduceEq, Int.reduceNe, Int.reduceLT, Int.reduceLE, Int.reduceAdd, Int.reduceSub, Int.reduceMul, Int.reduceNeg, Int.reduceToNat, Int.reducePow, Nat.reducePow, reduceCtorEq, reduceIte, if_true, if_false])
  all_goals grind [inB]
theorem e72 (N d) (x) : TT N (d + 4) 72 [aE x] = some (bV (pl x), []) := by
  rw [t72, F_ev rfl]
  simp only [e19, e20, j72, b72, q72, qq, ww, List.replicate, Nat.reduceBEq, Nat.reduceAdd, Nat.reduceMul, Nat.reduceDiv, Nat.reduceEqDiff, Nat.reduceLeDiff, Nat.reduceLT, Int.reduceEq, Int.reduceNe, Int.reduceLT, Int.reduceLE, Int.reduceAdd, Int.reduceSub, Int.reduceMul, Int.reduceNeg, Int.reduceToNat, Int.reducePow, Nat.reducePow, reduceCtorEq, reduceIte, if_true, if_false]
  repeat' (refine fin_cases (fun h1 => ?_) (fun h1 => ?_) <;> simp only [h1, e19, e20, j72, b72, q72, qq, ww, List.replicate, Nat.reduceBEq, Nat.reduceAdd, Nat.reduceMul, Nat.reduceDiv, Nat.reduceEqDiff, Nat.reduceLeDiff, Nat.reduceLT, Int.reduceEq, Int.reduceNe, Int.reduceLT, Int.reduceLE, Int.reduceAdd, Int.reduceSub, Int.reduceMul, Int.reduceNeg, Int.reduceToNat, Int.reducePow, Nat.reducePow, reduceCtorEq, reduceIte, if_true, if_false])
  all_goals (first | (simp_all [epOK, inB]; done) | (simp_all [epOK, inB]; omega) | grind [inB, epOK])
end Go.Proofs.YtkfcbpbnoeaheaaDoor.QA
namespace Go.Proofs.YtkfcbpbnoeaheaaDoor.QA
open Go Go.Proofs.YtkfcbpbnoeaheaaDoorR Go.Proofs.YtkfcbpbnoeaheaaDoor.IF
set_option maxRecDepth 100000
/-- An event without what its kind has. -/
def bareE (x : Ev) : Ev × Bool :=
  if x.k = 1 then (⟨1, 0, 0, x.l, 0, x.c⟩, pl x && inB x.v 0 2147483647)
  else if x.k = 2 then (⟨2, 0, 0, 0, x.v, x.c⟩, pl x && decide (x.s ≤ x.l) && decide (x.l ≤ 1073741824))
  else if x.k = 3 then (⟨3, x.e, x.s, x.l, 0, 0⟩, inB x.c 1 40 && inB x.v 0 7)
  else if x.k = 4 then (⟨4, x.e, x.s, x.l, x.v, 0⟩, inB x.c 1 40)
  else (x, decide (x.k = 5))
theorem e63 (N d) (x) : TT N (d + 5) 63 [aE x] = some (.tup [aE (bareE x).1, bV (bareE x).2], []) := by
  rw [t63, F_ev rfl]
  simp only [e72, e73, e35, e25, j63, b63, q63, qq, ww, List.replicate, Nat.reduceBEq, Nat.reduceAdd, Nat.reduceMul, Nat.reduceDiv, Nat.reduceEqDiff, Nat.reduceLeDiff, Nat.reduceLT, Int.reduceEq, Int.reduceNe, Int.reduceLT, Int.reduceLE, Int.reduceAdd, Int.reduceSub, Int.reduceMul, Int.reduceNeg, Int.reduceToNat, Int.reducePow, Nat.reducePow, reduceCtorEq, reduceIte, if_true, if_false]
  repeat' (refine fin_cases (fun h1 => ?_) (fun h1 => ?_) <;> simp only [h1, e72, e73, e35, e25, j63, b63, q63, qq, ww, List.replicate, Nat.reduceBEq, Nat.reduceAdd, Nat.reduceMul, Nat.reduceDiv, Nat.reduceEqDiff, Nat.reduceLeDiff, Nat.reduceLT, Int.reduceEq, Int.reduceNe, Int.reduceLT, Int.reduceLE, Int.reduceAdd, Int.reduceSub, Int.reduceMul, Int.reduceNeg, Int.reduceToNat, Int.reducePow, Nat.reducePow, reduceCtorEq, reduceIte, if_true, if_false])
  all_goals (first | (simp_all [bareE]; done) | (simp_all [bareE]; omega) | grind [bareE])
theorem e50 (N d) (x) : TT N (d + 6) 50 [aE x] = some (iV (if evOK x then 0 else 1), []) := by
  rw [t50, F_ev rfl]
  simp only [e63, j50, b50, q50, qq, ww, List.replicate, Nat.reduceBEq, Nat.reduceAdd, Nat.reduceMul, Nat.reduceDiv, Nat.reduceEqDiff, Nat.reduceLeDiff, Nat.reduceLT, Int.reduceEq, Int.reduceNe, Int.reduceLT, Int.reduceLE, Int.reduceAdd, Int.reduceSub, Int.reduceMul, Int.reduceNeg, Int.reduceToNat, Int.reducePow, Nat.reducePow, reduceCtorEq, reduceIte, if_true, if_false]
  repeat' (refine fin_cases (fun h1 => ?_) (fun h1 => ?_) <;> simp only [h1, e63, j50, b50, q50, qq, ww, List.replicate, Nat.reduceBEq, Nat.reduceAdd, Nat.reduceMul, Nat.reduceDiv, Nat.reduceEqDiff, Nat.reduceLeDiff, Nat.reduceLT, Int.reduceEq, Int.reduceNe, Int.reduceLT, Int.reduceLE, Int.reduceAdd, Int.reduceSub, Int.reduceMul, Int.reduceNeg, Int.reduceToNat, Int.reducePow, Nat.reducePow, reduceCtorEq, reduceIte, if_true, if_false])
  all_goals grind [bareE, evOK, inB]

/-- An event as a gap. -/
def gapE (x : Ev) : Option Ev := if x.k = 1 then some ⟨2, x.e, x.s, x.s, 0, 0⟩ else if x.k = 2 then some x else none
theorem e74 (N d) (x) : TT N (d + 1) 74 [aE x] = some (.tup [aE ((gapE x).getD ⟨0, 0, 0, 0, 0, 0⟩), bV (gapE x).isSome], []) := by
  rw [t74, F_ev rfl]
  simp only [j74, b74, q74, qq, ww, List.replicate, Nat.reduceBEq, Nat.reduceAdd, Nat.reduceMul, Nat.reduceDiv, Nat.reduceEqDiff, Nat.reduceLeDiff, Nat.reduceLT, Int.reduceEq, Int.reduceNe, Int.reduceLT, Int.reduceLE, Int.reduceAdd, Int.reduceSub, Int.reduceMul, Int.reduceNeg, Int.reduceToNat, Int.reducePow, Nat.reducePow, reduceCtorEq, reduceIte, if_true, if_false]
  repeat' (refine fin_cases (fun h1 => ?_) (fun h1 => ?_) <;> simp only [h1, j74, b74, q74, qq, ww, List.replicate, Nat.reduceBEq, Nat.reduceAdd, Nat.reduceMul, Nat.reduceDiv, Nat.reduceEqDiff, Nat.reduceLeDiff, Nat.reduceLT, Int.reduceEq, Int.reduceNe, Int.reduceLT, Int.reduceLE, Int.reduceAdd, Int.reduceSub, Int.reduceMul, Int.reduceNeg, Int.reduceToNat, Int.reducePow, Nat.reducePow, reduceCtorEq, reduceIte, if_true, if_false])
  all_goals grind [gapE]
theorem n01 {b : Bool} : decide ((if b = true then (0 : Int) else 1) = 0) = b := by cases b <;> rfl
theorem e49 (N d) (x) : TT N (d + 7) 49 [aE x] = some (bV (!evOK x), []) := by
  rw [t49, F_ev rfl]
  simp only [e50, n01, j49, b49, q49, qq, ww, List.replicate, Nat.reduceBEq, Nat.reduceAdd, Nat.reduceMul, Nat.reduceDiv, Nat.reduceEqDiff, Nat.reduceLeDiff, Nat.reduceLT, Int.reduceEq, Int.reduceNe, Int.reduceLT, Int.reduceLE, Int.reduceAdd, Int.reduceSub, Int.reduceMul, Int.reduceNeg, Int.reduceToNat, Int.reducePow, Nat.reducePow, reduceCtorEq, reduceIte, if_true, if_false]
  repeat' (refine fin_cases (fun h1 => ?_) (fun h1 => ?_) <;> simp only [h1, e50, n01, j49, b49, q49, qq, ww, List.replicate, Nat.reduceBEq, Nat.reduceAdd, Nat.reduceMul, Nat.reduceDiv, Nat.reduceEqDiff, Nat.reduceLeDiff, Nat.reduceLT, Int.reduceEq, Int.reduceNe, Int.reduceLT, Int.reduceLE, Int.reduceAdd, Int.reduceSub, Int.reduceMul, Int.reduceNeg, Int.reduceToNat, Int.reducePow, Nat.reducePow, reduceCtorEq, reduceIte, if_true, if_false])
def ix {α : Type} (p : α → Bool) : List α → Int → Int
  | [], _ => -1
  | x :: r, i => if p x then i else ix p r (i + 1)
theorem wi (i : Nat) (h : i < 4611686018427387904) : IntKind.i64.wrap ((i : Int) + 1) = ((i + 1 : Nat) : Int) := by rw [IntWalk.i64_in _ (by omega)]; omega
theorem e62 (N d f : Nat) (p : Ev → Bool) (hf : ∀ x, TT N d f [aE x] = some (bV (p x), [])) (l : List Ev) (hN : l.length < N) (hl : l.length < 1000000) : TT N (d + 1) 62 [.one (rE l), .one (.fn f [])] = some (iV (ix p l 0), []) := by
  rw [t62, F_ev rfl]
  simp only [j62, b62, q62, qq, ww, List.replicate, Nat.reduceBEq, Nat.reduceAdd, Nat.reduceMul, Nat.reduceDiv, Nat.reduceEqDiff, Nat.reduceLeDiff, Nat.reduceLT, Int.reduceEq, Int.reduceNe, Int.reduceLT, Int.reduceLE, Int.reduceAdd, Int.reduceSub, Int.reduceMul, Int.reduceNeg, Int.reduceToNat, Int.reducePow, Nat.reducePow, reduceCtorEq, reduceIte, if_true, if_false, List.length_map]
  refine (loopK (K := fun o => fin _ (aft _ _ _ o)) (fun i => ⟨[(0, .one (rE l)), (1, .one (.fn f [])), (7, iV l.length), (8, iV i)], []⟩) (fun i => some (iV (ix p (l.drop i) i), [])) l.length ?hr l.length 0 N _ (by omega) hN ?hk).trans ?_
  case hk => simp only [gcK, lowB, Nat.reduceLeDiff, Nat.reduceBEq, List.contains_nil, List.contains_cons, Bool.or_false, Bool.false_or, Bool.false_eq_true, if_false, Bool.true_and, Bool.and_true, pickL, look_hit, look_miss, look_end, slMent, hpMent, S.ment, S.ment.smt, ments, V.ment, List.append_nil, List.nil_append, List.cons_append, List.all_nil, List.all_cons, Option.isSome_some, Bool.and_self, if_true, reduceIte, Nat.reduceEqDiff, not_false_eq_true, reduceCtorEq, Nat.reduceMul, Nat.reduceAdd]; rfl
  case hr =>
    intro i n hi ih
    (try dsimp only)
    by_cases hlt : i < l.length
    · have h1 : decide ((i : Int) < (l.length : Int)) = true := by simp; omega
      have hget : (l.map eE)[i]? = some (eE l[i]) := by simp [hlt]
      have hd : l.drop i = l[i] :: l.drop (i + 1) := by simp
      have hb : 0 ≤ (i : Int) ∧ (i : Int) < (l.length : Int) := by omega
      simp only [qq, ww, List.replicate, Nat.reduceBEq, Nat.reduceAdd, Nat.reduceMul, Nat.reduceDiv, Nat.reduceEqDiff, Nat.reduceLeDiff, Nat.reduceLT, Int.reduceEq, Int.reduceNe, Int.reduceLT, Int.reduceLE, Int.reduceAdd, Int.reduceSub, Int.reduceMul, Int.reduceNeg, Int.reduceToNat, Int.reducePow, Nat.reducePow, reduceCtorEq, reduceIte, if_true, if_false, h1, hb.1, hb.2, List.length_map, Int.toNat_natCast, hget, hf, wi i (by omega)]
      refine fin_cases2 (fun hp => ?_) (fun hp => ?_) <;> simp only [j62, b62, q62, qq, ww, List.replicate, Nat.reduceBEq, Nat.reduceAdd, Nat.reduceMul, Nat.reduceDiv, Nat.reduceEqDiff, Nat.reduceLeDiff, Nat.reduceLT, Int.reduceEq, Int.reduceNe, Int.reduceLT, Int.reduceLE, Int.reduceAdd, Int.reduceSub, Int.reduceMul, Int.reduceNeg, Int.reduceToNat, Int.reducePow, Nat.reducePow, reduceCtorEq, reduceIte, if_true, if_false, wi i (by omega)]
      · rw [hd, ix, hp, if_pos rfl]
      · rw [hd, ix, hp, if_neg (by decide)]
        exact ih hlt _ (by simp only [gcK, lowB, Nat.reduceLeDiff, Nat.reduceBEq, List.contains_nil, List.contains_cons, Bool.or_false, Bool.false_or, Bool.false_eq_true, if_false, Bool.true_and, Bool.and_true, pickL, look_hit, look_miss, look_end, slMent, hpMent, S.ment, S.ment.smt, ments, V.ment, List.append_nil, List.nil_append, List.cons_append, List.all_nil, List.all_cons, Option.isSome_some, Bool.and_self, if_true, reduceIte, Nat.reduceEqDiff, not_false_eq_true, reduceCtorEq, Nat.reduceMul, Nat.reduceAdd])
    · have h1 : decide ((i : Int) < (l.length : Int)) = false := by simp; omega
      simp only [j62, b62, q62, qq, ww, List.replicate, Nat.reduceBEq, Nat.reduceAdd, Nat.reduceMul, Nat.reduceDiv, Nat.reduceEqDiff, Nat.reduceLeDiff, Nat.reduceLT, Int.reduceEq, Int.reduceNe, Int.reduceLT, Int.reduceLE, Int.reduceAdd, Int.reduceSub, Int.reduceMul, Int.reduceNeg, Int.reduceToNat, Int.reducePow, Nat.reducePow, reduceCtorEq, reduceIte, if_true, if_false, h1]
      rw [List.drop_of_length_le (by omega)]
      rfl
  rfl

theorem ix_any {α : Type} (p : α → Bool) : ∀ (l : List α) (i : Int), 0 ≤ i → decide (ix p l i ≥ 0) = l.any p
  | [], i, h => by simp [ix]
  | x :: r, i, h => by
    have := ix_any p r (i + 1) (by omega)
    cases hp : p x <;> simp_all [ix]
theorem e48 (N d f : Nat) (p : Ev → Bool) (hf : ∀ x, TT N d f [aE x] = some (bV (p x), [])) (l : List Ev) (hN : l.length < N) (hl : l.length < 1000000) : TT N (d + 2) 48 [.one (rE l), .one (.fn f [])] = some (bV (l.any p), []) := by
  rw [t48, F_ev rfl]
  simp only [e62 N d f p hf l hN hl, j48, b48, q48, qq, ww, List.replicate, Nat.reduceBEq, Nat.reduceAdd, Nat.reduceMul, Nat.reduceDiv, Nat.reduceEqDiff, Nat.reduceLeDiff, Nat.reduceLT, Int.reduceEq, Int.reduceNe, Int.reduceLT, Int.reduceLE, Int.reduceAdd, Int.reduceSub, Int.reduceMul, Int.reduceNeg, Int.reduceToNat, Int.reducePow, Nat.reducePow, reduceCtorEq, reduceIte, if_true, if_false]
  simp [ix_any]
end Go.Proofs.YtkfcbpbnoeaheaaDoor.QA
namespace Go.Proofs.YtkfcbpbnoeaheaaDoor.QA
open Go Go.Proofs.YtkfcbpbnoeaheaaDoorR Go.Proofs.YtkfcbpbnoeaheaaDoor.IF
set_option maxRecDepth 100000
def lastK (l : List Ev) : Int := match l.getLast? with
  | some y => y.k
  | none => 0
/-- Is a queue right? -/
def qOK (l : List Ev) (limit : Int) : Bool := decide (2 ≤ limit) && decide (limit ≤ 32) && decide ((l.length : Int) ≤ limit) && l.all evOK && (!decide ((l.length : Int) = limit) || decide (lastK l = 2))
theorem any_not {α : Type} (p : α → Bool) (l : List α) : l.any (fun x => !p x) = !l.all p := by
  induction l with
  | nil => rfl
  | cons a r ih => simp only [List.any_cons, List.all_cons, ih]; cases p a <;> simp
theorem last_of {l : List Ev} (h : 0 < l.length) : ∃ y, l[l.length - 1]? = some y ∧ lastK l = y.k := by
  refine ⟨l[l.length - 1], by simp, ?_⟩
  simp [lastK, List.getLast?_eq_getElem?, List.getElem?_eq_getElem (show l.length - 1 < l.length by omega)]
theorem e31 (N d : Nat) (l : List Ev) (limit : Int) (hN : l.length < N) (hl : l.length < 1000000) : TT N (d + 10) 31 [.one (rE l), iV limit] = some (iV (if qOK l limit then 0 else 1), []) := by
  have h53 := fun d => e48 N (d + 7) 49 (fun x => !evOK x) (fun x => e49 N d x) l hN hl
  rw [t31, F_ev rfl]
  by_cases hc : 2 ≤ limit ∧ limit ≤ 32 ∧ (l.length : Int) = limit
  · obtain ⟨h1, h2, h3⟩ := hc
    obtain ⟨y, hy, hk⟩ := last_of (l := l) (by omega)
    have hw : IntKind.i64.wrap (limit - 1) = limit - 1 := IntWalk.i64_in _ (by omega)
    have hg : (l.map eE)[(limit - 1).toNat]? = some (eE y) := by rw [show (limit - 1).toNat = l.length - 1 by omega]; exact get_map hy
    have hb : 0 ≤ limit - 1 ∧ limit - 1 < (l.length : Int) := by omega
    simp only [h53, hw, hg, hb.1, hb.2, List.length_map, j31, b31, q31, qq, ww, List.replicate, Nat.reduceBEq, Nat.reduceAdd, Nat.reduceMul, Nat.reduceDiv, Nat.reduceEqDiff, Nat.reduceLeDiff, Nat.reduceLT, Int.reduceEq, Int.reduceNe, Int.reduceLT, Int.reduceLE, Int.reduceAdd, Int.reduceSub, Int.reduceMul, Int.reduceNeg, Int.reduceToNat, Int.reducePow, Nat.reducePow, reduceCtorEq, reduceIte, if_true, if_false]
    repeat' (refine fin_cases (fun h1 => ?_) (fun h1 => ?_) <;> simp only [h1, h53, hw, hg, hb.1, hb.2, List.length_map, j31, b31, q31, qq, ww, List.replicate, Nat.reduceBEq, Nat.reduceAdd, Nat.reduceMul, Nat.reduceDiv, Nat.reduceEqDiff, Nat.reduceLeDiff, Nat.reduceLT, Int.reduceEq, Int.reduceNe, Int.reduceLT, Int.reduceLE, Int.reduceAdd, Int.reduceSub, Int.reduceMul, Int.reduceNeg, Int.reduceToNat, Int.reducePow, Nat.reducePow, reduceCtorEq, reduceIte, if_true, if_false])
    all_goals clear h53; simp_all [qOK, any_not]
    all_goals (intros; first | omega | grind)
  · simp only [h53, List.length_map, j31, b31, q31, qq, ww, List.replicate, Nat.reduceBEq, Nat.reduceAdd, Nat.reduceMul, Nat.reduceDiv, Nat.reduceEqDiff, Nat.reduceLeDiff, Nat.reduceLT, Int.reduceEq, Int.reduceNe, Int.reduceLT, Int.reduceLE, Int.reduceAdd, Int.reduceSub, Int.reduceMul, Int.reduceNeg, Int.reduceToNat, Int.reducePow, Nat.reducePow, reduceCtorEq, reduceIte, if_true, if_false]
    repeat' (refine fin_cases (fun h1 => ?_) (fun h1 => ?_) <;> simp only [h1, h53, List.length_map, j31, b31, q31, qq, ww, List.replicate, Nat.reduceBEq, Nat.reduceAdd, Nat.reduceMul, Nat.reduceDiv, Nat.reduceEqDiff, Nat.reduceLeDiff, Nat.reduceLT, Int.reduceEq, Int.reduceNe, Int.reduceLT, Int.reduceLE, Int.reduceAdd, Int.reduceSub, Int.reduceMul, Int.reduceNeg, Int.reduceToNat, Int.reducePow, Nat.reducePow, reduceCtorEq, reduceIte, if_true, if_false])
    all_goals clear h53; simp_all [qOK, any_not]
    all_goals (intros; first | omega | grind)
end Go.Proofs.YtkfcbpbnoeaheaaDoor.QA
namespace Go.Proofs.YtkfcbpbnoeaheaaDoor.QA
open Go Go.Proofs.YtkfcbpbnoeaheaaDoorR Go.Proofs.YtkfcbpbnoeaheaaDoor.IF
set_option maxRecDepth 100000
theorem eq_ev {x y : Ev} : decide (x = y) = (decide (x.k = y.k) && (decide (x.e = y.e) && (decide (x.s = y.s) && (decide (x.l = y.l) && (decide (x.v = y.v) && decide (x.c = y.c)))))) := by
  cases x; cases y; simp
theorem dcons {α : Type} [DecidableEq α] {x y : α} {r q : List α} : decide (x :: r = y :: q) = (decide (x = y) && decide (r = q)) := by simp
theorem e17 (N d : Nat) (a b : List Ev) (hN : a.length < N) (hl : a.length < 1000000) : TT N (d + 1) 17 [.one (rE a), .one (rE b)] = some (bV (decide (a = b)), []) := by
  rw [t17, F_ev rfl]
  simp only [List.length_map, j17, b17, q17, qq, ww, List.replicate, Nat.reduceBEq, Nat.reduceAdd, Nat.reduceMul, Nat.reduceDiv, Nat.reduceEqDiff, Nat.reduceLeDiff, Nat.reduceLT, Int.reduceEq, Int.reduceNe, Int.reduceLT, Int.reduceLE, Int.reduceAdd, Int.reduceSub, Int.reduceMul, Int.reduceNeg, Int.reduceToNat, Int.reducePow, Nat.reducePow, reduceCtorEq, reduceIte, if_true, if_false]
  refine fin_cases (fun h => ?_) (fun h => ?_) <;> simp only [h, List.length_map, j17, b17, q17, qq, ww, List.replicate, Nat.reduceBEq, Nat.reduceAdd, Nat.reduceMul, Nat.reduceDiv, Nat.reduceEqDiff, Nat.reduceLeDiff, Nat.reduceLT, Int.reduceEq, Int.reduceNe, Int.reduceLT, Int.reduceLE, Int.reduceAdd, Int.reduceSub, Int.reduceMul, Int.reduceNeg, Int.reduceToNat, Int.reducePow, Nat.reducePow, reduceCtorEq, reduceIte, if_true, if_false]
  · have : ¬ a = b := fun e => by subst e; simp at h
    simp [this]
  have hab : a.length = b.length := by simp at h; omega
  refine (loopK (K := fun o => fin _ (aft _ _ _ o)) (fun i => ⟨[(0, .one (rE a)), (1, .one (rE b)), (5, iV i)], []⟩) (fun i => some (bV (decide (a.drop i = b.drop i)), [])) a.length ?hr a.length 0 N _ (by omega) hN ?hk).trans ?_
  case hk => simp only [gcK, lowB, Nat.reduceLeDiff, Nat.reduceBEq, List.contains_nil, List.contains_cons, Bool.or_false, Bool.false_or, Bool.false_eq_true, if_false, Bool.true_and, Bool.and_true, pickL, look_hit, look_miss, look_end, slMent, hpMent, S.ment, S.ment.smt, ments, V.ment, List.append_nil, List.nil_append, List.cons_append, List.all_nil, List.all_cons, Option.isSome_some, Bool.and_self, if_true, reduceIte, Nat.reduceEqDiff, not_false_eq_true, reduceCtorEq, Nat.reduceMul, Nat.reduceAdd]; rfl
  case hr =>
    intro i n hi ih
    (try dsimp only)
    by_cases hlt : i < a.length
    · have h1 : decide ((i : Int) < (a.length : Int)) = true := by simp; omega
      have hg1 : (a.map eE)[i]? = some (eE a[i]) := by simp [hlt]
      have hg2 : (b.map eE)[i]? = some (eE (b[i]'(by omega))) := by simp [hab ▸ hlt]
      have hd1 : a.drop i = a[i] :: a.drop (i + 1) := by simp
      have hd2 : b.drop i = b[i]'(by omega) :: b.drop (i + 1) := by simp
      have hb : 0 ≤ (i : Int) ∧ (i : Int) < (a.length : Int) ∧ (i : Int) < (b.length : Int) := by omega
      simp only [h1, hb.1, hb.2.1, hb.2.2, List.length_map, Int.toNat_natCast, hg1, hg2, wi i (by omega), j17, b17, q17, qq, ww, List.replicate, Nat.reduceBEq, Nat.reduceAdd, Nat.reduceMul, Nat.reduceDiv, Nat.reduceEqDiff, Nat.reduceLeDiff, Nat.reduceLT, Int.reduceEq, Int.reduceNe, Int.reduceLT, Int.reduceLE, Int.reduceAdd, Int.reduceSub, Int.reduceMul, Int.reduceNeg, Int.reduceToNat, Int.reducePow, Nat.reducePow, reduceCtorEq, reduceIte, if_true, if_false]
      refine fin_cases2 (fun hp => ?_) (fun hp => ?_) <;> simp only [wi i (by omega), j17, b17, q17, qq, ww, List.replicate, Nat.reduceBEq, Nat.reduceAdd, Nat.reduceMul, Nat.reduceDiv, Nat.reduceEqDiff, Nat.reduceLeDiff, Nat.reduceLT, Int.reduceEq, Int.reduceNe, Int.reduceLT, Int.reduceLE, Int.reduceAdd, Int.reduceSub, Int.reduceMul, Int.reduceNeg, Int.reduceToNat, Int.reducePow, Nat.reducePow, reduceCtorEq, reduceIte, if_true, if_false]
      · have hx : decide (a[i] = b[i]'(by omega)) = false := by rw [eq_ev]; simpa only [Bool.not_eq_true'] using hp
        rw [hd1, hd2, dcons, hx]; rfl
      · have hx : decide (a[i] = b[i]'(by omega)) = true := by rw [eq_ev]; simpa only [Bool.not_eq_false'] using hp
        rw [hd1, hd2, dcons, hx, Bool.true_and]
        exact ih hlt _ (by simp only [gcK, lowB, Nat.reduceLeDiff, Nat.reduceBEq, List.contains_nil, List.contains_cons, Bool.or_false, Bool.false_or, Bool.false_eq_true, if_false, Bool.true_and, Bool.and_true, pickL, look_hit, look_miss, look_end, slMent, hpMent, S.ment, S.ment.smt, ments, V.ment, List.append_nil, List.nil_append, List.cons_append, List.all_nil, List.all_cons, Option.isSome_some, Bool.and_self, if_true, reduceIte, Nat.reduceEqDiff, not_false_eq_true, reduceCtorEq, Nat.reduceMul, Nat.reduceAdd])
    · have h1 : decide ((i : Int) < (a.length : Int)) = false := by simp; omega
      simp only [h1, List.length_map, j17, b17, q17, qq, ww, List.replicate, Nat.reduceBEq, Nat.reduceAdd, Nat.reduceMul, Nat.reduceDiv, Nat.reduceEqDiff, Nat.reduceLeDiff, Nat.reduceLT, Int.reduceEq, Int.reduceNe, Int.reduceLT, Int.reduceLE, Int.reduceAdd, Int.reduceSub, Int.reduceMul, Int.reduceNeg, Int.reduceToNat, Int.reducePow, Nat.reducePow, reduceCtorEq, reduceIte, if_true, if_false]
      rw [List.drop_of_length_le (by omega), List.drop_of_length_le (by omega)]
      rfl
  rfl
/-- slices.Clone. -/
theorem e37 (N d : Nat) (l : List Ev) (hl : l.length < 1000000) : TT N (d + 1) 37 [.one (rE l)] = some (.one (.sl 0 0 l.length), [(0, .rows 41 6 (l.map eE))]) := by
  show cloneM 41 6 48 [.one (rE l)] = _
  simp only [cloneM]
  rw [if_pos ⟨by simp, by rw [List.length_map]; omega⟩, List.length_map]
theorem all6 (l : List Ev) : (l.map eE).all (fun x => x.length == 6) = true := by simp
end Go.Proofs.YtkfcbpbnoeaheaaDoor.QA
namespace Go.Proofs.YtkfcbpbnoeaheaaDoor.QA
open Go Go.Proofs.YtkfcbpbnoeaheaaDoorR Go.Proofs.YtkfcbpbnoeaheaaDoor.IF
set_option maxRecDepth 100000
theorem tk (l : List Ev) : (l.map eE).take l.length = l.map eE := List.take_of_length_le (by simp)
theorem e37' (N d : Nat) (xs : List (List V)) (hx : xs.all (fun x => x.length == 6) = true) (hl : xs.length < 1000000) : TT N (d + 1) 37 [.one (.row xs)] = some (.one (.sl 0 0 xs.length), [(0, .rows 41 6 xs)]) := by
  show cloneM 41 6 48 [.one (.row xs)] = _
  simp only [cloneM]
  rw [if_pos ⟨hx, by omega⟩]
theorem tk1 (l : List Ev) (y : List V) : (l.map eE ++ [y]).take (l.length + 1) = l.map eE ++ [y] := List.take_of_length_le (by simp)
/-- A queue with one more event; why not. -/
def putE (l : List Ev) (limit : Int) (x : Ev) : Int × List Ev :=
  if qOK l limit && evOK x then
    if (l.length : Int) < limit - 1 then (0, l ++ [x])
    else match gapE x with
      | none => (6, [])
      | some g =>
        if (l.length : Int) < limit then (0, l ++ [g])
        else match l.getLast? with
          | none => (6, [])
          | some y => if g.e = y.e ∧ g.s = y.l + 1 then (0, l.dropLast ++ [{ y with l := g.l }]) else (6, [])
  else (1, [])
theorem e64 (N d : Nat) (l : List Ev) (limit : Int) (x : Ev) (hN : l.length < N) (hl : l.length < 999999) : ans (TT N (d + 11) 64 [.one (rE l), iV limit, aE x]) = some (.tup [.one (rE (putE l limit x).2), iV (putE l limit x).1]) := by
  have h19 := fun d => e31 N d l limit hN (by omega)
  have h46 := fun d => e37 N d l (by omega)
  rw [t64, F_ev rfl]
  simp only [h19, h46, e50, e74, n01, List.length_map, j64, b64, q64, qq, ww, List.replicate, Nat.reduceBEq, Nat.reduceAdd, Nat.reduceMul, Nat.reduceDiv, Nat.reduceEqDiff, Nat.reduceLeDiff, Nat.reduceLT, Int.reduceEq, Int.reduceNe, Int.reduceLT, Int.reduceLE, Int.reduceAdd, Int.reduceSub, Int.reduceMul, Int.reduceNeg, Int.reduceToNat, Int.reducePow, Nat.reducePow, reduceCtorEq, reduceIte, if_true, if_false]
  by_cases hq : qOK l limit = true
  · simp only [hq, h19, h46, e50, e74, n01, List.length_map, j64, b64, q64, qq, ww, List.replicate, Nat.reduceBEq, Nat.reduceAdd, Nat.reduceMul, Nat.reduceDiv, Nat.reduceEqDiff, Nat.reduceLeDiff, Nat.reduceLT, Int.reduceEq, Int.reduceNe, Int.reduceLT, Int.reduceLE, Int.reduceAdd, Int.reduceSub, Int.reduceMul, Int.reduceNeg, Int.reduceToNat, Int.reducePow, Nat.reducePow, reduceCtorEq, reduceIte, if_true, if_false]
    refine an_cases (fun h1 => ?_) (fun h1 => ?_) <;> simp only [h1, h19, h46, e50, e74, n01, List.length_map, j64, b64, q64, qq, ww, List.replicate, Nat.reduceBEq, Nat.reduceAdd, Nat.reduceMul, Nat.reduceDiv, Nat.reduceEqDiff, Nat.reduceLeDiff, Nat.reduceLT, Int.reduceEq, Int.reduceNe, Int.reduceLT, Int.reduceLE, Int.reduceAdd, Int.reduceSub, Int.reduceMul, Int.reduceNeg, Int.reduceToNat, Int.reducePow, Nat.reducePow, reduceCtorEq, reduceIte, if_true, if_false]
    · simp only [putE, hq, show evOK x = false by simpa using h1]; rfl
    · have hx : evOK x = true := by simpa using h1
      have h2 : 2 ≤ limit ∧ limit ≤ 32 ∧ (l.length : Int) ≤ limit := by simp [qOK] at hq; omega
      have hw : IntKind.i64.wrap (limit - 1) = limit - 1 := IntWalk.i64_in _ (by omega)
      have hb : (l.length + 1) * 48 ≤ 140737488355328 := by omega
      have h6 := all6 l
      simp only [hw]
      refine an_cases (fun h3 => ?_) (fun h3 => ?_)
      · simp only [h3, h6, tk, tk1, hw, hb, h19, h46, e50, e74, n01, List.length_map, j64, b64, q64, qq, ww, List.replicate, Nat.reduceBEq, Nat.reduceAdd, Nat.reduceMul, Nat.reduceDiv, Nat.reduceEqDiff, Nat.reduceLeDiff, Nat.reduceLT, Int.reduceEq, Int.reduceNe, Int.reduceLT, Int.reduceLE, Int.reduceAdd, Int.reduceSub, Int.reduceMul, Int.reduceNeg, Int.reduceToNat, Int.reducePow, Nat.reducePow, reduceCtorEq, reduceIte, if_true, if_false]
        simp only [putE, hq, hx, Bool.and_true, if_true, if_pos (of_decide_eq_true h3)]
        simp
      · have h3' : ¬ (l.length : Int) < limit - 1 := of_decide_eq_false h3
        cases hg : gapE x with
        | none =>
          simp only [hg, h3, h6, tk, tk1, hw, hb, h19, h46, e50, e74, n01, Option.isSome_none, List.length_map, j64, b64, q64, qq, ww, List.replicate, Nat.reduceBEq, Nat.reduceAdd, Nat.reduceMul, Nat.reduceDiv, Nat.reduceEqDiff, Nat.reduceLeDiff, Nat.reduceLT, Int.reduceEq, Int.reduceNe, Int.reduceLT, Int.reduceLE, Int.reduceAdd, Int.reduceSub, Int.reduceMul, Int.reduceNeg, Int.reduceToNat, Int.reducePow, Nat.reducePow, reduceCtorEq, reduceIte, if_true, if_false]
          simp only [putE, hq, hx, Bool.and_true, if_true, if_neg h3', hg]; rfl
        | some g =>
          simp only [hg, h3, h6, tk, tk1, hw, hb, h19, h46, e50, e74, n01, Option.isSome_some, List.length_map, j64, b64, q64, qq, ww, List.replicate, Nat.reduceBEq, Nat.reduceAdd, Nat.reduceMul, Nat.reduceDiv, Nat.reduceEqDiff, Nat.reduceLeDiff, Nat.reduceLT, Int.reduceEq, Int.reduceNe, Int.reduceLT, Int.reduceLE, Int.reduceAdd, Int.reduceSub, Int.reduceMul, Int.reduceNeg, Int.reduceToNat, Int.reducePow, Nat.reducePow, reduceCtorEq, reduceIte, if_true, if_false]
          refine an_cases (fun h4 => ?_) (fun h4 => ?_)
          · simp only [h4, h6, tk, tk1, hw, hb, h19, h46, e50, e74, n01, List.length_map, j64, b64, q64, qq, ww, List.replicate, Nat.reduceBEq, Nat.reduceAdd, Nat.reduceMul, Nat.reduceDiv, Nat.reduceEqDiff, Nat.reduceLeDiff, Nat.reduceLT, Int.reduceEq, Int.reduceNe, Int.reduceLT, Int.reduceLE, Int.reduceAdd, Int.reduceSub, Int.reduceMul, Int.reduceNeg, Int.reduceToNat, Int.reducePow, Nat.reducePow, reduceCtorEq, reduceIte, if_true, if_false]
            simp only [putE, hq, hx, Bool.and_true, if_true, if_neg h3', hg, if_pos (of_decide_eq_true h4)]
            simp
          · have h4' : ¬ (l.length : Int) < limit := of_decide_eq_false h4
            rcases List.eq_nil_or_concat l with rfl | ⟨q, y, rfl⟩
            · simp at h4'; omega
            · simp only [List.concat_eq_append] at *
              have hi : (limit - 1).toNat = q.length := by simp at h4' h2; omega
              have hgt : (q.map eE ++ [eE y])[q.length]? = some (eE y) := by simp
              have hset : ∀ v, (q.map eE ++ [eE y]).set q.length v = q.map eE ++ [v] := by intro v; simp
              have htk : ∀ v, (q.map eE ++ [v]).take (q.length + 1) = q.map eE ++ [v] := fun v => List.take_of_length_le (by simp)
              have hb0 : limit - 1 < ((q.length + 1 : Nat) : Int) := by simp at h4' h2 ⊢; omega
              have hb1 : 0 ≤ limit - 1 := by omega
              have hy : y.k = 2 ∧ evOK y = true := by
                simp [qOK, lastK] at hq
                refine ⟨hq.2.resolve_left ?_, hq.1.2.2⟩
                simp at h4' h2; omega
              have hyl : IntKind.i64.wrap (y.l + 1) = y.l + 1 := IntWalk.i64_in _ (by have := hy.2; simp [evOK, hy.1, inB] at this; omega)
              simp only [h4, h6, tk, tk1, hw, hb, hi, hb0, hb1, hgt, hset, htk, hyl, h19, h46, e50, e74, n01, List.length_map, j64, b64, q64, qq, ww, List.replicate, Nat.reduceBEq, Nat.reduceAdd, Nat.reduceMul, Nat.reduceDiv, Nat.reduceEqDiff, Nat.reduceLeDiff, Nat.reduceLT, Int.reduceEq, Int.reduceNe, Int.reduceLT, Int.reduceLE, Int.reduceAdd, Int.reduceSub, Int.reduceMul, Int.reduceNeg, Int.reduceToNat, Int.reducePow, Nat.reducePow, reduceCtorEq, reduceIte, if_true, if_false]
              have hp : putE (q ++ [y]) limit x = if g.e = y.e ∧ g.s = y.l + 1 then (0, q ++ [{ y with l := g.l }]) else (6, []) := by
                simp only [putE, hq, hx, Bool.and_true, if_true, if_neg h3', hg, if_neg h4']
                simp
              rw [hp]
              repeat' (refine an_cases (fun h7 => ?_) (fun h7 => ?_) <;> simp only [h7, h4, h6, tk, tk1, hw, hb, hi, hb0, hb1, hgt, hset, htk, hyl, h19, h46, e50, e74, n01, List.length_map, j64, b64, q64, qq, ww, List.replicate, Nat.reduceBEq, Nat.reduceAdd, Nat.reduceMul, Nat.reduceDiv, Nat.reduceEqDiff, Nat.reduceLeDiff, Nat.reduceLT, Int.reduceEq, Int.reduceNe, Int.reduceLT, Int.reduceLE, Int.reduceAdd, Int.reduceSub, Int.reduceMul, Int.reduceNeg, Int.reduceToNat, Int.reducePow, Nat.reducePow, reduceCtorEq, reduceIte, if_true, if_false])
              all_goals clear h19 h46 htk hset hgt hp hq h6 hy hyl
              all_goals simp_all
  · simp only [hq, h19, h46, e50, e74, n01, List.length_map, j64, b64, q64, qq, ww, List.replicate, Nat.reduceBEq, Nat.reduceAdd, Nat.reduceMul, Nat.reduceDiv, Nat.reduceEqDiff, Nat.reduceLeDiff, Nat.reduceLT, Int.reduceEq, Int.reduceNe, Int.reduceLT, Int.reduceLE, Int.reduceAdd, Int.reduceSub, Int.reduceMul, Int.reduceNeg, Int.reduceToNat, Int.reducePow, Nat.reducePow, reduceCtorEq, reduceIte, if_true, if_false]
    simp only [putE, show qOK l limit = false by simpa using hq]; rfl
end Go.Proofs.YtkfcbpbnoeaheaaDoor.QA
namespace Go.Proofs.YtkfcbpbnoeaheaaDoor.QA
open Go Go.Proofs.YtkfcbpbnoeaheaaDoorR Go.Proofs.YtkfcbpbnoeaheaaDoor.IF
set_option maxRecDepth 100000
end Go.Proofs.YtkfcbpbnoeaheaaDoor.QA
namespace Go.Proofs.YtkfcbpbnoeaheaaDoor.AA
open Go Go.Proofs.YtkfcbpbnoeaheaaDoorR Go.Proofs.YtkfcbpbnoeaheaaDoor.IF
set_option maxRecDepth 100000
set_option maxHeartbeats 4000000
def inB (n lo hi : Int) : Bool := decide (lo ≤ n) && decide (n ≤ hi)
theorem wi (i : Nat) (h : i < 4611686018427387904) : IntKind.i64.wrap ((i : Int) + 1) = ((i + 1 : Nat) : Int) := by rw [IntWalk.i64_in _ (by omega)]; omega
structure It where
  (s v : Int)
  deriving DecidableEq
abbrev eT (x : It) : List V := [.int .i64 x.s, .int .i64 x.v]
abbrev aT (x : It) : S := .agg (eT x)
abbrev rT (l : List It) : V := .row (l.map eT)
theorem takeT (l : List It) : (l.map eT).take l.length = l.map eT := by rw [List.take_of_length_le (by simp)]
theorem allT (l : List It) : (l.map eT).all (fun x => x.length == 2) = true := by simp
theorem take_s {α : Type} {l : List α} {i : Nat} (h : i < l.length) : l.take (i + 1) = l.take i ++ [l[i]] := by simp
theorem e36 (N d) (n lo hi) : TT N (d + 1) 36 [iV n, iV lo, iV hi] = some (bV (inB n lo hi), []) := by
  rw [t36, F_ev rfl]
  simp only [j36, b36, q36, qq, ww, List.replicate, Nat.reduceBEq, Nat.reduceAdd, Nat.reduceMul, Nat.reduceDiv, Nat.reduceEqDiff, Nat.reduceLeDiff, Nat.reduceLT, Int.reduceEq, Int.reduceNe, Int.reduceLT, Int.reduceLE, Int.reduceAdd, Int.reduceSub, Int.reduceMul, Int.reduceNeg, Int.reduceToNat, Int.reducePow, Nat.reducePow, reduceCtorEq, reduceIte, if_true, if_false]
  repeat' (refine fin_cases (fun h1 => ?_) (fun h1 => ?_) <;> simp only [h1, j36, b36, q36, qq, ww, List.replicate, Nat.reduceBEq, Nat.reduceAdd, Nat.reduceMul, Nat.reduceDiv, Nat.reduceEqDiff, Nat.reduceLeDiff, Nat.reduceLT, Int.reduceEq, Int.reduceNe, Int.reduceLT, Int.reduceLE, Int.reduceAdd, Int.reduceSub, Int.reduceMul, Int.reduceNeg, Int.reduceToNat, Int.reducePow, Nat.reducePow, reduceCtorEq, reduceIte, if_true, if_false])
  all_goals grind [inB]
theorem e20 (N d) (n) : TT N (d + 2) 20 [iV n] = some (bV (inB n 1 1073741824), []) := by
  rw [t20, F_ev rfl]
  simp only [e36, j20, b20, q20, qq, ww, List.replicate, Nat.reduceBEq, Nat.reduceAdd, Nat.reduceMul, Nat.reduceDiv, Nat.reduceEqDiff, Nat.reduceLeDiff, Nat.reduceLT, Int.reduceEq, Int.reduceNe, Int.reduceLT, Int.reduceLE, Int.reduceAdd, Int.reduceSub, Int.reduceMul, Int.reduceNeg, Int.reduceToNat, Int.reducePow, Nat.reducePow, reduceCtorEq, reduceIte, if_true, if_false]
  repeat' (refine fin_cases (fun h1 => ?_) (fun h1 => ?_) <;> simp only [h1, e36, j20, b20, q20, qq, ww, List.replicate, Nat.reduceBEq, Nat.reduceAdd, Nat.reduceMul, Nat.reduceDiv, Nat.reduceEqDiff, Nat.reduceLeDiff, Nat.reduceLT, Int.reduceEq, Int.reduceNe, Int.reduceLT, Int.reduceLE, Int.reduceAdd, Int.reduceSub, Int.reduceMul, Int.reduceNeg, Int.reduceToNat, Int.reducePow, Nat.reducePow, reduceCtorEq, reduceIte, if_true, if_false])
theorem e25 (N d) (n) : TT N (d + 2) 25 [iV n] = some (bV (inB n 0 2147483647), []) := by
  rw [t25, F_ev rfl]
  simp only [e36, j25, b25, q25, qq, ww, List.replicate, Nat.reduceBEq, Nat.reduceAdd, Nat.reduceMul, Nat.reduceDiv, Nat.reduceEqDiff, Nat.reduceLeDiff, Nat.reduceLT, Int.reduceEq, Int.reduceNe, Int.reduceLT, Int.reduceLE, Int.reduceAdd, Int.reduceSub, Int.reduceMul, Int.reduceNeg, Int.reduceToNat, Int.reducePow, Nat.reducePow, reduceCtorEq, reduceIte, if_true, if_false]
  repeat' (refine fin_cases (fun h1 => ?_) (fun h1 => ?_) <;> simp only [h1, e36, j25, b25, q25, qq, ww, List.replicate, Nat.reduceBEq, Nat.reduceAdd, Nat.reduceMul, Nat.reduceDiv, Nat.reduceEqDiff, Nat.reduceLeDiff, Nat.reduceLT, Int.reduceEq, Int.reduceNe, Int.reduceLT, Int.reduceLE, Int.reduceAdd, Int.reduceSub, Int.reduceMul, Int.reduceNeg, Int.reduceToNat, Int.reducePow, Nat.reducePow, reduceCtorEq, reduceIte, if_true, if_false])
/-- Does a number stand ahead of another one, within a window? -/
def fitsB (s want win : Int) : Bool := decide (want < s) && decide (s < want + win) && decide (s < 1073741824)
theorem e43 (N d) (s want win : Int) (h : IntKind.i64.wrap (want + win) = want + win) : TT N (d + 1) 43 [iV s, iV want, iV win] = some (bV (fitsB s want win), []) := by
  rw [t43, F_ev rfl]
  simp only [h, j43, b43, q43, qq, ww, List.replicate, Nat.reduceBEq, Nat.reduceAdd, Nat.reduceMul, Nat.reduceDiv, Nat.reduceEqDiff, Nat.reduceLeDiff, Nat.reduceLT, Int.reduceEq, Int.reduceNe, Int.reduceLT, Int.reduceLE, Int.reduceAdd, Int.reduceSub, Int.reduceMul, Int.reduceNeg, Int.reduceToNat, Int.reducePow, Nat.reducePow, reduceCtorEq, reduceIte, if_true, if_false]
  repeat' (refine fin_cases (fun h1 => ?_) (fun h1 => ?_) <;> simp only [h1, h, j43, b43, q43, qq, ww, List.replicate, Nat.reduceBEq, Nat.reduceAdd, Nat.reduceMul, Nat.reduceDiv, Nat.reduceEqDiff, Nat.reduceLeDiff, Nat.reduceLT, Int.reduceEq, Int.reduceNe, Int.reduceLT, Int.reduceLE, Int.reduceAdd, Int.reduceSub, Int.reduceMul, Int.reduceNeg, Int.reduceToNat, Int.reducePow, Nat.reducePow, reduceCtorEq, reduceIte, if_true, if_false])
  all_goals grind [fitsB]
theorem e34 (N d : Nat) (l : List It) (hl : l.length < 1000000) : TT N (d + 1) 34 [.one (rT l)] = some (.one (.sl 0 0 l.length), [(0, .rows 35 2 (l.map eT))]) := by
  rw [t34]
  unfold cloneM
  simp only [List.length_map]
  rw [if_pos ⟨allT l, by omega⟩]
theorem eq_it {a b : It} : decide (a = b) = (decide (a.s = b.s) && decide (a.v = b.v)) := by cases a; cases b; simp
theorem dcons {α : Type} [DecidableEq α] {a b : α} {l r : List α} : decide (a :: l = b :: r) = (decide (a = b) && decide (l = r)) := by simp
/-- keep.Items: are they the same? -/
theorem e16 (N d : Nat) (a b : List It) (hN : a.length < N) (hl : a.length < 1000000) : TT N (d + 1) 16 [.one (rT a), .one (rT b)] = some (bV (decide (a = b)), []) := by
  rw [t16, F_ev rfl]
  simp only [List.length_map, j16, b16, q16, qq, ww, List.replicate, Nat.reduceBEq, Nat.reduceAdd, Nat.reduceMul, Nat.reduceDiv, Nat.reduceEqDiff, Nat.reduceLeDiff, Nat.reduceLT, Int.reduceEq, Int.reduceNe, Int.reduceLT, Int.reduceLE, Int.reduceAdd, Int.reduceSub, Int.reduceMul, Int.reduceNeg, Int.reduceToNat, Int.reducePow, Nat.reducePow, reduceCtorEq, reduceIte, if_true, if_false]
  refine fin_cases (fun h => ?_) (fun h => ?_) <;> simp only [h, List.length_map, j16, b16, q16, qq, ww, List.replicate, Nat.reduceBEq, Nat.reduceAdd, Nat.reduceMul, Nat.reduceDiv, Nat.reduceEqDiff, Nat.reduceLeDiff, Nat.reduceLT, Int.reduceEq, Int.reduceNe, Int.reduceLT, Int.reduceLE, Int.reduceAdd, Int.reduceSub, Int.reduceMul, Int.reduceNeg, Int.reduceToNat, Int.reducePow, Nat.reducePow, reduceCtorEq, reduceIte, if_true, if_false]
  · have : ¬ a = b := fun e => by subst e; simp at h
    simp [this]
  have hab : a.length = b.length := by simp at h; omega
  refine (loopK (K := fun o => fin _ (aft _ _ _ o)) (fun i => ⟨[(0, .one (rT a)), (1, .one (rT b)), (5, iV i)], []⟩) (fun i => some (bV (decide (a.drop i = b.drop i)), [])) a.length ?hr a.length 0 N _ (by omega) hN ?hk).trans ?_
  case hk => simp only [gcK, lowB, Nat.reduceLeDiff, Nat.reduceBEq, List.contains_nil, List.contains_cons, Bool.or_false, Bool.false_or, Bool.false_eq_true, if_false, Bool.true_and, Bool.and_true, pickL, look_hit, look_miss, look_end, slMent, hpMent, S.ment, S.ment.smt, ments, V.ment, List.append_nil, List.nil_append, List.cons_append, List.all_nil, List.all_cons, Option.isSome_some, Bool.and_self, if_true, reduceIte, Nat.reduceEqDiff, not_false_eq_true, reduceCtorEq, Nat.reduceMul, Nat.reduceAdd]; rfl
  case hr =>
    intro i n hi ih
    (try dsimp only)
    by_cases hlt : i < a.length
    · have h1 : decide ((i : Int) < (a.length : Int)) = true := by simp; omega
      have hg1 : (a.map eT)[i]? = some (eT a[i]) := by simp [hlt]
      have hg2 : (b.map eT)[i]? = some (eT (b[i]'(by omega))) := by simp [hab ▸ hlt]
      have hd1 : a.drop i = a[i] :: a.drop (i + 1) := by simp
      have hd2 : b.drop i = b[i]'(by omega) :: b.drop (i + 1) := by simp
      have hb : 0 ≤ (i : Int) ∧ (i : Int) < (a.length : Int) ∧ (i : Int) < (b.length : Int) := by omega
      simp only [h1, hb.1, hb.2.1, hb.2.2, List.length_map, Int.toNat_natCast, hg1, hg2, wi i (by omega), j16, b16, q16, qq, ww, List.replicate, Nat.reduceBEq, Nat.reduceAdd, Nat.reduceMul, Nat.reduceDiv, Nat.reduceEqDiff, Nat.reduceLeDiff, Nat.reduceLT, Int.reduceEq, Int.reduceNe, Int.reduceLT, Int.reduceLE, Int.reduceAdd, Int.reduceSub, Int.reduceMul, Int.reduceNeg, Int.reduceToNat, Int.reducePow, Nat.reducePow, reduceCtorEq, reduceIte, if_true, if_false]
      refine fin_cases2 (fun hp => ?_) (fun hp => ?_) <;> simp only [wi i (by omega), j16, b16, q16, qq, ww, List.replicate, Nat.reduceBEq, Nat.reduceAdd, Nat.reduceMul, Nat.reduceDiv, Nat.reduceEqDiff, Nat.reduceLeDiff, Nat.reduceLT, Int.reduceEq, Int.reduceNe, Int.reduceLT, Int.reduceLE, Int.reduceAdd, Int.reduceSub, Int.reduceMul, Int.reduceNeg, Int.reduceToNat, Int.reducePow, Nat.reducePow, reduceCtorEq, reduceIte, if_true, if_false]
      · have hx : decide (a[i] = b[i]'(by omega)) = false := by rw [eq_it]; simpa only [Bool.not_eq_true'] using hp
        rw [hd1, hd2, dcons, hx]; rfl
      · have hx : decide (a[i] = b[i]'(by omega)) = true := by rw [eq_it]; simpa only [Bool.not_eq_false'] using hp
        rw [hd1, hd2, dcons, hx, Bool.true_and]
        exact ih hlt _ (by simp only [gcK, lowB, Nat.reduceLeDiff, Nat.reduceBEq, List.contains_nil, List.contains_cons, Bool.or_false, Bool.false_or, Bool.false_eq_true, if_false, Bool.true_and, Bool.and_true, pickL, look_hit, look_miss, look_end, slMent, hpMent, S.ment, S.ment.smt, ments, V.ment, List.append_nil, List.nil_append, List.cons_append, List.all_nil, List.all_cons, Option.isSome_some, Bool.and_self, if_true, reduceIte, Nat.reduceEqDiff, not_false_eq_true, reduceCtorEq, Nat.reduceMul, Nat.reduceAdd])
    · have h1 : decide ((i : Int) < (a.length : Int)) = false := by simp; omega
      simp only [h1, List.length_map, j16, b16, q16, qq, ww, List.replicate, Nat.reduceBEq, Nat.reduceAdd, Nat.reduceMul, Nat.reduceDiv, Nat.reduceEqDiff, Nat.reduceLeDiff, Nat.reduceLT, Int.reduceEq, Int.reduceNe, Int.reduceLT, Int.reduceLE, Int.reduceAdd, Int.reduceSub, Int.reduceMul, Int.reduceNeg, Int.reduceToNat, Int.reducePow, Nat.reducePow, reduceCtorEq, reduceIte, if_true, if_false]
      rw [List.drop_of_length_le (by omega), List.drop_of_length_le (by omega)]
      rfl
  rfl
/-! ### Right items -/
/-- Rising, within the window. -/
def risB (want win : Int) : Option Int → List It → Bool
  | _, [] => true
  | p, x :: r => fitsB x.s want win && inB x.v 0 2147483647 && (match p with
    | some q => decide (q < x.s)
    | none => true) && risB want win (some x.s) r
def ahOK (l : List It) (want win : Int) : Bool := inB want 1 1073741824 && inB win 1 16 && risB want win none l
/-- The number ahead of a place. -/
def prv (l : List It) (i : Nat) : Option Int := if i = 0 then none else (l[i - 1]?).map It.s
theorem prv_s {l : List It} {i : Nat} (h : i < l.length) : prv l (i + 1) = some l[i].s := by
  unfold prv
  rw [if_neg (by omega), Nat.add_sub_cancel, List.getElem?_eq_getElem h]
  rfl
theorem wm (i : Nat) (h : i < 4611686018427387904) (h0 : 0 < i) : IntKind.i64.wrap ((i : Int) - 1) = ((i - 1 : Nat) : Int) := by rw [IntWalk.i64_in _ (by omega)]; omega
theorem e40 (N d : Nat) (l : List It) (want win : Int) (hN : l.length < N) (hl : l.length < 1000000) : TT N (d + 3) 40 [.one (rT l), iV want, iV win] = some (iV (if ahOK l want win then 0 else 1), []) := by
  rw [t40, F_ev rfl]
  simp only [e20, List.length_map, j40, b40, q40, qq, ww, List.replicate, Nat.reduceBEq, Nat.reduceAdd, Nat.reduceMul, Nat.reduceDiv, Nat.reduceEqDiff, Nat.reduceLeDiff, Nat.reduceLT, Int.reduceEq, Int.reduceNe, Int.reduceLT, Int.reduceLE, Int.reduceAdd, Int.reduceSub, Int.reduceMul, Int.reduceNeg, Int.reduceToNat, Int.reducePow, Nat.reducePow, reduceCtorEq, reduceIte, if_true, if_false]
  refine fin_cases (fun h1 => ?_) (fun h1 => ?_) <;> simp only [h1, e20, List.length_map, j40, b40, q40, qq, ww, List.replicate, Nat.reduceBEq, Nat.reduceAdd, Nat.reduceMul, Nat.reduceDiv, Nat.reduceEqDiff, Nat.reduceLeDiff, Nat.reduceLT, Int.reduceEq, Int.reduceNe, Int.reduceLT, Int.reduceLE, Int.reduceAdd, Int.reduceSub, Int.reduceMul, Int.reduceNeg, Int.reduceToNat, Int.reducePow, Nat.reducePow, reduceCtorEq, reduceIte, if_true, if_false]
  · simp_all [ahOK]
  refine fin_cases (fun h2 => ?_) (fun h2 => ?_) <;> simp only [h2, e20, List.length_map, j40, b40, q40, qq, ww, List.replicate, Nat.reduceBEq, Nat.reduceAdd, Nat.reduceMul, Nat.reduceDiv, Nat.reduceEqDiff, Nat.reduceLeDiff, Nat.reduceLT, Int.reduceEq, Int.reduceNe, Int.reduceLT, Int.reduceLE, Int.reduceAdd, Int.reduceSub, Int.reduceMul, Int.reduceNeg, Int.reduceToNat, Int.reducePow, Nat.reducePow, reduceCtorEq, reduceIte, if_true, if_false]
  · simp_all [ahOK, inB]
    intros; omega
  refine fin_cases (fun h3 => ?_) (fun h3 => ?_) <;> simp only [h3, e20, List.length_map, j40, b40, q40, qq, ww, List.replicate, Nat.reduceBEq, Nat.reduceAdd, Nat.reduceMul, Nat.reduceDiv, Nat.reduceEqDiff, Nat.reduceLeDiff, Nat.reduceLT, Int.reduceEq, Int.reduceNe, Int.reduceLT, Int.reduceLE, Int.reduceAdd, Int.reduceSub, Int.reduceMul, Int.reduceNeg, Int.reduceToNat, Int.reducePow, Nat.reducePow, reduceCtorEq, reduceIte, if_true, if_false]
  · simp_all [ahOK, inB]
    intros; omega
  have hw : 1 ≤ want ∧ want ≤ 1073741824 ∧ 1 ≤ win ∧ win ≤ 16 := by simp [inB] at h1 h2 h3; omega
  have hww : IntKind.i64.wrap (want + win) = want + win := IntWalk.i64_in _ (by omega)
  have h68 := fun d s => e43 N d s want win hww
  have ho : ahOK l want win = risB want win none l := by
    have : inB want 1 1073741824 = true ∧ inB win 1 16 = true := by simp [inB]; omega
    simp [ahOK, this.1, this.2]
  rw [ho]
  refine (loopK (K := fun o => fin _ (aft _ _ _ o)) (fun i => ⟨[(0, .one (rT l)), (1, iV want), (2, iV win), (20, .one (rT l)), (21, iV l.length), (22, iV i)], []⟩) (fun i => some (iV (if risB want win (prv l i) (l.drop i) then 0 else 1), [])) l.length ?hr l.length 0 N _ (by omega) hN ?hk).trans ?_
  case hk => simp only [gcK, lowB, Nat.reduceLeDiff, Nat.reduceBEq, List.contains_nil, List.contains_cons, Bool.or_false, Bool.false_or, Bool.false_eq_true, if_false, Bool.true_and, Bool.and_true, pickL, look_hit, look_miss, look_end, slMent, hpMent, S.ment, S.ment.smt, ments, V.ment, List.append_nil, List.nil_append, List.cons_append, List.all_nil, List.all_cons, Option.isSome_some, Bool.and_self, if_true, reduceIte, Nat.reduceEqDiff, not_false_eq_true, reduceCtorEq, Nat.reduceMul, Nat.reduceAdd]; rfl
  case hr =>
    intro i n hi ih
    (try dsimp only)
    by_cases hlt : i < l.length
    · have h1 : decide ((i : Int) < (l.length : Int)) = true := by simp; omega
      have hg1 : (l.map eT)[i]? = some (eT l[i]) := by simp [hlt]
      have hd1 : l.drop i = l[i] :: l.drop (i + 1) := by simp
      have hb : 0 ≤ (i : Int) ∧ (i : Int) < (l.length : Int) := by omega
      by_cases h0 : i = 0
      · have hpos : decide ((i : Int) > 0) = false := by simp; omega
        have hpv : prv l i = none := by unfold prv; rw [if_pos h0]
        simp only [h1, hb.1, hb.2, hpos, hg1, h68, e25, List.length_map, Int.toNat_natCast, j40, b40, q40, qq, ww, List.replicate, Nat.reduceBEq, Nat.reduceAdd, Nat.reduceMul, Nat.reduceDiv, Nat.reduceEqDiff, Nat.reduceLeDiff, Nat.reduceLT, Int.reduceEq, Int.reduceNe, Int.reduceLT, Int.reduceLE, Int.reduceAdd, Int.reduceSub, Int.reduceMul, Int.reduceNeg, Int.reduceToNat, Int.reducePow, Nat.reducePow, reduceCtorEq, reduceIte, if_true, if_false]
        repeat' (refine fin_cases2 (fun hp => ?_) (fun hp => ?_) <;> simp only [hp, hpos, e25, wi i (by omega), j40, b40, q40, qq, ww, List.replicate, Nat.reduceBEq, Nat.reduceAdd, Nat.reduceMul, Nat.reduceDiv, Nat.reduceEqDiff, Nat.reduceLeDiff, Nat.reduceLT, Int.reduceEq, Int.reduceNe, Int.reduceLT, Int.reduceLE, Int.reduceAdd, Int.reduceSub, Int.reduceMul, Int.reduceNeg, Int.reduceToNat, Int.reducePow, Nat.reducePow, reduceCtorEq, reduceIte, if_true, if_false])
        · rw [hd1, hpv]; clear ih hd1; simp_all [risB]
        · rw [hd1, hpv]; clear ih hd1; simp_all [risB]
        · rw [hd1, hpv, risB, ← prv_s hlt]
          refine (ih hlt _ (by simp only [gcK, lowB, Nat.reduceLeDiff, Nat.reduceBEq, List.contains_nil, List.contains_cons, Bool.or_false, Bool.false_or, Bool.false_eq_true, if_false, Bool.true_and, Bool.and_true, pickL, look_hit, look_miss, look_end, slMent, hpMent, S.ment, S.ment.smt, ments, V.ment, List.append_nil, List.nil_append, List.cons_append, List.all_nil, List.all_cons, Option.isSome_some, Bool.and_self, if_true, reduceIte, Nat.reduceEqDiff, not_false_eq_true, reduceCtorEq, Nat.reduceMul, Nat.reduceAdd])).trans ?_
          clear ih hd1
          simp_all
      · obtain ⟨q, hq⟩ : ∃ q, q = l[i - 1]'(by omega) := ⟨_, rfl⟩
        have hg2 : (l.map eT)[i - 1]? = some (eT q) := by rw [List.getElem?_map, List.getElem?_eq_getElem (by omega), hq]; rfl
        have hb2 : 0 ≤ ((i - 1 : Nat) : Int) ∧ ((i - 1 : Nat) : Int) < (l.length : Int) := by omega
        have hpos : decide ((i : Int) > 0) = true := by simp; omega
        have hpv : prv l i = some q.s := by unfold prv; rw [if_neg h0, hq, List.getElem?_eq_getElem (by omega)]; rfl
        simp only [h1, hb.1, hb.2, hg1, hg2, hb2.1, hb2.2, hpos, wm i (by omega) (by omega), h68, e25, List.length_map, Int.toNat_natCast, j40, b40, q40, qq, ww, List.replicate, Nat.reduceBEq, Nat.reduceAdd, Nat.reduceMul, Nat.reduceDiv, Nat.reduceEqDiff, Nat.reduceLeDiff, Nat.reduceLT, Int.reduceEq, Int.reduceNe, Int.reduceLT, Int.reduceLE, Int.reduceAdd, Int.reduceSub, Int.reduceMul, Int.reduceNeg, Int.reduceToNat, Int.reducePow, Nat.reducePow, reduceCtorEq, reduceIte, if_true, if_false]
        repeat' (refine fin_cases2 (fun hp => ?_) (fun hp => ?_) <;> simp only [hp, hg2, hb2.1, hb2.2, hpos, wm i (by omega) (by omega), e25, List.length_map, Int.toNat_natCast, wi i (by omega), j40, b40, q40, qq, ww, List.replicate, Nat.reduceBEq, Nat.reduceAdd, Nat.reduceMul, Nat.reduceDiv, Nat.reduceEqDiff, Nat.reduceLeDiff, Nat.reduceLT, Int.reduceEq, Int.reduceNe, Int.reduceLT, Int.reduceLE, Int.reduceAdd, Int.reduceSub, Int.reduceMul, Int.reduceNeg, Int.reduceToNat, Int.reducePow, Nat.reducePow, reduceCtorEq, reduceIte, if_true, if_false])
        · rw [hd1, hpv]; clear ih hd1; simp_all [risB]
        · rw [hd1, hpv]; clear ih hd1; simp_all [risB]
        · have h5 : decide (q.s < l[i].s) = false := by simp at hp ⊢; omega
          rw [hd1, hpv, risB]
          simp only [h5, Bool.and_false, Bool.false_and]
          rfl
        · have h5 : decide (q.s < l[i].s) = true := by simp at hp ⊢; omega
          rw [hd1, hpv, risB, ← prv_s hlt]
          refine (ih hlt _ (by simp only [gcK, lowB, Nat.reduceLeDiff, Nat.reduceBEq, List.contains_nil, List.contains_cons, Bool.or_false, Bool.false_or, Bool.false_eq_true, if_false, Bool.true_and, Bool.and_true, pickL, look_hit, look_miss, look_end, slMent, hpMent, S.ment, S.ment.smt, ments, V.ment, List.append_nil, List.nil_append, List.cons_append, List.all_nil, List.all_cons, Option.isSome_some, Bool.and_self, if_true, reduceIte, Nat.reduceEqDiff, not_false_eq_true, reduceCtorEq, Nat.reduceMul, Nat.reduceAdd])).trans ?_
          clear ih hd1
          simp_all
    · have h1 : decide ((i : Int) < (l.length : Int)) = false := by simp; omega
      simp only [h1, List.length_map, j40, b40, q40, qq, ww, List.replicate, Nat.reduceBEq, Nat.reduceAdd, Nat.reduceMul, Nat.reduceDiv, Nat.reduceEqDiff, Nat.reduceLeDiff, Nat.reduceLT, Int.reduceEq, Int.reduceNe, Int.reduceLT, Int.reduceLE, Int.reduceAdd, Int.reduceSub, Int.reduceMul, Int.reduceNeg, Int.reduceToNat, Int.reducePow, Nat.reducePow, reduceCtorEq, reduceIte, if_true, if_false]
      rw [List.drop_of_length_le (by omega)]
      rfl
  rfl
end Go.Proofs.YtkfcbpbnoeaheaaDoor.AA
namespace Go.Proofs.YtkfcbpbnoeaheaaDoor.AA
open Go Go.Proofs.YtkfcbpbnoeaheaaDoorR Go.Proofs.YtkfcbpbnoeaheaaDoor.IF
set_option maxRecDepth 100000
set_option maxHeartbeats 4000000
def ix {α : Type} (p : α → Bool) : List α → Int → Int
  | [], _ => -1
  | x :: r, i => if p x then i else ix p r (i + 1)
theorem e41 (N d f : Nat) (ps : List V) (p : It → Bool) (hf : ∀ x, TT N d f [aT x, .one (.ptr ps)] = some (bV (p x), [])) (l : List It) (hN : l.length < N) (hl : l.length < 1000000) : TT N (d + 1) 41 [.one (rT l), .one (.fn f [.ptr ps])] = some (iV (ix p l 0), []) := by
  rw [t41, F_ev rfl]
  simp only [List.length_map, j41, b41, q41, qq, ww, List.replicate, Nat.reduceBEq, Nat.reduceAdd, Nat.reduceMul, Nat.reduceDiv, Nat.reduceEqDiff, Nat.reduceLeDiff, Nat.reduceLT, Int.reduceEq, Int.reduceNe, Int.reduceLT, Int.reduceLE, Int.reduceAdd, Int.reduceSub, Int.reduceMul, Int.reduceNeg, Int.reduceToNat, Int.reducePow, Nat.reducePow, reduceCtorEq, reduceIte, if_true, if_false]
  refine (loopK (K := fun o => fin _ (aft _ _ _ o)) (fun i => ⟨[(0, .one (rT l)), (1, .one (.fn f [.ptr ps])), (7, iV l.length), (8, iV i)], []⟩) (fun i => some (iV (ix p (l.drop i) i), [])) l.length ?hr l.length 0 N _ (by omega) hN ?hk).trans ?_
  case hk => simp only [gcK, lowB, Nat.reduceLeDiff, Nat.reduceBEq, List.contains_nil, List.contains_cons, Bool.or_false, Bool.false_or, Bool.false_eq_true, if_false, Bool.true_and, Bool.and_true, pickL, look_hit, look_miss, look_end, slMent, hpMent, S.ment, S.ment.smt, ments, V.ment, List.append_nil, List.nil_append, List.cons_append, List.all_nil, List.all_cons, Option.isSome_some, Bool.and_self, if_true, reduceIte, Nat.reduceEqDiff, not_false_eq_true, reduceCtorEq, Nat.reduceMul, Nat.reduceAdd]; rfl
  case hr =>
    intro i n hi ih
    (try dsimp only)
    by_cases hlt : i < l.length
    · have h1 : decide ((i : Int) < (l.length : Int)) = true := by simp; omega
      have hget : (l.map eT)[i]? = some (eT l[i]) := by simp [hlt]
      have hd : l.drop i = l[i] :: l.drop (i + 1) := by simp
      have hb : 0 ≤ (i : Int) ∧ (i : Int) < (l.length : Int) := by omega
      simp only [h1, hb.1, hb.2, List.length_map, Int.toNat_natCast, hget, hf, wi i (by omega), j41, b41, q41, qq, ww, List.replicate, Nat.reduceBEq, Nat.reduceAdd, Nat.reduceMul, Nat.reduceDiv, Nat.reduceEqDiff, Nat.reduceLeDiff, Nat.reduceLT, Int.reduceEq, Int.reduceNe, Int.reduceLT, Int.reduceLE, Int.reduceAdd, Int.reduceSub, Int.reduceMul, Int.reduceNeg, Int.reduceToNat, Int.reducePow, Nat.reducePow, reduceCtorEq, reduceIte, if_true, if_false]
      refine fin_cases2 (fun hp => ?_) (fun hp => ?_) <;> simp only [wi i (by omega), j41, b41, q41, qq, ww, List.replicate, Nat.reduceBEq, Nat.reduceAdd, Nat.reduceMul, Nat.reduceDiv, Nat.reduceEqDiff, Nat.reduceLeDiff, Nat.reduceLT, Int.reduceEq, Int.reduceNe, Int.reduceLT, Int.reduceLE, Int.reduceAdd, Int.reduceSub, Int.reduceMul, Int.reduceNeg, Int.reduceToNat, Int.reducePow, Nat.reducePow, reduceCtorEq, reduceIte, if_true, if_false]
      · rw [hd, ix, hp, if_pos rfl]
      · rw [hd, ix, hp, if_neg (by decide)]
        exact ih hlt _ (by simp only [gcK, lowB, Nat.reduceLeDiff, Nat.reduceBEq, List.contains_nil, List.contains_cons, Bool.or_false, Bool.false_or, Bool.false_eq_true, if_false, Bool.true_and, Bool.and_true, pickL, look_hit, look_miss, look_end, slMent, hpMent, S.ment, S.ment.smt, ments, V.ment, List.append_nil, List.nil_append, List.cons_append, List.all_nil, List.all_cons, Option.isSome_some, Bool.and_self, if_true, reduceIte, Nat.reduceEqDiff, not_false_eq_true, reduceCtorEq, Nat.reduceMul, Nat.reduceAdd])
    · have h1 : decide ((i : Int) < (l.length : Int)) = false := by simp; omega
      simp only [h1, j41, b41, q41, qq, ww, List.replicate, Nat.reduceBEq, Nat.reduceAdd, Nat.reduceMul, Nat.reduceDiv, Nat.reduceEqDiff, Nat.reduceLeDiff, Nat.reduceLT, Int.reduceEq, Int.reduceNe, Int.reduceLT, Int.reduceLE, Int.reduceAdd, Int.reduceSub, Int.reduceMul, Int.reduceNeg, Int.reduceToNat, Int.reducePow, Nat.reducePow, reduceCtorEq, reduceIte, if_true, if_false]
      rw [List.drop_of_length_le (by omega)]
      rfl
  rfl
theorem e42 (N d : Nat) (y x : It) : TT N (d + 1) 42 [aT y, .one (.ptr (eT x))] = some (bV (decide (x.s ≤ y.s)), []) := by
  rw [t42, F_ev rfl]
  simp only [j42, b42, q42, qq, ww, List.replicate, Nat.reduceBEq, Nat.reduceAdd, Nat.reduceMul, Nat.reduceDiv, Nat.reduceEqDiff, Nat.reduceLeDiff, Nat.reduceLT, Int.reduceEq, Int.reduceNe, Int.reduceLT, Int.reduceLE, Int.reduceAdd, Int.reduceSub, Int.reduceMul, Int.reduceNeg, Int.reduceToNat, Int.reducePow, Nat.reducePow, reduceCtorEq, reduceIte, if_true, if_false]
  repeat' (refine fin_cases (fun h1 => ?_) (fun h1 => ?_) <;> simp only [h1, j42, b42, q42, qq, ww, List.replicate, Nat.reduceBEq, Nat.reduceAdd, Nat.reduceMul, Nat.reduceDiv, Nat.reduceEqDiff, Nat.reduceLeDiff, Nat.reduceLT, Int.reduceEq, Int.reduceNe, Int.reduceLT, Int.reduceLE, Int.reduceAdd, Int.reduceSub, Int.reduceMul, Int.reduceNeg, Int.reduceToNat, Int.reducePow, Nat.reducePow, reduceCtorEq, reduceIte, if_true, if_false])
theorem e55 (N d : Nat) (y : It) (want : Int) : TT N (d + 1) 55 [aT y, .one (.ptr [.int .i64 want])] = some (bV (decide (y.s < want)), []) := by
  rw [t55, F_ev rfl]
  simp only [j55, b55, q55, qq, ww, List.replicate, Nat.reduceBEq, Nat.reduceAdd, Nat.reduceMul, Nat.reduceDiv, Nat.reduceEqDiff, Nat.reduceLeDiff, Nat.reduceLT, Int.reduceEq, Int.reduceNe, Int.reduceLT, Int.reduceLE, Int.reduceAdd, Int.reduceSub, Int.reduceMul, Int.reduceNeg, Int.reduceToNat, Int.reducePow, Nat.reducePow, reduceCtorEq, reduceIte, if_true, if_false]
  repeat' (refine fin_cases (fun h1 => ?_) (fun h1 => ?_) <;> simp only [h1, j55, b55, q55, qq, ww, List.replicate, Nat.reduceBEq, Nat.reduceAdd, Nat.reduceMul, Nat.reduceDiv, Nat.reduceEqDiff, Nat.reduceLeDiff, Nat.reduceLT, Int.reduceEq, Int.reduceNe, Int.reduceLT, Int.reduceLE, Int.reduceAdd, Int.reduceSub, Int.reduceMul, Int.reduceNeg, Int.reduceToNat, Int.reducePow, Nat.reducePow, reduceCtorEq, reduceIte, if_true, if_false])
abbrev hR (el e : Nat) (xs : List (List V)) : S := .tup [.one (.ref el e 0), .one (.row xs)]
theorem ix_none {α : Type} {p : α → Bool} : ∀ {l : List α} {i : Int}, 0 ≤ i → ix p l i = -1 → l.any p = false
  | [], i, _, _ => rfl
  | x :: r, i, h, hx => by
    unfold ix at hx
    split at hx
    · omega
    · rename_i hp
      simp [hp, ix_none (l := r) (i := i + 1) (by omega) hx]
theorem ix_some {α : Type} {p : α → Bool} : ∀ {l : List α} {i : Int}, 0 ≤ i → l.any p = true → ∃ k : Nat, ix p l i = i + k ∧ ∃ (h : k < l.length), p l[k] = true ∧ ∀ j (hj : j < k), p (l[j]'(by omega)) = false
  | [], i, _, h => by cases h
  | x :: r, i, h, ha => by
    unfold ix
    by_cases hp : p x = true
    · exact ⟨0, by simp [hp], by simp, by simpa using hp, fun j hj => by omega⟩
    · rw [if_neg hp]
      have hp' : p x = false := by simpa using hp
      rw [List.any_cons, hp', Bool.false_or] at ha
      obtain ⟨k, h1, h2, h3, h4⟩ := ix_some (l := r) (i := i + 1) (by omega) ha
      refine ⟨k + 1, by rw [h1]; omega, by simp; omega, by simpa using h3, fun j hj => ?_⟩
      cases j with
      | zero => simpa using hp'
      | succ j => simpa using h4 j (by omega)
/-- slices.DeleteFunc. -/
theorem e54 (N d f : Nat) (ps : List V) (p : It → Bool) (hf : ∀ d x, TT N (d + 1) f [aT x, .one (.ptr ps)] = some (bV (p x), [])) (l : List It) (hN : l.length < N) (hl : l.length < 1000000) :
    TT N (d + 3) 54 [.one (.sl 0 0 l.length), .one (.fn f [.ptr ps]), .tup [hR 35 2 (l.map eT)]] =
      some (.one (if (l.filter fun x => !p x).length = 0 ∧ l ≠ [] then .row [] else .sl 0 0 (l.filter fun x => !p x).length), [(0, .rows 35 2 ((l.filter fun x => !p x).map eT))]) := by
  have h65 := e41 N (d + 1) f ps p (hf d) l hN hl
  rw [t54, F_evo rfl rfl (by simp)]
  cases ha : l.any p with
  | false =>
    have hix : ix p l 0 = -1 := by
      have h9 : ∀ (l : List It) (i : Int), l.any p = false → ix p l i = -1 := by
        intro l
        induction l with
        | nil => intro i _; rfl
        | cons x r ih =>
          intro i h
          rw [List.any_cons, Bool.or_eq_false_iff] at h
          rw [ix, h.1, if_neg (by decide)]
          exact ih _ h.2
      exact h9 l 0 ha
    have hfil : l.filter (fun x => !p x) = l := by
      rw [List.filter_eq_self]
      intro x hx
      have := List.any_eq_false.1 ha x hx
      simpa using this
    simp only [h65, hix, takeT, List.length_map, j54, b54, q54, qq, ww, List.replicate, Nat.reduceBEq, Nat.reduceAdd, Nat.reduceMul, Nat.reduceDiv, Nat.reduceEqDiff, Nat.reduceLeDiff, Nat.reduceLT, Int.reduceEq, Int.reduceNe, Int.reduceLT, Int.reduceLE, Int.reduceAdd, Int.reduceSub, Int.reduceMul, Int.reduceNeg, Int.reduceToNat, Int.reducePow, Nat.reducePow, reduceCtorEq, reduceIte, if_true, if_false]
    rw [hfil]
    cases l with
    | nil => rfl
    | cons x r => simp
  | true =>
    obtain ⟨k, hix, hk, hpk, hbef⟩ := ix_some (Int.le_refl 0) ha
    rw [Int.zero_add] at hix
    have hne : ((k : Int) = -1) = False := eq_false (by omega)
    have hfk : (l.take (k + 1)).filter (fun x => !p x) = l.take k := by
      rw [take_s hk, List.filter_append]
      have h1 : (l.take k).filter (fun x => !p x) = l.take k := by
        rw [List.filter_eq_self]
        intro x hx
        obtain ⟨j, hj⟩ := List.getElem?_of_mem hx
        rw [List.getElem?_take] at hj
        split at hj
        · rename_i hjk
          rw [List.getElem?_eq_getElem (by omega)] at hj
          cases hj
          have := hbef j hjk
          simpa using this
        · cases hj
      rw [h1]
      simp [hpk]
    simp only [h65, hix, hne, takeT, wi k (by omega), List.length_map, j54, b54, q54, qq, ww, List.replicate, Nat.reduceBEq, Nat.reduceAdd, Nat.reduceMul, Nat.reduceDiv, Nat.reduceEqDiff, Nat.reduceLeDiff, Nat.reduceLT, Int.reduceEq, Int.reduceNe, Int.reduceLT, Int.reduceLE, Int.reduceAdd, Int.reduceSub, Int.reduceMul, Int.reduceNeg, Int.reduceToNat, Int.reducePow, Nat.reducePow, reduceCtorEq, reduceIte, if_true, if_false]
    refine loopI (K := fun o => finG _ _ (aft _ _ _ o)) (I := fun q s => ∃ (c : List It) (i : Nat), s = ⟨[(0, .one (.sl 0 0 l.length)), (1, .one (.fn f [.ptr ps])), (5, iV i), (6, iV ((k + 1 + q : Nat) : Int))], [(0, .rows 35 2 (c.map eT))]⟩ ∧ c.length = l.length ∧ i ≤ k + q ∧ c.take i = (l.take (k + 1 + q)).filter (fun x => !p x) ∧ ∀ j, k + 1 + q ≤ j → c[j]? = l[j]?) _ (l.length - (k + 1)) ?hr (l.length - (k + 1)) 0 N _ ⟨[(0, .one (.sl 0 0 l.length)), (1, .one (.fn f [.ptr ps])), (5, iV k), (6, iV ((k + 1 : Nat) : Int))], [(0, .rows 35 2 (l.map eT))]⟩ (by omega) (by omega) ?hk ⟨l, k, rfl, rfl, by omega, by rw [Nat.add_zero]; exact hfk.symm, fun j _ => rfl⟩
    case hk => simp only [gcK, lowB, Nat.reduceLeDiff, Nat.reduceBEq, List.contains_nil, List.contains_cons, Bool.or_false, Bool.false_or, Bool.false_eq_true, if_false, Bool.true_and, Bool.and_true, pickL, look_hit, look_miss, look_end, slMent, hpMent, S.ment, S.ment.smt, ments, V.ment, List.append_nil, List.nil_append, List.cons_append, List.all_nil, List.all_cons, Option.isSome_some, Bool.and_self, if_true, reduceIte, Nat.reduceEqDiff, not_false_eq_true, reduceCtorEq, Nat.reduceMul, Nat.reduceAdd]
    case hr =>
      rintro q n s hq ⟨c, i, rfl, hcl, hi, hct, hcj⟩ ih
      (try dsimp only)
      by_cases hlt : k + 1 + q < l.length
      · have h1 : decide (((k + 1 + q : Nat) : Int) < (l.length : Int)) = true := by simp; omega
        have hg1 : (c.map eT)[k + 1 + q]? = some (eT l[k + 1 + q]) := by rw [List.getElem?_map, hcj _ (Nat.le_refl _), List.getElem?_eq_getElem hlt]; rfl
        have hb : 0 ≤ ((k + 1 + q : Nat) : Int) ∧ ((k + 1 + q : Nat) : Int) < (l.length : Int) := by omega
        simp only [h1, hb.1, hb.2, hg1, hf, Nat.zero_add, List.length_map, Int.toNat_natCast, wi (k + 1 + q) (by omega), j54, b54, q54, qq, ww, List.replicate, Nat.reduceBEq, Nat.reduceAdd, Nat.reduceMul, Nat.reduceDiv, Nat.reduceEqDiff, Nat.reduceLeDiff, Nat.reduceLT, Int.reduceEq, Int.reduceNe, Int.reduceLT, Int.reduceLE, Int.reduceAdd, Int.reduceSub, Int.reduceMul, Int.reduceNeg, Int.reduceToNat, Int.reducePow, Nat.reducePow, reduceCtorEq, reduceIte, if_true, if_false]
        have hil : i < c.length := by omega
        have hg2 : (c.map eT)[i]? = some (eT c[i]) := by rw [List.getElem?_map, List.getElem?_eq_getElem hil]; rfl
        have hbi : 0 ≤ (i : Int) ∧ (i : Int) < (l.length : Int) := by omega
        have htk : (l.take (k + 1 + q + 1)).filter (fun x => !p x) = (l.take (k + 1 + q)).filter (fun x => !p x) ++ (if p l[k + 1 + q] then [] else [l[k + 1 + q]]) := by
          rw [take_s hlt, List.filter_append]
          congr 1
          cases hp : p l[k + 1 + q] <;> simp [hp]
        refine fin_cases2 (fun hp => ?_) (fun hp => ?_) <;> simp only [hbi.1, hbi.2, hg2, Nat.zero_add, List.length_map, Int.toNat_natCast, wi i (by omega), wi (k + 1 + q) (by omega), j54, b54, q54, qq, ww, List.replicate, Nat.reduceBEq, Nat.reduceAdd, Nat.reduceMul, Nat.reduceDiv, Nat.reduceEqDiff, Nat.reduceLeDiff, Nat.reduceLT, Int.reduceEq, Int.reduceNe, Int.reduceLT, Int.reduceLE, Int.reduceAdd, Int.reduceSub, Int.reduceMul, Int.reduceNeg, Int.reduceToNat, Int.reducePow, Nat.reducePow, reduceCtorEq, reduceIte, if_true, if_false]
        · have hp' : p l[k + 1 + q] = false := by simpa using hp
          refine ih (by omega) _ ⟨[(0, .one (.sl 0 0 l.length)), (1, .one (.fn f [.ptr ps])), (5, iV ((i + 1 : Nat) : Int)), (6, iV ((k + 1 + (q + 1) : Nat) : Int))], [(0, .rows 35 2 ((c.set i l[k + 1 + q]).map eT))]⟩ (by simp only [gcK, lowB, Nat.reduceLeDiff, Nat.reduceBEq, List.contains_nil, List.contains_cons, Bool.or_false, Bool.false_or, Bool.false_eq_true, if_false, Bool.true_and, Bool.and_true, pickL, look_hit, look_miss, look_end, slMent, hpMent, S.ment, S.ment.smt, ments, V.ment, List.append_nil, List.nil_append, List.cons_append, List.all_nil, List.all_cons, Option.isSome_some, Bool.and_self, if_true, reduceIte, Nat.reduceEqDiff, not_false_eq_true, reduceCtorEq, Nat.reduceMul, Nat.reduceAdd, List.map_set]; rfl) ⟨c.set i l[k + 1 + q], i + 1, rfl, by rw [List.length_set]; exact hcl, by omega, ?_, fun j hj => ?_⟩
          · rw [show k + 1 + (q + 1) = k + 1 + q + 1 by omega, htk, hp', if_neg (by decide), ← hct, take_s (by rw [List.length_set]; exact hil), List.getElem_set_self, List.take_set_of_le (Nat.le_refl i)]
          · rw [List.getElem?_set_ne (by omega)]
            exact hcj j (by omega)
        · have hp' : p l[k + 1 + q] = true := by simpa using hp
          refine ih (by omega) _ ⟨[(0, .one (.sl 0 0 l.length)), (1, .one (.fn f [.ptr ps])), (5, iV i), (6, iV ((k + 1 + (q + 1) : Nat) : Int))], [(0, .rows 35 2 (c.map eT))]⟩ (by simp only [gcK, lowB, Nat.reduceLeDiff, Nat.reduceBEq, List.contains_nil, List.contains_cons, Bool.or_false, Bool.false_or, Bool.false_eq_true, if_false, Bool.true_and, Bool.and_true, pickL, look_hit, look_miss, look_end, slMent, hpMent, S.ment, S.ment.smt, ments, V.ment, List.append_nil, List.nil_append, List.cons_append, List.all_nil, List.all_cons, Option.isSome_some, Bool.and_self, if_true, reduceIte, Nat.reduceEqDiff, not_false_eq_true, reduceCtorEq, Nat.reduceMul, Nat.reduceAdd]; rfl) ⟨c, i, rfl, hcl, by omega, ?_, fun j hj => hcj j (by omega)⟩
          rw [show k + 1 + (q + 1) = k + 1 + q + 1 by omega, htk, hp', if_pos rfl, List.append_nil]
          exact hct
      · have h1 : decide (((k + 1 + q : Nat) : Int) < (l.length : Int)) = false := by simp; omega
        have hq' : k + 1 + q = l.length := by omega
        have hil : i < l.length := by omega
        have hbi : 0 ≤ (i : Int) ∧ (i : Int) ≤ (l.length : Int) := by omega
        have hne2 : ((i : Int) = (l.length : Int)) = False := eq_false (by omega)
        have hsum : i + (l.length - i) = l.length := by omega
        have hcm : (c.map eT).take i = ((l.filter fun x => !p x)).map eT := by rw [← List.map_take, hct, hq', List.take_length]
        have hfl : (l.filter fun x => !p x).length = i := by
          have := congrArg List.length hcm
          simp only [List.length_take, List.length_map] at this
          omega
        have hlne : l ≠ [] := fun e => by rw [e] at hil; simp at hil
        simp only [h1, hbi.1, hbi.2, hne2, hcl, hsum, hcm, Nat.zero_add, Int.toNat_natCast, List.length_map, j54, b54, q54, qq, ww, List.replicate, Nat.reduceBEq, Nat.reduceAdd, Nat.reduceMul, Nat.reduceDiv, Nat.reduceEqDiff, Nat.reduceLeDiff, Nat.reduceLT, Int.reduceEq, Int.reduceNe, Int.reduceLT, Int.reduceLE, Int.reduceAdd, Int.reduceSub, Int.reduceMul, Int.reduceNeg, Int.reduceToNat, Int.reducePow, Nat.reducePow, reduceCtorEq, reduceIte, if_true, if_false]
        by_cases h0 : i = 0
        · have hz : ((0 : Int) = (i : Int)) = True := eq_true (by omega)
          have hfl' : (l.filter fun x => !p x).length = 0 := by omega
          have hnil : l.filter (fun x => !p x) = [] := List.eq_nil_of_length_eq_zero hfl'
          simp only [hz, hnil, j54, b54, q54, qq, ww, List.replicate, Nat.reduceBEq, Nat.reduceAdd, Nat.reduceMul, Nat.reduceDiv, Nat.reduceEqDiff, Nat.reduceLeDiff, Nat.reduceLT, Int.reduceEq, Int.reduceNe, Int.reduceLT, Int.reduceLE, Int.reduceAdd, Int.reduceSub, Int.reduceMul, Int.reduceNeg, Int.reduceToNat, Int.reducePow, Nat.reducePow, reduceCtorEq, reduceIte, if_true, if_false]
          simp [hlne]
        · have hz : ((0 : Int) = (i : Int)) = False := eq_false (by omega)
          simp only [hz, j54, b54, q54, qq, ww, List.replicate, Nat.reduceBEq, Nat.reduceAdd, Nat.reduceMul, Nat.reduceDiv, Nat.reduceEqDiff, Nat.reduceLeDiff, Nat.reduceLT, Int.reduceEq, Int.reduceNe, Int.reduceLT, Int.reduceLE, Int.reduceAdd, Int.reduceSub, Int.reduceMul, Int.reduceNeg, Int.reduceToNat, Int.reducePow, Nat.reducePow, reduceCtorEq, reduceIte, if_true, if_false]
          rw [if_neg (fun h => h0 (by omega)), hfl]
          simp
end Go.Proofs.YtkfcbpbnoeaheaaDoor.AA
namespace Go.Proofs.YtkfcbpbnoeaheaaDoor.AA
open Go Go.Proofs.YtkfcbpbnoeaheaaDoorR Go.Proofs.YtkfcbpbnoeaheaaDoor.IF
set_option maxRecDepth 100000
set_option maxHeartbeats 4000000
/-- How many follow, from a number on. -/
def pre (c : It → Int → Bool) : List It → Nat → Nat
  | [], _ => 0
  | y :: r, k => if c y k then pre c r (k + 1) + 1 else 0
theorem pre_le (c : It → Int → Bool) : ∀ (l : List It) (k : Nat), pre c l k ≤ l.length
  | [], k => Nat.le_refl _
  | y :: r, k => by
    have := pre_le c r (k + 1)
    unfold pre
    split <;> simp <;> omega
def cP (want : Int) (y : It) (k : Int) : Bool := decide (IntKind.i64.wrap (y.s - want) = k)
def cR (want : Int) (y : It) (k : Int) : Bool := decide (IntKind.i64.wrap (y.s - k) = want)
def leftL (want : Int) (l : List It) : List It := l.filter fun x => decide (want ≤ x.s)
theorem e34r (N d : Nat) (xs : List (List V)) (h : xs.all (fun x => x.length == 2) = true) (hl : xs.length < 1000000) : ans (TT N (d + 1) 34 [.one (.row xs)]) = some (.one (.row xs)) := by
  rw [t34]
  have hb : xs.length * 16 ≤ 140737488355328 := by omega
  simp only [cloneM, h, hb, List.take_length, qq, ww, List.replicate, Nat.reduceBEq, Nat.reduceAdd, Nat.reduceMul, Nat.reduceDiv, Nat.reduceEqDiff, Nat.reduceLeDiff, Nat.reduceLT, Int.reduceEq, Int.reduceNe, Int.reduceLT, Int.reduceLE, Int.reduceAdd, Int.reduceSub, Int.reduceMul, Int.reduceNeg, Int.reduceToNat, Int.reducePow, Nat.reducePow, reduceCtorEq, reduceIte, if_true, if_false]
theorem e34f (N d : Nat) (xs : List (List V)) (h : xs.all (fun x => x.length == 2) = true) (hl : xs.length < 1000000) : TT N (d + 1) 34 [.one (.row xs)] = some (.one (.sl 0 0 xs.length), [(0, .rows 35 2 xs)]) := by
  have hb : xs.length * 16 ≤ 140737488355328 := by omega
  rw [t34]
  simp only [cloneM, h, hb, qq, ww, List.replicate, Nat.reduceBEq, Nat.reduceAdd, Nat.reduceMul, Nat.reduceDiv, Nat.reduceEqDiff, Nat.reduceLeDiff, Nat.reduceLT, Int.reduceEq, Int.reduceNe, Int.reduceLT, Int.reduceLE, Int.reduceAdd, Int.reduceSub, Int.reduceMul, Int.reduceNeg, Int.reduceToNat, Int.reducePow, Nat.reducePow, reduceCtorEq, reduceIte, if_true, if_false]
theorem selfT (l : List It) : (l.map eT).all selfs = true := by simp [selfs, V.self]
theorem e39 (N d : Nat) (l : List It) (want : Int) (hN : l.length < N) (hl : l.length < 1000000) : ans (TT N (d + 4) 39 [.one (rT l), iV want]) =
    some (.tup [.one (rT ((leftL want l).take (pre (cP want) (leftL want l) 0))), .one (rT ((leftL want l).drop (pre (cP want) (leftL want l) 0)))]) := by
  have h69 := fun d => e34 N d l hl
  have hleft : (l.filter fun x => !decide (x.s < want)) = leftL want l := by
    unfold leftL
    congr 1
    funext x
    by_cases h : x.s < want
    · have h2 : ¬ want ≤ x.s := by omega
      simp [h, h2]
    · have h2 : want ≤ x.s := by omega
      simp [h, h2]
  have h71 := e54 N d 55 [.int .i64 want] (fun x => decide (x.s < want)) (fun d x => e55 N d x want) l hN hl
  rw [hleft] at h71
  have hlen : (leftL want l).length ≤ l.length := List.length_filter_le _ _
  generalize hL : leftL want l = L at *
  rw [t39, F_ev rfl]
  by_cases hc : L.length = 0 ∧ l ≠ []
  · rw [if_pos hc] at h71
    have hnil : L = [] := List.eq_nil_of_length_eq_zero hc.1
    subst hnil
    simp only [h69, h71, List.length_map, j39, b39, q39, qq, ww, List.replicate, Nat.reduceBEq, Nat.reduceAdd, Nat.reduceMul, Nat.reduceDiv, Nat.reduceEqDiff, Nat.reduceLeDiff, Nat.reduceLT, Int.reduceEq, Int.reduceNe, Int.reduceLT, Int.reduceLE, Int.reduceAdd, Int.reduceSub, Int.reduceMul, Int.reduceNeg, Int.reduceToNat, Int.reducePow, Nat.reducePow, reduceCtorEq, reduceIte, if_true, if_false]
    refine (loopK (K := fun o => ans (fin _ (aft _ _ _ o))) (fun i => ⟨[(0, .one (.row [])), (3, .one (.ptr [.int .i64 want])), (6, iV i)], []⟩) (fun i => some (.tup [.one (.row []), .one (.row [])])) 0 ?hr 0 0 N _ (by omega) (by omega) ?hk).trans ?_
    case hk => simp only [gcK, lowB, Nat.reduceLeDiff, Nat.reduceBEq, List.contains_nil, List.contains_cons, Bool.or_false, Bool.false_or, Bool.false_eq_true, if_false, Bool.true_and, Bool.and_true, pickL, look_hit, look_miss, look_end, slMent, hpMent, S.ment, S.ment.smt, ments, V.ment, List.append_nil, List.nil_append, List.cons_append, List.all_nil, List.all_cons, Option.isSome_some, Bool.and_self, if_true, reduceIte, Nat.reduceEqDiff, not_false_eq_true, reduceCtorEq, Nat.reduceMul, Nat.reduceAdd]; rfl
    case hr =>
      intro i n hi ih
      obtain rfl : i = 0 := by omega
      have h1 : decide ((0 : Int) < 0) = false := rfl
      have h69b := fun d => e34f N d [] rfl (by simp)
      simp only [h1, h69b, j39, b39, q39, qq, ww, List.replicate, Nat.reduceBEq, Nat.reduceAdd, Nat.reduceMul, Nat.reduceDiv, Nat.reduceEqDiff, Nat.reduceLeDiff, Nat.reduceLT, Int.reduceEq, Int.reduceNe, Int.reduceLT, Int.reduceLE, Int.reduceAdd, Int.reduceSub, Int.reduceMul, Int.reduceNeg, Int.reduceToNat, Int.reducePow, Nat.reducePow, reduceCtorEq, reduceIte, if_true, if_false]
    simp
  · rw [if_neg hc] at h71
    simp only [h69, h71, List.length_map, j39, b39, q39, qq, ww, List.replicate, Nat.reduceBEq, Nat.reduceAdd, Nat.reduceMul, Nat.reduceDiv, Nat.reduceEqDiff, Nat.reduceLeDiff, Nat.reduceLT, Int.reduceEq, Int.reduceNe, Int.reduceLT, Int.reduceLE, Int.reduceAdd, Int.reduceSub, Int.reduceMul, Int.reduceNeg, Int.reduceToNat, Int.reducePow, Nat.reducePow, reduceCtorEq, reduceIte, if_true, if_false]
    refine (loopK (K := fun o => ans (fin _ (aft _ _ _ o))) (fun i => ⟨[(0, .one (.sl 512 0 L.length)), (3, .one (.ptr [.int .i64 want])), (6, iV i)], [(512, .rows 35 2 (L.map eT))]⟩) (fun i => some (.tup [.one (rT (L.take (i + pre (cP want) (L.drop i) i))), .one (rT (L.drop (i + pre (cP want) (L.drop i) i)))])) L.length ?hr L.length 0 N _ (by omega) (by omega) ?hk).trans ?_
    case hk => simp only [gcK, lowB, Nat.reduceLeDiff, Nat.reduceBEq, List.contains_nil, List.contains_cons, Bool.or_false, Bool.false_or, Bool.false_eq_true, if_false, Bool.true_and, Bool.and_true, pickL, look_hit, look_miss, look_end, slMent, hpMent, S.ment, S.ment.smt, ments, V.ment, List.append_nil, List.nil_append, List.cons_append, List.all_nil, List.all_cons, Option.isSome_some, Bool.and_self, if_true, reduceIte, Nat.reduceEqDiff, not_false_eq_true, reduceCtorEq, Nat.reduceMul, Nat.reduceAdd]; rfl
    case hr =>
      intro i n hi ih
      (try dsimp only)
      have hli : i < 1000000 := by omega
      have hexit : TT N (d + 3) 34 [.one (.row ((L.map eT).take i))] = some (.one (.sl 0 0 ((L.map eT).take i).length), [(0, .rows 35 2 ((L.map eT).take i))]) ∧ TT N (d + 3) 34 [.one (.row ((L.map eT).drop i))] = some (.one (.sl 0 0 ((L.map eT).drop i).length), [(0, .rows 35 2 ((L.map eT).drop i))]) :=
        ⟨e34f N (d + 2) _ (by rw [← List.map_take]; exact allT _) (by rw [← List.map_take, List.length_map, List.length_take]; omega), e34f N (d + 2) _ (by rw [← List.map_drop]; exact allT _) (by rw [← List.map_drop, List.length_map, List.length_drop]; omega)⟩
      have hs1 : ((L.map eT).take i).all selfs = true := by rw [← List.map_take]; exact selfT _
      have hs2 : ((L.map eT).drop i).all selfs = true := by rw [← List.map_drop]; exact selfT _
      by_cases hlt : i < L.length
      · have h1 : decide ((i : Int) < (L.length : Int)) = true := by simp; omega
        have hget : (L.map eT)[i]? = some (eT L[i]) := by simp [hlt]
        have hd : L.drop i = L[i] :: L.drop (i + 1) := by simp
        have hb : 0 ≤ (i : Int) ∧ (i : Int) < (L.length : Int) := by omega
        simp only [h1, hb.1, hb.2, hget, Nat.zero_add, List.length_map, Int.toNat_natCast, j39, b39, q39, qq, ww, List.replicate, Nat.reduceBEq, Nat.reduceAdd, Nat.reduceMul, Nat.reduceDiv, Nat.reduceEqDiff, Nat.reduceLeDiff, Nat.reduceLT, Int.reduceEq, Int.reduceNe, Int.reduceLT, Int.reduceLE, Int.reduceAdd, Int.reduceSub, Int.reduceMul, Int.reduceNeg, Int.reduceToNat, Int.reducePow, Nat.reducePow, reduceCtorEq, reduceIte, if_true, if_false]
        refine an_cases2 (fun hp => ?_) (fun hp => ?_)
        · have hpre : i + pre (cP want) (L.drop i) i = (i + 1) + pre (cP want) (L.drop (i + 1)) (i + 1) := by
            rw [hd, pre, if_pos (show cP want L[i] i = true from hp)]
            omega
          rw [hpre]
          simp only [wi i (by omega), j39, b39, q39, qq, ww, List.replicate, Nat.reduceBEq, Nat.reduceAdd, Nat.reduceMul, Nat.reduceDiv, Nat.reduceEqDiff, Nat.reduceLeDiff, Nat.reduceLT, Int.reduceEq, Int.reduceNe, Int.reduceLT, Int.reduceLE, Int.reduceAdd, Int.reduceSub, Int.reduceMul, Int.reduceNeg, Int.reduceToNat, Int.reducePow, Nat.reducePow, reduceCtorEq, reduceIte, if_true, if_false]
          exact ih hlt _ (by simp only [gcK, lowB, Nat.reduceLeDiff, Nat.reduceBEq, List.contains_nil, List.contains_cons, Bool.or_false, Bool.false_or, Bool.false_eq_true, if_false, Bool.true_and, Bool.and_true, pickL, look_hit, look_miss, look_end, slMent, hpMent, S.ment, S.ment.smt, ments, V.ment, List.append_nil, List.nil_append, List.cons_append, List.all_nil, List.all_cons, Option.isSome_some, Bool.and_self, if_true, reduceIte, Nat.reduceEqDiff, not_false_eq_true, reduceCtorEq, Nat.reduceMul, Nat.reduceAdd])
        · have hpre : i + pre (cP want) (L.drop i) i = i := by
            rw [hd, pre, if_neg (by rw [show cP want L[i] i = false from hp]; decide)]
            rfl
          rw [hpre]
          have hc1 : 0 ≤ (i : Int) := by omega
          have hc2 : (i : Int) ≤ (L.length : Int) := by omega
          have hle : i ≤ L.length := hi
          have hlen2 : i + (L.length - i) = L.length := by omega
          have hsum : i + (L.length - i) ≤ L.length := by omega
          have h69b := fun d => e34f N d [] rfl (by simp)
          have htd : ((L.map eT).drop i).take (L.length - i) = (L.map eT).drop i := by rw [List.take_of_length_le (by simp)]
          by_cases h0 : i = 0
          · have hz : ((0 : Int) = (i : Int)) = True := eq_true (by omega)
            by_cases hL0 : i = L.length
            · have hw : ((i : Int) = (L.length : Int)) = True := eq_true (by omega)
              simp only [hc1, hc2, hz, hw, hle, hlen2, hsum, hexit.1, hexit.2, hs1, hs2, h69b, List.take_length, Nat.sub_zero, Nat.zero_add, List.length_map, Int.toNat_natCast, htd, j39, b39, q39, qq, ww, List.replicate, Nat.reduceBEq, Nat.reduceAdd, Nat.reduceMul, Nat.reduceDiv, Nat.reduceEqDiff, Nat.reduceLeDiff, Nat.reduceLT, Int.reduceEq, Int.reduceNe, Int.reduceLT, Int.reduceLE, Int.reduceAdd, Int.reduceSub, Int.reduceMul, Int.reduceNeg, Int.reduceToNat, Int.reducePow, Nat.reducePow, reduceCtorEq, reduceIte, if_true, if_false]
              (try simp [h0, hL0, List.map_take, List.map_drop]); all_goals (first | exact List.eq_nil_of_length_eq_zero (by omega) | exact takeT L)
            · have hw : ((i : Int) = (L.length : Int)) = False := eq_false (by omega)
              simp only [hc1, hc2, hz, hw, hle, hlen2, hsum, hexit.1, hexit.2, hs1, hs2, h69b, List.take_length, Nat.sub_zero, Nat.zero_add, List.length_map, Int.toNat_natCast, htd, j39, b39, q39, qq, ww, List.replicate, Nat.reduceBEq, Nat.reduceAdd, Nat.reduceMul, Nat.reduceDiv, Nat.reduceEqDiff, Nat.reduceLeDiff, Nat.reduceLT, Int.reduceEq, Int.reduceNe, Int.reduceLT, Int.reduceLE, Int.reduceAdd, Int.reduceSub, Int.reduceMul, Int.reduceNeg, Int.reduceToNat, Int.reducePow, Nat.reducePow, reduceCtorEq, reduceIte, if_true, if_false]
              (try simp [h0, hL0, List.map_take, List.map_drop]); all_goals (first | exact List.eq_nil_of_length_eq_zero (by omega) | exact takeT L)
          · have hz : ((0 : Int) = (i : Int)) = False := eq_false (by omega)
            by_cases hL0 : i = L.length
            · have hw : ((i : Int) = (L.length : Int)) = True := eq_true (by omega)
              simp only [hc1, hc2, hz, hw, hle, hlen2, hsum, hexit.1, hexit.2, hs1, hs2, h69b, List.take_length, Nat.sub_zero, Nat.zero_add, List.length_map, Int.toNat_natCast, htd, j39, b39, q39, qq, ww, List.replicate, Nat.reduceBEq, Nat.reduceAdd, Nat.reduceMul, Nat.reduceDiv, Nat.reduceEqDiff, Nat.reduceLeDiff, Nat.reduceLT, Int.reduceEq, Int.reduceNe, Int.reduceLT, Int.reduceLE, Int.reduceAdd, Int.reduceSub, Int.reduceMul, Int.reduceNeg, Int.reduceToNat, Int.reducePow, Nat.reducePow, reduceCtorEq, reduceIte, if_true, if_false]
              (try simp [h0, hL0, List.map_take, List.map_drop]); all_goals (first | exact List.eq_nil_of_length_eq_zero (by omega) | exact takeT L)
            · have hw : ((i : Int) = (L.length : Int)) = False := eq_false (by omega)
              simp only [hc1, hc2, hz, hw, hle, hlen2, hsum, hexit.1, hexit.2, hs1, hs2, h69b, List.take_length, Nat.sub_zero, Nat.zero_add, List.length_map, Int.toNat_natCast, htd, j39, b39, q39, qq, ww, List.replicate, Nat.reduceBEq, Nat.reduceAdd, Nat.reduceMul, Nat.reduceDiv, Nat.reduceEqDiff, Nat.reduceLeDiff, Nat.reduceLT, Int.reduceEq, Int.reduceNe, Int.reduceLT, Int.reduceLE, Int.reduceAdd, Int.reduceSub, Int.reduceMul, Int.reduceNeg, Int.reduceToNat, Int.reducePow, Nat.reducePow, reduceCtorEq, reduceIte, if_true, if_false]
              (try simp [h0, hL0, List.map_take, List.map_drop]); all_goals (first | exact List.eq_nil_of_length_eq_zero (by omega) | exact takeT L)
      · have h1 : decide ((i : Int) < (L.length : Int)) = false := by simp; omega
        have hpre : i + pre (cP want) (L.drop i) i = i := by rw [List.drop_of_length_le (by omega)]; rfl
        rw [hpre]
        have hc1 : 0 ≤ (i : Int) := by omega
        have hc2 : (i : Int) ≤ (L.length : Int) := by omega
        have hle : i ≤ L.length := hi
        have hlen2 : i + (L.length - i) = L.length := by omega
        have hsum : i + (L.length - i) ≤ L.length := by omega
        have h69b := fun d => e34f N d [] rfl (by simp)
        have htd : ((L.map eT).drop i).take (L.length - i) = (L.map eT).drop i := by rw [List.take_of_length_le (by simp)]
        by_cases h0 : i = 0
        · have hz : ((0 : Int) = (i : Int)) = True := eq_true (by omega)
          by_cases hL0 : i = L.length
          · have hw : ((i : Int) = (L.length : Int)) = True := eq_true (by omega)
            simp only [h1, hc1, hc2, hz, hw, hle, hlen2, hsum, hexit.1, hexit.2, hs1, hs2, h69b, List.take_length, Nat.sub_zero, Nat.zero_add, List.length_map, Int.toNat_natCast, htd, j39, b39, q39, qq, ww, List.replicate, Nat.reduceBEq, Nat.reduceAdd, Nat.reduceMul, Nat.reduceDiv, Nat.reduceEqDiff, Nat.reduceLeDiff, Nat.reduceLT, Int.reduceEq, Int.reduceNe, Int.reduceLT, Int.reduceLE, Int.reduceAdd, Int.reduceSub, Int.reduceMul, Int.reduceNeg, Int.reduceToNat, Int.reducePow, Nat.reducePow, reduceCtorEq, reduceIte, if_true, if_false]
            (try simp [h0, hL0, List.map_take, List.map_drop]); all_goals (first | exact List.eq_nil_of_length_eq_zero (by omega) | exact takeT L)
          · have hw : ((i : Int) = (L.length : Int)) = False := eq_false (by omega)
            simp only [h1, hc1, hc2, hz, hw, hle, hlen2, hsum, hexit.1, hexit.2, hs1, hs2, h69b, List.take_length, Nat.sub_zero, Nat.zero_add, List.length_map, Int.toNat_natCast, htd, j39, b39, q39, qq, ww, List.replicate, Nat.reduceBEq, Nat.reduceAdd, Nat.reduceMul, Nat.reduceDiv, Nat.reduceEqDiff, Nat.reduceLeDiff, Nat.reduceLT, Int.reduceEq, Int.reduceNe, Int.reduceLT, Int.reduceLE, Int.reduceAdd, Int.reduceSub, Int.reduceMul, Int.reduceNeg, Int.reduceToNat, Int.reducePow, Nat.reducePow, reduceCtorEq, reduceIte, if_true, if_false]
            (try simp [h0, hL0, List.map_take, List.map_drop]); all_goals (first | exact List.eq_nil_of_length_eq_zero (by omega) | exact takeT L)
        · have hz : ((0 : Int) = (i : Int)) = False := eq_false (by omega)
          by_cases hL0 : i = L.length
          · have hw : ((i : Int) = (L.length : Int)) = True := eq_true (by omega)
            simp only [h1, hc1, hc2, hz, hw, hle, hlen2, hsum, hexit.1, hexit.2, hs1, hs2, h69b, List.take_length, Nat.sub_zero, Nat.zero_add, List.length_map, Int.toNat_natCast, htd, j39, b39, q39, qq, ww, List.replicate, Nat.reduceBEq, Nat.reduceAdd, Nat.reduceMul, Nat.reduceDiv, Nat.reduceEqDiff, Nat.reduceLeDiff, Nat.reduceLT, Int.reduceEq, Int.reduceNe, Int.reduceLT, Int.reduceLE, Int.reduceAdd, Int.reduceSub, Int.reduceMul, Int.reduceNeg, Int.reduceToNat, Int.reducePow, Nat.reducePow, reduceCtorEq, reduceIte, if_true, if_false]
            (try simp [h0, hL0, List.map_take, List.map_drop]); all_goals (first | exact List.eq_nil_of_length_eq_zero (by omega) | exact takeT L)
          · have hw : ((i : Int) = (L.length : Int)) = False := eq_false (by omega)
            simp only [h1, hc1, hc2, hz, hw, hle, hlen2, hsum, hexit.1, hexit.2, hs1, hs2, h69b, List.take_length, Nat.sub_zero, Nat.zero_add, List.length_map, Int.toNat_natCast, htd, j39, b39, q39, qq, ww, List.replicate, Nat.reduceBEq, Nat.reduceAdd, Nat.reduceMul, Nat.reduceDiv, Nat.reduceEqDiff, Nat.reduceLeDiff, Nat.reduceLT, Int.reduceEq, Int.reduceNe, Int.reduceLT, Int.reduceLE, Int.reduceAdd, Int.reduceSub, Int.reduceMul, Int.reduceNeg, Int.reduceToNat, Int.reducePow, Nat.reducePow, reduceCtorEq, reduceIte, if_true, if_false]
            (try simp [h0, hL0, List.map_take, List.map_drop]); all_goals (first | exact List.eq_nil_of_length_eq_zero (by omega) | exact takeT L)
    simp
end Go.Proofs.YtkfcbpbnoeaheaaDoor.AA
namespace Go.Proofs.YtkfcbpbnoeaheaaDoor.AA
open Go Go.Proofs.YtkfcbpbnoeaheaaDoorR Go.Proofs.YtkfcbpbnoeaheaaDoor.IF
set_option maxRecDepth 100000
set_option maxHeartbeats 4000000
theorem all2 (l : List It) : (l.map eT).all (fun x => x.length == 2) = true := by simp
theorem left_s {want : Int} {l : List It} {i : Nat} (h : i < l.length) : leftL want (l.take (i + 1)) = leftL want (l.take i) ++ (if want ≤ l[i].s then [l[i]] else []) := by
  unfold leftL
  rw [take_s h, List.filter_append]
  congr 1
  by_cases hw : want ≤ l[i].s <;> simp [hw]
end Go.Proofs.YtkfcbpbnoeaheaaDoor.AA
namespace Go.Proofs.YtkfcbpbnoeaheaaDoor.AA
open Go Go.Proofs.YtkfcbpbnoeaheaaDoorR Go.Proofs.YtkfcbpbnoeaheaaDoor.IF
set_option maxRecDepth 100000
set_option maxHeartbeats 4000000
end Go.Proofs.YtkfcbpbnoeaheaaDoor.AA
namespace Go.Proofs.YtkfcbpbnoeaheaaDoor.AA
open Go Go.Proofs.YtkfcbpbnoeaheaaDoorR Go.Proofs.YtkfcbpbnoeaheaaDoor.IF
set_option maxRecDepth 100000
set_option maxHeartbeats 4000000
theorem e44 (N d : Nat) (l : List It) (x : It) (k : Nat) (hk : k ≤ l.length) (hl : l.length < 1000000) : TT N (d + 1) 44 [.one (.sl 0 0 l.length), iV k, .one (.sl 1 0 1), .tup [hR 35 2 (l.map eT), hR 35 2 [eT x]]] =
    some (.one (.sl 0 0 (l.length + 1)), [(0, .rows 35 2 ((l.take k ++ [x] ++ l.drop k).map eT)), (1, .rows 35 2 [eT x])]) := by
  rw [t44]
  show (if _ then _ else _) = _
  rw [if_pos ⟨⟨rfl, rfl, rfl, rfl⟩, by simp, by omega, by omega, all2 l, rfl, by omega⟩]
  simp [List.map_take, List.map_drop]
/-- Put where it belongs; none: it is there. -/
def ins (x : It) : List It → Option (List It)
  | [] => some [x]
  | y :: r => if x.s ≤ y.s then (if y.s = x.s then none else some (x :: y :: r)) else (ins x r).map (y :: ·)
def addA (l : List It) (want win : Int) (x : It) : List It × Int :=
  if !(ahOK l want win && inB x.v 0 2147483647) then ([], 1) else if !fitsB x.s want win then ([], 6) else match ins x l with
  | none => ([], 8)
  | some m => (m, 0)
theorem ins_ix {x : It} : ∀ {l : List It} {k : Nat}, k < l.length → (∀ j (hj : j < l.length), j < k → ¬ x.s ≤ l[j].s) → (h : k < l.length) → x.s ≤ l[k].s → ins x l = if l[k].s = x.s then none else some (l.take k ++ [x] ++ l.drop k)
  | [], k, hk, _, _, _ => by simp at hk
  | y :: r, 0, _, _, _, h => by
    simp at h
    simp [ins, h]
  | y :: r, k + 1, hk, hb, h1, h => by
    have h0 := hb 0 (by simp) (by omega)
    simp at h0
    unfold ins
    rw [if_neg (by omega), ins_ix (l := r) (k := k) (by simpa using hk) (fun j hj hjk => hb (j + 1) (by simp; omega) (by omega)) (by simpa using hk) (by simpa using h)]
    simp only [List.getElem_cons_succ]
    split <;> simp
theorem ins_end {x : It} : ∀ {l : List It}, (l.any fun y => decide (x.s ≤ y.s)) = false → ins x l = some (l ++ [x])
  | [], _ => rfl
  | y :: r, h => by
    rw [List.any_cons, Bool.or_eq_false_iff] at h
    have h1 : ¬ x.s ≤ y.s := by simpa using h.1
    unfold ins
    rw [if_neg h1, ins_end h.2]
    rfl
theorem e28 (N d : Nat) (l : List It) (want win : Int) (x : It) (hN : l.length < N) (hl : l.length < 100000) : ans (TT N (d + 4) 28 [.one (rT l), iV want, iV win, aT x]) = some (.tup [.one (rT (addA l want win x).1), iV (addA l want win x).2]) := by
  have h42 := e40 N d l want win hN (by omega)
  have h65 := e41 N (d + 2) 42 (eT x) (fun y => decide (x.s ≤ y.s)) (fun y => e42 N (d + 1) y x) l hN (by omega)
  have h69 := fun d => e34 N d l (by omega)
  have hb8 : (l.length + 1) * 16 ≤ 140737488355328 := by omega
  rw [t28, F_ev rfl]
  cases hA : ahOK l want win with
  | false =>
    rw [hA] at h42
    simp only [h42, h65, h69, e25, List.length_map, j28, b28, q28, qq, ww, List.replicate, Nat.reduceBEq, Nat.reduceAdd, Nat.reduceMul, Nat.reduceDiv, Nat.reduceEqDiff, Nat.reduceLeDiff, Nat.reduceLT, Int.reduceEq, Int.reduceNe, Int.reduceLT, Int.reduceLE, Int.reduceAdd, Int.reduceSub, Int.reduceMul, Int.reduceNeg, Int.reduceToNat, Int.reducePow, Nat.reducePow, reduceCtorEq, reduceIte, if_true, if_false]
    simp [addA, hA]
  | true =>
  rw [hA] at h42
  have hw : 1 ≤ want ∧ want ≤ 1073741824 ∧ 1 ≤ win ∧ win ≤ 16 := by simp [ahOK, inB] at hA; omega
  have hww : IntKind.i64.wrap (want + win) = want + win := IntWalk.i64_in _ (by omega)
  have h68 := fun d s => e43 N d s want win hww
  cases hV : inB x.v 0 2147483647 with
  | false =>
    simp only [h42, h65, h69, e25, hV, List.length_map, j28, b28, q28, qq, ww, List.replicate, Nat.reduceBEq, Nat.reduceAdd, Nat.reduceMul, Nat.reduceDiv, Nat.reduceEqDiff, Nat.reduceLeDiff, Nat.reduceLT, Int.reduceEq, Int.reduceNe, Int.reduceLT, Int.reduceLE, Int.reduceAdd, Int.reduceSub, Int.reduceMul, Int.reduceNeg, Int.reduceToNat, Int.reducePow, Nat.reducePow, reduceCtorEq, reduceIte, if_true, if_false]
    simp [addA, hA, hV]
  | true =>
  cases hF : fitsB x.s want win with
  | false =>
    simp only [h42, h65, h69, e25, hV, h68, hF, List.length_map, j28, b28, q28, qq, ww, List.replicate, Nat.reduceBEq, Nat.reduceAdd, Nat.reduceMul, Nat.reduceDiv, Nat.reduceEqDiff, Nat.reduceLeDiff, Nat.reduceLT, Int.reduceEq, Int.reduceNe, Int.reduceLT, Int.reduceLE, Int.reduceAdd, Int.reduceSub, Int.reduceMul, Int.reduceNeg, Int.reduceToNat, Int.reducePow, Nat.reducePow, reduceCtorEq, reduceIte, if_true, if_false]
    simp [addA, hA, hV, hF]
  | true =>
  have hadd : addA l want win x = match ins x l with | none => ([], 8) | some m => (m, 0) := by simp [addA, hA, hV, hF]
  rw [hadd]
  cases hany : (l.any fun y => decide (x.s ≤ y.s)) with
  | false =>
    have hix : ix (fun y => decide (x.s ≤ y.s)) l 0 = -1 := by
      have h9 : ∀ (l : List It) (i : Int), (l.any fun y => decide (x.s ≤ y.s)) = false → ix (fun y => decide (x.s ≤ y.s)) l i = -1 := by
        intro l
        induction l with
        | nil => intro i _; rfl
        | cons y r ih =>
          intro i h
          rw [List.any_cons, Bool.or_eq_false_iff] at h
          rw [ix, h.1, if_neg (by decide)]
          exact ih _ h.2
      exact h9 l 0 hany
    have hneg : decide ((-1 : Int) < 0) = true := rfl
    rw [ins_end hany]
    rw [hix] at h65
    simp only [h42, h65, h69, e25, hV, h68, hF, hneg, hb8, takeT, all2, List.length_map, j28, b28, q28, qq, ww, List.replicate, Nat.reduceBEq, Nat.reduceAdd, Nat.reduceMul, Nat.reduceDiv, Nat.reduceEqDiff, Nat.reduceLeDiff, Nat.reduceLT, Int.reduceEq, Int.reduceNe, Int.reduceLT, Int.reduceLE, Int.reduceAdd, Int.reduceSub, Int.reduceMul, Int.reduceNeg, Int.reduceToNat, Int.reducePow, Nat.reducePow, reduceCtorEq, reduceIte, if_true, if_false]
    simp
    rw [List.take_of_length_le (by simp), List.take_of_length_le (by simp)]
  | true =>
    obtain ⟨k, hix, hk, hpk, hbef⟩ := ix_some (Int.le_refl 0) hany
    rw [Int.zero_add] at hix
    rw [hix] at h65
    have hneg : decide ((k : Int) < 0) = false := by simp
    have hb : 0 ≤ (k : Int) ∧ (k : Int) < (l.length : Int) := by omega
    have hg : (l.map eT)[k]? = some (eT l[k]) := by simp [hk]
    have hxk : x.s ≤ l[k].s := by simpa using hpk
    rw [ins_ix hk (fun j hj hjk => by simpa using hbef j hjk) hk hxk]
    have h70 := fun d => e44 N d l x k (by omega) (by omega)
    cases hq : decide (l[k].s = x.s) with
    | true =>
      have hq' : l[k].s = x.s := by simpa using hq
      rw [if_pos hq']
      simp only [h42, h65, h69, e25, hV, h68, hF, hneg, hb.1, hb.2, hg, hq, List.length_map, Int.toNat_natCast, j28, b28, q28, qq, ww, List.replicate, Nat.reduceBEq, Nat.reduceAdd, Nat.reduceMul, Nat.reduceDiv, Nat.reduceEqDiff, Nat.reduceLeDiff, Nat.reduceLT, Int.reduceEq, Int.reduceNe, Int.reduceLT, Int.reduceLE, Int.reduceAdd, Int.reduceSub, Int.reduceMul, Int.reduceNeg, Int.reduceToNat, Int.reducePow, Nat.reducePow, reduceCtorEq, reduceIte, if_true, if_false]
      rfl
    | false =>
      have hq' : ¬ l[k].s = x.s := by simpa using hq
      rw [if_neg hq']
      have hlk : (List.take k l).length + 1 + (List.drop k l).length = l.length + 1 := by rw [List.length_take, List.length_drop]; omega
      have htk : List.take (l.length + 1) (List.map eT (List.take k l) ++ [eT x] ++ List.map eT (List.drop k l)) = List.map eT (List.take k l) ++ [eT x] ++ List.map eT (List.drop k l) := List.take_of_length_le (by simp; omega)
      simp only [h42, h65, h69, e25, hV, h68, hF, hneg, hb.1, hb.2, hg, hq, h70, hlk, htk, List.length_map, Int.toNat_natCast, j28, b28, q28, qq, ww, List.replicate, Nat.reduceBEq, Nat.reduceAdd, Nat.reduceMul, Nat.reduceDiv, Nat.reduceEqDiff, Nat.reduceLeDiff, Nat.reduceLT, Int.reduceEq, Int.reduceNe, Int.reduceLT, Int.reduceLE, Int.reduceAdd, Int.reduceSub, Int.reduceMul, Int.reduceNeg, Int.reduceToNat, Int.reducePow, Nat.reducePow, reduceCtorEq, reduceIte, if_true, if_false]
      simp
end Go.Proofs.YtkfcbpbnoeaheaaDoor.AA
namespace Go.Proofs.YtkfcbpbnoeaheaaDoor.AA
open Go Go.Proofs.YtkfcbpbnoeaheaaDoorR Go.Proofs.YtkfcbpbnoeaheaaDoor.IF
set_option maxRecDepth 100000
set_option maxHeartbeats 4000000
def stp (x : It) (o : List It × Bool) (y : It) : List It × Bool := if (!o.2 && decide (x.s < y.s)) = true then (o.1 ++ [x] ++ [y], true) else (o.1 ++ [y], o.2)
def fnl (x : It) (o : List It × Bool) : List It := if o.2 then o.1 else o.1 ++ [x]
def sti (x : It) (l : List It) (i : Nat) : List It × Bool := (l.take i).foldl (stp x) ([], false)
theorem sti_s {x : It} {l : List It} {i : Nat} (h : i < l.length) : sti x l (i + 1) = stp x (sti x l i) l[i] := by
  unfold sti
  rw [take_s h, List.foldl_append]
  rfl
theorem stp_len {x : It} : ∀ (l : List It) (o : List It × Bool), (l.foldl (stp x) o).1.length ≤ o.1.length + 2 * l.length
  | [], o => by simp
  | y :: r, o => by
    rw [List.foldl_cons]
    have := stp_len (x := x) r (stp x o y)
    have h2 : (stp x o y).1.length ≤ o.1.length + 2 := by unfold stp; split <;> simp
    simp only [List.length_cons]
    omega
def addR (l : List It) (x : It) : List It × Int := if l.any (fun y => decide (y.s = x.s)) then ([], 8) else (fnl x (l.foldl (stp x) ([], false)), 0)
end Go.Proofs.YtkfcbpbnoeaheaaDoor.AA
namespace Go.Proofs.YtkfcbpbnoeaheaaDoor.AA
open Go Go.Proofs.YtkfcbpbnoeaheaaDoorR Go.Proofs.YtkfcbpbnoeaheaaDoor.IF
set_option maxRecDepth 100000
set_option maxHeartbeats 4000000
abbrev wf8 (n : Int) : Prop := (Lit.int .i64 n).wf = true
theorem wf8_b {n : Int} (h : wf8 n) : -9223372036854775808 ≤ n ∧ n ≤ 9223372036854775807 := by
  simp only [wf8, Lit.wf] at h
  simp [IntKind.min, IntKind.max, IntKind.signed, IntKind.bits] at h
  omega
theorem stp_true (x : It) : ∀ (l o : List It), l.foldl (stp x) (o, true) = (o ++ l, true)
  | [], o => by simp
  | y :: r, o => by
    rw [List.foldl_cons, show stp x (o, true) y = (o ++ [y], true) by simp [stp], stp_true x r]
    simp
theorem stp_ins (x : It) : ∀ (l o : List It), (l.any fun y => decide (y.s = x.s)) = false → ∃ m, ins x l = some m ∧ fnl x (l.foldl (stp x) (o, false)) = o ++ m
  | [], o, _ => ⟨[x], rfl, rfl⟩
  | y :: r, o, h => by
    rw [List.any_cons, Bool.or_eq_false_iff] at h
    have hne : ¬ y.s = x.s := by simpa using h.1
    by_cases hlt : x.s < y.s
    · refine ⟨x :: y :: r, ?_, ?_⟩
      · unfold ins
        rw [if_pos (by omega), if_neg hne]
      · rw [List.foldl_cons, show stp x (o, false) y = (o ++ [x] ++ [y], true) by simp [stp, hlt], stp_true]
        simp [fnl]
    · obtain ⟨m, h1, h2⟩ := stp_ins x r (o ++ [y]) h.2
      refine ⟨y :: m, ?_, ?_⟩
      · unfold ins
        rw [if_neg (by omega), h1]
        rfl
      · rw [List.foldl_cons, show stp x (o, false) y = (o ++ [y], false) by simp [stp, hlt], h2]
        simp
theorem risB_gt {want win : Int} : ∀ {l : List It} {p : Int}, risB want win (some p) l = true → ∀ y ∈ l, p < y.s
  | [], p, _, y, hy => by simp at hy
  | z :: r, p, h, y, hy => by
    simp only [risB, Bool.and_eq_true, decide_eq_true_eq] at h
    rcases List.mem_cons.1 hy with rfl | hy
    · exact h.1.2
    · have := risB_gt h.2 y hy
      omega
theorem ins_no {want win : Int} {x : It} : ∀ {l : List It} {p : Option Int}, risB want win p l = true → (l.any fun y => decide (y.s = x.s)) = true → ins x l = none
  | [], p, _, h => by simp at h
  | z :: r, p, h, h2 => by
    simp only [risB, Bool.and_eq_true] at h
    unfold ins
    rw [List.any_cons, Bool.or_eq_true] at h2
    rcases h2 with h2 | h2
    · have h3 : z.s = x.s := by simpa using h2
      rw [if_pos (by omega), if_pos h3]
    · have h4 : z.s < x.s := by
        obtain ⟨y, hy, he⟩ := List.any_eq_true.1 h2
        have := risB_gt h.2 y hy
        have he : y.s = x.s := by simpa using he
        omega
      rw [if_neg (by omega), ins_no h.2 h2]
      rfl
theorem add_eq {l : List It} {want win : Int} {x : It} (h1 : ahOK l want win = true) (h2 : inB x.v 0 2147483647 = true) (h3 : fitsB x.s want win = true) : addA l want win x = addR l x := by
  have hr : risB want win none l = true := by simp only [ahOK, Bool.and_eq_true] at h1; exact h1.2
  unfold addA addR
  rw [h1, h2, h3]
  cases h : l.any fun y => decide (y.s = x.s) with
  | true => rw [ins_no hr h]; rfl
  | false =>
    obtain ⟨m, h4, h5⟩ := stp_ins x l [] h
    rw [h4, h5]
    rfl
theorem ins_len {x : It} : ∀ {l m : List It}, ins x l = some m → m.length = l.length + 1
  | [], m, h => by simp [ins] at h; subst h; rfl
  | y :: r, m, h => by
    unfold ins at h
    split at h
    · split at h
      · simp at h
      · simp at h; subst h; rfl
    · cases hi : ins x r with
      | none => rw [hi] at h; simp at h
      | some q => rw [hi] at h; simp at h; subst h; simp [ins_len hi]
theorem addA_len (l : List It) (want win : Int) (x : It) : (addA l want win x).1.length ≤ l.length + 1 := by
  unfold addA
  split
  · simp
  · split
    · simp
    · split
      · simp
      · rename_i h
        simp [ins_len h]
theorem cPR {want : Int} (hw : wf8 want) {y : It} (hy : wf8 y.s) {k : Nat} (hk : k < 1000000) : cP want y k = cR want y k := by
  have a := wf8_b hw
  have b := wf8_b hy
  unfold cP cR
  congr 1
  simp [IntKind.wrap, IntKind.signed, IntKind.bits]
  omega
theorem pre_eq {want : Int} (hw : wf8 want) : ∀ {l : List It} {k : Nat}, (∀ y ∈ l, wf8 y.s) → k + l.length < 1000000 → pre (cP want) l k = pre (cR want) l k
  | [], k, _, _ => rfl
  | y :: r, k, h, hk => by
    simp only [List.length_cons] at hk
    unfold pre
    rw [cPR hw (h y (by simp)) (by omega), pre_eq hw (fun z hz => h z (by simp [hz])) (by omega)]
theorem left_wf {want : Int} {l : List It} (h : ∀ y ∈ l, wf8 y.s) : ∀ y ∈ leftL want l, wf8 y.s := fun y hy => h y (List.mem_filter.1 hy).1
theorem pre_same {want : Int} (hw : wf8 want) {l : List It} (h : ∀ y ∈ l, wf8 y.s) (hl : l.length < 1000000) : pre (cR want) (leftL want l) 0 = pre (cP want) (leftL want l) 0 := by
  have : (leftL want l).length ≤ l.length := List.length_filter_le _ _
  exact (pre_eq hw (left_wf h) (by omega)).symm
end Go.Proofs.YtkfcbpbnoeaheaaDoor.AA
namespace Go.Proofs.YtkfcbpbnoeaheaaDoor.FA
open Go Go.Proofs.YtkfcbpbnoeaheaaDoorR Go.Proofs.YtkfcbpbnoeaheaaDoor.IF
open Go.Proofs.YtkfcbpbnoeaheaaDoor.QA (Ev eE aE rE inB epOK evOK qOK putE)
open Go.Proofs.YtkfcbpbnoeaheaaDoor.AA (It eT aT rT ahOK addA leftL wi wm takeT allT take_s)
open Go.Proofs.YtkfcbpbnoeaheaaDoor.EC (Cf eC okC)
set_option maxRecDepth 100000
set_option maxHeartbeats 4000000
/-- Items in a row from a number on. -/
def kRow : Int → List It → Bool
  | _, [] => true
  | s, x :: r => decide (1 ≤ x.s) && decide (x.s = s) && inB x.v 0 2147483647 && kRow (s + 1) r
theorem e52 (N d : Nat) (l : List It) (want : Int) (hw : 0 ≤ want ∧ want ≤ 1073741824) (hN : l.length < N) (hl : l.length < 1000000) : TT N (d + 3) 52 [.one (rT l), iV want] = some (bV (kRow (want - l.length) l), []) := by
  have hwl : IntKind.i64.wrap (want - (l.length : Int)) = want - l.length := IntWalk.i64_in _ (by omega)
  have hv := fun d n => AA.e25 N d n
  rw [t52, F_ev rfl]
  simp only [List.length_map, j52, b52, q52, qq, ww, List.replicate, Nat.reduceBEq, Nat.reduceAdd, Nat.reduceMul, Nat.reduceDiv, Nat.reduceEqDiff, Nat.reduceLeDiff, Nat.reduceLT, Int.reduceEq, Int.reduceNe, Int.reduceLT, Int.reduceLE, Int.reduceAdd, Int.reduceSub, Int.reduceMul, Int.reduceNeg, Int.reduceToNat, Int.reducePow, Nat.reducePow, reduceCtorEq, reduceIte, if_true, if_false]
  refine (loopK (K := fun o => fin _ (aft _ _ _ o)) (fun i => ⟨[(0, .one (rT l)), (1, iV want), (7, .one (rT l)), (8, iV l.length), (9, iV i)], []⟩) (fun i => some (bV (kRow (want - l.length + i) (l.drop i)), [])) l.length ?hr l.length 0 N _ (by omega) hN ?hk).trans ?_
  case hk => simp only [gcK, lowB, Nat.reduceLeDiff, Nat.reduceBEq, List.contains_nil, List.contains_cons, Bool.or_false, Bool.false_or, Bool.false_eq_true, if_false, Bool.true_and, Bool.and_true, pickL, look_hit, look_miss, look_end, slMent, hpMent, S.ment, S.ment.smt, ments, V.ment, List.append_nil, List.nil_append, List.cons_append, List.all_nil, List.all_cons, Option.isSome_some, Bool.and_self, if_true, reduceIte, Nat.reduceEqDiff, not_false_eq_true, reduceCtorEq, Nat.reduceMul, Nat.reduceAdd]; rfl
  case hr =>
    intro i n hi ih
    (try dsimp only)
    by_cases hlt : i < l.length
    · have h1 : decide ((i : Int) < (l.length : Int)) = true := by simp; omega
      have hg1 : (l.map eT)[i]? = some (eT l[i]) := by simp [hlt]
      have hd1 : l.drop i = l[i] :: l.drop (i + 1) := by simp
      have hb : 0 ≤ (i : Int) ∧ (i : Int) < (l.length : Int) := by omega
      have hwi : IntKind.i64.wrap (want - (l.length : Int) + i) = want - l.length + i := IntWalk.i64_in _ (by omega)
      have hnx : want - (l.length : Int) + ((i + 1 : Nat) : Int) = want - (l.length : Int) + i + 1 := by omega
      rw [hd1, kRow]
      rw [hnx] at ih
      simp only [h1, hb.1, hb.2, hg1, hwl, hwi, hv, wi i (by omega), List.length_map, Int.toNat_natCast, j52, b52, q52, qq, ww, List.replicate, Nat.reduceBEq, Nat.reduceAdd, Nat.reduceMul, Nat.reduceDiv, Nat.reduceEqDiff, Nat.reduceLeDiff, Nat.reduceLT, Int.reduceEq, Int.reduceNe, Int.reduceLT, Int.reduceLE, Int.reduceAdd, Int.reduceSub, Int.reduceMul, Int.reduceNeg, Int.reduceToNat, Int.reducePow, Nat.reducePow, reduceCtorEq, reduceIte, if_true, if_false]
      repeat' (refine fin_cases2 (fun hp => ?_) (fun hp => ?_) <;> simp only [hp, hwl, hwi, hv, wi i (by omega), List.length_map, Int.toNat_natCast, j52, b52, q52, qq, ww, List.replicate, Nat.reduceBEq, Nat.reduceAdd, Nat.reduceMul, Nat.reduceDiv, Nat.reduceEqDiff, Nat.reduceLeDiff, Nat.reduceLT, Int.reduceEq, Int.reduceNe, Int.reduceLT, Int.reduceLE, Int.reduceAdd, Int.reduceSub, Int.reduceMul, Int.reduceNeg, Int.reduceToNat, Int.reducePow, Nat.reducePow, reduceCtorEq, reduceIte, if_true, if_false])
      · have : decide (1 ≤ l[i].s) = false := by simp at hp ⊢; omega
        simp [this]
      · have : decide (l[i].s = want - (l.length : Int) + i) = false := by simp at hp ⊢; omega
        simp [this]
      · have : inB l[i].v 0 2147483647 = false := by simp [inB]; simp [AA.inB] at hp; omega
        simp [this]
      · refine (ih hlt _ (by simp only [gcK, lowB, Nat.reduceLeDiff, Nat.reduceBEq, List.contains_nil, List.contains_cons, Bool.or_false, Bool.false_or, Bool.false_eq_true, if_false, Bool.true_and, Bool.and_true, pickL, look_hit, look_miss, look_end, slMent, hpMent, S.ment, S.ment.smt, ments, V.ment, List.append_nil, List.nil_append, List.cons_append, List.all_nil, List.all_cons, Option.isSome_some, Bool.and_self, if_true, reduceIte, Nat.reduceEqDiff, not_false_eq_true, reduceCtorEq, Nat.reduceMul, Nat.reduceAdd])).trans ?_
        clear ih
        rename_i g1 g2
        have a1 : decide (1 ≤ l[i].s) = true := by simp at g1 ⊢; omega
        have a2 : decide (l[i].s = want - (l.length : Int) + i) = true := by simp at g2 ⊢; omega
        have a3 : inB l[i].v 0 2147483647 = true := by simp [inB]; simp [AA.inB] at hp; omega
        simp [a1, a2, a3]
    · have h1 : decide ((i : Int) < (l.length : Int)) = false := by simp; omega
      simp only [h1, List.length_map, j52, b52, q52, qq, ww, List.replicate, Nat.reduceBEq, Nat.reduceAdd, Nat.reduceMul, Nat.reduceDiv, Nat.reduceEqDiff, Nat.reduceLeDiff, Nat.reduceLT, Int.reduceEq, Int.reduceNe, Int.reduceLT, Int.reduceLE, Int.reduceAdd, Int.reduceSub, Int.reduceMul, Int.reduceNeg, Int.reduceToNat, Int.reducePow, Nat.reducePow, reduceCtorEq, reduceIte, if_true, if_false]
      rw [List.drop_of_length_le (by omega)]
      rfl
  simp
/-- Are kept items right? -/
def kpOK (l : List It) (want lim : Int) : Bool := inB want 1 1073741824 && inB lim 1 16 && decide ((l.length : Int) ≤ lim) && kRow (want - l.length) l
theorem e33 (N d : Nat) (l : List It) (want lim : Int) (hN : l.length < N) (hl : l.length < 1000000) : TT N (d + 4) 33 [.one (rT l), iV want, iV lim] = some (iV (if kpOK l want lim then 0 else 1), []) := by
  have hc := fun d n => AA.e20 N d n
  rw [t33, F_ev rfl]
  simp only [hc, List.length_map, j33, b33, q33, qq, ww, List.replicate, Nat.reduceBEq, Nat.reduceAdd, Nat.reduceMul, Nat.reduceDiv, Nat.reduceEqDiff, Nat.reduceLeDiff, Nat.reduceLT, Int.reduceEq, Int.reduceNe, Int.reduceLT, Int.reduceLE, Int.reduceAdd, Int.reduceSub, Int.reduceMul, Int.reduceNeg, Int.reduceToNat, Int.reducePow, Nat.reducePow, reduceCtorEq, reduceIte, if_true, if_false]
  cases h0 : AA.inB want 1 1073741824 with
  | false =>
    have : kpOK l want lim = false := by rw [kpOK, show inB want 1 1073741824 = false from h0]; rfl
    rw [this]
    simp only [h0, j33, b33, q33, qq, ww, List.replicate, Nat.reduceBEq, Nat.reduceAdd, Nat.reduceMul, Nat.reduceDiv, Nat.reduceEqDiff, Nat.reduceLeDiff, Nat.reduceLT, Int.reduceEq, Int.reduceNe, Int.reduceLT, Int.reduceLE, Int.reduceAdd, Int.reduceSub, Int.reduceMul, Int.reduceNeg, Int.reduceToNat, Int.reducePow, Nat.reducePow, reduceCtorEq, reduceIte, if_true, if_false]
  | true =>
    have hk := fun d => e52 N d l want (by simp [AA.inB] at h0; omega) hN hl
    have : kpOK l want lim = (inB lim 1 16 && decide ((l.length : Int) ≤ lim) && kRow (want - l.length) l) := by rw [kpOK, show inB want 1 1073741824 = true from h0]; simp
    rw [this]
    have hw : 1 ≤ want ∧ want ≤ 1073741824 := by simpa [AA.inB] using h0
    by_cases h1 : 1 ≤ lim ∧ lim ≤ 16 ∧ (l.length : Int) ≤ lim
    · have g1 : decide (lim < 1) = false := by simp; omega
      have g2 : decide (lim > 16) = false := by simp; omega
      have g3 : decide ((l.length : Int) > lim) = false := by simp; omega
      rw [show inB lim 1 16 = true by simp [inB]; omega, show decide ((l.length : Int) ≤ lim) = true by simp; omega]
      cases h2 : kRow (want - l.length) l <;> simp only [h0, hk, h2, g1, g2, g3, List.length_map, Bool.not_true, Bool.not_false, j33, b33, q33, qq, ww, List.replicate, Nat.reduceBEq, Nat.reduceAdd, Nat.reduceMul, Nat.reduceDiv, Nat.reduceEqDiff, Nat.reduceLeDiff, Nat.reduceLT, Int.reduceEq, Int.reduceNe, Int.reduceLT, Int.reduceLE, Int.reduceAdd, Int.reduceSub, Int.reduceMul, Int.reduceNeg, Int.reduceToNat, Int.reducePow, Nat.reducePow, reduceCtorEq, reduceIte, if_true, if_false] <;> rfl
    · have hf : (inB lim 1 16 && decide ((l.length : Int) ≤ lim)) = false := by
        cases h : (inB lim 1 16 && decide ((l.length : Int) ≤ lim)) with
        | false => rfl
        | true => exfalso; simp [inB] at h; omega
      rw [hf]
      by_cases g1 : lim < 1
      · simp only [h0, decide_eq_true g1, List.length_map, j33, b33, q33, qq, ww, List.replicate, Nat.reduceBEq, Nat.reduceAdd, Nat.reduceMul, Nat.reduceDiv, Nat.reduceEqDiff, Nat.reduceLeDiff, Nat.reduceLT, Int.reduceEq, Int.reduceNe, Int.reduceLT, Int.reduceLE, Int.reduceAdd, Int.reduceSub, Int.reduceMul, Int.reduceNeg, Int.reduceToNat, Int.reducePow, Nat.reducePow, reduceCtorEq, reduceIte, if_true, if_false]; try rfl
      · by_cases g2 : lim > 16
        · simp only [h0, decide_eq_false g1, decide_eq_true g2, List.length_map, j33, b33, q33, qq, ww, List.replicate, Nat.reduceBEq, Nat.reduceAdd, Nat.reduceMul, Nat.reduceDiv, Nat.reduceEqDiff, Nat.reduceLeDiff, Nat.reduceLT, Int.reduceEq, Int.reduceNe, Int.reduceLT, Int.reduceLE, Int.reduceAdd, Int.reduceSub, Int.reduceMul, Int.reduceNeg, Int.reduceToNat, Int.reducePow, Nat.reducePow, reduceCtorEq, reduceIte, if_true, if_false]; try rfl
        · have g3 : (l.length : Int) > lim := by omega
          simp only [h0, decide_eq_false g1, decide_eq_false g2, decide_eq_true g3, List.length_map, j33, b33, q33, qq, ww, List.replicate, Nat.reduceBEq, Nat.reduceAdd, Nat.reduceMul, Nat.reduceDiv, Nat.reduceEqDiff, Nat.reduceLeDiff, Nat.reduceLT, Int.reduceEq, Int.reduceNe, Int.reduceLT, Int.reduceLE, Int.reduceAdd, Int.reduceSub, Int.reduceMul, Int.reduceNeg, Int.reduceToNat, Int.reducePow, Nat.reducePow, reduceCtorEq, reduceIte, if_true, if_false]; try rfl
/-- Kept items with one more. -/
def pushL (l : List It) (want lim v : Int) : List It := (l ++ [(⟨want, v⟩ : It)]).drop (l.length + 1 - lim.toNat)
def pushP (l : List It) (want lim v : Int) : List It × Int :=
  if (kpOK l want lim && inB v 0 2147483647) = false then ([], 1) else if 1073741824 ≤ want then ([], 11) else (pushL l want lim v, 0)
theorem e34' (N d : Nat) (xs : List (List V)) (h : xs.all (fun x => x.length == 2) = true) (hl : xs.length < 1000000) : TT N (d + 1) 34 [.one (.row xs)] = some (.one (.sl 0 0 xs.length), [(0, .rows 35 2 xs)]) := AA.e34f N d xs h hl
theorem e38 (N d : Nat) (l : List It) (want lim v : Int) (hN : l.length < N) (hl : l.length < 1000) : TT N (d + 5) 38 [.one (rT l), iV want, iV lim, iV v] = some (.tup [.one (rT (pushP l want lim v).1), iV (pushP l want lim v).2], []) := by
  have hv := fun d n => AA.e25 N d n
  have hk := fun d => e33 N d l want lim hN (by omega)
  have hcl := fun d => AA.e34 N d l (by omega)
  unfold pushP
  rw [t38, F_ev rfl]
  cases h0 : kpOK l want lim with
  | false =>
    rw [h0] at hk
    simp only [hk, hv, List.length_map, j38, b38, q38, qq, ww, List.replicate, Nat.reduceBEq, Nat.reduceAdd, Nat.reduceMul, Nat.reduceDiv, Nat.reduceEqDiff, Nat.reduceLeDiff, Nat.reduceLT, Int.reduceEq, Int.reduceNe, Int.reduceLT, Int.reduceLE, Int.reduceAdd, Int.reduceSub, Int.reduceMul, Int.reduceNeg, Int.reduceToNat, Int.reducePow, Nat.reducePow, reduceCtorEq, reduceIte, if_true, if_false]
    rfl
  | true =>
  rw [h0] at hk
  have hlim : 1 ≤ lim ∧ lim ≤ 16 ∧ (l.length : Int) ≤ lim := by simp [kpOK, inB] at h0; omega
  cases h1 : inB v 0 2147483647 with
  | false =>
    simp only [hk, hv, show AA.inB v 0 2147483647 = false from h1, List.length_map, j38, b38, q38, qq, ww, List.replicate, Nat.reduceBEq, Nat.reduceAdd, Nat.reduceMul, Nat.reduceDiv, Nat.reduceEqDiff, Nat.reduceLeDiff, Nat.reduceLT, Int.reduceEq, Int.reduceNe, Int.reduceLT, Int.reduceLE, Int.reduceAdd, Int.reduceSub, Int.reduceMul, Int.reduceNeg, Int.reduceToNat, Int.reducePow, Nat.reducePow, reduceCtorEq, reduceIte, if_true, if_false]
    rfl
  | true =>
  by_cases h2 : 1073741824 ≤ want
  · have hd : decide (1073741824 ≤ want) = true := decide_eq_true h2
    rw [if_neg (by decide), if_pos h2]
    simp only [hk, hv, hd, show AA.inB v 0 2147483647 = true from h1, List.length_map, j38, b38, q38, qq, ww, List.replicate, Nat.reduceBEq, Nat.reduceAdd, Nat.reduceMul, Nat.reduceDiv, Nat.reduceEqDiff, Nat.reduceLeDiff, Nat.reduceLT, Int.reduceEq, Int.reduceNe, Int.reduceLT, Int.reduceLE, Int.reduceAdd, Int.reduceSub, Int.reduceMul, Int.reduceNeg, Int.reduceToNat, Int.reducePow, Nat.reducePow, reduceCtorEq, reduceIte, if_true, if_false]
    rfl
  · have hd : decide (1073741824 ≤ want) = false := decide_eq_false h2
    rw [if_neg (by decide), if_neg h2]
    have hby : (l.length + 1) * 16 ≤ 140737488355328 := by omega
    have hws : IntKind.i64.wrap (((l.length + 1 : Nat) : Int) - lim) = ((l.length + 1 : Nat) : Int) - lim := IntWalk.i64_in _ (by omega)
    have hmx : (if (0 : Int) > ((l.length + 1 : Nat) : Int) - lim then 0 else ((l.length + 1 : Nat) : Int) - lim) = ((l.length + 1 - lim.toNat : Nat) : Int) := by split <;> omega
    have hle : l.length + 1 - lim.toNat ≤ l.length + 1 := by omega
    have hb1 : 0 ≤ ((l.length + 1 - lim.toNat : Nat) : Int) ∧ ((l.length + 1 - lim.toNat : Nat) : Int) ≤ ((l.length + 1 : Nat) : Int) := by omega
    have hsum : l.length + 1 - lim.toNat + (l.length + 1 - (l.length + 1 - lim.toNat)) = l.length + 1 := by omega
    generalize hK : l.length + 1 - lim.toNat = k at *
    have hdrop : ((l.map eT ++ [eT (⟨want, v⟩ : It)]).drop k) = (pushL l want lim v).map eT := by
      rw [pushL, hK, ← List.map_singleton, ← List.map_append, List.map_drop]
    have hpl : (pushL l want lim v).length = l.length + 1 - k := by simp [pushL, hK]
    have htk : List.take (l.length + 1 - k) ((pushL l want lim v).map eT) = (pushL l want lim v).map eT := List.take_of_length_le (by rw [List.length_map]; omega)
    have hcut := fun d => AA.e34f N d ((pushL l want lim v).map eT) (allT _) (by rw [List.length_map]; omega)
    have hne : ((k : Int) = ((l.length + 1 : Nat) : Int)) = False := eq_false (by omega)
    have hself := AA.selfT (pushL l want lim v)
    simp only [hk, hv, hd, hcl, hby, hws, hmx, hle, hb1.1, hb1.2, hsum, hdrop, htk, hcut, hself, hne, hpl, takeT, allT, show AA.inB v 0 2147483647 = true from h1, List.length_map, Int.toNat_natCast, Nat.zero_add, List.take_length, j38, b38, q38, qq, ww, List.replicate, Nat.reduceBEq, Nat.reduceAdd, Nat.reduceMul, Nat.reduceDiv, Nat.reduceEqDiff, Nat.reduceLeDiff, Nat.reduceLT, Int.reduceEq, Int.reduceNe, Int.reduceLT, Int.reduceLE, Int.reduceAdd, Int.reduceSub, Int.reduceMul, Int.reduceNeg, Int.reduceToNat, Int.reducePow, Nat.reducePow, reduceCtorEq, reduceIte, if_true, if_false]
/-- A queue with one more event, if it fits. -/
def fitE (l : List Ev) (lim : Int) (x : Ev) : List Ev := if (putE l lim x).1 = 0 then (putE l lim x).2 else l
theorem putE_len (l : List Ev) (lim : Int) (x : Ev) : (putE l lim x).2.length ≤ l.length + 1 := by
  unfold putE
  repeat' split
  all_goals simp
  all_goals omega
theorem fitE_len (l : List Ev) (lim : Int) (x : Ev) : (fitE l lim x).length ≤ l.length + 1 := by
  have := putE_len l lim x
  unfold fitE
  split <;> omega
theorem e51 (N d : Nat) (l : List Ev) (lim : Int) (x : Ev) (hN : l.length < N) (hl : l.length < 999999) : TT N (d + 12) 51 [.one (rE l), iV lim, aE x] = some (.one (rE (fitE l lim x)), []) := by
  have hp := fun d => QA.e64 N d l lim x hN hl
  have hc := fun d => QA.e37 N d l (by omega)
  unfold fitE
  generalize hG : putE l lim x = G at *
  obtain ⟨c, m⟩ := G
  rw [t51, F_ev rfl]
  by_cases h0 : c = 0
  · have hd : decide (c = 0) = true := decide_eq_true h0
    simp only [hp, hc, hd, h0, List.length_map, j51, b51, q51, qq, ww, List.replicate, Nat.reduceBEq, Nat.reduceAdd, Nat.reduceMul, Nat.reduceDiv, Nat.reduceEqDiff, Nat.reduceLeDiff, Nat.reduceLT, Int.reduceEq, Int.reduceNe, Int.reduceLT, Int.reduceLE, Int.reduceAdd, Int.reduceSub, Int.reduceMul, Int.reduceNeg, Int.reduceToNat, Int.reducePow, Nat.reducePow, reduceCtorEq, reduceIte, if_true, if_false]
  · have hd : decide (c = 0) = false := decide_eq_false h0
    simp only [hp, hc, hd, h0, QA.tk, List.length_map, j51, b51, q51, qq, ww, List.replicate, Nat.reduceBEq, Nat.reduceAdd, Nat.reduceMul, Nat.reduceDiv, Nat.reduceEqDiff, Nat.reduceLeDiff, Nat.reduceLT, Int.reduceEq, Int.reduceNe, Int.reduceLT, Int.reduceLE, Int.reduceAdd, Int.reduceSub, Int.reduceMul, Int.reduceNeg, Int.reduceToNat, Int.reducePow, Nat.reducePow, reduceCtorEq, reduceIte, if_true, if_false]
end Go.Proofs.YtkfcbpbnoeaheaaDoor.FA
namespace Go.Proofs.YtkfcbpbnoeaheaaDoor.FA
open Go Go.Proofs.YtkfcbpbnoeaheaaDoorR Go.Proofs.YtkfcbpbnoeaheaaDoor.IF
open Go.Proofs.YtkfcbpbnoeaheaaDoor.QA (Ev eE aE rE inB epOK evOK qOK putE n01)
open Go.Proofs.YtkfcbpbnoeaheaaDoor.AA (It eT aT rT ahOK addA leftL wi wm takeT allT take_s)
open Go.Proofs.YtkfcbpbnoeaheaaDoor.EC (Cf eC okC)
set_option maxRecDepth 100000
set_option maxHeartbeats 4000000
/-- A stream. -/
structure Sm where
  (e w kn : Int)
  (kp ah : List It)
  deriving DecidableEq
abbrev eS (s : Sm) : List V := [.int .i64 s.e, .int .i64 s.w, .int .i64 s.kn, rT s.kp, rT s.ah]
abbrev aS (s : Sm) : S := .agg (eS s)
abbrev s0 : Sm := ⟨0, 0, 0, [], []⟩
/-- Short enough to be walked. -/
abbrev smL (s : Sm) : Prop := s.kp.length < 900 ∧ s.ah.length < 900
def zeroB (s : Sm) : Bool := decide (s.e = 0) && decide (s.w = 0) && decide (s.kn = 0) && decide ((s.kp.length : Int) = 0) && decide ((s.ah.length : Int) = 0)
theorem zeroB_iff {s : Sm} : zeroB s = true ↔ s = s0 := by
  obtain ⟨e, w, k, kp, ah⟩ := s
  simp [zeroB, and_assoc, List.length_eq_zero_iff]
theorem e47 (N d : Nat) (s : Sm) : TT N (d + 1) 47 [aS s] = some (bV (zeroB s), []) := by
  rw [t47, F_ev rfl]
  simp only [List.length_map, j47, b47, q47, qq, ww, List.replicate, Nat.reduceBEq, Nat.reduceAdd, Nat.reduceMul, Nat.reduceDiv, Nat.reduceEqDiff, Nat.reduceLeDiff, Nat.reduceLT, Int.reduceEq, Int.reduceNe, Int.reduceLT, Int.reduceLE, Int.reduceAdd, Int.reduceSub, Int.reduceMul, Int.reduceNeg, Int.reduceToNat, Int.reducePow, Nat.reducePow, reduceCtorEq, reduceIte, if_true, if_false]
  repeat' (refine fin_cases (fun h1 => ?_) (fun h1 => ?_) <;> simp only [h1, List.length_map, j47, b47, q47, qq, ww, List.replicate, Nat.reduceBEq, Nat.reduceAdd, Nat.reduceMul, Nat.reduceDiv, Nat.reduceEqDiff, Nat.reduceLeDiff, Nat.reduceLT, Int.reduceEq, Int.reduceNe, Int.reduceLT, Int.reduceLE, Int.reduceAdd, Int.reduceSub, Int.reduceMul, Int.reduceNeg, Int.reduceToNat, Int.reducePow, Nat.reducePow, reduceCtorEq, reduceIte, if_true, if_false])
  all_goals simp_all [zeroB]
def rightB (c : Cf) (s : Sm) : Bool := zeroB s || (epOK s.e && inB s.w 1 1073741824 && decide (s.w ≤ s.kn) && decide (s.kn ≤ 1073741824) && kpOK s.kp s.w c.p && ahOK s.ah s.w c.w)
theorem e30 (N d : Nat) (hN : 1000 ≤ N) (c : Cf) (s : Sm) (hs : smL s) : TT N (d + 5) 30 [.agg (eC c), aS s] = some (bV (rightB c s), []) := by
  have hz := fun d => e47 N d s
  have he := fun d => QA.e19 N d s.e
  have hc := fun d => QA.e20 N d s.w
  have hk := fun d => e33 N d s.kp s.w c.p (by omega) (by omega)
  have ha := fun d => AA.e40 N d s.ah s.w c.w (by omega) (by omega)
  rw [t30, F_ev rfl]
  simp only [hz, he, hc, hk, ha, n01, j30, b30, q30, qq, ww, List.replicate, Nat.reduceBEq, Nat.reduceAdd, Nat.reduceMul, Nat.reduceDiv, Nat.reduceEqDiff, Nat.reduceLeDiff, Nat.reduceLT, Int.reduceEq, Int.reduceNe, Int.reduceLT, Int.reduceLE, Int.reduceAdd, Int.reduceSub, Int.reduceMul, Int.reduceNeg, Int.reduceToNat, Int.reducePow, Nat.reducePow, reduceCtorEq, reduceIte, if_true, if_false]
  repeat' (refine fin_cases (fun h1 => ?_) (fun h1 => ?_) <;> simp only [h1, hz, he, hc, hk, ha, n01, j30, b30, q30, qq, ww, List.replicate, Nat.reduceBEq, Nat.reduceAdd, Nat.reduceMul, Nat.reduceDiv, Nat.reduceEqDiff, Nat.reduceLeDiff, Nat.reduceLT, Int.reduceEq, Int.reduceNe, Int.reduceLT, Int.reduceLE, Int.reduceAdd, Int.reduceSub, Int.reduceMul, Int.reduceNeg, Int.reduceToNat, Int.reducePow, Nat.reducePow, reduceCtorEq, reduceIte, if_true, if_false])
  all_goals first
    | (simp_all [rightB]; done)
    | (simp_all [rightB]; intros; omega)
def flowC (c : Cf) (s : Sm) (q : List Ev) : Int := if okC c then (if rightB c s && qOK q c.q then 0 else 1) else 13
theorem e10 (N d : Nat) (hN : 1000 ≤ N) (c : Cf) (s : Sm) (q : List Ev) (hs : smL s) (hq : q.length < 900) : TT N (d + 11) 10 [.agg (eC c), aS s, .one (rE q)] = some (iV (flowC c s q), []) := by
  have h1 := fun d => EC.e29 N d c (by omega)
  have h2 := fun d => e30 N d hN c s hs
  have h3 := fun d => QA.e31 N d q c.q (by omega) (by omega)
  rw [t10, F_ev rfl]
  cases hc : okC c with
  | false =>
    rw [hc] at h1
    simp only [flowC, hc, h1, j10, b10, q10, qq, ww, List.replicate, Nat.reduceBEq, Nat.reduceAdd, Nat.reduceMul, Nat.reduceDiv, Nat.reduceEqDiff, Nat.reduceLeDiff, Nat.reduceLT, Int.reduceEq, Int.reduceNe, Int.reduceLT, Int.reduceLE, Int.reduceAdd, Int.reduceSub, Int.reduceMul, Int.reduceNeg, Int.reduceToNat, Int.reducePow, Nat.reducePow, reduceCtorEq, reduceIte, if_true, if_false]
  | true =>
  rw [hc] at h1
  cases hr : rightB c s with
  | false =>
    rw [hr] at h2
    simp only [flowC, hc, hr, h1, h2, j10, b10, q10, qq, ww, List.replicate, Nat.reduceBEq, Nat.reduceAdd, Nat.reduceMul, Nat.reduceDiv, Nat.reduceEqDiff, Nat.reduceLeDiff, Nat.reduceLT, Int.reduceEq, Int.reduceNe, Int.reduceLT, Int.reduceLE, Int.reduceAdd, Int.reduceSub, Int.reduceMul, Int.reduceNeg, Int.reduceToNat, Int.reducePow, Nat.reducePow, reduceCtorEq, reduceIte, if_true, if_false]
    try rfl
  | true =>
  rw [hr] at h2
  cases hq : qOK q c.q <;> rw [hq] at h3 <;> simp only [flowC, hc, hr, hq, h1, h2, h3, j10, b10, q10, qq, ww, List.replicate, Nat.reduceBEq, Nat.reduceAdd, Nat.reduceMul, Nat.reduceDiv, Nat.reduceEqDiff, Nat.reduceLeDiff, Nat.reduceLT, Int.reduceEq, Int.reduceNe, Int.reduceLT, Int.reduceLE, Int.reduceAdd, Int.reduceSub, Int.reduceMul, Int.reduceNeg, Int.reduceToNat, Int.reducePow, Nat.reducePow, reduceCtorEq, reduceIte, if_true, if_false] <;> try rfl
theorem e21 (N d : Nat) (at_ next : Int) : TT N (d + 1) 21 [iV at_, iV next] = some (aS ⟨at_, next, next, [], []⟩, []) := by
  rw [t21, F_ev rfl]
  simp only [j21, b21, q21, qq, ww, List.replicate, Nat.reduceBEq, Nat.reduceAdd, Nat.reduceMul, Nat.reduceDiv, Nat.reduceEqDiff, Nat.reduceLeDiff, Nat.reduceLT, Int.reduceEq, Int.reduceNe, Int.reduceLT, Int.reduceLE, Int.reduceAdd, Int.reduceSub, Int.reduceMul, Int.reduceNeg, Int.reduceToNat, Int.reducePow, Nat.reducePow, reduceCtorEq, reduceIte, if_true, if_false]
  repeat' (refine fin_cases (fun h1 => ?_) (fun h1 => ?_) <;> simp only [h1, j21, b21, q21, qq, ww, List.replicate, Nat.reduceBEq, Nat.reduceAdd, Nat.reduceMul, Nat.reduceDiv, Nat.reduceEqDiff, Nat.reduceLeDiff, Nat.reduceLT, Int.reduceEq, Int.reduceNe, Int.reduceLT, Int.reduceLE, Int.reduceAdd, Int.reduceSub, Int.reduceMul, Int.reduceNeg, Int.reduceToNat, Int.reducePow, Nat.reducePow, reduceCtorEq, reduceIte, if_true, if_false])
  all_goals rfl
/-- A stream whose lists are one's own. -/
abbrev oS (s : Sm) : S := .agg [.int .i64 s.e, .int .i64 s.w, .int .i64 s.kn, .sl 0 0 s.kp.length, .sl 1 0 s.ah.length]
abbrev oH (s : Sm) : Hp := [(0, .rows 35 2 (s.kp.map eT)), (1, .rows 35 2 (s.ah.map eT))]
theorem e22 (N d : Nat) (s : Sm) (hs : smL s) : TT N (d + 2) 22 [aS s] = some (aS s, []) := by
  have h1 := fun d => AA.e34 N d s.kp (by omega)
  have h2 := fun d => AA.e34 N d s.ah (by omega)
  rw [t22, F_ev rfl]
  simp only [h1, h2, takeT, List.length_map, j22, b22, q22, qq, ww, List.replicate, Nat.reduceBEq, Nat.reduceAdd, Nat.reduceMul, Nat.reduceDiv, Nat.reduceEqDiff, Nat.reduceLeDiff, Nat.reduceLT, Int.reduceEq, Int.reduceNe, Int.reduceLT, Int.reduceLE, Int.reduceAdd, Int.reduceSub, Int.reduceMul, Int.reduceNeg, Int.reduceToNat, Int.reducePow, Nat.reducePow, reduceCtorEq, reduceIte, if_true, if_false]
theorem eq_sm {a b : Sm} : decide (a = b) = (decide (a.e = b.e) && (decide (a.w = b.w) && (decide (a.kn = b.kn) && (decide (a.kp = b.kp) && decide (a.ah = b.ah))))) := by
  obtain ⟨a1, a2, a3, a4, a5⟩ := a
  obtain ⟨b1, b2, b3, b4, b5⟩ := b
  simp
theorem e14 (N d : Nat) (hN : 1000 ≤ N) (a b : Sm) (ha : smL a) : TT N (d + 2) 14 [aS a, aS b] = some (bV (decide (a = b)), []) := by
  have h1 := fun d => AA.e16 N d a.kp b.kp (by omega) (by omega)
  have h2 := fun d => AA.e16 N d a.ah b.ah (by omega) (by omega)
  rw [t14, F_ev rfl]
  simp only [h1, h2, j14, b14, q14, qq, ww, List.replicate, Nat.reduceBEq, Nat.reduceAdd, Nat.reduceMul, Nat.reduceDiv, Nat.reduceEqDiff, Nat.reduceLeDiff, Nat.reduceLT, Int.reduceEq, Int.reduceNe, Int.reduceLT, Int.reduceLE, Int.reduceAdd, Int.reduceSub, Int.reduceMul, Int.reduceNeg, Int.reduceToNat, Int.reducePow, Nat.reducePow, reduceCtorEq, reduceIte, if_true, if_false]
  repeat' (refine fin_cases (fun g => ?_) (fun g => ?_) <;> simp only [g, h1, h2, j14, b14, q14, qq, ww, List.replicate, Nat.reduceBEq, Nat.reduceAdd, Nat.reduceMul, Nat.reduceDiv, Nat.reduceEqDiff, Nat.reduceLeDiff, Nat.reduceLT, Int.reduceEq, Int.reduceNe, Int.reduceLT, Int.reduceLE, Int.reduceAdd, Int.reduceSub, Int.reduceMul, Int.reduceNeg, Int.reduceToNat, Int.reducePow, Nat.reducePow, reduceCtorEq, reduceIte, if_true, if_false])
  all_goals (rw [eq_sm]; simp_all)
theorem kept_lt {l : List It} {s : Int} (h : kRow s l = true) (hl : 0 < l.length) : 1 ≤ s := by
  cases l with
  | nil => simp at hl
  | cons x r =>
    simp only [kRow, Bool.and_eq_true, decide_eq_true_eq] at h
    omega
/-- The row, as the page has it. -/
def kRow2 : Int → List It → Bool
  | _, [] => true
  | s, x :: r => decide (x.s = s) && inB x.v 0 2147483647 && kRow2 (s + 1) r
theorem kRow_eq : ∀ {l : List It} {s : Int}, 1 ≤ s → kRow s l = kRow2 s l
  | [], s, h => rfl
  | x :: r, s, h => by
    rw [kRow, kRow2, kRow_eq (by omega)]
    by_cases h1 : x.s = s
    · have : decide (1 ≤ x.s) = true := by simp; omega
      simp [this]
    · simp [h1]
end Go.Proofs.YtkfcbpbnoeaheaaDoor.FA
namespace Go.Proofs.YtkfcbpbnoeaheaaDoor.FA
open Go Go.Proofs.YtkfcbpbnoeaheaaDoorR Go.Proofs.YtkfcbpbnoeaheaaDoor.IF
open Go.Proofs.YtkfcbpbnoeaheaaDoor.QA (Ev eE aE rE inB epOK evOK qOK putE n01)
open Go.Proofs.YtkfcbpbnoeaheaaDoor.AA (It eT aT rT ahOK addA leftL wi wm takeT allT take_s hR pre cP)
open Go.Proofs.YtkfcbpbnoeaheaaDoor.EC (Cf eC okC)
set_option maxRecDepth 100000
set_option maxHeartbeats 4000000
/-- What a stream becomes that is told. -/
def toldS (s : Sm) (at_ next : Int) : Sm := if at_ > s.e then ⟨at_, next, next, [], []⟩ else if at_ = s.e then ⟨s.e, s.w, if next > s.kn then next else s.kn, s.kp, s.ah⟩ else s
def toldP (c : Cf) (s : Sm) (at_ next : Int) : Sm × Int :=
  if flowC c s [] = 0 then if (epOK at_ && inB next 1 1073741824) = true then (toldS s at_ next, 0) else (s0, 1) else (s0, flowC c s [])
theorem e8 (N d : Nat) (hN : 1000 ≤ N) (c : Cf) (s : Sm) (at_ next : Int) (hs : smL s) : TT N (d + 12) 8 [.agg (eC c), aS s, iV at_, iV next] = some (.tup [aS (toldP c s at_ next).1, iV (toldP c s at_ next).2], []) := by
  have h0 : ∀ d, TT N (d + 11) 10 [.agg (eC c), aS s, .one (.row [])] = some (iV (flowC c s []), []) := fun d => e10 N d hN c s [] hs (by simp)
  have h1 := fun d => e22 N d s hs
  have h2 := fun d => e21 N d at_ next
  have h3 := fun d => QA.e19 N d at_
  have h4 := fun d => QA.e20 N d next
  rw [t8, F_ev rfl]
  unfold toldP
  by_cases g0 : flowC c s [] = 0
  · rw [if_pos g0]
    rw [g0] at h0
    cases g1 : epOK at_ with
    | false =>
      rw [g1] at h3
      rw [if_neg (by simp)]
      simp only [h0, h3, List.map_nil, j8, b8, q8, qq, ww, List.replicate, Nat.reduceBEq, Nat.reduceAdd, Nat.reduceMul, Nat.reduceDiv, Nat.reduceEqDiff, Nat.reduceLeDiff, Nat.reduceLT, Int.reduceEq, Int.reduceNe, Int.reduceLT, Int.reduceLE, Int.reduceAdd, Int.reduceSub, Int.reduceMul, Int.reduceNeg, Int.reduceToNat, Int.reducePow, Nat.reducePow, reduceCtorEq, reduceIte, if_true, if_false]
      try rfl
    | true =>
    rw [g1] at h3
    cases g2 : inB next 1 1073741824 with
    | false =>
      rw [g2] at h4
      rw [if_neg (by simp)]
      simp only [h0, h3, h4, List.map_nil, j8, b8, q8, qq, ww, List.replicate, Nat.reduceBEq, Nat.reduceAdd, Nat.reduceMul, Nat.reduceDiv, Nat.reduceEqDiff, Nat.reduceLeDiff, Nat.reduceLT, Int.reduceEq, Int.reduceNe, Int.reduceLT, Int.reduceLE, Int.reduceAdd, Int.reduceSub, Int.reduceMul, Int.reduceNeg, Int.reduceToNat, Int.reducePow, Nat.reducePow, reduceCtorEq, reduceIte, if_true, if_false]
      try rfl
    | true =>
    rw [g2] at h4
    rw [if_pos (by decide)]
    unfold toldS
    by_cases g3 : at_ > s.e
    · rw [if_pos g3]
      simp only [h0, h1, h2, h3, h4, decide_eq_true g3, List.map_nil, j8, b8, q8, qq, ww, List.replicate, Nat.reduceBEq, Nat.reduceAdd, Nat.reduceMul, Nat.reduceDiv, Nat.reduceEqDiff, Nat.reduceLeDiff, Nat.reduceLT, Int.reduceEq, Int.reduceNe, Int.reduceLT, Int.reduceLE, Int.reduceAdd, Int.reduceSub, Int.reduceMul, Int.reduceNeg, Int.reduceToNat, Int.reducePow, Nat.reducePow, reduceCtorEq, reduceIte, if_true, if_false]
    rw [if_neg g3]
    by_cases g4 : at_ = s.e
    · rw [if_pos g4]
      simp only [h0, h1, h2, h3, h4, decide_eq_false g3, decide_eq_true g4, List.map_nil, j8, b8, q8, qq, ww, List.replicate, Nat.reduceBEq, Nat.reduceAdd, Nat.reduceMul, Nat.reduceDiv, Nat.reduceEqDiff, Nat.reduceLeDiff, Nat.reduceLT, Int.reduceEq, Int.reduceNe, Int.reduceLT, Int.reduceLE, Int.reduceAdd, Int.reduceSub, Int.reduceMul, Int.reduceNeg, Int.reduceToNat, Int.reducePow, Nat.reducePow, reduceCtorEq, reduceIte, if_true, if_false]
    · rw [if_neg g4]
      simp only [h0, h1, h2, h3, h4, decide_eq_false g3, decide_eq_false g4, List.map_nil, j8, b8, q8, qq, ww, List.replicate, Nat.reduceBEq, Nat.reduceAdd, Nat.reduceMul, Nat.reduceDiv, Nat.reduceEqDiff, Nat.reduceLeDiff, Nat.reduceLT, Int.reduceEq, Int.reduceNe, Int.reduceLT, Int.reduceLE, Int.reduceAdd, Int.reduceSub, Int.reduceMul, Int.reduceNeg, Int.reduceToNat, Int.reducePow, Nat.reducePow, reduceCtorEq, reduceIte, if_true, if_false]
  · rw [if_neg g0]
    simp only [h0, decide_eq_false g0, List.map_nil, j8, b8, q8, qq, ww, List.replicate, Nat.reduceBEq, Nat.reduceAdd, Nat.reduceMul, Nat.reduceDiv, Nat.reduceEqDiff, Nat.reduceLeDiff, Nat.reduceLT, Int.reduceEq, Int.reduceNe, Int.reduceLT, Int.reduceLE, Int.reduceAdd, Int.reduceSub, Int.reduceMul, Int.reduceNeg, Int.reduceToNat, Int.reducePow, Nat.reducePow, reduceCtorEq, reduceIte, if_true, if_false]
    try rfl
/-- The cells of one who takes items in. -/
abbrev kV (c : Cf) (s : Sm) (sub : Bool) (q : List Ev) (z : V) : List V := [.int .i64 c.n, .int .i64 c.t, .int .i64 c.k, .int .i64 c.d, .int .i64 c.p, .int .i64 c.w, .int .i64 c.q, .int .i64 s.e, .int .i64 s.w, .int .i64 s.kn, rT s.kp, rT s.ah, .bool sub, rE q, z]
theorem begin_ok (N d : Nat) (hN : 1000 ≤ N) (c : Cf) (s : Sm) (sub : Bool) (q : List Ev) (hs : smL s) (hq : q.length < 900) (h : flowC c s q = 0) :
    TT N (d + 12) 23 [.agg (eC c), aS s, bV sub, .one (rE q)] = some (.tup [.one (.ref 15 0 0), iV 0], [(14, .rows 35 2 []), (15, .box (kV c s sub q (.sl 14 0 0)))]) := by
  have h0 := fun d => e10 N d hN c s q hs hq
  have h1 := fun d => e22 N d s hs
  have h2 := fun d => QA.e37 N d q (by omega)
  rw [h] at h0
  rw [t23, F_ev rfl]
  simp only [h0, h1, h2, QA.tk, List.length_map, j23, b23, q23, qq, ww, List.replicate, Nat.reduceBEq, Nat.reduceAdd, Nat.reduceMul, Nat.reduceDiv, Nat.reduceEqDiff, Nat.reduceLeDiff, Nat.reduceLT, Int.reduceEq, Int.reduceNe, Int.reduceLT, Int.reduceLE, Int.reduceAdd, Int.reduceSub, Int.reduceMul, Int.reduceNeg, Int.reduceToNat, Int.reducePow, Nat.reducePow, reduceCtorEq, reduceIte, if_true, if_false]
theorem begin_no (N d : Nat) (hN : 1000 ≤ N) (c : Cf) (s : Sm) (sub : Bool) (q : List Ev) (hs : smL s) (hq : q.length < 900) (h : flowC c s q ≠ 0) :
    TT N (d + 12) 23 [.agg (eC c), aS s, bV sub, .one (rE q)] = some (.tup [.one (.k (.pointer none)), iV (flowC c s q)], []) := by
  have h0 := fun d => e10 N d hN c s q hs hq
  rw [t23, F_ev rfl]
  simp only [h0, decide_eq_false h, j23, b23, q23, qq, ww, List.replicate, Nat.reduceBEq, Nat.reduceAdd, Nat.reduceMul, Nat.reduceDiv, Nat.reduceEqDiff, Nat.reduceLeDiff, Nat.reduceLT, Int.reduceEq, Int.reduceNe, Int.reduceLT, Int.reduceLE, Int.reduceAdd, Int.reduceSub, Int.reduceMul, Int.reduceNeg, Int.reduceToNat, Int.reducePow, Nat.reducePow, reduceCtorEq, reduceIte, if_true, if_false]
  try rfl
theorem e24 (N d : Nat) (n : Int) : TT N (d + 1) 24 [iV n] = some (bV (inB n 1 1073741823), []) := by
  rw [t24, F_ev rfl]
  simp only [j24, b24, q24, qq, ww, List.replicate, Nat.reduceBEq, Nat.reduceAdd, Nat.reduceMul, Nat.reduceDiv, Nat.reduceEqDiff, Nat.reduceLeDiff, Nat.reduceLT, Int.reduceEq, Int.reduceNe, Int.reduceLT, Int.reduceLE, Int.reduceAdd, Int.reduceSub, Int.reduceMul, Int.reduceNeg, Int.reduceToNat, Int.reducePow, Nat.reducePow, reduceCtorEq, reduceIte, if_true, if_false]
  repeat' (refine fin_cases (fun h1 => ?_) (fun h1 => ?_) <;> simp only [h1, j24, b24, q24, qq, ww, List.replicate, Nat.reduceBEq, Nat.reduceAdd, Nat.reduceMul, Nat.reduceDiv, Nat.reduceEqDiff, Nat.reduceLeDiff, Nat.reduceLT, Int.reduceEq, Int.reduceNe, Int.reduceLT, Int.reduceLE, Int.reduceAdd, Int.reduceSub, Int.reduceMul, Int.reduceNeg, Int.reduceToNat, Int.reducePow, Nat.reducePow, reduceCtorEq, reduceIte, if_true, if_false])
  all_goals grind [inB]
theorem e11 (N d : Nat) (s : Sm) : TT N (d + 1) 11 [aS s] = some (bV (decide (s.kn > s.w)), []) := by
  rw [t11, F_ev rfl]
  simp only [j11, b11, q11, qq, ww, List.replicate, Nat.reduceBEq, Nat.reduceAdd, Nat.reduceMul, Nat.reduceDiv, Nat.reduceEqDiff, Nat.reduceLeDiff, Nat.reduceLT, Int.reduceEq, Int.reduceNe, Int.reduceLT, Int.reduceLE, Int.reduceAdd, Int.reduceSub, Int.reduceMul, Int.reduceNeg, Int.reduceToNat, Int.reducePow, Nat.reducePow, reduceCtorEq, reduceIte, if_true, if_false]
  repeat' (refine fin_cases (fun h1 => ?_) (fun h1 => ?_) <;> simp only [h1, j11, b11, q11, qq, ww, List.replicate, Nat.reduceBEq, Nat.reduceAdd, Nat.reduceMul, Nat.reduceDiv, Nat.reduceEqDiff, Nat.reduceLeDiff, Nat.reduceLT, Int.reduceEq, Int.reduceNe, Int.reduceLT, Int.reduceLE, Int.reduceAdd, Int.reduceSub, Int.reduceMul, Int.reduceNeg, Int.reduceToNat, Int.reducePow, Nat.reducePow, reduceCtorEq, reduceIte, if_true, if_false])
  all_goals try rfl
end Go.Proofs.YtkfcbpbnoeaheaaDoor.FA
namespace Go.Proofs.YtkfcbpbnoeaheaaDoor.FA
open Go Go.Proofs.YtkfcbpbnoeaheaaDoorR Go.Proofs.YtkfcbpbnoeaheaaDoor.IF
open Go.Proofs.YtkfcbpbnoeaheaaDoor.QA (Ev eE aE rE inB epOK evOK qOK putE n01)
open Go.Proofs.YtkfcbpbnoeaheaaDoor.AA (It eT aT rT ahOK addA leftL wi wm takeT allT take_s hR pre cP)
open Go.Proofs.YtkfcbpbnoeaheaaDoor.EC (Cf eC okC)
set_option maxRecDepth 100000
set_option maxHeartbeats 4000000
/-- Who takes items in: what is his, as handed over; as it is then. -/
abbrev kT (c : Cf) (s : Sm) (sub : Bool) (q : List Ev) (on : List It) : S := .tup [.agg (kV c s sub q (.sl 1 0 on.length)), hR 35 2 (on.map eT)]
abbrev kH (c : Cf) (s : Sm) (sub : Bool) (q : List Ev) (on : List It) : Hp := [(0, .box (kV c s sub q (.sl 1 0 on.length))), (1, .rows 35 2 (on.map eT))]
theorem e32 (N d : Nat) (hN : 1000 ≤ N) (c : Cf) (s : Sm) (sub : Bool) (q : List Ev) (on : List It) (x : Ev) (hq : q.length < 900) :
    TT N (d + 13) 32 [.one (.ref 0 0 0), aE x, kT c s sub q on] = some (.tup [], kH c s sub (if sub then fitE q c.q x else q) on) := by
  have h1 := fun d => e51 N d q c.q x (by omega) (by omega)
  rw [t32, F_evo rfl rfl (by simp)]
  cases sub <;> simp only [h1, List.length_map, j32, b32, q32, qq, ww, List.replicate, Nat.reduceBEq, Nat.reduceAdd, Nat.reduceMul, Nat.reduceDiv, Nat.reduceEqDiff, Nat.reduceLeDiff, Nat.reduceLT, Int.reduceEq, Int.reduceNe, Int.reduceLT, Int.reduceLE, Int.reduceAdd, Int.reduceSub, Int.reduceMul, Int.reduceNeg, Int.reduceToNat, Int.reducePow, Nat.reducePow, reduceCtorEq, reduceIte, if_true, if_false]
def oneS (c : Cf) (s : Sm) (v : Int) : Sm := ⟨s.e, s.w + 1, if s.w + 1 > s.kn then s.w + 1 else s.kn, (pushP s.kp s.w c.p v).1, s.ah⟩
def oneQ (c : Cf) (s : Sm) (sub : Bool) (q : List Ev) (v : Int) : List Ev := if sub then fitE q c.q ⟨1, s.e, s.w, 0, v, 0⟩ else q
theorem e26 (N d : Nat) (hN : 1000 ≤ N) (c : Cf) (s : Sm) (sub : Bool) (q : List Ev) (on : List It) (v : Int) (hs : smL s) (hq : q.length < 900) (hon : on.length < 900) (hw : 0 ≤ s.w ∧ s.w ≤ 1073741824) :
    TT N (d + 14) 26 [.one (.ref 0 0 0), iV v, kT c s sub q on] = some (.tup [], kH c (oneS c s v) sub (oneQ c s sub q v) (on ++ [⟨s.w, v⟩])) := by
  have h1 := fun d => e38 N d s.kp s.w c.p v (by omega) (by omega)
  have h2 := fun d => e32 N d hN c ⟨s.e, s.w, s.kn, (pushP s.kp s.w c.p v).1, s.ah⟩ sub q on ⟨1, s.e, s.w, 0, v, 0⟩ hq
  dsimp only [kT, kH, kV] at h2
  have hq2 : oneQ c s sub q v = (if sub = true then fitE q c.q ⟨1, s.e, s.w, 0, v, 0⟩ else q) := rfl
  rw [hq2]
  generalize hG : (if sub = true then fitE q c.q ⟨1, s.e, s.w, 0, v, 0⟩ else q) = q' at *
  have htk : List.take (on.length + 1) (on.map eT ++ [eT (⟨s.w, v⟩ : It)]) = on.map eT ++ [eT (⟨s.w, v⟩ : It)] := List.take_of_length_le (by simp)
  have hwi : IntKind.i64.wrap (s.w + 1) = s.w + 1 := IntWalk.i64_in _ (by omega)
  have hby : (on.length + 1) * 16 ≤ 140737488355328 := by omega
  rw [t26, F_evo rfl rfl (by simp)]
  simp only [h1, h2, hwi, hby, htk, oneS, kH, kV, takeT, List.length_map, j26, b26, q26, qq, ww, List.replicate, Nat.reduceBEq, Nat.reduceAdd, Nat.reduceMul, Nat.reduceDiv, Nat.reduceEqDiff, Nat.reduceLeDiff, Nat.reduceLT, Int.reduceEq, Int.reduceNe, Int.reduceLT, Int.reduceLE, Int.reduceAdd, Int.reduceSub, Int.reduceMul, Int.reduceNeg, Int.reduceToNat, Int.reducePow, Nat.reducePow, reduceCtorEq, reduceIte, if_true, if_false]
end Go.Proofs.YtkfcbpbnoeaheaaDoor.FA
namespace Go.Proofs.YtkfcbpbnoeaheaaDoor.FA
open Go Go.Proofs.YtkfcbpbnoeaheaaDoorR Go.Proofs.YtkfcbpbnoeaheaaDoor.IF
open Go.Proofs.YtkfcbpbnoeaheaaDoor.QA (Ev eE aE rE inB epOK evOK qOK putE n01)
open Go.Proofs.YtkfcbpbnoeaheaaDoor.AA (It eT aT rT ahOK addA leftL wi wm takeT allT take_s hR pre cP)
open Go.Proofs.YtkfcbpbnoeaheaaDoor.EC (Cf eC okC)
set_option maxRecDepth 100000
set_option maxHeartbeats 4000000
/-- Items taken in, one by one. -/
def foldK (c : Cf) (sub : Bool) : List It → Sm → List Ev → List It → Sm × List Ev × List It
  | [], s, q, on => (s, q, on)
  | x :: r, s, q, on => foldK c sub r (oneS c s x.v) (oneQ c s sub q x.v) (on ++ [⟨s.w, x.v⟩])
theorem pushP_len (l : List It) (want lim v : Int) : (pushP l want lim v).1.length ≤ 16 := by
  unfold pushP
  split
  · simp
  · split
    · simp
    · rename_i h _
      have h : kpOK l want lim = true ∧ inB v 0 2147483647 = true := by simpa using h
      have : 1 ≤ lim ∧ lim ≤ 16 ∧ (l.length : Int) ≤ lim := by have := h.1; simp [kpOK, inB] at this; omega
      simp [pushL]
      omega
theorem oneS_len {c : Cf} {s : Sm} {v : Int} (hs : smL s) : smL (oneS c s v) := by
  have := pushP_len s.kp s.w c.p v
  exact ⟨by show (pushP s.kp s.w c.p v).1.length < 900; omega, hs.2⟩
theorem oneQ_len (c : Cf) (s : Sm) (sub : Bool) (q : List Ev) (v : Int) : (oneQ c s sub q v).length ≤ q.length + 1 := by
  unfold oneQ
  split
  · exact fitE_len _ _ _
  · omega
/-- How many of what came ahead follow now. -/
abbrev cut (s : Sm) : Nat := pre (cP s.w) (leftL s.w s.ah) 0
def moreK (c : Cf) (sub : Bool) (s : Sm) (q : List Ev) (on : List It) : Sm × List Ev × List It :=
  let r := foldK c sub ((leftL s.w s.ah).take (cut s)) s q on
  (⟨r.1.e, r.1.w, r.1.kn, r.1.kp, (leftL s.w s.ah).drop (cut s)⟩, r.2.1, r.2.2)
theorem e27 (N d : Nat) (hN : 1000 ≤ N) (c : Cf) (s : Sm) (sub : Bool) (q : List Ev) (on : List It) (hs : smL s) (hq : q.length + s.ah.length < 900) (hon : on.length + s.ah.length < 900) (hw : 0 ≤ s.w ∧ s.w + cut s ≤ 1073741825) :
    TT N (d + 15) 27 [.one (.ref 0 0 0), kT c s sub q on] = some (.tup [], kH c (moreK c sub s q on).1 sub (moreK c sub s q on).2.1 (moreK c sub s q on).2.2) := by
  have h1 := fun d => AA.e39 N d s.ah s.w (by omega) (by omega)
  have hll : (leftL s.w s.ah).length ≤ s.ah.length := List.length_filter_le _ _
  have hcut := AA.pre_le (cP s.w) (leftL s.w s.ah) 0
  unfold moreK
  dsimp only
  generalize hrest : (leftL s.w s.ah).drop (cut s) = rest at *
  generalize hL : (leftL s.w s.ah).take (cut s) = L at *
  have hLl : L.length ≤ s.ah.length := by rw [← hL, List.length_take]; omega
  have hLc : L.length ≤ cut s := by rw [← hL, List.length_take]; omega
  rw [t27, F_evo rfl rfl (by simp)]
  simp only [h1, hrest, hL, List.length_map, j27, b27, q27, qq, ww, List.replicate, Nat.reduceBEq, Nat.reduceAdd, Nat.reduceMul, Nat.reduceDiv, Nat.reduceEqDiff, Nat.reduceLeDiff, Nat.reduceLT, Int.reduceEq, Int.reduceNe, Int.reduceLT, Int.reduceLE, Int.reduceAdd, Int.reduceSub, Int.reduceMul, Int.reduceNeg, Int.reduceToNat, Int.reducePow, Nat.reducePow, reduceCtorEq, reduceIte, if_true, if_false]
  refine loopI (K := fun o => finG _ _ (aft _ _ _ o)) (I := fun i st => ∃ s' q' on', st = ⟨[(0, .one (.ref 0 0 0)), (3, .one (rT rest)), (20, .one (rT L)), (21, iV L.length), (22, iV i)], [(0, .box (kV c s' sub q' (.sl 1 0 on'.length))), (0, .box (kV c s' sub q' (.sl 1 0 on'.length))), (1, .rows 35 2 (on'.map eT)), (1, .rows 35 2 (on'.map eT))]⟩ ∧ foldK c sub (L.drop i) s' q' on' = foldK c sub L s q on ∧ smL s' ∧ q'.length ≤ q.length + i ∧ on'.length ≤ on.length + i ∧ s'.w = s.w + i) _ L.length ?hr L.length 0 N _ ⟨[(0, .one (.ref 0 0 0)), (3, .one (rT rest)), (20, .one (rT L)), (21, iV L.length), (22, iV 0)], [(0, .box (kV c s sub q (.sl 1 0 on.length))), (0, .box (kV c s sub q (.sl 1 0 on.length))), (1, .rows 35 2 (on.map eT)), (1, .rows 35 2 (on.map eT))]⟩ (by omega) (by omega) ?hk ⟨s, q, on, rfl, rfl, hs, by omega, by omega, by omega⟩
  case hk => simp only [gcK, lowB, Nat.reduceLeDiff, Nat.reduceBEq, List.contains_nil, List.contains_cons, Bool.or_false, Bool.false_or, Bool.false_eq_true, if_false, Bool.true_and, Bool.and_true, pickL, look_hit, look_miss, look_end, slMent, hpMent, S.ment, S.ment.smt, ments, V.ment, List.append_nil, List.nil_append, List.cons_append, List.all_nil, List.all_cons, Option.isSome_some, Bool.and_self, if_true, reduceIte, Nat.reduceEqDiff, not_false_eq_true, reduceCtorEq, Nat.reduceMul, Nat.reduceAdd]
  case hr =>
    rintro i n st hi ⟨s', q', on', rfl, hf, hs', hq', hon', hw'⟩ ih
    (try dsimp only)
    by_cases hlt : i < L.length
    · have h1 : decide ((i : Int) < (L.length : Int)) = true := by simp; omega
      have hg1 : (L.map eT)[i]? = some (eT L[i]) := by simp [hlt]
      have hd1 : L.drop i = L[i] :: L.drop (i + 1) := by simp
      have hb : 0 ≤ (i : Int) ∧ (i : Int) < (L.length : Int) := by omega
      have ho := fun d => e26 N d hN c s' sub q' on' L[i].v hs' (by omega) (by omega) (by omega)
      dsimp only [kT, kH, kV] at ho
      rw [hd1, foldK] at hf
      simp only [h1, hb.1, hb.2, hg1, ho, wi i (by omega), kV, List.length_map, Int.toNat_natCast, j27, b27, q27, qq, ww, List.replicate, Nat.reduceBEq, Nat.reduceAdd, Nat.reduceMul, Nat.reduceDiv, Nat.reduceEqDiff, Nat.reduceLeDiff, Nat.reduceLT, Int.reduceEq, Int.reduceNe, Int.reduceLT, Int.reduceLE, Int.reduceAdd, Int.reduceSub, Int.reduceMul, Int.reduceNeg, Int.reduceToNat, Int.reducePow, Nat.reducePow, reduceCtorEq, reduceIte, if_true, if_false]
      have := oneQ_len c s' sub q' L[i].v
      refine ih hlt _ _ ?_ ⟨_, _, _, rfl, hf, oneS_len hs', by omega, by simp; omega, by show s'.w + 1 = _; omega⟩
      simp only [gcK, lowB, Nat.reduceLeDiff, Nat.reduceBEq, List.contains_nil, List.contains_cons, Bool.or_false, Bool.false_or, Bool.false_eq_true, if_false, Bool.true_and, Bool.and_true, pickL, look_hit, look_miss, look_end, slMent, hpMent, S.ment, S.ment.smt, ments, V.ment, List.append_nil, List.nil_append, List.cons_append, List.all_nil, List.all_cons, Option.isSome_some, Bool.and_self, if_true, reduceIte, Nat.reduceEqDiff, not_false_eq_true, reduceCtorEq, Nat.reduceMul, Nat.reduceAdd, kV, List.map_append, List.map_cons, List.map_nil, List.length_append, List.length_cons, List.length_nil, Nat.zero_add]
    · have h1 : decide ((i : Int) < (L.length : Int)) = false := by simp; omega
      rw [List.drop_of_length_le (by omega), foldK] at hf
      rw [← hf]
      simp only [h1, kH, kV, List.length_map, j27, b27, q27, qq, ww, List.replicate, Nat.reduceBEq, Nat.reduceAdd, Nat.reduceMul, Nat.reduceDiv, Nat.reduceEqDiff, Nat.reduceLeDiff, Nat.reduceLT, Int.reduceEq, Int.reduceNe, Int.reduceLT, Int.reduceLE, Int.reduceAdd, Int.reduceSub, Int.reduceMul, Int.reduceNeg, Int.reduceToNat, Int.reducePow, Nat.reducePow, reduceCtorEq, reduceIte, if_true, if_false]
end Go.Proofs.YtkfcbpbnoeaheaaDoor.FA
namespace Go.Proofs.YtkfcbpbnoeaheaaDoor.FA
open Go Go.Proofs.YtkfcbpbnoeaheaaDoorR Go.Proofs.YtkfcbpbnoeaheaaDoor.IF
open Go.Proofs.YtkfcbpbnoeaheaaDoor.QA (Ev eE aE rE inB epOK evOK qOK putE n01)
open Go.Proofs.YtkfcbpbnoeaheaaDoor.AA (It eT aT rT ahOK addA leftL wi wm takeT allT take_s hR pre cP risB fitsB)
open Go.Proofs.YtkfcbpbnoeaheaaDoor.EC (Cf eC okC)
set_option maxRecDepth 100000
set_option maxHeartbeats 4000000
theorem ris_len {want win : Int} : ∀ {l : List It} {p : Int}, risB want win (some p) l = true → l ≠ [] → p + l.length < want + win ∧ p + l.length < 1073741824
  | [], p, _, h => absurd rfl h
  | [x], p, h, _ => by
    simp only [risB, fitsB, Bool.and_eq_true, decide_eq_true_eq] at h
    simp only [List.length_cons, List.length_nil]
    omega
  | x :: y :: r, p, h, _ => by
    rw [risB] at h
    simp only [fitsB, Bool.and_eq_true, decide_eq_true_eq] at h
    have := ris_len h.2 (by simp)
    simp only [List.length_cons] at this ⊢
    omega
theorem ris_none {want win : Int} {l : List It} (h : risB want win none l = true) : risB want win (some want) l = true := by
  cases l with
  | nil => rfl
  | cons x r =>
    simp only [risB, fitsB, Bool.and_eq_true, decide_eq_true_eq, and_true] at h ⊢
    simp_all
theorem ah_len {l : List It} {want win : Int} (h : ahOK l want win = true) : l.length ≤ 15 ∧ (l ≠ [] → want + l.length < 1073741824) := by
  simp only [ahOK, AA.inB, Bool.and_eq_true, decide_eq_true_eq] at h
  by_cases hl : l = []
  · subst hl; simp
  · have := ris_len (ris_none h.2) hl
    exact ⟨by omega, fun _ => this.2⟩
/-- What a right flow is like. -/
theorem flow_t {c : Cf} {s : Sm} {q : List Ev} (h : flowC c s q = 0) : okC c = true ∧ rightB c s = true ∧ qOK q c.q = true := by
  unfold flowC at h
  split at h
  · split at h
    · rename_i h1 h2
      simp only [Bool.and_eq_true] at h2
      exact ⟨h1, h2.1, h2.2⟩
    · cases h
  · cases h
theorem flow_of {c : Cf} {s : Sm} {q : List Ev} (h1 : okC c = true) (h2 : rightB c s = true) (h3 : qOK q c.q = true) : flowC c s q = 0 := by
  unfold flowC
  rw [if_pos h1, h2, h3]; rfl
theorem right_t {c : Cf} {s : Sm} (h : rightB c s = true) : s.kp.length ≤ 16 ∧ s.ah.length ≤ 15 ∧ 0 ≤ s.w ∧ s.w ≤ 1073741824 ∧ s.w ≤ s.kn ∧ s.kn ≤ 1073741824 ∧ (s.ah ≠ [] → s.w + s.ah.length < 1073741824) ∧ 0 ≤ s.e ∧ s.e ≤ 1073741824 := by
  unfold rightB at h
  rw [Bool.or_eq_true] at h
  rcases h with h | h
  · rw [zeroB_iff] at h; subst h; simp
  · simp only [Bool.and_eq_true, decide_eq_true_eq] at h
    obtain ⟨⟨⟨⟨⟨h1, h2⟩, h3⟩, h4⟩, h5⟩, h6⟩ := h
    have ha := ah_len h6
    simp only [kpOK, inB, Bool.and_eq_true, decide_eq_true_eq] at h2 h5
    simp only [epOK, inB, Bool.and_eq_true, decide_eq_true_eq] at h1
    exact ⟨by omega, ha.1, by omega, by omega, h3, h4, ha.2, by omega, by omega⟩
theorem q_t {q : List Ev} {n : Int} (h : qOK q n = true) : q.length ≤ 32 ∧ 2 ≤ n ∧ n ≤ 32 ∧ (q.length : Int) ≤ n := by
  simp [qOK] at h; omega
/-- What an item makes of a flow. -/
def itemG (c : Cf) (s1 : Sm) (sub : Bool) (q : List Ev) (old : Bool) (x : It) : Sm × List Ev × List It :=
  if (old || decide (x.s < s1.w)) = true then (s1, q, [])
  else if x.s = s1.w then moreK c sub (oneS c s1 x.v) (oneQ c s1 sub q x.v) [⟨s1.w, x.v⟩]
  else (⟨s1.e, s1.w, if x.s + 1 > s1.kn then x.s + 1 else s1.kn, s1.kp, if (addA s1.ah s1.w c.w x).2 = 0 then (addA s1.ah s1.w c.w x).1 else s1.ah⟩, q, [])
def itemP (c : Cf) (s : Sm) (sub : Bool) (q : List Ev) (at_ : Int) (x : It) : (Sm × List Ev × List It) × Int :=
  if flowC c s q = 0 then
    if (epOK at_ && inB x.s 1 1073741823 && inB x.v 0 2147483647) = true then
      (itemG c (if at_ > s.e then ⟨at_, x.s, x.s, [], []⟩ else s) sub q (decide (at_ < s.e)) x, 0)
    else ((s0, [], []), 1)
  else ((s0, [], []), flowC c s q)
abbrev fA (r : (Sm × List Ev × List It) × Int) : S := .tup [aS r.1.1, .one (rE r.1.2.1), .one (rT r.1.2.2), iV r.2]
theorem e9 (N d : Nat) (hN : 1000 ≤ N) (c : Cf) (s : Sm) (sub : Bool) (q : List Ev) (at_ : Int) (x : It) (hs : smL s) (hq : q.length < 900) :
    ans (TT N (d + 16) 9 [.agg (eC c), aS s, bV sub, .one (rE q), iV at_, aT x]) = some (fA (itemP c s sub q at_ x)) := by
  have h3 := fun d => QA.e19 N d at_
  have h4 := fun d => e24 N d x.s
  have h5 := fun d => QA.e25 N d x.v
  rw [t9, F_ev rfl]
  unfold itemP
  by_cases g0 : flowC c s q = 0
  case neg =>
    rw [if_neg g0]
    have hb := fun d => begin_no N d hN c s sub q hs hq g0
    simp only [hb, decide_eq_false g0, j9, b9, q9, qq, ww, List.replicate, Nat.reduceBEq, Nat.reduceAdd, Nat.reduceMul, Nat.reduceDiv, Nat.reduceEqDiff, Nat.reduceLeDiff, Nat.reduceLT, Int.reduceEq, Int.reduceNe, Int.reduceLT, Int.reduceLE, Int.reduceAdd, Int.reduceSub, Int.reduceMul, Int.reduceNeg, Int.reduceToNat, Int.reducePow, Nat.reducePow, reduceCtorEq, reduceIte, if_true, if_false]
    try rfl
  rw [if_pos g0]
  have hb := fun d => begin_ok N d hN c s sub q hs hq g0
  dsimp only [kV] at hb
  cases g3 : epOK at_ with
  | false =>
    rw [g3] at h3
    rw [if_neg (by simp)]
    simp only [hb, h3, List.map_nil, j9, b9, q9, qq, ww, List.replicate, Nat.reduceBEq, Nat.reduceAdd, Nat.reduceMul, Nat.reduceDiv, Nat.reduceEqDiff, Nat.reduceLeDiff, Nat.reduceLT, Int.reduceEq, Int.reduceNe, Int.reduceLT, Int.reduceLE, Int.reduceAdd, Int.reduceSub, Int.reduceMul, Int.reduceNeg, Int.reduceToNat, Int.reducePow, Nat.reducePow, reduceCtorEq, reduceIte, if_true, if_false]
    try rfl
  | true =>
  rw [g3] at h3
  cases g4 : inB x.s 1 1073741823 with
  | false =>
    rw [g4] at h4
    rw [if_neg (by simp)]
    simp only [hb, h3, h4, List.map_nil, j9, b9, q9, qq, ww, List.replicate, Nat.reduceBEq, Nat.reduceAdd, Nat.reduceMul, Nat.reduceDiv, Nat.reduceEqDiff, Nat.reduceLeDiff, Nat.reduceLT, Int.reduceEq, Int.reduceNe, Int.reduceLT, Int.reduceLE, Int.reduceAdd, Int.reduceSub, Int.reduceMul, Int.reduceNeg, Int.reduceToNat, Int.reducePow, Nat.reducePow, reduceCtorEq, reduceIte, if_true, if_false]
    try rfl
  | true =>
  rw [g4] at h4
  cases g5 : inB x.v 0 2147483647 with
  | false =>
    rw [g5] at h5
    rw [if_neg (by simp)]
    simp only [hb, h3, h4, h5, List.map_nil, j9, b9, q9, qq, ww, List.replicate, Nat.reduceBEq, Nat.reduceAdd, Nat.reduceMul, Nat.reduceDiv, Nat.reduceEqDiff, Nat.reduceLeDiff, Nat.reduceLT, Int.reduceEq, Int.reduceNe, Int.reduceLT, Int.reduceLE, Int.reduceAdd, Int.reduceSub, Int.reduceMul, Int.reduceNeg, Int.reduceToNat, Int.reducePow, Nat.reducePow, reduceCtorEq, reduceIte, if_true, if_false]
    try rfl
  | true =>
  rw [g5] at h5
  rw [if_pos (by decide)]
  obtain ⟨k1, k2, k3⟩ := flow_t g0
  have k4 := right_t k2
  have k5 := q_t k3
  have k6 : 1 ≤ x.s ∧ x.s ≤ 1073741823 := by simpa [inB] using g4
  have hone := fun (s1 : Sm) (h : smL s1) (hw : 0 ≤ s1.w ∧ s1.w ≤ 1073741824) d => e26 N d hN c s1 sub q [] x.v h (by omega) (by simp) hw
  have hmore := fun (s1 : Sm) (h : smL s1) (ha : s1.ah.length ≤ 15) (hw : 0 ≤ s1.w ∧ s1.w + 1 + s1.ah.length ≤ 1073741824) d =>
    e27 N d hN c (oneS c s1 x.v) sub (oneQ c s1 sub q x.v) [⟨s1.w, x.v⟩] (oneS_len h) (by have := oneQ_len c s1 sub q x.v; show _ + s1.ah.length < 900; omega) (by show 1 + s1.ah.length < 900; omega) (by have h1 := AA.pre_le (cP (s1.w + 1)) (leftL (s1.w + 1) s1.ah) 0; have h2 : (leftL (s1.w + 1) s1.ah).length ≤ s1.ah.length := List.length_filter_le _ _; show 0 ≤ s1.w + 1 ∧ s1.w + 1 + (pre (cP (s1.w + 1)) (leftL (s1.w + 1) s1.ah) 0 : Int) ≤ _; omega)
  by_cases g1 : at_ > s.e
  · rw [if_pos g1]
    have n1 : decide (at_ < s.e) = false := by simp; omega
    have ho := hone ⟨at_, x.s, x.s, [], []⟩ (by simp) (by simp; omega)
    have hm := hmore ⟨at_, x.s, x.s, [], []⟩ (by simp) (by simp) (by simp; omega)
    simp only [kT, kH, kV, List.length_nil, List.map_nil, List.nil_append, List.length_cons, List.map_cons, Nat.zero_add] at ho hm
    unfold itemG
    rw [if_neg (by simp; omega), if_pos rfl]
    have n2 : decide (x.s < x.s) = false := by simp
    have hbg := fun d => e21 N d at_ x.s
    dsimp only at hbg ho hm ⊢
    generalize moreK c sub (oneS c ⟨at_, x.s, x.s, [], []⟩ x.v) (oneQ c ⟨at_, x.s, x.s, [], []⟩ sub q x.v) [⟨x.s, x.v⟩] = r at *
    simp only [hb, h3, h4, h5, hbg, ho, hm, n1, n2, decide_eq_true g1, decide_true, takeT, fA, List.map_nil, List.length_map, j9, b9, q9, qq, ww, List.replicate, Nat.reduceBEq, Nat.reduceAdd, Nat.reduceMul, Nat.reduceDiv, Nat.reduceEqDiff, Nat.reduceLeDiff, Nat.reduceLT, Int.reduceEq, Int.reduceNe, Int.reduceLT, Int.reduceLE, Int.reduceAdd, Int.reduceSub, Int.reduceMul, Int.reduceNeg, Int.reduceToNat, Int.reducePow, Nat.reducePow, reduceCtorEq, reduceIte, if_true, if_false]
  rw [if_neg g1]
  by_cases g2 : at_ < s.e
  · unfold itemG
    rw [if_pos (by simp [g2])]
    simp only [hb, h3, h4, h5, decide_eq_false g1, decide_eq_true g2, takeT, fA, List.map_nil, List.length_map, j9, b9, q9, qq, ww, List.replicate, Nat.reduceBEq, Nat.reduceAdd, Nat.reduceMul, Nat.reduceDiv, Nat.reduceEqDiff, Nat.reduceLeDiff, Nat.reduceLT, Int.reduceEq, Int.reduceNe, Int.reduceLT, Int.reduceLE, Int.reduceAdd, Int.reduceSub, Int.reduceMul, Int.reduceNeg, Int.reduceToNat, Int.reducePow, Nat.reducePow, reduceCtorEq, reduceIte, if_true, if_false]
    try rfl
  by_cases g6 : x.s < s.w
  · unfold itemG
    rw [if_pos (by simp [g6])]
    simp only [hb, h3, h4, h5, decide_eq_false g1, decide_eq_false g2, decide_eq_true g6, takeT, fA, List.map_nil, List.length_map, j9, b9, q9, qq, ww, List.replicate, Nat.reduceBEq, Nat.reduceAdd, Nat.reduceMul, Nat.reduceDiv, Nat.reduceEqDiff, Nat.reduceLeDiff, Nat.reduceLT, Int.reduceEq, Int.reduceNe, Int.reduceLT, Int.reduceLE, Int.reduceAdd, Int.reduceSub, Int.reduceMul, Int.reduceNeg, Int.reduceToNat, Int.reducePow, Nat.reducePow, reduceCtorEq, reduceIte, if_true, if_false]
    try rfl
  by_cases g7 : x.s = s.w
  · have ho := hone s hs (by omega)
    have hm := hmore s hs k4.2.1 (by
      by_cases h : s.ah = []
      · rw [h]; simp; omega
      · have := k4.2.2.2.2.2.2.1 h; omega)
    simp only [kT, kH, kV, List.length_nil, List.map_nil, List.nil_append, List.length_cons, List.map_cons, Nat.zero_add] at ho hm
    unfold itemG
    rw [if_neg (by simp; omega), if_pos g7]
    generalize moreK c sub (oneS c s x.v) (oneQ c s sub q x.v) [⟨s.w, x.v⟩] = r at *
    simp only [hb, h3, h4, h5, ho, hm, decide_eq_false g1, decide_eq_false g2, decide_eq_false g6, decide_eq_true g7, takeT, fA, List.map_nil, List.length_map, j9, b9, q9, qq, ww, List.replicate, Nat.reduceBEq, Nat.reduceAdd, Nat.reduceMul, Nat.reduceDiv, Nat.reduceEqDiff, Nat.reduceLeDiff, Nat.reduceLT, Int.reduceEq, Int.reduceNe, Int.reduceLT, Int.reduceLE, Int.reduceAdd, Int.reduceSub, Int.reduceMul, Int.reduceNeg, Int.reduceToNat, Int.reducePow, Nat.reducePow, reduceCtorEq, reduceIte, if_true, if_false]
  · have ha := fun d => AA.e28 N d s.ah s.w c.w x (by omega) (by omega)
    have hwx : IntKind.i64.wrap (x.s + 1) = x.s + 1 := IntWalk.i64_in _ (by omega)
    unfold itemG
    rw [if_neg (by simp; omega), if_neg g7]
    generalize addA s.ah s.w c.w x = a at *
    obtain ⟨m, e⟩ := a
    dsimp only at ha ⊢
    by_cases g8 : e = 0
    · rw [if_pos g8]
      simp only [hb, h3, h4, h5, ha, hwx, decide_eq_false g1, decide_eq_false g2, decide_eq_false g6, decide_eq_false g7, decide_eq_true g8, takeT, fA, List.map_nil, List.length_map, j9, b9, q9, qq, ww, List.replicate, Nat.reduceBEq, Nat.reduceAdd, Nat.reduceMul, Nat.reduceDiv, Nat.reduceEqDiff, Nat.reduceLeDiff, Nat.reduceLT, Int.reduceEq, Int.reduceNe, Int.reduceLT, Int.reduceLE, Int.reduceAdd, Int.reduceSub, Int.reduceMul, Int.reduceNeg, Int.reduceToNat, Int.reducePow, Nat.reducePow, reduceCtorEq, reduceIte, if_true, if_false]
      try rfl
    · rw [if_neg g8]
      simp only [hb, h3, h4, h5, ha, hwx, decide_eq_false g1, decide_eq_false g2, decide_eq_false g6, decide_eq_false g7, decide_eq_false g8, takeT, fA, List.map_nil, List.length_map, j9, b9, q9, qq, ww, List.replicate, Nat.reduceBEq, Nat.reduceAdd, Nat.reduceMul, Nat.reduceDiv, Nat.reduceEqDiff, Nat.reduceLeDiff, Nat.reduceLT, Int.reduceEq, Int.reduceNe, Int.reduceLT, Int.reduceLE, Int.reduceAdd, Int.reduceSub, Int.reduceMul, Int.reduceNeg, Int.reduceToNat, Int.reducePow, Nat.reducePow, reduceCtorEq, reduceIte, if_true, if_false]
      try rfl
end Go.Proofs.YtkfcbpbnoeaheaaDoor.FA
namespace Go.Proofs.YtkfcbpbnoeaheaaDoor.FA
open Go Go.Proofs.YtkfcbpbnoeaheaaDoorR Go.Proofs.YtkfcbpbnoeaheaaDoor.IF
open Go.Proofs.YtkfcbpbnoeaheaaDoor.QA (Ev eE aE rE inB epOK evOK qOK putE n01 gapE lastK)
open Go.Proofs.YtkfcbpbnoeaheaaDoor.AA (It eT aT rT ahOK addA leftL wi wm takeT allT take_s hR pre cP risB fitsB)
open Go.Proofs.YtkfcbpbnoeaheaaDoor.EC (Cf eC okC)
set_option maxRecDepth 100000
set_option maxHeartbeats 4000000
def goneG (c : Cf) (s : Sm) (sub : Bool) (q : List Ev) (at_ fr to : Int) : Sm × List Ev × List It :=
  if at_ = s.e ∧ s.w ≥ fr ∧ s.w ≤ to then moreK c sub ⟨s.e, to + 1, if to + 1 > s.kn then to + 1 else s.kn, [], s.ah⟩ (if sub then fitE q c.q ⟨2, at_, s.w, to, 0, 0⟩ else q) [] else (s, q, [])
def goneP (c : Cf) (s : Sm) (sub : Bool) (q : List Ev) (at_ fr to : Int) : (Sm × List Ev × List It) × Int :=
  if flowC c s q = 0 then
    if (epOK at_ && decide (1 ≤ fr) && decide (fr ≤ to) && inB to 1 1073741823) = true then (goneG c s sub q at_ fr to, 0)
    else ((s0, [], []), 1)
  else ((s0, [], []), flowC c s q)
theorem pre_last {c : It → Int → Bool} : ∀ {l : List It} {k : Nat}, 0 < pre c l k → ∃ y ∈ l, c y ((k + pre c l k - 1 : Nat) : Int) = true
  | [], k, h => by simp [pre] at h
  | y :: r, k, h => by
    rw [pre] at h
    split at h
    · rename_i hc
      rw [pre, if_pos hc]
      by_cases h0 : 0 < pre c r (k + 1)
      · obtain ⟨z, hz, h1⟩ := pre_last h0
        exact ⟨z, List.mem_cons_of_mem _ hz, by rw [← h1]; congr 2; omega⟩
      · refine ⟨y, List.mem_cons_self .., ?_⟩
        rw [← hc]; congr 2; omega
    · omega
/-- No more follow than there is room for. -/
theorem cut_le {w : Int} {l : List It} (hw : 0 ≤ w ∧ w ≤ 1073741824) (hl : ∀ y ∈ l, 0 ≤ y.s ∧ y.s < 1073741824) (hll : l.length < 1000000) : w + (pre (cP w) (leftL w l) 0 : Int) ≤ 1073741825 := by
  by_cases h0 : 0 < pre (cP w) (leftL w l) 0
  · obtain ⟨y, hy, h1⟩ := pre_last h0
    have hm := (List.mem_filter.1 hy).1
    have h2 := hl y hm
    simp only [cP, decide_eq_true_eq] at h1
    rw [IntWalk.i64_in _ (by omega)] at h1
    omega
  · omega
theorem ris_mem {want win : Int} : ∀ {l : List It} {p : Option Int}, risB want win p l = true → ∀ y ∈ l, want < y.s ∧ y.s < 1073741824 ∧ inB y.v 0 2147483647 = true
  | [], _, _, y, hy => by cases hy
  | x :: r, p, h, y, hy => by
    have h : fitsB x.s want win = true ∧ inB x.v 0 2147483647 = true ∧ risB want win (some x.s) r = true := by
      cases p <;> simp only [risB, Bool.and_eq_true] at h
      · exact ⟨h.1.1.1, h.1.1.2, h.2⟩
      · exact ⟨h.1.1.1, h.1.1.2, h.2⟩
    simp only [fitsB, Bool.and_eq_true, decide_eq_true_eq] at h
    rcases List.mem_cons.1 hy with rfl | hy
    · exact ⟨h.1.1.1, h.1.2, h.2.1⟩
    · exact ris_mem h.2.2 y hy
theorem right_ah {c : Cf} {s : Sm} (h : rightB c s = true) : ∀ y ∈ s.ah, s.w < y.s ∧ y.s < 1073741824 ∧ inB y.v 0 2147483647 = true := by
  unfold rightB at h
  rw [Bool.or_eq_true] at h
  rcases h with h | h
  · rw [zeroB_iff] at h; subst h; simp
  · simp only [Bool.and_eq_true, decide_eq_true_eq, ahOK] at h
    exact ris_mem h.2.2
theorem e13 (N d : Nat) (hN : 1000 ≤ N) (c : Cf) (s : Sm) (sub : Bool) (q : List Ev) (at_ fr to : Int) (hs : smL s) (hq : q.length < 900) :
    ans (TT N (d + 16) 13 [.agg (eC c), aS s, bV sub, .one (rE q), iV at_, iV fr, iV to]) = some (fA (goneP c s sub q at_ fr to)) := by
  have h3 := fun d => QA.e19 N d at_
  have h4 := fun d => e24 N d to
  rw [t13, F_ev rfl]
  unfold goneP
  by_cases g0 : flowC c s q = 0
  case neg =>
    rw [if_neg g0]
    have hb := fun d => begin_no N d hN c s sub q hs hq g0
    simp only [hb, decide_eq_false g0, j13, b13, q13, qq, ww, List.replicate, Nat.reduceBEq, Nat.reduceAdd, Nat.reduceMul, Nat.reduceDiv, Nat.reduceEqDiff, Nat.reduceLeDiff, Nat.reduceLT, Int.reduceEq, Int.reduceNe, Int.reduceLT, Int.reduceLE, Int.reduceAdd, Int.reduceSub, Int.reduceMul, Int.reduceNeg, Int.reduceToNat, Int.reducePow, Nat.reducePow, reduceCtorEq, reduceIte, if_true, if_false]
    try rfl
  rw [if_pos g0]
  have hb := fun d => begin_ok N d hN c s sub q hs hq g0
  dsimp only [kV] at hb
  cases g3 : epOK at_ with
  | false =>
    rw [g3] at h3
    rw [if_neg (by simp)]
    simp only [hb, h3, List.map_nil, j13, b13, q13, qq, ww, List.replicate, Nat.reduceBEq, Nat.reduceAdd, Nat.reduceMul, Nat.reduceDiv, Nat.reduceEqDiff, Nat.reduceLeDiff, Nat.reduceLT, Int.reduceEq, Int.reduceNe, Int.reduceLT, Int.reduceLE, Int.reduceAdd, Int.reduceSub, Int.reduceMul, Int.reduceNeg, Int.reduceToNat, Int.reducePow, Nat.reducePow, reduceCtorEq, reduceIte, if_true, if_false]
    try rfl
  | true =>
  rw [g3] at h3
  by_cases g4 : fr < 1
  · rw [if_neg (by simp; omega)]
    simp only [hb, h3, decide_eq_true g4, List.map_nil, j13, b13, q13, qq, ww, List.replicate, Nat.reduceBEq, Nat.reduceAdd, Nat.reduceMul, Nat.reduceDiv, Nat.reduceEqDiff, Nat.reduceLeDiff, Nat.reduceLT, Int.reduceEq, Int.reduceNe, Int.reduceLT, Int.reduceLE, Int.reduceAdd, Int.reduceSub, Int.reduceMul, Int.reduceNeg, Int.reduceToNat, Int.reducePow, Nat.reducePow, reduceCtorEq, reduceIte, if_true, if_false]
    try rfl
  by_cases g5 : to < fr
  · rw [if_neg (by simp; omega)]
    simp only [hb, h3, decide_eq_false g4, decide_eq_true g5, List.map_nil, j13, b13, q13, qq, ww, List.replicate, Nat.reduceBEq, Nat.reduceAdd, Nat.reduceMul, Nat.reduceDiv, Nat.reduceEqDiff, Nat.reduceLeDiff, Nat.reduceLT, Int.reduceEq, Int.reduceNe, Int.reduceLT, Int.reduceLE, Int.reduceAdd, Int.reduceSub, Int.reduceMul, Int.reduceNeg, Int.reduceToNat, Int.reducePow, Nat.reducePow, reduceCtorEq, reduceIte, if_true, if_false]
    try rfl
  cases g6 : inB to 1 1073741823 with
  | false =>
    rw [g6] at h4
    rw [if_neg (by simp)]
    simp only [hb, h3, h4, decide_eq_false g4, decide_eq_false g5, List.map_nil, j13, b13, q13, qq, ww, List.replicate, Nat.reduceBEq, Nat.reduceAdd, Nat.reduceMul, Nat.reduceDiv, Nat.reduceEqDiff, Nat.reduceLeDiff, Nat.reduceLT, Int.reduceEq, Int.reduceNe, Int.reduceLT, Int.reduceLE, Int.reduceAdd, Int.reduceSub, Int.reduceMul, Int.reduceNeg, Int.reduceToNat, Int.reducePow, Nat.reducePow, reduceCtorEq, reduceIte, if_true, if_false]
    try rfl
  | true =>
  rw [g6] at h4
  rw [if_pos (by simp; omega)]
  obtain ⟨k1, k2, k3⟩ := flow_t g0
  have k4 := right_t k2
  have k5 := q_t k3
  have k7 := k4.1
  have k8 := k4.2.1
  have k6 : 1 ≤ to ∧ to ≤ 1073741823 := by simpa [inB] using g6
  unfold goneG
  by_cases g7 : at_ = s.e
  case neg =>
    rw [if_neg (fun h => g7 h.1)]
    simp only [hb, h3, h4, decide_eq_false g4, decide_eq_false g5, decide_eq_false g7, takeT, fA, List.map_nil, List.length_map, j13, b13, q13, qq, ww, List.replicate, Nat.reduceBEq, Nat.reduceAdd, Nat.reduceMul, Nat.reduceDiv, Nat.reduceEqDiff, Nat.reduceLeDiff, Nat.reduceLT, Int.reduceEq, Int.reduceNe, Int.reduceLT, Int.reduceLE, Int.reduceAdd, Int.reduceSub, Int.reduceMul, Int.reduceNeg, Int.reduceToNat, Int.reducePow, Nat.reducePow, reduceCtorEq, reduceIte, if_true, if_false]
    try rfl
  by_cases g8 : s.w ≥ fr
  case neg =>
    rw [if_neg (fun h => g8 h.2.1)]
    simp only [hb, h3, h4, decide_eq_false g4, decide_eq_false g5, decide_eq_true g7, decide_eq_false g8, takeT, fA, List.map_nil, List.length_map, j13, b13, q13, qq, ww, List.replicate, Nat.reduceBEq, Nat.reduceAdd, Nat.reduceMul, Nat.reduceDiv, Nat.reduceEqDiff, Nat.reduceLeDiff, Nat.reduceLT, Int.reduceEq, Int.reduceNe, Int.reduceLT, Int.reduceLE, Int.reduceAdd, Int.reduceSub, Int.reduceMul, Int.reduceNeg, Int.reduceToNat, Int.reducePow, Nat.reducePow, reduceCtorEq, reduceIte, if_true, if_false]
    try rfl
  by_cases g9 : s.w ≤ to
  case neg =>
    rw [if_neg (fun h => g9 h.2.2)]
    simp only [hb, h3, h4, decide_eq_false g4, decide_eq_false g5, decide_eq_true g7, decide_eq_true g8, decide_eq_false g9, takeT, fA, List.map_nil, List.length_map, j13, b13, q13, qq, ww, List.replicate, Nat.reduceBEq, Nat.reduceAdd, Nat.reduceMul, Nat.reduceDiv, Nat.reduceEqDiff, Nat.reduceLeDiff, Nat.reduceLT, Int.reduceEq, Int.reduceNe, Int.reduceLT, Int.reduceLE, Int.reduceAdd, Int.reduceSub, Int.reduceMul, Int.reduceNeg, Int.reduceToNat, Int.reducePow, Nat.reducePow, reduceCtorEq, reduceIte, if_true, if_false]
    try rfl
  rw [if_pos ⟨g7, g8, g9⟩]
  have hwt : IntKind.i64.wrap (to + 1) = to + 1 := IntWalk.i64_in _ (by omega)
  have hev := fun d => e32 N d hN c s sub q [] ⟨2, at_, s.w, to, 0, 0⟩ hq
  have hql : (if sub = true then fitE q c.q ⟨2, at_, s.w, to, 0, 0⟩ else q).length ≤ 33 := by
    split
    · have := fitE_len q c.q ⟨2, at_, s.w, to, 0, 0⟩; omega
    · omega
  generalize hQ : (if sub = true then fitE q c.q ⟨2, at_, s.w, to, 0, 0⟩ else q) = q1 at *
  have hah := right_ah k2
  have hm := fun d => e27 N d hN c ⟨s.e, to + 1, if to + 1 > s.kn then to + 1 else s.kn, [], s.ah⟩ sub q1 [] ⟨by show 0 < 900; omega, by show s.ah.length < 900; omega⟩ (by show _ + s.ah.length < 900; omega) (by show 0 + s.ah.length < 900; omega)
    ⟨by show 0 ≤ to + 1; omega, cut_le (w := to + 1) (l := s.ah) (by omega) (fun y hy => by have := hah y hy; omega) (by omega)⟩
  simp only [kT, kH, kV, List.length_nil, List.map_nil, List.nil_append, List.length_cons, List.map_cons, Nat.zero_add] at hev
  simp only [kT, kH, kV, rT, List.length_nil, List.map_nil, List.nil_append, List.length_cons, List.map_cons, Nat.zero_add] at hm
  generalize hM : moreK c sub ⟨s.e, to + 1, if to + 1 > s.kn then to + 1 else s.kn, [], s.ah⟩ q1 [] = r at *
  simp only [hb, h3, h4, hwt, hev, hm, decide_eq_false g4, decide_eq_false g5, decide_eq_true g7, decide_eq_true g8, decide_eq_true g9, takeT, fA, List.map_nil, List.length_map, j13, b13, q13, qq, ww, List.replicate, Nat.reduceBEq, Nat.reduceAdd, Nat.reduceMul, Nat.reduceDiv, Nat.reduceEqDiff, Nat.reduceLeDiff, Nat.reduceLT, Int.reduceEq, Int.reduceNe, Int.reduceLT, Int.reduceLE, Int.reduceAdd, Int.reduceSub, Int.reduceMul, Int.reduceNeg, Int.reduceToNat, Int.reducePow, Nat.reducePow, reduceCtorEq, reduceIte, if_true, if_false]
end Go.Proofs.YtkfcbpbnoeaheaaDoor.FA
namespace Go.Proofs.YtkfcbpbnoeaheaaDoor.FA
open Go Go.Proofs.YtkfcbpbnoeaheaaDoorR Go.Proofs.YtkfcbpbnoeaheaaDoor.IF
open Go.Proofs.YtkfcbpbnoeaheaaDoor.QA (Ev eE aE rE inB epOK evOK qOK putE n01 gapE lastK)
open Go.Proofs.YtkfcbpbnoeaheaaDoor.AA (It eT aT rT ahOK addA leftL wi wm takeT allT take_s hR pre cP risB fitsB)
open Go.Proofs.YtkfcbpbnoeaheaaDoor.EC (Cf eC okC)
set_option maxRecDepth 100000
set_option maxHeartbeats 4000000
theorem evOK_data {e s v : Int} (he : epOK e = true) (hs : 1 ≤ s ∧ s ≤ 1073741824) (hv : inB v 0 2147483647 = true) : evOK ⟨1, e, s, 0, v, 0⟩ = true := by
  have : inB s 1 1073741824 = true := by simp [inB]; omega
  simp [evOK, he, this, hv]
theorem evOK_gap {e s l : Int} (he : epOK e = true) (hs : 1 ≤ s) (hl : s ≤ l ∧ l ≤ 1073741824) : evOK ⟨2, e, s, l, 0, 0⟩ = true := by
  have h1 : inB s 1 1073741824 = true := by simp [inB]; omega
  have h2 : inB l s 1073741824 = true := by simp [inB]; omega
  simp [evOK, he, h1, h2]
theorem evOK_2 {x : Ev} (h : evOK x = true) (hk : x.k = 2) : epOK x.e = true ∧ 1 ≤ x.s ∧ x.s ≤ x.l ∧ x.l ≤ 1073741824 ∧ x.v = 0 ∧ x.c = 0 := by
  simp [evOK, hk, inB] at h
  simp [h]
theorem gap_ok {x g : Ev} (hx : evOK x = true) (hg : gapE x = some g) : g.k = 2 ∧ evOK g = true := by
  unfold gapE at hg
  split at hg
  · rename_i hk
    cases hg
    simp [evOK, hk, inB] at hx
    exact ⟨rfl, evOK_gap (by simp [hx]) (by omega) (by omega)⟩
  · split at hg
    · rename_i hk
      cases hg
      exact ⟨hk, hx⟩
    · cases hg
theorem lastK_app (l : List Ev) (y : Ev) : lastK (l ++ [y]) = y.k := by simp [lastK]
theorem q_fit {l : List Ev} {n : Int} {x : Ev} (hq : qOK l n = true) (hx : evOK x = true) : qOK (fitE l n x) n = true := by
  have hq0 := hq
  simp only [qOK, Bool.and_eq_true, Bool.or_eq_true, Bool.not_eq_true', decide_eq_true_eq, decide_eq_false_iff_not] at hq
  obtain ⟨⟨⟨⟨h1, h2⟩, h3⟩, h4⟩, h5⟩ := hq
  unfold fitE
  by_cases g1 : (l.length : Int) < n - 1
  · rw [show putE l n x = (0, l ++ [x]) by simp only [putE, hq0, hx, Bool.and_self, if_true, if_pos g1]]
    simp only [if_true, qOK, List.length_append, List.length_cons, List.length_nil, List.all_append, List.all_cons, List.all_nil, h4, hx, Bool.and_true, Bool.and_eq_true, Bool.or_eq_true, Bool.not_eq_true', decide_eq_true_eq, decide_eq_false_iff_not]
    exact ⟨⟨⟨h1, h2⟩, by omega⟩, .inl (by omega)⟩
  cases hg : gapE x with
  | none => rw [show putE l n x = (6, []) by simp only [putE, hq0, hx, hg, Bool.and_self, if_true, if_neg g1]]; exact hq0
  | some g =>
    obtain ⟨k1, k2⟩ := gap_ok hx hg
    by_cases g2 : (l.length : Int) < n
    · rw [show putE l n x = (0, l ++ [g]) by simp only [putE, hq0, hx, hg, Bool.and_self, if_true, if_neg g1, if_pos g2]]
      simp only [if_true, qOK, List.length_append, List.length_cons, List.length_nil, List.all_append, List.all_cons, List.all_nil, h4, k2, lastK_app, k1, Bool.and_true, Bool.and_eq_true, Bool.or_eq_true, Bool.not_eq_true', decide_eq_true_eq, decide_eq_false_iff_not]
      first | exact ⟨⟨⟨h1, h2⟩, by omega⟩, .inr rfl⟩ | exact ⟨⟨h1, h2⟩, by omega⟩ | (simp; omega)
    · have hlen : (l.length : Int) = n := by omega
      have hne : l ≠ [] := fun e => by subst e; simp at hlen; omega
      obtain ⟨m, y, rfl⟩ : ∃ m y, l = m ++ [y] := ⟨l.dropLast, l.getLast hne, (List.dropLast_concat_getLast hne).symm⟩
      have g1' : ¬ ((m.length : Int) + 1 < n - 1) := by simp at hlen; omega
      have g2' : ¬ ((m.length : Int) + 1 < n) := by simp at hlen; omega
      by_cases g3 : g.e = y.e ∧ g.s = y.l + 1
      · rw [show putE (m ++ [y]) n x = (0, (m ++ [y]).dropLast ++ [{ y with l := g.l }]) by simp [putE, hq0, hx, hg, g1', g2', g3]]
        have hy : y.k = 2 := by
          rcases h5 with h | h
          · exact absurd hlen h
          · rwa [lastK_app] at h
        have hyok : evOK y = true := by simp [List.all_append] at h4; exact h4.2
        have hm : m.all evOK = true := by simp [List.all_append] at h4 ⊢; exact h4.1
        obtain ⟨a1, a2, a3, a4, a5, a6⟩ := evOK_2 hyok hy
        obtain ⟨b1, b2, b3, b4, b5, b6⟩ := evOK_2 k2 k1
        have hnew : evOK { y with l := g.l } = true := by
          have : ({ y with l := g.l } : Ev) = ⟨2, y.e, y.s, g.l, 0, 0⟩ := by
            obtain ⟨k, e, s, l, v, c⟩ := y
            simp at hy a5 a6 ⊢
            exact ⟨hy, a5, a6⟩
          rw [this]
          exact evOK_gap a1 a2 ⟨by omega, b4⟩
        simp only [List.dropLast_concat, if_true, qOK, List.length_append, List.length_cons, List.length_nil, List.all_append, List.all_cons, List.all_nil, hm, hnew, lastK_app, Bool.and_true, Bool.and_eq_true, Bool.or_eq_true, Bool.not_eq_true', decide_eq_true_eq, decide_eq_false_iff_not] at h3 hlen ⊢
        exact ⟨⟨⟨h1, h2⟩, by simpa using h3⟩, .inr hy⟩
      · rw [show putE (m ++ [y]) n x = (6, []) by simp [putE, hq0, hx, hg, g1', g2', g3]]
        exact hq0
/-- The page's way to take items in. -/
def rQ (c : Cf) (s : Sm) (sub : Bool) (q : List Ev) (x : It) : List Ev := if sub then fitE q c.q ⟨1, s.e, x.s, 0, x.v, 0⟩ else q
def takeR (c : Cf) (sub : Bool) : List It → Sm → List Ev → List It → It → Sm × List Ev × List It
  | [], s, q, on, x => (⟨s.e, s.w + 1, if s.w + 1 > s.kn then s.w + 1 else s.kn, pushL s.kp s.w c.p x.v, []⟩, rQ c s sub q x, on ++ [x])
  | y :: r, s, q, on, x => if y.s = s.w + 1 then takeR c sub r ⟨s.e, s.w + 1, if s.w + 1 > s.kn then s.w + 1 else s.kn, pushL s.kp s.w c.p x.v, r⟩ (rQ c s sub q x) (on ++ [x]) y
    else (⟨s.e, s.w + 1, if s.w + 1 > s.kn then s.w + 1 else s.kn, pushL s.kp s.w c.p x.v, y :: r⟩, rQ c s sub q x, on ++ [x])
structure RI (c : Cf) (sub : Bool) (ah : List It) (s : Sm) (q : List Ev) (x : It) : Prop where
  cc : 1 ≤ c.p ∧ c.p ≤ 16
  qq : sub = true → qOK q c.q = true ∧ epOK s.e = true
  xs : x.s = s.w
  ws : 1 ≤ s.w ∧ s.w ≤ 1073741823
  xv : inB x.v 0 2147483647 = true
  ay : ∀ y ∈ ah, inB y.v 0 2147483647 = true ∧ y.s ≤ 1073741823
  kl : s.kp.length ≤ 16
  ql : q.length < 900
theorem push_len {l : List It} {want lim v : Int} (hl : l.length ≤ 16) (h : 1 ≤ lim ∧ lim ≤ 16) : (pushL l want lim v).length ≤ 16 := by
  simp [pushL]; omega
theorem rQ_ok {c : Cf} {sub : Bool} {ah : List It} {s : Sm} {q : List Ev} {x : It} (h : RI c sub ah s q x) : (sub = true → qOK (rQ c s sub q x) c.q = true ∧ epOK s.e = true) ∧ (q.length < 800 → (rQ c s sub q x).length < 900) := by
  refine ⟨fun hs => ⟨?_, (h.qq hs).2⟩, fun hl => ?_⟩
  · subst hs
    simp only [rQ, if_true]
    have := h.ws
    exact q_fit (h.qq rfl).1 (evOK_data (h.qq rfl).2 (by rw [h.xs]; omega) h.xv)
  · unfold rQ
    split
    · have := fitE_len q c.q ⟨1, s.e, x.s, 0, x.v, 0⟩; omega
    · omega
end Go.Proofs.YtkfcbpbnoeaheaaDoor.FA
namespace Go.Proofs.YtkfcbpbnoeaheaaDoor.FA
open Go Go.Proofs.YtkfcbpbnoeaheaaDoorR Go.Proofs.YtkfcbpbnoeaheaaDoor.IF
open Go.Proofs.YtkfcbpbnoeaheaaDoor.QA (Ev eE aE rE inB epOK evOK qOK putE n01 gapE lastK)
open Go.Proofs.YtkfcbpbnoeaheaaDoor.AA (It eT aT rT ahOK addA leftL wi wm takeT allT take_s hR pre cP risB fitsB)
open Go.Proofs.YtkfcbpbnoeaheaaDoor.EC (Cf eC okC)
set_option maxRecDepth 100000
set_option maxHeartbeats 4000000
theorem kRow_app : ∀ {l : List It} {s : Int} {x : It}, kRow s (l ++ [x]) = (kRow s l && kRow (s + l.length) [x])
  | [], s, x => by simp [kRow]
  | y :: r, s, x => by
    have ih := kRow_app (l := r) (s := s + 1) (x := x)
    rw [show s + 1 + (r.length : Int) = s + ((y :: r).length : Int) by simp; omega] at ih
    rw [List.cons_append, kRow, ih, show kRow s (y :: r) = (decide (1 ≤ y.s) && decide (y.s = s) && inB y.v 0 2147483647 && kRow (s + 1) r) from rfl]
    simp only [Bool.and_assoc]
theorem kRow_drop : ∀ {d : Nat} {l : List It} {s : Int}, kRow s l = true → d ≤ l.length → kRow (s + d) (l.drop d) = true
  | 0, l, s, h, _ => by simpa using h
  | d + 1, [], s, h, hd => by simp at hd
  | d + 1, x :: r, s, h, hd => by
    rw [kRow, Bool.and_eq_true] at h
    have := kRow_drop (d := d) h.2 (by simpa using hd)
    rw [List.drop_succ_cons, show s + ((d + 1 : Nat) : Int) = s + 1 + d by omega]
    exact this
theorem push_ok {l : List It} {w lim v : Int} (h : kpOK l w lim = true) (hw : w ≤ 1073741823) (hv : inB v 0 2147483647 = true) : kpOK (pushL l w lim v) (w + 1) lim = true := by
  simp only [kpOK, inB, Bool.and_eq_true, decide_eq_true_eq] at h
  obtain ⟨⟨⟨h1, h2⟩, h3⟩, h4⟩ := h
  have hx : kRow w [(⟨w, v⟩ : It)] = true := by
    have : decide (1 ≤ w) = true := by simp; omega
    simp [kRow, hv, this]
  have ha : kRow (w - l.length) (l ++ [(⟨w, v⟩ : It)]) = true := by
    rw [kRow_app, h4, show w - (l.length : Int) + l.length = w by omega, hx]; rfl
  have hd : l.length + 1 - lim.toNat ≤ (l ++ [(⟨w, v⟩ : It)]).length := by simp
  have := kRow_drop ha hd
  have hlen : (pushL l w lim v).length = l.length + 1 - (l.length + 1 - lim.toNat) := by simp [pushL]
  simp only [kpOK, inB, Bool.and_eq_true, decide_eq_true_eq]
  refine ⟨⟨⟨by omega, h2⟩, by rw [hlen]; omega⟩, ?_⟩
  rw [hlen, show w + 1 - ((l.length + 1 - (l.length + 1 - lim.toNat) : Nat) : Int) = w - l.length + ((l.length + 1 - lim.toNat : Nat) : Int) by omega]
  exact this
theorem pushP_ok {l : List It} {w lim v : Int} (h : kpOK l w lim = true) (hw : w ≤ 1073741823) (hv : inB v 0 2147483647 = true) : pushP l w lim v = (pushL l w lim v, 0) := by
  unfold pushP
  rw [h, hv, if_neg (by decide), if_neg (by omega)]
theorem takeR_ah {c : Cf} {sub : Bool} {ah : List It} {e w kn : Int} {kp a b : List It} {q : List Ev} {on : List It} {x : It} : takeR c sub ah ⟨e, w, kn, kp, a⟩ q on x = takeR c sub ah ⟨e, w, kn, kp, b⟩ q on x := by
  cases ah <;> rfl
theorem foldK_nil {c : Cf} {sub : Bool} {s : Sm} {q : List Ev} {on : List It} : foldK c sub [] s q on = (s, q, on) := rfl
/-- Items taken in by the page's way are those taken in one by one. -/
theorem take_fold {c : Cf} {sub : Bool} {want : Int} (hwant : 0 ≤ want ∧ want ≤ 1073741824) : ∀ {ah : List It} {s : Sm} {q : List Ev} {on : List It} {x : It} {k : Nat}, x.s = s.w → s.w + 1 = want + k → kpOK s.kp s.w c.p = true → inB x.v 0 2147483647 = true → s.w ≤ 1073741823 →
    (∀ y ∈ ah, inB y.v 0 2147483647 = true ∧ 0 ≤ y.s ∧ y.s ≤ 1073741823) →
    takeR c sub ah s q on x = (⟨(foldK c sub (ah.take (pre (cP want) ah k)) (oneS c s x.v) (oneQ c s sub q x.v) (on ++ [⟨s.w, x.v⟩])).1.e, (foldK c sub (ah.take (pre (cP want) ah k)) (oneS c s x.v) (oneQ c s sub q x.v) (on ++ [⟨s.w, x.v⟩])).1.w,
      (foldK c sub (ah.take (pre (cP want) ah k)) (oneS c s x.v) (oneQ c s sub q x.v) (on ++ [⟨s.w, x.v⟩])).1.kn, (foldK c sub (ah.take (pre (cP want) ah k)) (oneS c s x.v) (oneQ c s sub q x.v) (on ++ [⟨s.w, x.v⟩])).1.kp, ah.drop (pre (cP want) ah k)⟩,
      (foldK c sub (ah.take (pre (cP want) ah k)) (oneS c s x.v) (oneQ c s sub q x.v) (on ++ [⟨s.w, x.v⟩])).2)
  | [], s, q, on, x, k, hx, hk, hp, hv, hw, hah => by
    have e1 := pushP_ok (v := x.v) hp hw hv
    obtain ⟨xs, xv⟩ := x
    simp only at hx hv e1
    subst hx
    simp only [pre, List.take_zero, List.drop_zero, foldK, takeR, oneS, oneQ, rQ, e1]
  | y :: r, s, q, on, x, k, hx, hk, hp, hv, hw, hah => by
    have e1 := pushP_ok (v := x.v) hp hw hv
    have hy := hah y (by simp)
    have hcp : cP want y k = decide (y.s = s.w + 1) := by
      unfold cP
      rw [IntWalk.i64_in _ (by omega)]
      by_cases h : y.s = s.w + 1
      · rw [decide_eq_true h, decide_eq_true (by omega)]
      · rw [decide_eq_false h, decide_eq_false (by omega)]
    obtain ⟨xs, xv⟩ := x
    simp only at hx hv e1
    subst hx
    rw [takeR, pre, hcp]
    by_cases h : y.s = s.w + 1
    · rw [if_pos h, if_pos (decide_eq_true h)]
      have hs1 : takeR c sub r ⟨s.e, s.w + 1, if s.w + 1 > s.kn then s.w + 1 else s.kn, pushL s.kp s.w c.p xv, r⟩ (rQ c s sub q ⟨s.w, xv⟩) (on ++ [⟨s.w, xv⟩]) y =
          takeR c sub r (oneS c s xv) (oneQ c s sub q xv) (on ++ [⟨s.w, xv⟩]) y := by
        rw [oneS, e1]
        exact takeR_ah
      rw [hs1, take_fold hwant (s := oneS c s xv) (k := k + 1) h (by show s.w + 1 + 1 = _; omega) (by show kpOK (pushP s.kp s.w c.p xv).1 (s.w + 1) c.p = true; rw [e1]; exact push_ok hp hw hv) hy.1 (by show s.w + 1 ≤ _; omega) (fun z hz => hah z (by simp [hz]))]
      rfl
    · rw [if_neg h, show (if decide (y.s = s.w + 1) = true then pre (cP want) r (k + 1) + 1 else 0) = 0 from if_neg (by simp [h])]
      simp only [List.take_zero, List.drop_zero, foldK, oneS, oneQ, rQ, e1]
theorem left_all {w : Int} : ∀ {l : List It}, (∀ y ∈ l, w ≤ y.s) → leftL w l = l := fun {l} h => by
  unfold leftL
  rw [List.filter_eq_self]
  intro y hy
  simp [h y hy]
/-- The wanted item, and those behind it. -/
theorem one_more {c : Cf} {sub : Bool} {s : Sm} {q : List Ev} {v : Int} (hp : kpOK s.kp s.w c.p = true) (hv : inB v 0 2147483647 = true) (hw : 0 ≤ s.w ∧ s.w ≤ 1073741823) (hah : ∀ y ∈ s.ah, inB y.v 0 2147483647 = true ∧ s.w < y.s ∧ y.s ≤ 1073741823) :
    moreK c sub (oneS c s v) (oneQ c s sub q v) [⟨s.w, v⟩] = takeR c sub s.ah s q [] ⟨s.w, v⟩ := by
  have hl : leftL (s.w + 1) s.ah = s.ah := left_all fun y hy => by have := hah y hy; omega
  rw [take_fold (want := s.w + 1) (k := 0) (by omega) rfl (by simp) hp hv hw.2 fun y hy => ⟨(hah y hy).1, by have := hah y hy; omega, (hah y hy).2.2⟩]
  unfold moreK
  simp only [cut]
  rw [show (oneS c s v).w = s.w + 1 from rfl, show (oneS c s v).ah = s.ah from rfl, hl]
  rfl
end Go.Proofs.YtkfcbpbnoeaheaaDoor.FA
namespace Go.Proofs.YtkfcbpbnoeaheaaDoor.FA
open Go Go.Proofs.YtkfcbpbnoeaheaaDoorR Go.Proofs.YtkfcbpbnoeaheaaDoor.IF
open Go.Proofs.YtkfcbpbnoeaheaaDoor.QA (Ev eE aE rE inB epOK evOK qOK putE n01 gapE lastK)
open Go.Proofs.YtkfcbpbnoeaheaaDoor.AA (It eT aT rT ahOK addA addR leftL wi wm takeT allT take_s hR pre cP risB fitsB)
open Go.Proofs.YtkfcbpbnoeaheaaDoor.EC (Cf eC okC)
set_option maxRecDepth 100000
set_option maxHeartbeats 4000000
abbrev gA (r : Sm × List Ev × List It) : S := .tup [aS r.1, .one (rE r.2.1), .one (rT r.2.2)]
/-- A right stream that has an epoch. -/
theorem right_e {c : Cf} {s : Sm} (h : rightB c s = true) (he : epOK s.e = true) : kpOK s.kp s.w c.p = true ∧ ahOK s.ah s.w c.w = true ∧ 1 ≤ s.w := by
  unfold rightB at h
  rw [Bool.or_eq_true] at h
  rcases h with h | h
  · rw [zeroB_iff] at h; subst h; simp [epOK, inB] at he
  · simp only [Bool.and_eq_true, decide_eq_true_eq] at h
    exact ⟨h.1.2, h.2, by have := h.1.1.1.1.2; simp [inB] at this; omega⟩
theorem okC_t {c : Cf} (h : okC c = true) : (1 ≤ c.n ∧ c.n ≤ 8) ∧ (1 ≤ c.t ∧ c.t ≤ 4) ∧ (1 ≤ c.k ∧ c.k ≤ 4) ∧ (1 ≤ c.d ∧ c.d ≤ 8) ∧ (1 ≤ c.p ∧ c.p ≤ 16) ∧ (1 ≤ c.w ∧ c.w ≤ 16) ∧ (2 ≤ c.q ∧ c.q ≤ 32) := by simpa [okC] using h
theorem gone_more {c : Cf} {sub : Bool} {e w kn : Int} {ah : List It} {q : List Ev} (hw : 1 ≤ w ∧ w ≤ 1073741824) (hc : okC c = true) (hah : ∀ y ∈ ah, inB y.v 0 2147483647 = true ∧ 0 ≤ y.s ∧ y.s ≤ 1073741823) :
    moreK c sub ⟨e, w, kn, [], ah⟩ q [] = (match leftL w ah with
      | [] => (⟨e, w, kn, [], []⟩, q, [])
      | y :: r => if y.s = w then takeR c sub r ⟨e, w, kn, [], r⟩ q [] y else (⟨e, w, kn, [], y :: r⟩, q, [])) := by
  have kc := okC_t hc
  unfold moreK
  simp only [cut]
  have hm : ∀ y ∈ leftL w ah, inB y.v 0 2147483647 = true ∧ 0 ≤ y.s ∧ y.s ≤ 1073741823 := fun y hy => hah y (List.mem_filter.1 hy).1
  generalize leftL w ah = l at *
  cases l with
  | nil => rfl
  | cons y r =>
    have hy := hm y (by simp)
    have hcp : cP w y ((0 : Nat) : Int) = decide (y.s = w) := by
      unfold cP
      rw [IntWalk.i64_in _ (by omega)]
      by_cases h : y.s = w
      · rw [decide_eq_true h, decide_eq_true (by omega)]
      · rw [decide_eq_false h, decide_eq_false (by omega)]
    simp only [pre, hcp]
    by_cases h : y.s = w
    · rw [if_pos h, if_pos (decide_eq_true h)]
      have hk : kpOK [] w c.p = true := by simp [kpOK, inB, kRow]; omega
      rw [takeR_ah (b := ah), take_fold (want := w) (k := 1) (s := ⟨e, w, kn, [], ah⟩) (by omega) h (by simp) hk hy.1 (by show w ≤ _; omega) fun z hz => hm z (by simp [hz])]
      rfl
    · rw [if_neg h, show (if decide (y.s = w) = true then pre (cP w) r (0 + 1) + 1 else 0) = 0 from if_neg (by simp [h])]
      rfl
end Go.Proofs.YtkfcbpbnoeaheaaDoor.FA
namespace Go.Proofs.YtkfcbpbnoeaheaaDoor.FA
open Go Go.Proofs.YtkfcbpbnoeaheaaDoorR Go.Proofs.YtkfcbpbnoeaheaaDoor.IF
open Go.Proofs.YtkfcbpbnoeaheaaDoor.QA (Ev eE aE rE inB epOK evOK qOK putE n01 gapE lastK)
open Go.Proofs.YtkfcbpbnoeaheaaDoor.AA (It eT aT rT ahOK addA addR leftL wi wm takeT allT take_s hR pre cP risB fitsB left_s)
open Go.Proofs.YtkfcbpbnoeaheaaDoor.EC (Cf eC okC)
set_option maxRecDepth 100000
set_option maxHeartbeats 4000000
end Go.Proofs.YtkfcbpbnoeaheaaDoor.FA
namespace Go.Proofs.YtkfcbpbnoeaheaaDoor.FA
open Go Go.Proofs.YtkfcbpbnoeaheaaDoorR Go.Proofs.YtkfcbpbnoeaheaaDoor.IF
open Go.Proofs.YtkfcbpbnoeaheaaDoor.QA (Ev eE aE rE inB epOK evOK qOK putE n01 gapE lastK)
open Go.Proofs.YtkfcbpbnoeaheaaDoor.AA (It eT aT rT ahOK addA addR leftL wi wm takeT allT take_s hR pre cP risB fitsB left_s ins)
open Go.Proofs.YtkfcbpbnoeaheaaDoor.EC (Cf eC okC)
set_option maxRecDepth 100000
theorem ris_up {w w' win : Int} (hw : w ≤ w') : ∀ {l : List It} {p : Option Int}, risB w win p l = true → (∀ y ∈ l, w' < y.s) → risB w' win p l = true
  | [], p, _, _ => by cases p <;> rfl
  | x :: r, p, h, hy => by
    have hx := hy x (by simp)
    have h2 : fitsB x.s w win = true ∧ risB w win (some x.s) r = true := by
      cases p <;> simp only [risB, Bool.and_eq_true] at h
      · exact ⟨h.1.1.1, h.2⟩
      · exact ⟨h.1.1.1, h.2⟩
    have h3 := ris_up hw h2.2 (fun y hy' => hy y (by simp [hy']))
    have h4 : fitsB x.s w' win = true := by
      have := h2.1
      simp only [fitsB, Bool.and_eq_true, decide_eq_true_eq] at this ⊢
      omega
    cases p <;> simp only [risB, Bool.and_eq_true] at h ⊢
    · exact ⟨⟨⟨h4, h.1.1.2⟩, h.1.2⟩, h3⟩
    · exact ⟨⟨⟨h4, h.1.1.2⟩, h.1.2⟩, h3⟩
theorem ris_p {w win p : Int} {x : It} {r : List It} (h : risB w win (some p) (x :: r) = true) : p < x.s ∧ x.s < 1073741824 ∧ inB x.v 0 2147483647 = true ∧ risB w win (some x.s) r = true := by
  simp only [risB, fitsB, Bool.and_eq_true, decide_eq_true_eq] at h
  exact ⟨h.1.2, h.1.1.1.2, h.1.1.2, h.2⟩
theorem ris_gt {w win : Int} : ∀ {l : List It} {p : Int}, risB w win (some p) l = true → ∀ y ∈ l, p < y.s
  | [], _, _, y, hy => by cases hy
  | x :: r, p, h, y, hy => by
    obtain ⟨h1, _, _, h2⟩ := ris_p h
    rcases List.mem_cons.1 hy with rfl | hy
    · exact h1
    · have := ris_gt h2 y hy; omega
theorem ris_weak {w win : Int} {l : List It} {p : Int} (h : risB w win (some p) l = true) : risB w win none l = true := by
  cases l with
  | nil => rfl
  | cons x r =>
    simp only [risB, Bool.and_eq_true] at h ⊢
    exact ⟨⟨h.1.1, trivial⟩, h.2⟩
/-- What is taken in leaves a right stream. -/
theorem takeR_right {c : Cf} {sub : Bool} {W win : Int} : ∀ {ah : List It} {s : Sm} {q : List Ev} {on : List It} {x : It}, x.s = s.w → 1 ≤ s.w ∧ s.w ≤ 1073741823 → kpOK s.kp s.w c.p = true → inB x.v 0 2147483647 = true → s.kn ≤ 1073741824 → risB W win (some s.w) ah = true → W ≤ s.w →
    (takeR c sub ah s q on x).1.e = s.e ∧ s.w + 1 ≤ (takeR c sub ah s q on x).1.w ∧ (takeR c sub ah s q on x).1.w ≤ 1073741824 ∧ (takeR c sub ah s q on x).1.w ≤ (takeR c sub ah s q on x).1.kn ∧ (takeR c sub ah s q on x).1.kn ≤ 1073741824 ∧ s.kn ≤ (takeR c sub ah s q on x).1.kn ∧
      kpOK (takeR c sub ah s q on x).1.kp (takeR c sub ah s q on x).1.w c.p = true ∧ risB (takeR c sub ah s q on x).1.w win none (takeR c sub ah s q on x).1.ah = true ∧ (∀ y ∈ (takeR c sub ah s q on x).1.ah, y ∈ ah)
  | [], s, q, on, x, hx, hw, hp, hv, hk, hr, hW => by
    have := push_ok hp hw.2 hv
    refine ⟨rfl, Int.le_refl _, by show s.w + 1 ≤ _; omega, ?_, ?_, ?_, this, rfl, fun y h => h⟩
    · show s.w + 1 ≤ if s.w + 1 > s.kn then s.w + 1 else s.kn
      split <;> omega
    · show (if s.w + 1 > s.kn then s.w + 1 else s.kn) ≤ _
      split <;> omega
    · show s.kn ≤ if s.w + 1 > s.kn then s.w + 1 else s.kn
      split <;> omega
  | y :: r, s, q, on, x, hx, hw, hp, hv, hk, hr, hW => by
    have hpo := push_ok hp hw.2 hv
    obtain ⟨r1, r2, r3, r4⟩ := ris_p hr
    have hkn : (if s.w + 1 > s.kn then s.w + 1 else s.kn) ≤ 1073741824 := by split <;> omega
    have hkn2 : s.kn ≤ (if s.w + 1 > s.kn then s.w + 1 else s.kn) := by split <;> omega
    have hkn3 : s.w + 1 ≤ (if s.w + 1 > s.kn then s.w + 1 else s.kn) := by split <;> omega
    rw [takeR]
    by_cases h : y.s = s.w + 1
    · rw [if_pos h]
      rw [h] at r4
      obtain ⟨a1, a2, a3, a4, a5, a6, a7, a8, a9⟩ := takeR_right (c := c) (sub := sub) (W := W) (win := win) (ah := r) (s := ⟨s.e, s.w + 1, if s.w + 1 > s.kn then s.w + 1 else s.kn, pushL s.kp s.w c.p x.v, r⟩) (q := rQ c s sub q x) (on := on ++ [x]) (x := y) h (by show 1 ≤ s.w + 1 ∧ s.w + 1 ≤ _; omega) hpo r3 hkn r4 (by show W ≤ s.w + 1; omega)
      exact ⟨a1, by have : s.w + 1 + 1 ≤ _ := a2; omega, a3, a4, a5, by have : (if s.w + 1 > s.kn then s.w + 1 else s.kn) ≤ _ := a6; omega, a7, a8, fun z hz => List.mem_cons_of_mem _ (a9 z hz)⟩
    · rw [if_neg h]
      refine ⟨rfl, Int.le_refl _, by show s.w + 1 ≤ _; omega, hkn3, hkn, hkn2, hpo, ?_, fun z h => h⟩
      refine ris_up (w := W) (by show W ≤ s.w + 1; omega) (ris_weak hr) (fun z hz => ?_)
      show s.w + 1 < z.s
      rcases List.mem_cons.1 hz with rfl | hz
      · omega
      · have := ris_gt r4 z hz; omega
theorem takeR_q {c : Cf} {sub : Bool} {W win : Int} : ∀ {ah : List It} {s : Sm} {q : List Ev} {on : List It} {x : It}, x.s = s.w → 1 ≤ s.w ∧ s.w ≤ 1073741823 → inB x.v 0 2147483647 = true → risB W win (some s.w) ah = true → epOK s.e = true → qOK q c.q = true →
    qOK (takeR c sub ah s q on x).2.1 c.q = true
  | [], s, q, on, x, hx, hw, hv, hr, he, hq => by
    show qOK (rQ c s sub q x) c.q = true
    unfold rQ
    split
    · exact q_fit hq (evOK_data he (by omega) hv)
    · exact hq
  | y :: r, s, q, on, x, hx, hw, hv, hr, he, hq => by
    obtain ⟨r1, r2, r3, r4⟩ := ris_p hr
    have hq2 : qOK (rQ c s sub q x) c.q = true := by
      unfold rQ
      split
      · exact q_fit hq (evOK_data he (by omega) hv)
      · exact hq
    rw [takeR]
    by_cases h : y.s = s.w + 1
    · rw [if_pos h]
      rw [h] at r4
      exact takeR_q h (by show 1 ≤ s.w + 1 ∧ s.w + 1 ≤ _; omega) r3 r4 he hq2
    · rw [if_neg h]
      exact hq2
theorem takeR_quiet {c : Cf} : ∀ {ah : List It} {s : Sm} {q : List Ev} {on : List It} {x : It}, (takeR c false ah s q on x).2.1 = q
  | [], s, q, on, x => rfl
  | y :: r, s, q, on, x => by
    rw [takeR]
    split
    · exact takeR_quiet
    · rfl
/-- Numbers one by one, each with what it is to have. -/
def seqP (P : Int → Int → Prop) : Int → List It → Int → Prop
  | a, [], b => a = b
  | a, x :: r, b => x.s = a ∧ P a x.v ∧ seqP P (a + 1) r b
theorem takeR_on {c : Cf} {sub : Bool} {P : Int → Int → Prop} : ∀ {ah : List It} {s : Sm} {q : List Ev} {on : List It} {x : It}, x.s = s.w → P x.s x.v → (∀ y ∈ ah, P y.s y.v) →
    ∃ L, (takeR c sub ah s q on x).2.2 = on ++ L ∧ seqP P s.w L (takeR c sub ah s q on x).1.w
  | [], s, q, on, x, hx, hp, ha => ⟨[x], rfl, hx, by rw [← hx]; exact hp, rfl⟩
  | y :: r, s, q, on, x, hx, hp, ha => by
    rw [takeR]
    by_cases h : y.s = s.w + 1
    · rw [if_pos h]
      obtain ⟨L, h1, h2⟩ := takeR_on (c := c) (sub := sub) (P := P) (ah := r) (s := ⟨s.e, s.w + 1, if s.w + 1 > s.kn then s.w + 1 else s.kn, pushL s.kp s.w c.p x.v, r⟩) (q := rQ c s sub q x) (on := on ++ [x]) (x := y) h (ha y (by simp)) (fun z hz => ha z (by simp [hz]))
      exact ⟨x :: L, by rw [h1]; simp, hx, by rw [← hx]; exact hp, h2⟩
    · rw [if_neg h]
      exact ⟨[x], rfl, hx, by rw [← hx]; exact hp, rfl⟩
/-- From one number up to another, told one by one, or as gaps. -/
def qch (e : Int) (P : Int → Int → Prop) : Int → List Ev → Int → Prop
  | a, [], b => a = b
  | a, x :: r, b => x.e = e ∧ x.s = a ∧ ((x.k = 1 ∧ P a x.v ∧ qch e P (a + 1) r b) ∨ (x.k = 2 ∧ a ≤ x.l ∧ qch e P (x.l + 1) r b))
theorem qch_app {e : Int} {P : Int → Int → Prop} : ∀ {l m : List Ev} {a b d : Int}, qch e P a l b → qch e P b m d → qch e P a (l ++ m) d
  | [], m, a, b, d, h, h2 => by
    simp only [qch] at h
    subst h
    exact h2
  | x :: r, m, a, b, d, h, h2 => by
    obtain ⟨h3, h4, h5⟩ := h
    refine ⟨h3, h4, ?_⟩
    rcases h5 with ⟨k1, k2, k3⟩ | ⟨k1, k2, k3⟩
    · exact .inl ⟨k1, k2, qch_app k3 h2⟩
    · exact .inr ⟨k1, k2, qch_app k3 h2⟩
theorem qch_last {e : Int} {P : Int → Int → Prop} {y : Ev} (hy : y.k = 2) : ∀ {m : List Ev} {a b : Int}, qch e P a (m ++ [y]) b → y.e = e ∧ y.l + 1 = b ∧ ∀ l', y.l ≤ l' → qch e P a (m ++ [{ y with l := l' }]) (l' + 1)
  | [], a, b, h => by
    obtain ⟨h3, h4, h5⟩ := h
    rcases h5 with ⟨k1, k2, k3⟩ | ⟨k1, k2, k3⟩
    · omega
    · simp only [qch] at k3
      exact ⟨h3, k3, fun l' hl => ⟨h3, h4, .inr ⟨k1, by show a ≤ l'; omega, rfl⟩⟩⟩
  | x :: r, a, b, h => by
    obtain ⟨h3, h4, h5⟩ := h
    rcases h5 with ⟨k1, k2, k3⟩ | ⟨k1, k2, k3⟩
    · obtain ⟨g1, g2, g3⟩ := qch_last hy k3
      exact ⟨g1, g2, fun l' hl => ⟨h3, h4, .inl ⟨k1, k2, g3 l' hl⟩⟩⟩
    · obtain ⟨g1, g2, g3⟩ := qch_last hy k3
      exact ⟨g1, g2, fun l' hl => ⟨h3, h4, .inr ⟨k1, k2, g3 l' hl⟩⟩⟩
theorem fit_ch {e : Int} {P : Int → Int → Prop} {q : List Ev} {n a b b' : Int} {x : Ev} (hq : qOK q n = true) (hx : evOK x = true) (hc : qch e P a q b) (hxe : x.e = e) (hxs : x.s = b) (hk : (x.k = 1 ∧ P b x.v ∧ b' = b + 1) ∨ (x.k = 2 ∧ b ≤ x.l ∧ b' = x.l + 1)) : qch e P a (fitE q n x) b' := by
  have hq0 := hq
  simp only [qOK, Bool.and_eq_true, Bool.or_eq_true, Bool.not_eq_true', decide_eq_true_eq, decide_eq_false_iff_not] at hq
  obtain ⟨⟨⟨⟨h1, h2⟩, h3⟩, h4⟩, h5⟩ := hq
  have hg : ∃ g, gapE x = some g ∧ g.k = 2 ∧ g.e = e ∧ g.s = b ∧ b ≤ g.l ∧ b' = g.l + 1 := by
    rcases hk with ⟨k1, k2, k3⟩ | ⟨k1, k2, k3⟩
    · exact ⟨⟨2, x.e, x.s, x.s, 0, 0⟩, by simp [gapE, k1], rfl, hxe, hxs, by show b ≤ x.s; omega, by show b' = x.s + 1; omega⟩
    · exact ⟨x, by simp [gapE, k1], k1, hxe, hxs, k2, k3⟩
  obtain ⟨g, hg, g1, g2, g3, g4, g5⟩ := hg
  unfold fitE
  by_cases c1 : (q.length : Int) < n - 1
  · rw [show putE q n x = (0, q ++ [x]) by simp only [putE, hq0, hx, Bool.and_self, if_true, if_pos c1]]
    refine qch_app hc ⟨hxe, hxs, ?_⟩
    rcases hk with ⟨k1, k2, k3⟩ | ⟨k1, k2, k3⟩
    · exact .inl ⟨k1, k2, k3.symm⟩
    · exact .inr ⟨k1, k2, k3.symm⟩
  by_cases c2 : (q.length : Int) < n
  · rw [show putE q n x = (0, q ++ [g]) by simp only [putE, hq0, hx, hg, Bool.and_self, if_true, if_neg c1, if_pos c2]]
    exact qch_app hc ⟨g2, g3, .inr ⟨g1, g4, g5.symm⟩⟩
  · have hlen : (q.length : Int) = n := by omega
    have hne : q ≠ [] := fun e => by subst e; simp at hlen; omega
    obtain ⟨m, y, rfl⟩ : ∃ m y, q = m ++ [y] := ⟨q.dropLast, q.getLast hne, (List.dropLast_concat_getLast hne).symm⟩
    have c1' : ¬ ((m.length : Int) + 1 < n - 1) := by simp at hlen; omega
    have c2' : ¬ ((m.length : Int) + 1 < n) := by simp at hlen; omega
    have hy : y.k = 2 := by
      rcases h5 with h | h
      · exact absurd hlen h
      · rwa [lastK_app] at h
    obtain ⟨k1, k2, k3⟩ := qch_last hy hc
    have c3 : g.e = y.e ∧ g.s = y.l + 1 := ⟨by rw [g2, k1], by omega⟩
    rw [show putE (m ++ [y]) n x = (0, (m ++ [y]).dropLast ++ [{ y with l := g.l }]) by simp [putE, hq0, hx, hg, c1', c2', c3]]
    simp only [List.dropLast_concat, if_true]
    rw [g5]
    exact k3 g.l (by omega)
theorem takeR_ch {c : Cf} {e : Int} {P : Int → Int → Prop} {W win a : Int} : ∀ {ah : List It} {s : Sm} {q : List Ev} {on : List It} {x : It}, x.s = s.w → 1 ≤ s.w ∧ s.w ≤ 1073741823 → inB x.v 0 2147483647 = true → risB W win (some s.w) ah = true → epOK e = true → s.e = e → qOK q c.q = true → P x.s x.v → (∀ y ∈ ah, P y.s y.v) → qch e P a q s.w →
    qch e P a (takeR c true ah s q on x).2.1 (takeR c true ah s q on x).1.w
  | [], s, q, on, x, hx, hw, hv, hr, he, hse, hq, hp, ha, hc => by
    subst hse
    exact fit_ch hq (evOK_data he (by omega) hv) hc rfl hx (.inl ⟨rfl, by rw [← hx]; exact hp, rfl⟩)
  | y :: r, s, q, on, x, hx, hw, hv, hr, he, hse, hq, hp, ha, hc => by
    obtain ⟨r1, r2, r3, r4⟩ := ris_p hr
    have hse' := hse
    subst hse
    have hc2 : qch s.e P a (rQ c s true q x) (s.w + 1) := fit_ch hq (evOK_data he (by omega) hv) hc rfl hx (.inl ⟨rfl, by rw [← hx]; exact hp, rfl⟩)
    have hq2 : qOK (rQ c s true q x) c.q = true := q_fit hq (evOK_data he (by omega) hv)
    rw [takeR]
    by_cases h : y.s = s.w + 1
    · rw [if_pos h]
      rw [h] at r4
      exact takeR_ch h (by show 1 ≤ s.w + 1 ∧ s.w + 1 ≤ _; omega) r3 r4 he rfl hq2 (ha y (by simp)) (fun z hz => ha z (by simp [hz])) hc2
    · rw [if_neg h]
      exact hc2
end Go.Proofs.YtkfcbpbnoeaheaaDoor.FA
namespace Go.Proofs.YtkfcbpbnoeaheaaDoor.FA
open Go Go.Proofs.YtkfcbpbnoeaheaaDoorR Go.Proofs.YtkfcbpbnoeaheaaDoor.IF
open Go.Proofs.YtkfcbpbnoeaheaaDoor.QA (Ev eE aE rE inB epOK evOK qOK putE n01 gapE lastK)
open Go.Proofs.YtkfcbpbnoeaheaaDoor.AA (It eT aT rT ahOK addA addR leftL wi wm takeT allT take_s hR pre cP risB fitsB left_s ins)
open Go.Proofs.YtkfcbpbnoeaheaaDoor.EC (Cf eC okC)
set_option maxRecDepth 100000
theorem ins_ris {w win : Int} {x : It} (hf : fitsB x.s w win = true) (hv : inB x.v 0 2147483647 = true) : ∀ {l m : List It} {p : Option Int}, risB w win p l = true → (∀ q, p = some q → q < x.s) → ins x l = some m → risB w win p m = true ∧ ∀ y ∈ m, y = x ∨ y ∈ l
  | [], m, p, h, hp, hi => by
    cases hi
    refine ⟨?_, fun y hy => .inl (by simpa using hy)⟩
    cases p with
    | none => simp [risB, hf]; exact hv
    | some q => simp [risB, hf, hp q rfl]; exact hv
  | y :: r, m, p, h, hp, hi => by
    unfold ins at hi
    split at hi
    · split at hi
      · cases hi
      · rename_i h1 h2
        cases hi
        have hy : risB w win (some x.s) (y :: r) = true := by
          have h3 : decide (x.s < y.s) = true := by simp; omega
          cases p <;> simp only [risB, Bool.and_eq_true] at h ⊢
          · exact ⟨⟨h.1.1, h3⟩, h.2⟩
          · exact ⟨⟨h.1.1, h3⟩, h.2⟩
        refine ⟨?_, fun z hz => by simpa using hz⟩
        cases p with
        | none => simp only [risB, hf, Bool.and_eq_true]; exact ⟨⟨⟨trivial, hv⟩, trivial⟩, by simpa [risB] using hy⟩
        | some q =>
          have := hp q rfl
          simp only [risB, hf, Bool.and_eq_true, decide_eq_true_eq]; exact ⟨⟨⟨trivial, hv⟩, this⟩, by simpa [risB] using hy⟩
    · rename_i h1
      rw [Option.map_eq_some_iff] at hi
      obtain ⟨m', h2, rfl⟩ := hi
      have hr : risB w win (some y.s) r = true := by cases p <;> simp only [risB, Bool.and_eq_true] at h <;> exact h.2
      obtain ⟨g1, g2⟩ := ins_ris hf hv hr (fun q hq => by cases hq; omega) h2
      refine ⟨?_, fun z hz => ?_⟩
      · cases p <;> simp only [risB, Bool.and_eq_true] at h ⊢
        · exact ⟨h.1, g1⟩
        · exact ⟨h.1, g1⟩
      · rcases List.mem_cons.1 hz with rfl | hz
        · exact .inr (by simp)
        · rcases g2 z hz with h | h
          · exact .inl h
          · exact .inr (by simp [h])
theorem addA_ok {l : List It} {w win : Int} {x : It} (h : ahOK l w win = true) : (addA l w win x).2 = 0 → ahOK (addA l w win x).1 w win = true ∧ ∀ y ∈ (addA l w win x).1, y = x ∨ y ∈ l := by
  unfold addA
  split
  · intro h; cases h
  · rename_i h1
    split
    · intro h; cases h
    · rename_i h2
      have h1 : ahOK l w win = true ∧ AA.inB x.v 0 2147483647 = true := by simpa using h1
      have h2 : fitsB x.s w win = true := by simpa using h2
      split
      · intro h; cases h
      · rename_i m hm
        intro _
        simp only [ahOK, Bool.and_eq_true] at h ⊢
        obtain ⟨g1, g2⟩ := ins_ris h2 h1.2 h.2 (fun q hq => by cases hq) hm
        exact ⟨⟨h.1, g1⟩, g2⟩
theorem right_of {c : Cf} {s : Sm} (h1 : epOK s.e = true) (h2 : 1 ≤ s.w ∧ s.w ≤ 1073741824) (h3 : s.w ≤ s.kn) (h4 : s.kn ≤ 1073741824) (h5 : kpOK s.kp s.w c.p = true) (h6 : ahOK s.ah s.w c.w = true) : rightB c s = true := by
  have : inB s.w 1 1073741824 = true := by simp [inB]; omega
  simp [rightB, h1, this, h3, h4, h5, h6]
theorem right_kn {c : Cf} {s : Sm} (h : rightB c s = true) (he : epOK s.e = true) : s.w ≤ s.kn ∧ s.kn ≤ 1073741824 ∧ 1 ≤ s.w ∧ s.w ≤ 1073741824 := by
  have h1 := right_t h
  have h2 := right_e h he
  exact ⟨h1.2.2.2.2.1, h1.2.2.2.2.2.1, h2.2.2, h1.2.2.2.1⟩
/-- What an item of its own epoch makes of a right flow. -/
theorem item_same {c : Cf} {s : Sm} {sub : Bool} {q : List Ev} {x : It} {P : Int → Int → Prop} (h0 : flowC c s q = 0) (he : epOK s.e = true) (hx : inB x.s 1 1073741823 = true) (hv : inB x.v 0 2147483647 = true) (hP : P x.s x.v) (hA : ∀ y ∈ s.ah, P y.s y.v) :
    flowC c (itemG c s sub q false x).1 (itemG c s sub q false x).2.1 = 0 ∧ (itemG c s sub q false x).1.e = s.e ∧ s.w ≤ (itemG c s sub q false x).1.w ∧ s.kn ≤ (itemG c s sub q false x).1.kn ∧ (x.s ≥ (itemG c s sub q false x).1.w → (itemG c s sub q false x).1.kn > (itemG c s sub q false x).1.w) ∧
      seqP P s.w (itemG c s sub q false x).2.2 (itemG c s sub q false x).1.w ∧ (∀ y ∈ (itemG c s sub q false x).1.ah, P y.s y.v) ∧ (sub = false → (itemG c s sub q false x).2.1 = q) ∧ (sub = true → ∀ a, qch s.e P a q s.w → qch s.e P a (itemG c s sub q false x).2.1 (itemG c s sub q false x).1.w) ∧
      (x.s > s.w → (itemG c s sub q false x).1.w = s.w ∧ (itemG c s sub q false x).2.2 = []) ∧ (x.s = s.w → s.w + 1 ≤ (itemG c s sub q false x).1.w) := by
  obtain ⟨k1, k2, k3⟩ := flow_t h0
  have k6 : 1 ≤ x.s ∧ x.s ≤ 1073741823 := by simpa [inB] using hx
  obtain ⟨r1, r2, r3⟩ := right_e k2 he
  obtain ⟨n1, n2, n3, n4⟩ := right_kn k2 he
  have hah := right_ah k2
  have hris : risB s.w c.w none s.ah = true := by simp only [ahOK, Bool.and_eq_true] at r2; exact r2.2
  have hwin : AA.inB c.w 1 16 = true := by simp only [ahOK, Bool.and_eq_true] at r2; exact r2.1.2
  unfold itemG
  by_cases g1 : x.s < s.w
  · rw [if_pos (by simp [g1])]
    exact ⟨h0, rfl, Int.le_refl _, Int.le_refl _, fun h => by have : x.s ≥ s.w := h; omega, rfl, hA, fun _ => rfl, fun _ a h => h, fun h => by omega, fun h => by omega⟩
  rw [if_neg (by simpa using g1)]
  by_cases g2 : x.s = s.w
  · rw [if_pos g2]
    rw [one_more r1 hv (by omega) (fun y hy => by have := hah y hy; exact ⟨this.2.2, this.1, by omega⟩)]
    have hri := ris_none hris
    obtain ⟨a1, a2, a3, a4, a5, a6, a7, a8, a9⟩ := takeR_right (c := c) (sub := sub) (q := q) (on := []) (x := (⟨s.w, x.v⟩ : It)) rfl ⟨r3, by omega⟩ r1 hv n2 hri (Int.le_refl _)
    have b1 := takeR_q (c := c) (sub := sub) (q := q) (on := []) (x := (⟨s.w, x.v⟩ : It)) rfl ⟨r3, by omega⟩ hv hri he k3
    obtain ⟨L, b2, b3⟩ := takeR_on (c := c) (sub := sub) (P := P) (q := q) (on := []) (ah := s.ah) (s := s) (x := (⟨s.w, x.v⟩ : It)) rfl (by rw [g2] at hP; exact hP) hA
    have hre : rightB c (takeR c sub s.ah s q [] ⟨s.w, x.v⟩).1 = true := right_of (by rw [a1]; exact he) ⟨by omega, a3⟩ a4 a5 a7 (by
      simp only [ahOK, Bool.and_eq_true]
      exact ⟨⟨by simp [AA.inB]; omega, hwin⟩, a8⟩)
    refine ⟨flow_of k1 hre b1, a1, by omega, a6, fun h => by omega, by rw [b2, List.nil_append]; exact b3, fun y hy => hA y (a9 y hy), fun hsub => ?_, fun hsub a hc => ?_, fun h => by omega, fun _ => a2⟩
    · subst hsub; exact takeR_quiet
    · subst hsub
      exact takeR_ch rfl ⟨r3, by omega⟩ hv hri he rfl k3 (by rw [g2] at hP; exact hP) hA hc
  · rw [if_neg g2]
    have hkn : (if x.s + 1 > s.kn then x.s + 1 else s.kn) ≤ 1073741824 := by split <;> omega
    have hkn2 : s.kn ≤ (if x.s + 1 > s.kn then x.s + 1 else s.kn) := by split <;> omega
    have hkn3 : x.s + 1 ≤ (if x.s + 1 > s.kn then x.s + 1 else s.kn) := by split <;> omega
    have hadd := addA_ok (x := x) r2
    have ha : ahOK (if (addA s.ah s.w c.w x).2 = 0 then (addA s.ah s.w c.w x).1 else s.ah) s.w c.w = true ∧ ∀ y ∈ (if (addA s.ah s.w c.w x).2 = 0 then (addA s.ah s.w c.w x).1 else s.ah), P y.s y.v := by
      split
      · rename_i h
        refine ⟨(hadd h).1, fun y hy => ?_⟩
        rcases (hadd h).2 y hy with rfl | h
        · exact hP
        · exact hA y h
      · exact ⟨r2, hA⟩
    refine ⟨flow_of k1 (right_of he ⟨r3, n4⟩ (by show s.w ≤ (if x.s + 1 > s.kn then x.s + 1 else s.kn); omega) hkn r1 ha.1) k3, rfl, Int.le_refl _, hkn2, fun h => ?_, rfl, ha.2, fun _ => rfl, fun _ a h => h, fun _ => ⟨rfl, rfl⟩, fun h => absurd h g2⟩
    show (if x.s + 1 > s.kn then x.s + 1 else s.kn) > s.w
    omega
/-- What a gap of its own epoch makes of a right flow. -/
theorem gone_same {c : Cf} {s : Sm} {sub : Bool} {q : List Ev} {fr to : Int} {P : Int → Int → Prop} (h0 : flowC c s q = 0) (he : epOK s.e = true) (hf : fr ≤ s.w ∧ s.w ≤ to ∧ to ≤ 1073741823) (hA : ∀ y ∈ s.ah, P y.s y.v) :
    flowC c (goneG c s sub q s.e fr to).1 (goneG c s sub q s.e fr to).2.1 = 0 ∧ (goneG c s sub q s.e fr to).1.e = s.e ∧ to + 1 ≤ (goneG c s sub q s.e fr to).1.w ∧ s.kn ≤ (goneG c s sub q s.e fr to).1.kn ∧
      seqP P (to + 1) (goneG c s sub q s.e fr to).2.2 (goneG c s sub q s.e fr to).1.w ∧ (∀ y ∈ (goneG c s sub q s.e fr to).1.ah, P y.s y.v ∧ y ∈ s.ah) ∧ (sub = false → (goneG c s sub q s.e fr to).2.1 = q) ∧ (sub = true → ∀ a, qch s.e P a q s.w → qch s.e P a (goneG c s sub q s.e fr to).2.1 (goneG c s sub q s.e fr to).1.w) := by
  obtain ⟨k1, k2, k3⟩ := flow_t h0
  obtain ⟨r1, r2, r3⟩ := right_e k2 he
  obtain ⟨n1, n2, n3, n4⟩ := right_kn k2 he
  have hah := right_ah k2
  have hris : risB s.w c.w none s.ah = true := by simp only [ahOK, Bool.and_eq_true] at r2; exact r2.2
  have hwin : AA.inB c.w 1 16 = true := by simp only [ahOK, Bool.and_eq_true] at r2; exact r2.1.2
  have kc := okC_t k1
  have hev : evOK ⟨2, s.e, s.w, to, 0, 0⟩ = true := evOK_gap he r3 (by omega)
  have hkn : (if to + 1 > s.kn then to + 1 else s.kn) ≤ 1073741824 := by split <;> omega
  have hkn2 : s.kn ≤ (if to + 1 > s.kn then to + 1 else s.kn) := by split <;> omega
  have hkn3 : to + 1 ≤ (if to + 1 > s.kn then to + 1 else s.kn) := by split <;> omega
  have hq1 : qOK (if sub then fitE q c.q ⟨2, s.e, s.w, to, 0, 0⟩ else q) c.q = true := by
    split
    · exact q_fit k3 hev
    · exact k3
  have hk0 : kpOK [] (to + 1) c.p = true := by simp [kpOK, inB, kRow]; omega
  have hlm : ∀ y ∈ leftL (to + 1) s.ah, y ∈ s.ah ∧ to + 1 ≤ y.s := fun y hy => by
    have := List.mem_filter.1 hy
    exact ⟨this.1, by simpa using this.2⟩
  have hlr : ∀ {l : List It} {p : Option Int}, risB s.w c.w p l = true → risB s.w c.w p (leftL (to + 1) l) = true := by
    intro l
    induction l with
    | nil => intro p h; exact h
    | cons y r ih =>
      intro p h
      unfold leftL at ih ⊢
      rw [List.filter_cons]
      split
      · cases p <;> simp only [risB, Bool.and_eq_true] at h ⊢
        · exact ⟨h.1, ih h.2⟩
        · exact ⟨h.1, ih h.2⟩
      · have h2 : risB s.w c.w (some y.s) r = true := by cases p <;> simp only [risB, Bool.and_eq_true] at h <;> exact h.2
        cases p with
        | none => exact ris_weak (ih h2)
        | some z =>
          have h3 : z < y.s := (ris_p h).1
          have h4 := ih h2
          generalize List.filter (fun x => decide (to + 1 ≤ x.s)) r = l' at h4 ⊢
          cases l' with
          | nil => rfl
          | cons u v =>
            simp only [risB, Bool.and_eq_true, decide_eq_true_eq] at h4 ⊢
            exact ⟨⟨h4.1.1, by omega⟩, h4.2⟩
  have hl := hlr hris
  unfold goneG
  rw [if_pos ⟨rfl, hf.1, hf.2.1⟩]
  have hsubq : sub = false → (if sub then fitE q c.q ⟨2, s.e, s.w, to, 0, 0⟩ else q) = q := fun h => by rw [h]; rfl
  have hsubc : sub = true → ∀ a, qch s.e P a q s.w → qch s.e P a (if sub then fitE q c.q ⟨2, s.e, s.w, to, 0, 0⟩ else q) (to + 1) := fun h a hc => by
    rw [if_pos h]
    exact fit_ch k3 hev hc rfl rfl (.inr ⟨rfl, hf.2.1, rfl⟩)
  generalize (if sub then fitE q c.q ⟨2, s.e, s.w, to, 0, 0⟩ else q) = q1 at *
  rw [gone_more (by omega) k1 (fun y hy => by have := hah y hy; exact ⟨this.2.2, by omega, by omega⟩)]
  have hgen : ∀ l, risB s.w c.w none l = true → (∀ y ∈ l, y ∈ s.ah ∧ to + 1 ≤ y.s) → (∀ y ∈ l, to + 1 < y.s) → flowC c ⟨s.e, to + 1, if to + 1 > s.kn then to + 1 else s.kn, [], l⟩ q1 = 0 := fun l h1 h2 h3 =>
    flow_of k1 (right_of he ⟨by show 1 ≤ to + 1; omega, by show to + 1 ≤ _; omega⟩ hkn3 hkn hk0 (by
      simp only [ahOK, Bool.and_eq_true]
      exact ⟨⟨by simp [AA.inB]; omega, hwin⟩, ris_up (by omega) h1 h3⟩)) hq1
  cases hL : leftL (to + 1) s.ah with
  | nil => exact ⟨hgen [] rfl (by simp) (by simp), rfl, Int.le_refl _, hkn2, rfl, by simp, hsubq, hsubc⟩
  | cons y r =>
    rw [hL] at hl hlm
    have hy := hlm y (by simp)
    have hyv := hah y hy.1
    have hr : risB s.w c.w (some y.s) r = true := by simp only [risB, Bool.and_eq_true] at hl; exact hl.2
    dsimp only
    by_cases h : y.s = to + 1
    · rw [if_pos h]
      have hr2 := hr
      rw [h] at hr2
      obtain ⟨a1, a2, a3, a4, a5, a6, a7, a8, a9⟩ := takeR_right (c := c) (sub := sub) (q := q1) (on := []) (ah := r) (s := ⟨s.e, to + 1, if to + 1 > s.kn then to + 1 else s.kn, [], r⟩) (x := y) h ⟨by show 1 ≤ to + 1; omega, by show to + 1 ≤ _; omega⟩ hk0 hyv.2.2 hkn hr2 (by show s.w ≤ to + 1; omega)
      have b1 := takeR_q (c := c) (sub := sub) (q := q1) (on := []) (ah := r) (s := ⟨s.e, to + 1, if to + 1 > s.kn then to + 1 else s.kn, [], r⟩) (x := y) h ⟨by show 1 ≤ to + 1; omega, by show to + 1 ≤ _; omega⟩ hyv.2.2 hr2 he hq1
      obtain ⟨L, b2, b3⟩ := takeR_on (c := c) (sub := sub) (P := P) (q := q1) (on := []) (ah := r) (s := ⟨s.e, to + 1, if to + 1 > s.kn then to + 1 else s.kn, [], r⟩) (x := y) h (hA y hy.1) (fun z hz => hA z (hlm z (by simp [hz])).1)
      refine ⟨flow_of k1 (right_of (by rw [a1]; exact he) ⟨by have : to + 1 + 1 ≤ _ := a2; omega, a3⟩ a4 a5 a7 (by
        simp only [ahOK, Bool.and_eq_true]
        exact ⟨⟨(show ∀ n : Int, 1 ≤ n ∧ n ≤ 1073741824 → AA.inB n 1 1073741824 = true from fun n h => by simp [AA.inB]; omega) _ ⟨by have : to + 1 + 1 ≤ _ := a2; omega, a3⟩, hwin⟩, a8⟩)) b1, a1, by have : to + 1 + 1 ≤ _ := a2; omega, by have : (if to + 1 > s.kn then to + 1 else s.kn) ≤ _ := a6; omega, by rw [b2, List.nil_append]; exact b3, fun z hz => ⟨hA z (hlm z (by simp [a9 z hz])).1, (hlm z (by simp [a9 z hz])).1⟩, fun hsub => ?_, fun hsub a hc => ?_⟩
      · have := hsubq hsub
        subst hsub
        rw [takeR_quiet]; exact this
      · have := hsubc hsub a hc
        subst hsub
        exact takeR_ch h ⟨by show 1 ≤ to + 1; omega, by show to + 1 ≤ _; omega⟩ hyv.2.2 hr2 he rfl hq1 (hA y hy.1) (fun z hz => hA z (hlm z (by simp [hz])).1) this
    · rw [if_neg h]
      exact ⟨hgen (y :: r) hl hlm (fun z hz => by
        rcases List.mem_cons.1 hz with rfl | hz
        · omega
        · have := ris_gt hr z hz; omega), rfl, Int.le_refl _, hkn2, rfl, fun z hz => ⟨hA z (hlm z hz).1, (hlm z hz).1⟩, hsubq, hsubc⟩
end Go.Proofs.YtkfcbpbnoeaheaaDoor.FA
namespace Go.Proofs.YtkfcbpbnoeaheaaDoor.FA
open Go Go.Proofs.YtkfcbpbnoeaheaaDoorR Go.Proofs.YtkfcbpbnoeaheaaDoor.IF
open Go.Proofs.YtkfcbpbnoeaheaaDoor.QA (Ev eE aE rE inB epOK evOK qOK putE n01 gapE lastK)
open Go.Proofs.YtkfcbpbnoeaheaaDoor.AA (It eT aT rT ahOK addA addR leftL wi wm takeT allT take_s hR pre cP risB fitsB left_s)
open Go.Proofs.YtkfcbpbnoeaheaaDoor.EC (Cf eC okC)
set_option maxRecDepth 100000
set_option maxHeartbeats 4000000
theorem okC_b (c : Cf) : okC c = (inB c.n 1 8 && (inB c.t 1 4 && (inB c.k 1 4 && (inB c.d 1 8 && (inB c.p 1 16 && (inB c.w 1 16 && inB c.q 2 32)))))) := by
  simp only [okC, inB, ← Bool.decide_and]
def heavyB (s : Sm) (q : List Ev) : Bool := decide ((s.kp.length : Int) > 30) || decide ((s.ah.length : Int) > 30) || decide ((q.length : Int) > 50)
theorem e15 (N d : Nat) (s : Sm) (q : List Ev) : TT N (d + 1) 15 [aS s, .one (rE q)] = some (bV (heavyB s q), []) := by
  rw [t15, F_ev rfl]
  simp only [List.length_map, j15, b15, q15, qq, ww, List.replicate, Nat.reduceBEq, Nat.reduceAdd, Nat.reduceMul, Nat.reduceDiv, Nat.reduceEqDiff, Nat.reduceLeDiff, Nat.reduceLT, Int.reduceEq, Int.reduceNe, Int.reduceLT, Int.reduceLE, Int.reduceAdd, Int.reduceSub, Int.reduceMul, Int.reduceNeg, Int.reduceToNat, Int.reducePow, Nat.reducePow, reduceCtorEq, reduceIte, if_true, if_false]
  repeat' (refine fin_cases (fun h1 => ?_) (fun h1 => ?_) <;> simp only [h1, List.length_map, j15, b15, q15, qq, ww, List.replicate, Nat.reduceBEq, Nat.reduceAdd, Nat.reduceMul, Nat.reduceDiv, Nat.reduceEqDiff, Nat.reduceLeDiff, Nat.reduceLT, Int.reduceEq, Int.reduceNe, Int.reduceLT, Int.reduceLE, Int.reduceAdd, Int.reduceSub, Int.reduceMul, Int.reduceNeg, Int.reduceToNat, Int.reducePow, Nat.reducePow, reduceCtorEq, reduceIte, if_true, if_false])
  all_goals (first | (simp_all [heavyB]; done) | (simp_all [heavyB]; omega))
theorem heavy_t {s : Sm} {q : List Ev} (h : heavyB s q = false) : s.kp.length ≤ 30 ∧ s.ah.length ≤ 30 ∧ q.length ≤ 50 := by
  simp [heavyB] at h; omega
theorem w18 : TT 1000 17 12 [] = some (bV true, []) := by kernel_rfl
theorem foldK_len {c : Cf} {sub : Bool} : ∀ {l : List It} {s : Sm} {q : List Ev} {on : List It}, s.kp.length < 900 → (foldK c sub l s q on).1.kp.length < 900 ∧ (foldK c sub l s q on).1.ah = s.ah ∧ (foldK c sub l s q on).2.1.length ≤ q.length + l.length ∧ (foldK c sub l s q on).2.2.length = on.length + l.length
  | [], s, q, on, h => ⟨h, rfl, Nat.le_refl _, rfl⟩
  | x :: r, s, q, on, h => by
    have hp := pushP_len s.kp s.w c.p x.v
    have hq := oneQ_len c s sub q x.v
    obtain ⟨h1, h2, h3, h4⟩ := foldK_len (c := c) (sub := sub) (l := r) (s := oneS c s x.v) (q := oneQ c s sub q x.v) (on := on ++ [⟨s.w, x.v⟩]) (by show (pushP s.kp s.w c.p x.v).1.length < 900; omega)
    simp only [List.length_append, List.length_cons, List.length_nil] at h4
    simp only [foldK, List.length_cons]
    exact ⟨h1, h2, by omega, by omega⟩
theorem moreK_len {c : Cf} {sub : Bool} {s : Sm} {q : List Ev} {on : List It} (h : s.kp.length < 900) : (moreK c sub s q on).1.kp.length < 900 ∧ (moreK c sub s q on).1.ah.length ≤ s.ah.length ∧ (moreK c sub s q on).2.1.length ≤ q.length + s.ah.length ∧ (moreK c sub s q on).2.2.length ≤ on.length + s.ah.length := by
  have hl : (leftL s.w s.ah).length ≤ s.ah.length := List.length_filter_le _ _
  have ht : ((leftL s.w s.ah).take (cut s)).length ≤ s.ah.length := by rw [List.length_take]; omega
  obtain ⟨h1, h2, h3, h4⟩ := foldK_len (c := c) (sub := sub) (l := (leftL s.w s.ah).take (cut s)) (s := s) (q := q) (on := on) h
  unfold moreK
  exact ⟨h1, by show (List.drop _ _).length ≤ _; rw [List.length_drop]; omega, by show _ ≤ _; dsimp only; omega, by show _ ≤ _; dsimp only; omega⟩
theorem itemG_len {c : Cf} {s : Sm} {sub : Bool} {q : List Ev} {old : Bool} {x : It} (hs : s.kp.length ≤ 30 ∧ s.ah.length ≤ 30) (hq : q.length ≤ 50) : smL (itemG c s sub q old x).1 ∧ (itemG c s sub q old x).2.1.length < 900 ∧ (itemG c s sub q old x).2.2.length < 900 := by
  unfold itemG
  split
  · exact ⟨⟨by show s.kp.length < 900; omega, by show s.ah.length < 900; omega⟩, by show q.length < 900; omega, by simp⟩
  · split
    · have hp := pushP_len s.kp s.w c.p x.v
      have hq2 := oneQ_len c s sub q x.v
      obtain ⟨h1, h2, h3, h4⟩ := moreK_len (c := c) (sub := sub) (s := oneS c s x.v) (q := oneQ c s sub q x.v) (on := [⟨s.w, x.v⟩]) (by show (pushP s.kp s.w c.p x.v).1.length < 900; omega)
      have e1 : (oneS c s x.v).ah.length = s.ah.length := rfl
      simp only [List.length_cons, List.length_nil] at h4
      exact ⟨⟨h1, by omega⟩, by omega, by omega⟩
    · have ha := AA.addA_len s.ah s.w c.w x
      refine ⟨⟨by show s.kp.length < 900; omega, ?_⟩, by show q.length < 900; omega, by simp⟩
      show (if (addA s.ah s.w c.w x).2 = 0 then (addA s.ah s.w c.w x).1 else s.ah).length < 900
      split <;> omega
theorem goneG_len {c : Cf} {s : Sm} {sub : Bool} {q : List Ev} {a f t : Int} (hs : s.kp.length ≤ 30 ∧ s.ah.length ≤ 30) (hq : q.length ≤ 50) : smL (goneG c s sub q a f t).1 ∧ (goneG c s sub q a f t).2.1.length < 900 ∧ (goneG c s sub q a f t).2.2.length < 900 := by
  unfold goneG
  split
  · have hql : (if sub = true then fitE q c.q ⟨2, a, s.w, t, 0, 0⟩ else q).length ≤ 51 := by
      split
      · have := fitE_len q c.q ⟨2, a, s.w, t, 0, 0⟩; omega
      · omega
    obtain ⟨h1, h2, h3, h4⟩ := moreK_len (c := c) (sub := sub) (s := ⟨s.e, t + 1, if t + 1 > s.kn then t + 1 else s.kn, [], s.ah⟩) (q := (if sub = true then fitE q c.q ⟨2, a, s.w, t, 0, 0⟩ else q)) (on := []) (by simp)
    have e1 : (⟨s.e, t + 1, if t + 1 > s.kn then t + 1 else s.kn, [], s.ah⟩ : Sm).ah.length = s.ah.length := rfl
    simp only [List.length_nil] at h4
    exact ⟨⟨h1, by omega⟩, by omega, by omega⟩
  · exact ⟨⟨by show s.kp.length < 900; omega, by show s.ah.length < 900; omega⟩, by show q.length < 900; omega, by simp⟩
theorem toldS_len {s : Sm} {a n : Int} (hs : smL s) : smL (toldS s a n) := by
  unfold toldS
  split
  · simp
  · split
    · exact hs
    · exact hs
theorem q_nil {n : Int} (h : 2 ≤ n ∧ n ≤ 32) : qOK [] n = true := by
  simp [qOK]; omega
end Go.Proofs.YtkfcbpbnoeaheaaDoor.FA
namespace Go.Proofs.YtkfcbpbnoeaheaaDoor.EC
open Go Go.Proofs.YtkfcbpbnoeaheaaDoorR Go.Proofs.YtkfcbpbnoeaheaaDoor.IF Go.Proofs.YtkfcbpbnoeaheaaDoor.EA
set_option maxRecDepth 100000
set_option maxHeartbeats 4000000
theorem w64 {n : Int} (h : -1000000 ≤ n ∧ n ≤ 1000000) : IntKind.i64.wrap n = n := IntWalk.i64_in _ (by omega)
theorem kmod (z m : Int) (hm : 0 < m) (hm2 : m ≤ 1000000) : 0 ≤ IntKind.i64.wrap ((IntKind.u64.wrap z).tmod m) ∧ IntKind.i64.wrap ((IntKind.u64.wrap z).tmod m) < m := by
  have h : 0 ≤ IntKind.u64.wrap z := by
    simp [IntKind.wrap, IntKind.signed, IntKind.bits]
    omega
  have h1 := Int.tmod_nonneg m h
  have h2 := Int.tmod_lt_of_pos (IntKind.u64.wrap z) hm
  rw [w64 (by omega)]
  exact ⟨h1, h2⟩
theorem wdiv {m k : Int} (h : 0 ≤ m ∧ m < 1000000) (hk : 0 < k) : IntKind.i64.wrap (m.tdiv k) = m / k := by
  rw [Int.tdiv_eq_ediv_of_nonneg h.1]
  have h1 : 0 ≤ m / k := Int.ediv_nonneg h.1 (by omega)
  have h2 : m / k ≤ m := Int.ediv_le_self k h.1
  exact w64 (by omega)
theorem wmod {m k : Int} (h : 0 ≤ m) : m.tmod k = m % k := Int.tmod_eq_emod_of_nonneg h
theorem wadd {m k c : Int} (hk : 0 < k) (hk2 : k < 1000) (hc : 0 ≤ c ∧ c < 10) : IntKind.i64.wrap (c + m % k) = c + m % k := by
  have h1 := Int.emod_nonneg m (show k ≠ 0 by omega)
  have h2 := Int.emod_lt_of_pos m hk
  exact w64 (by omega)
abbrev confC (m : Int) : Cf := ⟨1 + m % 8, 1 + m / 8 % 4, 1 + m / 32 % 4, 1 + m / 128 % 8, 1 + m / 1024 % 16, 1 + m / 16 % 16, 2 + m / 64 % 31⟩
theorem e7 (N d : Nat) (n m : Int) (hn : IntKind.i64.wrap ((IntKind.u64.wrap n).tmod 1000000) = m) (hm : 0 ≤ m ∧ m < 1000000) : TT N (d + 1) 7 [iV n] = some (.agg (eC (confC m)), []) := by
  have d8 : IntKind.i64.wrap (m.tdiv 8) = m / 8 := wdiv hm (by decide)
  have d16 : IntKind.i64.wrap (m.tdiv 16) = m / 16 := wdiv hm (by decide)
  have d32 : IntKind.i64.wrap (m.tdiv 32) = m / 32 := wdiv hm (by decide)
  have d64 : IntKind.i64.wrap (m.tdiv 64) = m / 64 := wdiv hm (by decide)
  have d128 : IntKind.i64.wrap (m.tdiv 128) = m / 128 := wdiv hm (by decide)
  have d1024 : IntKind.i64.wrap (m.tdiv 1024) = m / 1024 := wdiv hm (by decide)
  have m0 : m.tmod 8 = m % 8 := wmod hm.1
  have m8 : (m / 8).tmod 4 = m / 8 % 4 := wmod (by omega)
  have m16 : (m / 16).tmod 16 = m / 16 % 16 := wmod (by omega)
  have m32 : (m / 32).tmod 4 = m / 32 % 4 := wmod (by omega)
  have m64 : (m / 64).tmod 31 = m / 64 % 31 := wmod (by omega)
  have m128 : (m / 128).tmod 8 = m / 128 % 8 := wmod (by omega)
  have m1024 : (m / 1024).tmod 16 = m / 1024 % 16 := wmod (by omega)
  have a0 : IntKind.i64.wrap (1 + m % 8) = 1 + m % 8 := wadd (by decide) (by decide) (by decide)
  have a8 : IntKind.i64.wrap (1 + m / 8 % 4) = 1 + m / 8 % 4 := wadd (by decide) (by decide) (by decide)
  have a16 : IntKind.i64.wrap (1 + m / 16 % 16) = 1 + m / 16 % 16 := wadd (by decide) (by decide) (by decide)
  have a32 : IntKind.i64.wrap (1 + m / 32 % 4) = 1 + m / 32 % 4 := wadd (by decide) (by decide) (by decide)
  have a64 : IntKind.i64.wrap (2 + m / 64 % 31) = 2 + m / 64 % 31 := wadd (by decide) (by decide) (by decide)
  have a128 : IntKind.i64.wrap (1 + m / 128 % 8) = 1 + m / 128 % 8 := wadd (by decide) (by decide) (by decide)
  have a1024 : IntKind.i64.wrap (1 + m / 1024 % 16) = 1 + m / 1024 % 16 := wadd (by decide) (by decide) (by decide)
  rw [t7, F_ev rfl]
  simp only [hn, d8, d16, d32, d64, d128, d1024, m0, m8, m16, m32, m64, m128, m1024, a0, a8, a16, a32, a64, a128, a1024, j7, b7, q7, qq, ww, List.replicate, Nat.reduceBEq, Nat.reduceAdd, Nat.reduceMul, Nat.reduceDiv, Nat.reduceEqDiff, Nat.reduceLeDiff, Nat.reduceLT, Int.reduceEq, Int.reduceNe, Int.reduceLT, Int.reduceLE, Int.reduceAdd, Int.reduceSub, Int.reduceMul, Int.reduceNeg, Int.reduceToNat, Int.reducePow, Nat.reducePow, reduceCtorEq, reduceIte, if_true, if_false]
theorem ok_conf (m : Int) : okC (confC m) = true := by
  simp only [okC, decide_eq_true_eq]
  omega
theorem i7 {k : Int} (h : 0 ≤ k ∧ k < 7) : k = 0 ∨ k = 1 ∨ k = 2 ∨ k = 3 ∨ k = 4 ∨ k = 5 ∨ k = 6 := by omega
theorem z13 (b : Bool) : decide ((if b = true then (0 : Int) else 13) = 0) = b := by cases b <;> rfl
theorem beq_t {a b : Bool} (h : a = b) : (a == b) = true := by subst h; cases a <;> rfl
end Go.Proofs.YtkfcbpbnoeaheaaDoor.EC
namespace Go.Proofs.YtkfcbpbnoeaheaaDoor.FA
open Go Go.Proofs.YtkfcbpbnoeaheaaDoorR Go.Proofs.YtkfcbpbnoeaheaaDoor.IF
open Go.Proofs.YtkfcbpbnoeaheaaDoor.QA (Ev eE aE rE inB epOK evOK qOK putE n01 gapE lastK)
open Go.Proofs.YtkfcbpbnoeaheaaDoor.AA (It eT aT rT ahOK addA addR leftL wi wm takeT allT take_s hR pre cP risB fitsB left_s ins)
open Go.Proofs.YtkfcbpbnoeaheaaDoor.EC (Cf eC okC)
set_option maxRecDepth 100000
theorem umodF (z m : Int) (hm : 0 < m) (hm2 : m ≤ 4611686018427387904) : 0 ≤ IntKind.i64.wrap ((IntKind.u64.wrap z).tmod m) ∧ IntKind.i64.wrap ((IntKind.u64.wrap z).tmod m) < m := by
  have h : 0 ≤ IntKind.u64.wrap z := by
    simp [IntKind.wrap, IntKind.signed, IntKind.bits]
    omega
  have h1 := Int.tmod_nonneg m h
  have h2 := Int.tmod_lt_of_pos (IntKind.u64.wrap z) hm
  rw [IntWalk.i64_in _ (by omega)]
  exact ⟨h1, h2⟩
theorem seqP_t {P : Int → Int → Prop} : ∀ {L : List It} {a b : Int}, seqP P a L b → b = a + L.length ∧ ∀ (j : Nat) (h : j < L.length), L[j].s = a + j ∧ P (a + j) L[j].v
  | [], a, b, h => by
    simp only [seqP] at h
    exact ⟨by simp [h], fun j h => by simp at h⟩
  | x :: r, a, b, h => by
    obtain ⟨h1, h2, h3⟩ := h
    obtain ⟨h4, h5⟩ := seqP_t h3
    refine ⟨by simp only [List.length_cons]; omega, fun j hj => ?_⟩
    cases j with
    | zero => exact ⟨by show x.s = a + 0; omega, by show P (a + 0) x.v; rw [Int.add_zero]; exact h2⟩
    | succ j =>
      have := h5 j (by simpa using hj)
      rw [show a + 1 + (j : Int) = a + ((j + 1 : Nat) : Int) by omega] at this
      exact this
theorem told_new {c : Cf} {a n : Int} (hc : okC c = true) (ha : epOK a = true) (hn : 1 ≤ n ∧ n ≤ 1073741824) : toldP c s0 a n = (⟨a, n, n, [], []⟩, 0) ∧ flowC c ⟨a, n, n, [], []⟩ [] = 0 := by
  have kc := okC_t hc
  have hqn := q_nil kc.2.2.2.2.2.2
  have f0 : flowC c s0 [] = 0 := flow_of hc (by simp [rightB, zeroB]) hqn
  have hi : inB n 1 1073741824 = true := by simp [inB]; omega
  have h0 : 0 < a := by simp [epOK, inB] at ha; omega
  refine ⟨by simp [toldP, f0, ha, hi, toldS, h0], flow_of hc (right_of ha (by omega) (Int.le_refl _) hn.2 ?_ ?_) hqn⟩
  · simp [kpOK, inB, kRow]; omega
  · simp [ahOK, AA.inB, risB]; omega
/-- An item of its own epoch, as the program tells it. -/
theorem item_at {c : Cf} {s : Sm} {sub : Bool} {q : List Ev} {x : It} (h0 : flowC c s q = 0) (he : epOK s.e = true) (hx : inB x.s 1 1073741823 = true) (hv : inB x.v 0 2147483647 = true) : itemP c s sub q s.e x = (itemG c s sub q false x, 0) := by
  have h1 : ¬ s.e > s.e := by omega
  have h2 : decide (s.e < s.e) = false := by simp
  simp only [itemP, h0, he, hx, hv, if_neg h1, h2, Bool.and_self, if_true]
theorem qch_le {e : Int} {P : Int → Int → Prop} : ∀ {l : List Ev} {a b : Int}, qch e P a l b → a ≤ b
  | [], a, b, h => by simp only [qch] at h; omega
  | x :: r, a, b, h => by
    rcases h.2.2 with ⟨_, _, h3⟩ | ⟨_, h2, h3⟩
    · have := qch_le h3; omega
    · have := qch_le h3; omega
theorem foldK_len' {c : Cf} {sub : Bool} : ∀ {l : List It} {s : Sm} {q : List Ev} {on : List It}, True ∧ True ∧ True ∧ (foldK c sub l s q on).2.2.length = on.length + l.length
  | [], s, q, on => ⟨trivial, trivial, trivial, rfl⟩
  | x :: r, s, q, on => by
    obtain ⟨_, _, _, h⟩ := foldK_len' (c := c) (sub := sub) (l := r) (s := oneS c s x.v) (q := oneQ c s sub q x.v) (on := on ++ [⟨s.w, x.v⟩])
    refine ⟨trivial, trivial, trivial, ?_⟩
    simp only [foldK, h, List.length_append, List.length_cons, List.length_nil]
    omega
theorem moreK_on {c : Cf} {s : Sm} {sub : Bool} {q : List Ev} {x : It} : (itemG c s sub q false x).2.2.length ≤ s.ah.length + 1 := by
  unfold itemG
  split
  · simp
  · split
    · have hl : (leftL (s.w + 1) s.ah).length ≤ s.ah.length := List.length_filter_le _ _
      obtain ⟨h1, h2, h3, h4⟩ := foldK_len' (c := c) (sub := sub) (l := (leftL (s.w + 1) s.ah).take (pre (cP (s.w + 1)) (leftL (s.w + 1) s.ah) 0)) (s := oneS c s x.v) (q := oneQ c s sub q x.v) (on := [⟨s.w, x.v⟩])
      rw [List.length_take] at h4
      simp only [List.length_cons, List.length_nil] at h4
      have h5 : (foldK c sub ((leftL (s.w + 1) s.ah).take (pre (cP (s.w + 1)) (leftL (s.w + 1) s.ah) 0)) (oneS c s x.v) (oneQ c s sub q x.v) [⟨s.w, x.v⟩]).2.2.length ≤ s.ah.length + 1 := by omega
      exact h5
    · simp
end Go.Proofs.YtkfcbpbnoeaheaaDoor.FA
namespace Go.Proofs.YtkfcbpbnoeaheaaDoor.FA
open Go Go.Proofs.YtkfcbpbnoeaheaaDoorR Go.Proofs.YtkfcbpbnoeaheaaDoor.IF
open Go.Proofs.YtkfcbpbnoeaheaaDoor.QA (Ev eE aE rE inB epOK evOK qOK putE n01 gapE lastK)
open Go.Proofs.YtkfcbpbnoeaheaaDoor.AA (It eT aT rT ahOK addA addR leftL wi wm takeT allT take_s hR pre cP risB fitsB left_s ins)
open Go.Proofs.YtkfcbpbnoeaheaaDoor.EC (Cf eC okC confC)
set_option maxRecDepth 100000
set_option maxHeartbeats 4000000
/-- What is kept from a number on. -/
def againL (l : List It) (want from_ : Int) : List It := (l.drop (from_ - (want - l.length)).toNat).take 8
def againN (l : List It) (want from_ : Int) : Int := if from_ < want - l.length then want - l.length - 1 else 0
theorem cut_row (xs : List (List V)) (k : Nat) (h : k ≤ xs.length) : (if (k : Int) = (xs.length : Int) then some (S.one (V.row []), ([] : Hp)) else some (S.one (V.row (List.drop k xs)), [])) = some (.one (.row (xs.drop k)), []) := by
  split
  · rename_i h1
    rw [List.drop_of_length_le (by omega)]
  · rfl
theorem e18 (N d : Nat) (l : List It) (want lim from_ : Int) (hk : kpOK l want lim = true) (hf : 1 ≤ from_ ∧ from_ < want) (hN : l.length < N) (hl : l.length < 1000) :
    TT N (d + 5) 18 [.one (rT l), iV want, iV lim, iV from_] = some (.tup [iV (againN l want from_), .one (rT (againL l want from_)), iV 0], []) := by
  have h1 := fun d => e33 N d l want lim hN (by omega)
  rw [hk] at h1
  have hb : 1 ≤ want ∧ want ≤ 1073741824 := by simp [kpOK, inB] at hk; omega
  have w1 : IntKind.i64.wrap (want - (l.length : Int)) = want - l.length := IntWalk.i64_in _ (by omega)
  have w2 : IntKind.i64.wrap (want - (l.length : Int) - 1) = want - l.length - 1 := IntWalk.i64_in _ (by omega)
  have w3 : IntKind.i64.wrap (from_ - (want - (l.length : Int))) = from_ - (want - l.length) := IntWalk.i64_in _ (by omega)
  have hn1 : decide (from_ < 1) = false := by simp; omega
  have hn2 : decide (from_ ≥ want) = false := by simp; omega
  have hmx : (if (0 : Int) > from_ - (want - (l.length : Int)) then 0 else from_ - (want - (l.length : Int))) = (((from_ - (want - l.length)).toNat : Nat) : Int) := by split <;> omega
  have hK : (from_ - (want - (l.length : Int))).toNat ≤ l.length := by omega
  unfold againL againN
  generalize hKK : (from_ - (want - (l.length : Int))).toNat = K at *
  generalize hF : want - (l.length : Int) = F at *
  have hc1 : (0 : Int) ≤ (K : Int) ∧ (K : Int) ≤ (l.length : Int) := by omega
  have hcr : (if (K : Int) = (l.length : Int) then some (S.one (V.row []), ([] : Hp)) else some (S.one (V.row (List.drop K (l.map eT))), [])) = some (.one (.row ((l.drop K).map eT)), []) := by
    have := cut_row (l.map eT) K (by rw [List.length_map]; exact hK)
    rw [List.length_map] at this
    rw [this, List.map_drop]
  have hmn : (if (8 : Int) < ((l.drop K).length : Int) then (8 : Int) else ((l.drop K).length : Int)) = ((min 8 (l.drop K).length : Nat) : Int) := by split <;> omega
  have hc2 : (0 : Int) ≤ ((min 8 (l.drop K).length : Nat) : Int) ∧ ((min 8 (l.drop K).length : Nat) : Int) ≤ ((l.drop K).length : Int) := by omega
  have htk : (l.drop K).take 8 = (l.drop K).take (min 8 (l.drop K).length) := by
    rw [Nat.min_def]
    split
    · rfl
    · rw [List.take_of_length_le (by omega), List.take_length]
  rw [htk]
  generalize hm : l.drop K = m at *
  generalize hT : min 8 m.length = T at *
  have hT8 : T ≤ m.length := by omega
  have hct : (if (0 : Int) = (T : Int) then some (S.one (V.row []), ([] : Hp)) else some (S.one (V.row (List.take T (m.map eT))), [])) = some (.one (.row ((m.take T).map eT)), []) := by
    split
    · rename_i h
      obtain rfl : T = 0 := by omega
      rfl
    · rw [List.map_take]
  have hcl := fun d => AA.e34 N d (m.take T) (by rw [List.length_take]; omega)
  have hz : (0 : Int) ≤ 0 := Int.le_refl _
  rw [t18, F_ev rfl]
  by_cases g : from_ < F
  · rw [if_pos g]
    simp only [h1, hn1, hn2, w1, w2, w3, hF, hmx, hc1.1, hc1.2, hcr, hmn, hc2.1, hc2.2, hct, hcl, hz, decide_eq_true g, takeT, allT, List.length_map, Int.toNat_natCast, j18, b18, q18, qq, ww, List.replicate, Nat.reduceBEq, Nat.reduceAdd, Nat.reduceMul, Nat.reduceDiv, Nat.reduceEqDiff, Nat.reduceLeDiff, Nat.reduceLT, Int.reduceEq, Int.reduceNe, Int.reduceLT, Int.reduceLE, Int.reduceAdd, Int.reduceSub, Int.reduceMul, Int.reduceNeg, Int.reduceToNat, Int.reducePow, Nat.reducePow, reduceCtorEq, reduceIte, if_true, if_false]
    try rfl
  · rw [if_neg g]
    simp only [h1, hn1, hn2, w1, w2, w3, hF, hmx, hc1.1, hc1.2, hcr, hmn, hc2.1, hc2.2, hct, hcl, hz, decide_eq_false g, takeT, allT, List.length_map, Int.toNat_natCast, j18, b18, q18, qq, ww, List.replicate, Nat.reduceBEq, Nat.reduceAdd, Nat.reduceMul, Nat.reduceDiv, Nat.reduceEqDiff, Nat.reduceLeDiff, Nat.reduceLT, Int.reduceEq, Int.reduceNe, Int.reduceLT, Int.reduceLE, Int.reduceAdd, Int.reduceSub, Int.reduceMul, Int.reduceNeg, Int.reduceToNat, Int.reducePow, Nat.reducePow, reduceCtorEq, reduceIte, if_true, if_false]
    try rfl
end Go.Proofs.YtkfcbpbnoeaheaaDoor.FA
namespace Go.Proofs.YtkfcbpbnoeaheaaDoor.FA
open Go Go.Proofs.YtkfcbpbnoeaheaaDoorR Go.Proofs.YtkfcbpbnoeaheaaDoor.IF
open Go.Proofs.YtkfcbpbnoeaheaaDoor.QA (Ev eE aE rE inB epOK evOK qOK putE n01 gapE lastK)
open Go.Proofs.YtkfcbpbnoeaheaaDoor.AA (It eT aT rT ahOK addA addR leftL wi wm takeT allT take_s hR pre cP risB fitsB left_s ins)
open Go.Proofs.YtkfcbpbnoeaheaaDoor.EC (Cf eC okC confC)
set_option maxRecDepth 100000
theorem foldK_w {c : Cf} {sub : Bool} {M : Int} : ∀ {l : List It} {s : Sm} {q : List Ev} {on : List It}, (foldK c sub l s q on).1.w = s.w + l.length ∧ (s.kn ≤ M → s.w + l.length ≤ M → (foldK c sub l s q on).1.kn ≤ M)
  | [], s, q, on => ⟨by simp [foldK], fun h _ => h⟩
  | x :: r, s, q, on => by
    obtain ⟨h1, h2⟩ := foldK_w (c := c) (sub := sub) (M := M) (l := r) (s := oneS c s x.v) (q := oneQ c s sub q x.v) (on := on ++ [⟨s.w, x.v⟩])
    rw [foldK]
    refine ⟨?_, fun h3 h4 => ?_⟩
    · rw [h1]
      show s.w + 1 + (r.length : Int) = s.w + ((r.length + 1 : Nat) : Int)
      omega
    · have h4 : s.w + ((r.length + 1 : Nat) : Int) ≤ M := h4
      refine h2 ?_ ?_
      · show (if s.w + 1 > s.kn then s.w + 1 else s.kn) ≤ M
        split <;> omega
      · show s.w + 1 + (r.length : Int) ≤ M
        omega
theorem moreK_w {c : Cf} {sub : Bool} {M : Int} {s : Sm} {q : List Ev} {on : List It} (h : s.kn ≤ M) : (moreK c sub s q on).1.w ≤ M → (moreK c sub s q on).1.kn ≤ M := by
  obtain ⟨h1, h2⟩ := foldK_w (c := c) (sub := sub) (M := M) (l := (leftL s.w s.ah).take (cut s)) (s := s) (q := q) (on := on)
  intro hw
  have hw : (foldK c sub ((leftL s.w s.ah).take (cut s)) s q on).1.w ≤ M := hw
  rw [h1] at hw
  exact h2 h hw
theorem itemG_kn {c : Cf} {s : Sm} {sub : Bool} {q : List Ev} {x : It} {M : Int} (h1 : s.kn ≤ M) (h2 : x.s < M) : (itemG c s sub q false x).1.w ≤ M → (itemG c s sub q false x).1.kn ≤ M := by
  unfold itemG
  split
  · exact fun _ => h1
  · split
    · rename_i g
      refine moreK_w ?_
      show (if s.w + 1 > s.kn then s.w + 1 else s.kn) ≤ M
      split <;> omega
    · intro _
      show (if x.s + 1 > s.kn then x.s + 1 else s.kn) ≤ M
      split <;> omega
theorem goneG_kn {c : Cf} {s : Sm} {sub : Bool} {q : List Ev} {a f t M : Int} (h1 : s.kn ≤ M) (h2 : t < M) : (goneG c s sub q a f t).1.w ≤ M → (goneG c s sub q a f t).1.kn ≤ M := by
  unfold goneG
  split
  · refine moreK_w ?_
    show (if t + 1 > s.kn then t + 1 else s.kn) ≤ M
    split <;> omega
  · exact fun _ => h1
/-- What is handed on ends below a bound, if all that may be does. -/
theorem seqP_lt {Q : Int → Int → Prop} {M : Int} {L : List It} {a b : Int} (h : seqP (fun s v => Q s v ∧ s < M) a L b) (ha : a ≤ M) : b ≤ M := by
  obtain ⟨h1, h2⟩ := seqP_t h
  by_cases hl : L.length = 0
  · omega
  · have := (h2 (L.length - 1) (by omega)).2.2
    omega
theorem kRow_get : ∀ {l : List It} {s : Int}, kRow s l = true → ∀ (j : Nat) (h : j < l.length), l[j].s = s + j
  | [], _, _, j, h => by simp at h
  | x :: r, s, hk, j, h => by
    simp only [kRow, Bool.and_eq_true, decide_eq_true_eq] at hk
    cases j with
    | zero => show x.s = s + 0; omega
    | succ j =>
      have hj : j < r.length := by simpa using h
      have := kRow_get hk.2 j hj
      show (r[j]'hj).s = _
      omega
/-- What is kept from a number on: in a row. -/
theorem again_t {l : List It} {want lim from_ : Int} (hk : kpOK l want lim = true) (hf : 1 ≤ from_ ∧ from_ < want) :
    (∀ (j : Nat) (h : j < (againL l want from_).length), (againL l want from_)[j].s = (if from_ < want - l.length then want - l.length else from_) + j ∧ (againL l want from_)[j].s < want ∧ (againL l want from_)[j] ∈ l) ∧
      (againN l want from_ = 0 ∧ want - l.length ≤ from_ ∧ 0 < (againL l want from_).length ∨ from_ ≤ againN l want from_ ∧ 0 < againN l want from_ ∧ againN l want from_ < want ∧ from_ < want - l.length) ∧ (againL l want from_).length ≤ 8 := by
  have hr : kRow (want - l.length) l = true := by simp [kpOK] at hk; exact hk.2
  have hg := kRow_get hr
  have hlen : (againL l want from_).length = min 8 (l.length - (from_ - (want - l.length)).toNat) := by simp [againL]
  refine ⟨fun j h => ?_, ?_, by rw [hlen]; omega⟩
  · rw [hlen] at h
    have h1 : (from_ - (want - (l.length : Int))).toNat + j < l.length := by omega
    have h2 : (againL l want from_)[j]'(by rw [hlen]; exact h) = l[(from_ - (want - l.length)).toNat + j] := by simp [againL]
    rw [h2]
    have h3 := hg _ h1
    refine ⟨?_, by omega, List.getElem_mem _⟩
    rw [h3]
    split <;> omega
  · unfold againN
    by_cases h : from_ < want - (l.length : Int)
    · rw [if_pos h]
      exact .inr ⟨by omega, by omega, by omega, h⟩
    · rw [if_neg h, hlen]
      exact .inl ⟨rfl, by omega, by omega⟩
/-- The wanted item, where nothing came ahead. -/
theorem item_next {c : Cf} {s : Sm} {x : It} (h0 : flowC c s [] = 0) (he : epOK s.e = true) (hx : inB x.s 1 1073741823 = true) (hv : inB x.v 0 2147483647 = true) (hw : x.s = s.w) (ha : s.ah = []) :
    itemG c s false [] false x = (⟨s.e, s.w + 1, if s.w + 1 > s.kn then s.w + 1 else s.kn, pushL s.kp s.w c.p x.v, []⟩, [], [⟨s.w, x.v⟩]) := by
  obtain ⟨k1, k2, k3⟩ := flow_t h0
  obtain ⟨r1, r2, r3⟩ := right_e k2 he
  have k6 : 1 ≤ x.s ∧ x.s ≤ 1073741823 := by simpa [inB] using hx
  unfold itemG
  rw [if_neg (by simp; omega), if_pos hw, one_more r1 hv (by omega) (by rw [ha]; simp), ha]
  rfl
theorem push_mem {l : List It} {w lim v : Int} {y : It} (h : y ∈ pushL l w lim v) : y ∈ l ∨ y = ⟨w, v⟩ := by
  have := List.mem_of_mem_drop h
  simpa using this
end Go.Proofs.YtkfcbpbnoeaheaaDoor.FA
