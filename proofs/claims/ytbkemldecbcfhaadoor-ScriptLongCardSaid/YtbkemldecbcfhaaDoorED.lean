import Derived.Test.YtbkemldecbcfhaaDoorEC
set_option linter.unusedSimpArgs false
set_option linter.unusedVariables false
namespace Go.Proofs.YtbkemldecbcfhaaDoor.EC
open Go Go.Proofs.YtbkemldecbcfhaaDoorR Go.Proofs.YtbkemldecbcfhaaDoor.IS Go.Proofs.YtbkemldecbcfhaaDoor.EA
set_option maxRecDepth 100000
set_option maxHeartbeats 4000000
/-- A config, a step. -/
structure Cf where
  (n t k d p w q : Int)
structure Sp where
  (k n t v m : Int)
abbrev eC (c : Cf) : List V := [.int .i64 c.n, .int .i64 c.t, .int .i64 c.k, .int .i64 c.d, .int .i64 c.p, .int .i64 c.w, .int .i64 c.q]
abbrev eP (s : Sp) : List V := [.int .i64 s.k, .int .i64 s.n, .int .i64 s.t, .int .i64 s.v, .int .i64 s.m]
theorem oV_live (o : Ow) : V.live (oV o) = true := by rcases o with _ | ⟨s, e⟩ <;> rfl
theorem oV_ment (o : Ow) : V.ment (oV o) = none := by rcases o with _ | ⟨s, e⟩ <;> rfl
theorem jo_ment (os : List Ow) : V.ment (joinV os) = none := by
  unfold joinV
  split <;> rfl
theorem oV_pur (o : Ow) (h : Nat → Option Blk) : V.pur h (oV o) = some (oV o) := by rcases o with _ | ⟨s, e⟩ <;> rfl
theorem oV_pur1 (o : Ow) (h : Nat → Option Blk) : V.pur1 h (oV o) = some (oV o) := by rcases o with _ | ⟨s, e⟩ <;> rfl
theorem jo_pur (os : List Ow) (h : Nat → Option Blk) : V.pur h (joinV os) = some (joinV os) := by
  unfold joinV
  split <;> rfl
theorem jo_hand (os : List Ow) (h : Nat → Option Blk) (m k : Nat) (u : List Nat) : handS h m u k (.one (joinV os)) = some (.one (joinV os), u, k + 1, []) := by
  unfold joinV
  split
  · rfl
  · cases u <;> rfl
theorem oV_hand (o : Ow) (h : Nat → Option Blk) (m k : Nat) (u : List Nat) : handS h m u k (.one (oV o)) = some (.one (oV o), u, k + 1, []) := by rcases o with _ | ⟨s, e⟩ <;> rfl
theorem jo_live (os : List Ow) : V.live (joinV os) = true := by
  unfold joinV
  split <;> rfl
theorem whys_w : ∀ ws : List (ByteArray × Int), whys (wR ws) = some (ws.map (·.2))
  | [] => rfl
  | p :: r => by
    have := whys_w r
    simp only [wR] at this
    simp [wR, whys, why1, this]
/-- What errno makes of wrong ones. -/
def errW : List (ByteArray × Int) → Int
  | [] => 0
  | p :: r => if ((p :: r).map (·.2)).any (fun x => decide (x = 9)) then 9 else p.2
theorem errno_j (os : List Ow) (h : os.length < 1000) : XE.errnoM [.one (joinV os)] = some (iV (errW (oks os)), []) := by
  have hle := oks_le os
  unfold joinV
  by_cases h0 : (oks os).length = 0
  · rw [if_pos h0, List.eq_nil_of_length_eq_zero h0]; rfl
  · rw [if_neg h0]
    cases hq : oks os with
    | nil => rw [hq] at h0; exact absurd rfl h0
    | cons p r =>
      rw [hq] at hle
      simp only [List.length_cons] at hle
      have hw := whys_w (p :: r)
      rw [List.map_cons] at hw
      simp only [XE.errnoM, hw, List.length_map]
      rw [if_pos (by omega)]
      rfl
theorem errno_o (o : Ow) : XE.errnoM [.one (oV o)] = some (iV (match o with | none => 0 | some p => p.2), []) := by rcases o with _ | ⟨s, e⟩ <;> rfl
abbrev fl (s : ByteArray) (n lo hi e : Int) : Ow := if lo ≤ n ∧ n ≤ hi then none else some (s, e)
abbrev cfl (c : Cf) : List Ow := [fl ⟨#[110, 111, 100, 101, 115]⟩ c.n 1 8 13, fl ⟨#[116, 111, 112, 105, 99, 115]⟩ c.t 1 4 13, fl ⟨#[107, 105, 100, 115]⟩ c.k 1 4 13, fl ⟨#[100, 101, 112, 116, 104]⟩ c.d 1 8 13, fl ⟨#[107, 101, 101, 112]⟩ c.p 1 16 13, fl ⟨#[119, 105, 110, 100, 111, 119]⟩ c.w 1 16 13, fl ⟨#[113, 117, 101, 117, 101]⟩ c.q 2 32 13]
theorem e24 (N d : Nat) (c : Cf) (hN : 7 < N) : TT N (d + 2) 24 [.agg (eC c)] = some (.one (joinV (cfl c)), []) := by
  have h30 := fun d s n lo hi e => e30 N d s n lo hi e
  have h29 : ∀ d, TT N (d + 1) 29 [.one (.row [[oV (fl ⟨#[110, 111, 100, 101, 115]⟩ c.n 1 8 13)], [oV (fl ⟨#[116, 111, 112, 105, 99, 115]⟩ c.t 1 4 13)], [oV (fl ⟨#[107, 105, 100, 115]⟩ c.k 1 4 13)], [oV (fl ⟨#[100, 101, 112, 116, 104]⟩ c.d 1 8 13)], [oV (fl ⟨#[107, 101, 101, 112]⟩ c.p 1 16 13)], [oV (fl ⟨#[119, 105, 110, 100, 111, 119]⟩ c.w 1 16 13)], [oV (fl ⟨#[113, 117, 101, 117, 101]⟩ c.q 2 32 13)]])] = some (.one (joinV (cfl c)), []) := fun d => e29 N d (cfl c) (by simpa using hN) (by simp)
  rw [t24, F_ev rfl]
  simp only [h30, h29, ↓oV_pur, ↓oV_pur1, ↓jo_pur, ↓oV_live, ↓oV_ment, ↓jo_hand, ↓oV_hand, ↓jo_live, ↓jo_ment, j24, b24, q24, qq, oo3, go_mkp, go_stp, ments, V.ment, List.isEmpty_nil, oo, pp, lives, V.live, purS, S.pur, V.pur, V.pur1, purs, pur1s, mentS, S.ment, S.ment.smt, ments, V.ment, List.append_nil, Hp.ok64, List.all_nil, List.all_cons, S.purT, S.purT.sp, S.self, V.self, selfs, S.self.sself, Hp.self, S.ren, S.ren.sren, V.ren, Hp.ren, true_or, or_true, false_or, or_false, Bool.and_true, Bool.true_and, Bool.and_false, Bool.false_and, Bool.and_self, hand, handSs, handS, handVs, handV, handBs, upTo, one1, List.contains_nil, List.isEmpty_nil, List.take_length, List.getElem?_cons_zero, List.getElem?_cons_succ, fillV, fillR, setAt, List.set_cons_zero, List.set_cons_succ, List.replicate, evE, asRow, callS, callT, callU, names, dedup, blkMents, Blk.mentB, idxOf, V.mapS, S.mapS, S.mapS.smapS, Blk.mapS, encs, encB, isBox, backN, hpBack, killsV, killsS, killsS.ks, killsB, rowsOf, without, keysOk, noTup, boxesOk, fresh, Option.isNone_none, Blk.ren, aloOk, aloV, aloB, frzL, freezes, Go.Proofs.YtbkemldecbcfhaaDoorR.freeze, drop1, S.frz, S.frz.sf, V.frz, Blk.frz, slMent, pickL, List.map_append, S.kill, S.kill.sk, V.kill, Blk.kill, eqvs, ones, Bool.not_true, Bool.not_false, decide_true, decide_false, List.length_append, Int.le_refl, Int.toNat_natCast, Int.toNat_one, Int.cast_ofNat_Int, List.all_nil, List.contains_cons, Nat.reduceBEq, Bool.false_or, Bool.or_false, Bool.true_or, Bool.or_true, look_hit, look_end, look_miss, List.map_cons, List.map_nil, List.cons_append, List.nil_append, Option.getD_some, Option.getD_none, X.ev, ev, bin, ibin, Option.map_some, Option.map_none, Option.bind_some, S.cells, rd, sub, Go.Proofs.YtbkemldecbcfhaaDoorR.shape, asI, bnd, evs, Rs.ev, R.ev, params, okKey, Nat.reduceAdd, Nat.reduceMul, Nat.reduceDiv, Nat.reduceEqDiff, Nat.reduceLeDiff, Nat.reduceLT, Int.reduceEq, Int.reduceNe, Int.reduceLT, Int.reduceLE, Int.reduceAdd, Int.reduceSub, Int.reduceMul, Int.reduceNeg, Int.reduceToNat, Int.reducePow, Nat.reducePow, Int.toNat_zero, not_false_eq_true, not_true_eq_false, reduceCtorEq, Nat.zero_add, Nat.add_zero, reduceIte, if_true, if_false, Bool.true_eq_false, Bool.false_eq_true, List.length_cons, List.length_nil, and_self, true_and, and_true, List.drop_zero, List.take_succ_cons, List.take_zero, List.drop_succ_cons, Nat.le_refl]
/-- In bounds. -/
def okC (c : Cf) : Bool := decide ((1 ≤ c.n ∧ c.n ≤ 8) ∧ (1 ≤ c.t ∧ c.t ≤ 4) ∧ (1 ≤ c.k ∧ c.k ≤ 4) ∧ (1 ≤ c.d ∧ c.d ≤ 8) ∧ (1 ≤ c.p ∧ c.p ≤ 16) ∧ (1 ≤ c.w ∧ c.w ≤ 16) ∧ (2 ≤ c.q ∧ c.q ≤ 32))
theorem errW_13 : ∀ ws : List (ByteArray × Int), (∀ p ∈ ws, p.2 = 13) → errW ws = if ws = [] then 0 else 13
  | [], _ => rfl
  | p :: r, h => by
    have h1 : ((p :: r).map (·.2)).any (fun x => decide (x = 9)) = false := by
      rw [List.any_eq_false]
      intro x hx
      obtain ⟨q, hq, rfl⟩ := List.mem_map.1 hx
      simp [h q hq]
    rw [errW, h1, if_neg (by decide), if_neg (by simp)]
    exact h p (by simp)
theorem errW_c (c : Cf) : errW (oks (cfl c)) = if okC c then 0 else 13 := by
  rw [errW_13]
  · congr 1
    apply propext
    simp only [okC, oks, decide_eq_true_eq, List.filterMap_eq_nil_iff]
    constructor
    · intro h
      refine ⟨?_, ?_, ?_, ?_, ?_, ?_, ?_⟩
      all_goals (apply Decidable.byContradiction; intro hc)
      · have := h (fl ⟨#[110, 111, 100, 101, 115]⟩ c.n 1 8 13) (by simp); rw [fl, if_neg hc] at this; cases this
      · have := h (fl ⟨#[116, 111, 112, 105, 99, 115]⟩ c.t 1 4 13) (by simp); rw [fl, if_neg hc] at this; cases this
      · have := h (fl ⟨#[107, 105, 100, 115]⟩ c.k 1 4 13) (by simp); rw [fl, if_neg hc] at this; cases this
      · have := h (fl ⟨#[100, 101, 112, 116, 104]⟩ c.d 1 8 13) (by simp); rw [fl, if_neg hc] at this; cases this
      · have := h (fl ⟨#[107, 101, 101, 112]⟩ c.p 1 16 13) (by simp); rw [fl, if_neg hc] at this; cases this
      · have := h (fl ⟨#[119, 105, 110, 100, 111, 119]⟩ c.w 1 16 13) (by simp); rw [fl, if_neg hc] at this; cases this
      · have := h (fl ⟨#[113, 117, 101, 117, 101]⟩ c.q 2 32 13) (by simp); rw [fl, if_neg hc] at this; cases this
    · rintro ⟨h1, h2, h3, h4, h5, h6, h7⟩ o ho
      simp only [fl, if_pos h1, if_pos h2, if_pos h3, if_pos h4, if_pos h5, if_pos h6, if_pos h7, List.mem_cons, List.not_mem_nil, or_false, or_self] at ho
      subst ho
      rfl
  · intro p hp
    simp only [oks, List.mem_filterMap, id] at hp
    obtain ⟨o, ho, rfl⟩ := hp
    simp only [List.mem_cons, List.not_mem_nil, or_false, fl] at ho
    rcases ho with h | h | h | h | h | h | h <;> split at h <;> first | (cases h; rfl) | cases h
theorem e11 (N d : Nat) (c : Cf) (hN : 7 < N) : TT N (d + 3) 11 [.agg (eC c)] = some (iV (if okC c then 0 else 13), []) := by
  have h24 := fun d => e24 N d c hN
  have h23 : ∀ d, TT N (d + 1) 23 [.one (joinV (cfl c))] = some (iV (if okC c then 0 else 13), []) := fun d => by
    rw [t23, errno_j _ (by simp), errW_c]
  rw [t11, F_ev rfl]
  simp only [h24, h23, ↓jo_pur, ↓jo_hand, ↓oV_hand, ↓jo_live, ↓jo_ment, j11, b11, q11, qq, oo3, go_mkp, go_stp, ments, V.ment, List.isEmpty_nil, oo, pp, lives, V.live, purS, S.pur, V.pur, V.pur1, purs, pur1s, mentS, S.ment, S.ment.smt, ments, V.ment, List.append_nil, Hp.ok64, List.all_nil, List.all_cons, S.purT, S.purT.sp, S.self, V.self, selfs, S.self.sself, Hp.self, S.ren, S.ren.sren, V.ren, Hp.ren, true_or, or_true, false_or, or_false, Bool.and_true, Bool.true_and, Bool.and_false, Bool.false_and, Bool.and_self, hand, handSs, handS, handVs, handV, handBs, upTo, one1, List.contains_nil, List.isEmpty_nil, List.take_length, List.getElem?_cons_zero, List.getElem?_cons_succ, fillV, fillR, setAt, List.set_cons_zero, List.set_cons_succ, List.replicate, evE, asRow, callS, callT, callU, names, dedup, blkMents, Blk.mentB, idxOf, V.mapS, S.mapS, S.mapS.smapS, Blk.mapS, encs, encB, isBox, backN, hpBack, killsV, killsS, killsS.ks, killsB, rowsOf, without, keysOk, noTup, boxesOk, fresh, Option.isNone_none, Blk.ren, aloOk, aloV, aloB, frzL, freezes, Go.Proofs.YtbkemldecbcfhaaDoorR.freeze, drop1, S.frz, S.frz.sf, V.frz, Blk.frz, slMent, pickL, List.map_append, S.kill, S.kill.sk, V.kill, Blk.kill, eqvs, ones, Bool.not_true, Bool.not_false, decide_true, decide_false, List.length_append, Int.le_refl, Int.toNat_natCast, Int.toNat_one, Int.cast_ofNat_Int, List.all_nil, List.contains_cons, Nat.reduceBEq, Bool.false_or, Bool.or_false, Bool.true_or, Bool.or_true, look_hit, look_end, look_miss, List.map_cons, List.map_nil, List.cons_append, List.nil_append, Option.getD_some, Option.getD_none, X.ev, ev, bin, ibin, Option.map_some, Option.map_none, Option.bind_some, S.cells, rd, sub, Go.Proofs.YtbkemldecbcfhaaDoorR.shape, asI, bnd, evs, Rs.ev, R.ev, params, okKey, Nat.reduceAdd, Nat.reduceMul, Nat.reduceDiv, Nat.reduceEqDiff, Nat.reduceLeDiff, Nat.reduceLT, Int.reduceEq, Int.reduceNe, Int.reduceLT, Int.reduceLE, Int.reduceAdd, Int.reduceSub, Int.reduceMul, Int.reduceNeg, Int.reduceToNat, Int.reducePow, Nat.reducePow, Int.toNat_zero, not_false_eq_true, not_true_eq_false, reduceCtorEq, Nat.zero_add, Nat.add_zero, reduceIte, if_true, if_false, Bool.true_eq_false, Bool.false_eq_true, List.length_cons, List.length_nil, and_self, true_and, and_true, List.drop_zero, List.take_succ_cons, List.take_zero, List.drop_succ_cons, Nat.le_refl]
theorem w0 : TT 1000 12 18 [] = some (bV true, []) := by kernel_rfl
end Go.Proofs.YtbkemldecbcfhaaDoor.EC
