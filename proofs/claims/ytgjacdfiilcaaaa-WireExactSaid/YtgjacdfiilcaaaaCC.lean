import Derived.Test.YtgjacdfiilcaaaaCB
set_option linter.unusedSimpArgs false
set_option linter.unusedVariables false
namespace Go.Proofs.Ytgjacdfiilcaaaa.CA
open Go Go.Proofs.YtgjacdfiilcaaaaR Go.Proofs.Ytgjacdfiilcaaaa.IW Go.Proofs.Ytgjacdfiilcaaaa.CZ
set_option maxRecDepth 100000
set_option maxHeartbeats 4000000
/-- A number below m out of any. -/
theorem um (n m : Int) (h : 0 < m ∧ m < 100000) : ∃ a : Nat, IntKind.i64.wrap ((IntKind.u64.wrap n).tmod m) = (a : Int) ∧ (a : Int) < m := by
  have h0 : 0 ≤ IntKind.u64.wrap n := by simp only [IntKind.wrap, IntKind.bits, IntKind.signed]; simp; omega
  have h1 : (IntKind.u64.wrap n).tmod m = (IntKind.u64.wrap n) % m := Int.tmod_eq_emod_of_nonneg h0
  have h2 : 0 ≤ (IntKind.u64.wrap n) % m := Int.emod_nonneg _ (by omega)
  have h3 : (IntKind.u64.wrap n) % m < m := Int.emod_lt_of_pos _ (by omega)
  refine ⟨((IntKind.u64.wrap n) % m).toNat, ?_, by omega⟩
  rw [h1, IntWalk.i64_in _ (by omega)]
  omega
abbrev bx (c x : Int) : Int := bits .xor .u8 c x
theorem bx_n {c x : Int} (hc : 0 ≤ c ∧ c ≤ 255) (hx : 0 ≤ x ∧ x ≤ 255) : bx c x = ((c.toNat ^^^ x.toNat : Nat) : Int) := u8_xor c x hc.1 (by omega) hx.1 (by omega)
theorem bx_b {c x : Int} (hc : 0 ≤ c ∧ c ≤ 255) (hx : 0 ≤ x ∧ x ≤ 255) : 0 ≤ bx c x ∧ bx c x ≤ 255 := by
  rw [bx_n hc hx]
  have := xor_256 (a := c.toNat) (b := x.toNat) (by omega) (by omega)
  omega
theorem bx_0 {c x : Int} (hc : 0 ≤ c ∧ c ≤ 255) (hx : 0 ≤ x ∧ x ≤ 255) (h : c = bx c x) : x = 0 := by
  rw [bx_n hc hx] at h
  have h1 : c.toNat ^^^ 0 = c.toNat ^^^ x.toNat := by rw [Nat.xor_zero]; omega
  have := congrArg (fun z => c.toNat ^^^ z) h1
  simp only [← Nat.xor_assoc, Nat.xor_self, Nat.zero_xor] at this
  omega
theorem bx_z {c : Int} (hc : 0 ≤ c ∧ c ≤ 255) : bx c 0 = c := by
  rw [bx_n hc (by omega)]
  simp
  omega
def mid (a b c d x y z w : Int) : Nat → List Int
  | 0 => [a, b, c, d]
  | 1 => [bx a x, b, c, d]
  | 2 => [bx a x, bx b y, c, d]
  | 3 => [bx a x, bx b y, bx c z, d]
  | _ => [bx a x, bx b y, bx c z, bx d w]
abbrev nz (x : Int) : Bool := !decide (x = 0)
def chg (x y z w : Int) : Nat → Bool
  | 0 => false
  | 1 => nz x
  | 2 => nz x || nz y
  | 3 => nz x || nz y || nz z
  | _ => nz x || nz y || nz z || nz w
/-- A row of three parts. -/
def R3 (pre m post : List Int) : List (List V) := (pre ++ m ++ post).map eU
theorem R3_get (pre m post : List Int) (i : Nat) : (R3 pre m post)[pre.length + i]? = ((m ++ post).map eU)[i]? := by
  unfold R3
  rw [List.append_assoc, List.map_append, List.getElem?_append_right (by simp)]
  simp
theorem R3_set (pre m post : List Int) (i : Nat) (y : Int) (h : i < m.length) : (R3 pre m post).set (pre.length + i) (eU y) = R3 pre (m.set i y) post := by
  unfold R3
  rw [List.append_assoc, List.map_append, List.map_append, List.set_append_right _ _ (by simp), List.set_append_left _ _ (by simp; omega)]
  simp
theorem cut4 (s : List Int) (p : Nat) (h : p + 4 ≤ s.length) : ∃ pre a b c d post, pre.length = p ∧ s = pre ++ [a, b, c, d] ++ post := by
  refine ⟨s.take p, s[p], s[p + 1], s[p + 2], s[p + 3], s.drop (p + 4), by simp; omega, ?_⟩
  have h1 : s.drop p = s[p] :: s[p + 1] :: s[p + 2] :: s[p + 3] :: s.drop (p + 4) := by
    rw [List.drop_eq_getElem_cons (by omega), List.drop_eq_getElem_cons (by omega), List.drop_eq_getElem_cons (by omega), List.drop_eq_getElem_cons (by omega)]
  rw [List.append_assoc]
  show s = s.take p ++ (s[p] :: s[p + 1] :: s[p + 2] :: s[p + 3] :: s.drop (p + 4))
  rw [← h1, List.take_append_drop]
theorem e3 (b : List Int) (at_ x y z w : Int) (hb : Bs b) (hx : Bs [x, y, z, w]) : TT 1000 9 3 [.one (rU b), iV at_, .agg [.int .u8 x, .int .u8 y, .int .u8 z, .int .u8 w]] = some (bV true, []) := by
  rw [t3, F_ev rfl]
  cases hL : decide ((b.length : Int) > 400) with
  | true => simp only [hL, List.length_map, j3, b3, q3, qq, ww, List.append_nil, List.all_nil, List.all_cons, true_or, or_true, false_or, or_false, List.contains_nil, List.isEmpty_nil, List.take_length, List.getElem?_cons_zero, List.getElem?_cons_succ, List.set_cons_zero, List.set_cons_succ, List.replicate, Option.isNone_none, List.map_append, List.length_append, List.all_nil, List.contains_cons, Nat.reduceBEq, List.map_cons, List.map_nil, List.cons_append, List.nil_append, Option.getD_some, Option.getD_none, Option.map_some, Option.map_none, Option.bind_some, Nat.reduceAdd, Nat.reduceMul, Nat.reduceDiv, Nat.reduceEqDiff, Nat.reduceLeDiff, Nat.reduceLT, Int.reduceEq, Int.reduceNe, Int.reduceLT, Int.reduceLE, Int.reduceAdd, Int.reduceSub, Int.reduceMul, Int.reduceNeg, Int.reduceToNat, Int.reducePow, Nat.reducePow, not_false_eq_true, not_true_eq_false, reduceCtorEq, reduceIte, if_true, if_false, Bool.true_eq_false, Bool.false_eq_true, List.length_cons, List.length_nil, and_self, true_and, and_true, List.drop_zero, List.take_succ_cons, List.take_zero, List.drop_succ_cons]
  | false =>
  have hl : b.length ≤ 400 := by simp at hL; omega
  have h8 := e8 1000 6 b hb (by omega) (by omega) (by omega)
  have hsB := sel_Bs hb
  have h9 := e9 1000 6 (sel b) hsB (by rw [sel_len]; omega) (by omega) (by rw [sel_len]; omega)
  have hop : opn (sel b) = (b, 0) := by
    rw [opn, if_neg (by rw [sel_len]; omega), if_pos (sealed_sel b), sel_len, show b.length + 4 - 4 = b.length by omega, sel, List.take_left' rfl]
  rw [hop] at h9
  have h10 := e10 1000 7 b b (by omega) (by omega)
  rw [show decide (b = b) = true by simp] at h10
  have htk : List.take (b.length + 4) ((sel b).map eU) = (sel b).map eU := List.take_of_length_le (by simp [sel_len])
  have hw4 : IntKind.i64.wrap ((b.length : Int) + 4) = (b.length : Int) + 4 := IntWalk.i64_in _ (by omega)
  have hd4 : decide (((b.length + 4 : Nat) : Int) = (b.length : Int) + 4) = true := by simp
  have hw3 : IntKind.i64.wrap (((b.length + 4 : Nat) : Int) - 3) = (b.length : Int) + 1 := by rw [IntWalk.i64_in _ (by omega)]; omega
  have hwu : IntKind.u64.wrap ((b.length : Int) + 1) = (b.length : Int) + 1 := by simp only [IntKind.wrap, IntKind.bits, IntKind.signed]; simp; omega
  have hne : ¬ ((b.length : Int) + 1) = 0 := by omega
  obtain ⟨p, hp, hp'⟩ := um at_ ((b.length : Int) + 1) (by omega)
  simp only [hL, h8, h9, h10, htk, hw4, hd4, hw3, hwu, hne, hp, sel_len, takeU, allU, selfU, List.length_map, j3, b3, q3, qq, ww, List.append_nil, List.all_nil, List.all_cons, true_or, or_true, false_or, or_false, List.contains_nil, List.isEmpty_nil, List.take_length, List.getElem?_cons_zero, List.getElem?_cons_succ, List.set_cons_zero, List.set_cons_succ, List.replicate, Option.isNone_none, List.map_append, List.length_append, List.all_nil, List.contains_cons, Nat.reduceBEq, List.map_cons, List.map_nil, List.cons_append, List.nil_append, Option.getD_some, Option.getD_none, Option.map_some, Option.map_none, Option.bind_some, Nat.reduceAdd, Nat.reduceMul, Nat.reduceDiv, Nat.reduceEqDiff, Nat.reduceLeDiff, Nat.reduceLT, Int.reduceEq, Int.reduceNe, Int.reduceLT, Int.reduceLE, Int.reduceAdd, Int.reduceSub, Int.reduceMul, Int.reduceNeg, Int.reduceToNat, Int.reducePow, Nat.reducePow, not_false_eq_true, not_true_eq_false, reduceCtorEq, reduceIte, if_true, if_false, Bool.true_eq_false, Bool.false_eq_true, List.length_cons, List.length_nil, and_self, true_and, and_true, List.drop_zero, List.take_succ_cons, List.take_zero, List.drop_succ_cons]
  obtain ⟨pre, c0, c1, c2, c3, post, hpl, hs⟩ := cut4 (sel b) p (by rw [sel_len]; omega)
  have hsl : (pre ++ [c0, c1, c2, c3] ++ post).length = b.length + 4 := by rw [← hs, sel_len]
  have hseal : sealed (pre ++ [c0, c1, c2, c3] ++ post) = true := by rw [← hs]; exact sealed_sel b
  have hB : Bs (pre ++ [c0, c1, c2, c3] ++ post) := by rw [← hs]; exact hsB
  have hopn : opn (pre ++ [c0, c1, c2, c3] ++ post) = (b, 0) := by rw [← hs]; exact hop
  rw [hs]
  clear hs h8 h9 hop htk hw3 hwu hp hsB
  have hq : ∀ q ∈ [c0, c1, c2, c3], 0 ≤ q ∧ q ≤ 255 := Bs_r (Bs_l hB)
  have hx' : ∀ q ∈ [x, y, z, w], 0 ≤ q ∧ q ≤ 255 := hx
  simp only [List.mem_cons, List.not_mem_nil, or_false, forall_eq_or_imp, forall_eq] at hq hx'
  have hml : ∀ i, (mid c0 c1 c2 c3 x y z w i).length = 4 := by
    intro i
    match i with
    | 0 | 1 | 2 | 3 | (_ + 4) => rfl
  have hmB : Bs (mid c0 c1 c2 c3 x y z w 4) := by
    intro q hq4
    simp only [mid, List.mem_cons, List.not_mem_nil, or_false] at hq4
    rcases hq4 with rfl | rfl | rfl | rfl
    · exact bx_b hq.1 hx'.1
    · exact bx_b hq.2.1 hx'.2.1
    · exact bx_b hq.2.2.1 hx'.2.2.1
    · exact bx_b hq.2.2.2 hx'.2.2.2
  refine loopK (K := fun o => fin _ (aft _ _ _ o)) (fun i => ⟨[(1, iV p), (5, .one (.ref 320 0 0)), (7, .one (.sl 1152 0 (b.length + 4))), (10, bV (chg x y z w i)), (11, iV i)], [(320, .box [.int .u8 x, .int .u8 y, .int .u8 z, .int .u8 w]), (1152, .rows 5 1 (R3 pre (mid c0 c1 c2 c3 x y z w i) post))]⟩) (fun i => some (bV true, [])) 4 ?hr 4 0 1000 _ (by omega) (by omega) ?hk
  case hk => simp only [gcK, lowB, Nat.reduceLeDiff, Nat.reduceBEq, List.contains_nil, List.contains_cons, Bool.or_false, Bool.false_or, Bool.false_eq_true, if_false, Bool.true_and, Bool.and_true, pickL, look_hit, look_miss, look_end, slMent, hpMent, S.ment, S.ment.smt, ments, V.ment, List.append_nil, List.nil_append, List.cons_append, List.all_nil, List.all_cons, Option.isSome_some, Bool.and_self, if_true, reduceIte, Nat.reduceEqDiff, not_false_eq_true, reduceCtorEq, Nat.reduceMul, Nat.reduceAdd]; rfl
  case hr =>
    intro i n hi ih
    (try dsimp only)
    match i, hi with
    | 0, _ =>
      have hwp : IntKind.i64.wrap ((p : Int) + 0) = ((pre.length : Nat) : Int) := by rw [IntWalk.i64_in _ (by omega)]; omega
      have hg : (R3 pre (mid c0 c1 c2 c3 x y z w 0) post)[pre.length]? = some [.int .u8 c0] := R3_get pre (mid c0 c1 c2 c3 x y z w 0) post 0
      have hst : (R3 pre (mid c0 c1 c2 c3 x y z w 0) post).set (pre.length) [.int .u8 (bits .xor .u8 c0 x)] = R3 pre (mid c0 c1 c2 c3 x y z w 1) post := R3_set pre (mid c0 c1 c2 c3 x y z w 0) post 0 _ (by simp [mid])
      have hb0 : 0 ≤ ((pre.length : Nat) : Int) := by omega
      have hb1 : ((pre.length : Nat) : Int) < ((b.length + 4 : Nat) : Int) := by omega
      have hc1 : chg x y z w 1 = (chg x y z w 0 || !decide (x = 0)) := (Bool.false_or _).symm
      cases hc : chg x y z w 0 <;> cases hd : decide (x = 0) <;>
      · simp only [hwp, hb0, hb1, hg, hst, hc, hd, Int.toNat_natCast, Nat.zero_add, List.set_cons_zero, j3, b3, q3, qq, ww, List.append_nil, List.all_nil, List.all_cons, true_or, or_true, false_or, or_false, List.contains_nil, List.isEmpty_nil, List.take_length, List.getElem?_cons_zero, List.getElem?_cons_succ, List.set_cons_zero, List.set_cons_succ, List.replicate, Option.isNone_none, List.map_append, List.length_append, List.all_nil, List.contains_cons, Nat.reduceBEq, List.map_cons, List.map_nil, List.cons_append, List.nil_append, Option.getD_some, Option.getD_none, Option.map_some, Option.map_none, Option.bind_some, Nat.reduceAdd, Nat.reduceMul, Nat.reduceDiv, Nat.reduceEqDiff, Nat.reduceLeDiff, Nat.reduceLT, Int.reduceEq, Int.reduceNe, Int.reduceLT, Int.reduceLE, Int.reduceAdd, Int.reduceSub, Int.reduceMul, Int.reduceNeg, Int.reduceToNat, Int.reducePow, Nat.reducePow, not_false_eq_true, not_true_eq_false, reduceCtorEq, reduceIte, if_true, if_false, Bool.true_eq_false, Bool.false_eq_true, List.length_cons, List.length_nil, and_self, true_and, and_true, List.drop_zero, List.take_succ_cons, List.take_zero, List.drop_succ_cons]
        exact ih (by omega) _ (by simp only [hc1, hc, hd, Bool.not_true, Bool.not_false, Bool.or_false, Bool.or_true, Bool.false_or, Bool.true_or, Int.toNat_natCast, Nat.zero_add, gcK, lowB, Nat.reduceLeDiff, Nat.reduceBEq, List.contains_nil, List.contains_cons, Bool.or_false, Bool.false_or, Bool.false_eq_true, if_false, Bool.true_and, Bool.and_true, pickL, look_hit, look_miss, look_end, slMent, hpMent, S.ment, S.ment.smt, ments, V.ment, List.append_nil, List.nil_append, List.cons_append, List.all_nil, List.all_cons, Option.isSome_some, Bool.and_self, if_true, reduceIte, Nat.reduceEqDiff, not_false_eq_true, reduceCtorEq, Nat.reduceMul, Nat.reduceAdd]; try rfl)
    | 1, _ =>
      have hwp : IntKind.i64.wrap ((p : Int) + 1) = ((pre.length + 1 : Nat) : Int) := by rw [IntWalk.i64_in _ (by omega)]; omega
      have hg : (R3 pre (mid c0 c1 c2 c3 x y z w 1) post)[pre.length + 1]? = some [.int .u8 c1] := R3_get pre (mid c0 c1 c2 c3 x y z w 1) post 1
      have hst : (R3 pre (mid c0 c1 c2 c3 x y z w 1) post).set (pre.length + 1) [.int .u8 (bits .xor .u8 c1 y)] = R3 pre (mid c0 c1 c2 c3 x y z w 2) post := R3_set pre (mid c0 c1 c2 c3 x y z w 1) post 1 _ (by simp [mid])
      have hb0 : 0 ≤ ((pre.length + 1 : Nat) : Int) := by omega
      have hb1 : ((pre.length + 1 : Nat) : Int) < ((b.length + 4 : Nat) : Int) := by omega
      have hc1 : chg x y z w 2 = (chg x y z w 1 || !decide (y = 0)) := rfl
      cases hc : chg x y z w 1 <;> cases hd : decide (y = 0) <;>
      · simp only [hwp, hb0, hb1, hg, hst, hc, hd, Int.toNat_natCast, Nat.zero_add, List.set_cons_zero, j3, b3, q3, qq, ww, List.append_nil, List.all_nil, List.all_cons, true_or, or_true, false_or, or_false, List.contains_nil, List.isEmpty_nil, List.take_length, List.getElem?_cons_zero, List.getElem?_cons_succ, List.set_cons_zero, List.set_cons_succ, List.replicate, Option.isNone_none, List.map_append, List.length_append, List.all_nil, List.contains_cons, Nat.reduceBEq, List.map_cons, List.map_nil, List.cons_append, List.nil_append, Option.getD_some, Option.getD_none, Option.map_some, Option.map_none, Option.bind_some, Nat.reduceAdd, Nat.reduceMul, Nat.reduceDiv, Nat.reduceEqDiff, Nat.reduceLeDiff, Nat.reduceLT, Int.reduceEq, Int.reduceNe, Int.reduceLT, Int.reduceLE, Int.reduceAdd, Int.reduceSub, Int.reduceMul, Int.reduceNeg, Int.reduceToNat, Int.reducePow, Nat.reducePow, not_false_eq_true, not_true_eq_false, reduceCtorEq, reduceIte, if_true, if_false, Bool.true_eq_false, Bool.false_eq_true, List.length_cons, List.length_nil, and_self, true_and, and_true, List.drop_zero, List.take_succ_cons, List.take_zero, List.drop_succ_cons]
        exact ih (by omega) _ (by simp only [hc1, hc, hd, Bool.not_true, Bool.not_false, Bool.or_false, Bool.or_true, Bool.false_or, Bool.true_or, Int.toNat_natCast, Nat.zero_add, gcK, lowB, Nat.reduceLeDiff, Nat.reduceBEq, List.contains_nil, List.contains_cons, Bool.or_false, Bool.false_or, Bool.false_eq_true, if_false, Bool.true_and, Bool.and_true, pickL, look_hit, look_miss, look_end, slMent, hpMent, S.ment, S.ment.smt, ments, V.ment, List.append_nil, List.nil_append, List.cons_append, List.all_nil, List.all_cons, Option.isSome_some, Bool.and_self, if_true, reduceIte, Nat.reduceEqDiff, not_false_eq_true, reduceCtorEq, Nat.reduceMul, Nat.reduceAdd]; try rfl)
    | 2, _ =>
      have hwp : IntKind.i64.wrap ((p : Int) + 2) = ((pre.length + 2 : Nat) : Int) := by rw [IntWalk.i64_in _ (by omega)]; omega
      have hg : (R3 pre (mid c0 c1 c2 c3 x y z w 2) post)[pre.length + 2]? = some [.int .u8 c2] := R3_get pre (mid c0 c1 c2 c3 x y z w 2) post 2
      have hst : (R3 pre (mid c0 c1 c2 c3 x y z w 2) post).set (pre.length + 2) [.int .u8 (bits .xor .u8 c2 z)] = R3 pre (mid c0 c1 c2 c3 x y z w 3) post := R3_set pre (mid c0 c1 c2 c3 x y z w 2) post 2 _ (by simp [mid])
      have hb0 : 0 ≤ ((pre.length + 2 : Nat) : Int) := by omega
      have hb1 : ((pre.length + 2 : Nat) : Int) < ((b.length + 4 : Nat) : Int) := by omega
      have hc1 : chg x y z w 3 = (chg x y z w 2 || !decide (z = 0)) := rfl
      cases hc : chg x y z w 2 <;> cases hd : decide (z = 0) <;>
      · simp only [hwp, hb0, hb1, hg, hst, hc, hd, Int.toNat_natCast, Nat.zero_add, List.set_cons_zero, j3, b3, q3, qq, ww, List.append_nil, List.all_nil, List.all_cons, true_or, or_true, false_or, or_false, List.contains_nil, List.isEmpty_nil, List.take_length, List.getElem?_cons_zero, List.getElem?_cons_succ, List.set_cons_zero, List.set_cons_succ, List.replicate, Option.isNone_none, List.map_append, List.length_append, List.all_nil, List.contains_cons, Nat.reduceBEq, List.map_cons, List.map_nil, List.cons_append, List.nil_append, Option.getD_some, Option.getD_none, Option.map_some, Option.map_none, Option.bind_some, Nat.reduceAdd, Nat.reduceMul, Nat.reduceDiv, Nat.reduceEqDiff, Nat.reduceLeDiff, Nat.reduceLT, Int.reduceEq, Int.reduceNe, Int.reduceLT, Int.reduceLE, Int.reduceAdd, Int.reduceSub, Int.reduceMul, Int.reduceNeg, Int.reduceToNat, Int.reducePow, Nat.reducePow, not_false_eq_true, not_true_eq_false, reduceCtorEq, reduceIte, if_true, if_false, Bool.true_eq_false, Bool.false_eq_true, List.length_cons, List.length_nil, and_self, true_and, and_true, List.drop_zero, List.take_succ_cons, List.take_zero, List.drop_succ_cons]
        exact ih (by omega) _ (by simp only [hc1, hc, hd, Bool.not_true, Bool.not_false, Bool.or_false, Bool.or_true, Bool.false_or, Bool.true_or, Int.toNat_natCast, Nat.zero_add, gcK, lowB, Nat.reduceLeDiff, Nat.reduceBEq, List.contains_nil, List.contains_cons, Bool.or_false, Bool.false_or, Bool.false_eq_true, if_false, Bool.true_and, Bool.and_true, pickL, look_hit, look_miss, look_end, slMent, hpMent, S.ment, S.ment.smt, ments, V.ment, List.append_nil, List.nil_append, List.cons_append, List.all_nil, List.all_cons, Option.isSome_some, Bool.and_self, if_true, reduceIte, Nat.reduceEqDiff, not_false_eq_true, reduceCtorEq, Nat.reduceMul, Nat.reduceAdd]; try rfl)
    | 3, _ =>
      have hwp : IntKind.i64.wrap ((p : Int) + 3) = ((pre.length + 3 : Nat) : Int) := by rw [IntWalk.i64_in _ (by omega)]; omega
      have hg : (R3 pre (mid c0 c1 c2 c3 x y z w 3) post)[pre.length + 3]? = some [.int .u8 c3] := R3_get pre (mid c0 c1 c2 c3 x y z w 3) post 3
      have hst : (R3 pre (mid c0 c1 c2 c3 x y z w 3) post).set (pre.length + 3) [.int .u8 (bits .xor .u8 c3 w)] = R3 pre (mid c0 c1 c2 c3 x y z w 4) post := R3_set pre (mid c0 c1 c2 c3 x y z w 3) post 3 _ (by simp [mid])
      have hb0 : 0 ≤ ((pre.length + 3 : Nat) : Int) := by omega
      have hb1 : ((pre.length + 3 : Nat) : Int) < ((b.length + 4 : Nat) : Int) := by omega
      have hc1 : chg x y z w 4 = (chg x y z w 3 || !decide (w = 0)) := rfl
      cases hc : chg x y z w 3 <;> cases hd : decide (w = 0) <;>
      · simp only [hwp, hb0, hb1, hg, hst, hc, hd, Int.toNat_natCast, Nat.zero_add, List.set_cons_zero, j3, b3, q3, qq, ww, List.append_nil, List.all_nil, List.all_cons, true_or, or_true, false_or, or_false, List.contains_nil, List.isEmpty_nil, List.take_length, List.getElem?_cons_zero, List.getElem?_cons_succ, List.set_cons_zero, List.set_cons_succ, List.replicate, Option.isNone_none, List.map_append, List.length_append, List.all_nil, List.contains_cons, Nat.reduceBEq, List.map_cons, List.map_nil, List.cons_append, List.nil_append, Option.getD_some, Option.getD_none, Option.map_some, Option.map_none, Option.bind_some, Nat.reduceAdd, Nat.reduceMul, Nat.reduceDiv, Nat.reduceEqDiff, Nat.reduceLeDiff, Nat.reduceLT, Int.reduceEq, Int.reduceNe, Int.reduceLT, Int.reduceLE, Int.reduceAdd, Int.reduceSub, Int.reduceMul, Int.reduceNeg, Int.reduceToNat, Int.reducePow, Nat.reducePow, not_false_eq_true, not_true_eq_false, reduceCtorEq, reduceIte, if_true, if_false, Bool.true_eq_false, Bool.false_eq_true, List.length_cons, List.length_nil, and_self, true_and, and_true, List.drop_zero, List.take_succ_cons, List.take_zero, List.drop_succ_cons]
        exact ih (by omega) _ (by simp only [hc1, hc, hd, Bool.not_true, Bool.not_false, Bool.or_false, Bool.or_true, Bool.false_or, Bool.true_or, Int.toNat_natCast, Nat.zero_add, gcK, lowB, Nat.reduceLeDiff, Nat.reduceBEq, List.contains_nil, List.contains_cons, Bool.or_false, Bool.false_or, Bool.false_eq_true, if_false, Bool.true_and, Bool.and_true, pickL, look_hit, look_miss, look_end, slMent, hpMent, S.ment, S.ment.smt, ments, V.ment, List.append_nil, List.nil_append, List.cons_append, List.all_nil, List.all_cons, Option.isSome_some, Bool.and_self, if_true, reduceIte, Nat.reduceEqDiff, not_false_eq_true, reduceCtorEq, Nat.reduceMul, Nat.reduceAdd]; try rfl)
    | 4, _ =>
      have hB4 : Bs (pre ++ mid c0 c1 c2 c3 x y z w 4 ++ post) := Bs_app (Bs_app (Bs_l (Bs_l hB)) hmB) (Bs_r hB)
      have hl4 : (pre ++ mid c0 c1 c2 c3 x y z w 4 ++ post).length = b.length + 4 := by
        rw [← hsl]
        simp only [List.length_append, hml, List.length_cons, List.length_nil]
      have h9 : TT 1000 (6 + 2) 9 [.one (.row (R3 pre (mid c0 c1 c2 c3 x y z w 4) post))] = opA (opn (pre ++ mid c0 c1 c2 c3 x y z w 4 ++ post)) := e9 1000 6 _ hB4 (by omega) (by omega) (by omega)
      have htk : List.take (b.length + 4) (R3 pre (mid c0 c1 c2 c3 x y z w 4) post) = R3 pre (mid c0 c1 c2 c3 x y z w 4) post := List.take_of_length_le (by unfold R3; rw [List.length_map]; omega)
      have hrl : (R3 pre (mid c0 c1 c2 c3 x y z w 4) post).length = b.length + 4 := by unfold R3; rw [List.length_map]; omega
      have hw0 := w11
      cases hc : chg x y z w 4 with
      | false =>
        have hz : ((x = 0 ∧ y = 0) ∧ z = 0) ∧ w = 0 := by simpa [chg] using hc
        obtain ⟨⟨⟨rfl, rfl⟩, rfl⟩, rfl⟩ := hz
        have hm4 : mid c0 c1 c2 c3 0 0 0 0 4 = [c0, c1, c2, c3] := by simp only [mid, bx_z hq.1, bx_z hq.2.1, bx_z hq.2.2.1, bx_z hq.2.2.2]
        rw [hm4, hopn, ← hm4] at h9
        simp only [htk, hrl, h9, hc, hw0, List.length_map, takeU, selfU, Int.toNat_natCast, Nat.zero_add, j3, b3, q3, qq, ww, List.append_nil, List.all_nil, List.all_cons, true_or, or_true, false_or, or_false, List.contains_nil, List.isEmpty_nil, List.take_length, List.getElem?_cons_zero, List.getElem?_cons_succ, List.set_cons_zero, List.set_cons_succ, List.replicate, Option.isNone_none, List.map_append, List.length_append, List.all_nil, List.contains_cons, Nat.reduceBEq, List.map_cons, List.map_nil, List.cons_append, List.nil_append, Option.getD_some, Option.getD_none, Option.map_some, Option.map_none, Option.bind_some, Nat.reduceAdd, Nat.reduceMul, Nat.reduceDiv, Nat.reduceEqDiff, Nat.reduceLeDiff, Nat.reduceLT, Int.reduceEq, Int.reduceNe, Int.reduceLT, Int.reduceLE, Int.reduceAdd, Int.reduceSub, Int.reduceMul, Int.reduceNeg, Int.reduceToNat, Int.reducePow, Nat.reducePow, not_false_eq_true, not_true_eq_false, reduceCtorEq, reduceIte, if_true, if_false, Bool.true_eq_false, Bool.false_eq_true, List.length_cons, List.length_nil, and_self, true_and, and_true, List.drop_zero, List.take_succ_cons, List.take_zero, List.drop_succ_cons]
      | true =>
        have hns : ¬ sealed (pre ++ mid c0 c1 c2 c3 x y z w 4 ++ post) = true := by
          intro hs4
          obtain ⟨g1, g2, g3, g4⟩ := changed (a' := bx c0 x) (b' := bx c1 y) (c' := bx c2 z) (d' := bx c3 w) hB hmB hseal hs4
          have z1 := bx_0 hq.1 hx'.1 g1
          have z2 := bx_0 hq.2.1 hx'.2.1 g2
          have z3 := bx_0 hq.2.2.1 hx'.2.2.1 g3
          have z4 := bx_0 hq.2.2.2 hx'.2.2.2 g4
          subst z1; subst z2; subst z3; subst z4
          simp [chg] at hc
        have ho : opn (pre ++ mid c0 c1 c2 c3 x y z w 4 ++ post) = ([], 4) := by rw [opn, if_neg (by omega), if_neg hns]
        rw [ho] at h9
        simp only [htk, hrl, h9, hc, hw0, List.length_map, takeU, selfU, Int.toNat_natCast, Nat.zero_add, j3, b3, q3, qq, ww, List.append_nil, List.all_nil, List.all_cons, true_or, or_true, false_or, or_false, List.contains_nil, List.isEmpty_nil, List.take_length, List.getElem?_cons_zero, List.getElem?_cons_succ, List.set_cons_zero, List.set_cons_succ, List.replicate, Option.isNone_none, List.map_append, List.length_append, List.all_nil, List.contains_cons, Nat.reduceBEq, List.map_cons, List.map_nil, List.cons_append, List.nil_append, Option.getD_some, Option.getD_none, Option.map_some, Option.map_none, Option.bind_some, Nat.reduceAdd, Nat.reduceMul, Nat.reduceDiv, Nat.reduceEqDiff, Nat.reduceLeDiff, Nat.reduceLT, Int.reduceEq, Int.reduceNe, Int.reduceLT, Int.reduceLE, Int.reduceAdd, Int.reduceSub, Int.reduceMul, Int.reduceNeg, Int.reduceToNat, Int.reducePow, Nat.reducePow, not_false_eq_true, not_true_eq_false, reduceCtorEq, reduceIte, if_true, if_false, Bool.true_eq_false, Bool.false_eq_true, List.length_cons, List.length_nil, and_self, true_and, and_true, List.drop_zero, List.take_succ_cons, List.take_zero, List.drop_succ_cons]
theorem u8w {n : Int} (h : (Lit.int .u8 n).wf = true) : 0 ≤ n ∧ n ≤ 255 := by
  simp [Lit.wf, IntKind.min, IntKind.max, IntKind.signed, IntKind.bits] at h
  omega
theorem e3r (b : List Int) (at_ : Int) (x : List Int) (w0 : b.length * 1 ≤ 140737488351232 ∧ ∀ y ∈ b, (Lit.int .u8 y).wf = true) (w1 : (Lit.int .i64 at_).wf = true) (w2 : x.length = 4 ∧ ∀ y ∈ x, (Lit.int .u8 y).wf = true) : TT 1000 9 3 [.one (rU b), iV at_, .agg (x.map (V.int .u8))] = some (bV true, []) := by
  match x, w2 with
  | [p, q, r, s], w2 => exact e3 b at_ p q r s (fun y hy => u8w (w0.2 y hy)) (fun y hy => u8w (w2.2 y hy))
end Go.Proofs.Ytgjacdfiilcaaaa.CA
