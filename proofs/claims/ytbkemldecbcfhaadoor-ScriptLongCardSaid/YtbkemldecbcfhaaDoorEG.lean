import Derived.Test.YtbkemldecbcfhaaDoorEF
set_option linter.unusedSimpArgs false
set_option linter.unusedVariables false
namespace Go.Proofs.YtbkemldecbcfhaaDoor.EC
open Go Go.Proofs.YtbkemldecbcfhaaDoorR Go.Proofs.YtbkemldecbcfhaaDoor.IS Go.Proofs.YtbkemldecbcfhaaDoor.EA
set_option maxRecDepth 100000
set_option maxHeartbeats 4000000
/-- Are a right config's step's fields right, the node apart? -/
def okS (c : Cf) (s : Sp) : Prop :=
  (s.k = 5 → (0 ≤ s.v ∧ s.v ≤ 255) ∧ (0 ≤ s.t ∧ s.t ≤ 255) ∧ (1 ≤ s.m ∧ s.m ≤ 255)) ∧ (2 ≤ s.k ∧ s.k ≤ 4 → 0 ≤ s.v ∧ s.v ≤ 255) ∧ (8 ≤ s.k → (0 ≤ s.t ∧ s.t ≤ c.t - 1) ∧ (s.k = 11 → 0 ≤ s.v ∧ s.v ≤ 255))
instance (c : Cf) (s : Sp) : Decidable (okS c s) := by unfold okS; infer_instance
/-- Why a right config's step may not be. -/
def refS (c : Cf) (s : Sp) : Int :=
  if ¬ (1 ≤ s.k ∧ s.k ≤ 13) then 1 else if ¬ (2 ≤ s.k ∧ s.k ≤ 5) ∧ ¬ (0 ≤ s.n ∧ s.n ≤ c.n - 1) then 9 else if okS c s then 0 else 1
theorem er1 (s1 : ByteArray) (e : Int) (A : Prop) [Decidable A] : errW (oks [if A then none else some (s1, e)]) = if A then 0 else e := by
  by_cases a : A
  · rw [if_pos a, if_pos a]; rfl
  · rw [if_neg a, if_neg a]
    simp only [oks, List.filterMap_cons, id, List.filterMap_nil, errW, List.map_cons, List.map_nil, List.any_cons, List.any_nil, Bool.or_false, decide_eq_true_eq]
    split
    · rename_i h; exact h.symm
    · rfl
theorem er2 (s1 s2 : ByteArray) (A B : Prop) [Decidable A] [Decidable B] : errW (oks [if A then none else some (s1, 9), if B then none else some (s2, 1)]) = if A then (if B then 0 else 1) else 9 := by
  by_cases a : A <;> by_cases b : B <;> simp only [a, b, if_true, if_false] <;> rfl
theorem er3 (s1 s2 s3 : ByteArray) (A B C : Prop) [Decidable A] [Decidable B] [Decidable C] : errW (oks [if A then none else some (s1, 9), if B then none else some (s2, 1), if C then none else some (s3, 1)]) = if A then (if B then if C then 0 else 1 else 1) else 9 := by
  by_cases a : A <;> by_cases b : B <;> by_cases c : C <;> simp only [a, b, c, if_true, if_false] <;> rfl
theorem er4 (s1 s2 s3 : ByteArray) (A B C : Prop) [Decidable A] [Decidable B] [Decidable C] : errW (oks [if A then none else some (s1, 1), if B then none else some (s2, 1), if C then none else some (s3, 1)]) = if A then (if B then if C then 0 else 1 else 1) else 1 := by
  by_cases a : A <;> by_cases b : B <;> by_cases c : C <;> simp only [a, b, c, if_true, if_false] <;> rfl
theorem chk_ref (c : Cf) (s : Sp) (hc : okC c = true) : chk c s = refS c s := by
  obtain ⟨k, n, t, v, m⟩ := s
  rw [chk, hc, if_pos rfl]
  rcases kinds k with rfl | rfl | rfl | rfl | rfl | rfl | rfl | rfl | rfl | rfl | rfl | rfl | rfl | hk
  rotate_right
  · have h1 : fldL c ⟨k, n, t, v, m⟩ = [fK ⟨k, n, t, v, m⟩] := by
      unfold fldL
      dsimp only
      rw [if_neg (by omega), if_neg (by omega), if_neg (by omega), if_neg (by omega), if_neg (by omega)]
    rw [h1, er1, if_neg (by dsimp only; omega), refS, if_pos (by dsimp only; omega)]
  all_goals
    simp only [fldL, Int.reduceEq, or_self, or_true, true_or, or_false, false_or, if_true, if_false, reduceIte, er1, er2, er3, er4]
    unfold refS okS
    dsimp only
    repeat' split
    all_goals first | rfl | omega
theorem okc_b {c : Cf} (hc : okC c = true) : 1 ≤ c.n ∧ c.n ≤ 8 ∧ 1 ≤ c.t ∧ c.t ≤ 4 := by
  simp only [okC, decide_eq_true_eq] at hc
  omega
theorem e5 (conf kind num : Int) : TT 1000 13 5 [iV conf, iV kind, iV num] = some (bV true, []) := by
  obtain ⟨p1, p2⟩ := kmod conf 1000000 (by decide) (by decide)
  obtain ⟨q1, q2⟩ := kmod kind 13 (by decide) (by decide)
  obtain ⟨r1, r2⟩ := kmod num 256 (by decide) (by decide)
  generalize hn : IntKind.i64.wrap ((IntKind.u64.wrap conf).tmod 1000000) = m at p1 p2
  generalize hb : IntKind.i64.wrap ((IntKind.u64.wrap kind).tmod 13) = k0 at q1 q2
  generalize hf : IntKind.i64.wrap ((IntKind.u64.wrap num).tmod 256) = z at r1 r2
  have h20 : TT 1000 12 20 [iV conf] = _ := e20 1000 11 conf m hn ⟨p1, p2⟩
  have hok := ok_conf m
  generalize confC m = c at h20 hok
  obtain ⟨b1, b2, b3, b4⟩ := okc_b hok
  have hk1 : IntKind.i64.wrap (1 + k0) = 1 + k0 := w64 (by omega)
  generalize hk : 1 + k0 = k at hk1
  have a1 : z.tmod c.n = z % c.n := wmod (by omega)
  have a2 : z.tmod c.t = z % c.t := wmod (by omega)
  have a3 : z.tmod 255 = z % 255 := wmod (by omega)
  obtain ⟨Q, hQ⟩ : ∃ Q, Q = 1 + z % 255 := ⟨_, rfl⟩
  have a4 : IntKind.i64.wrap (1 + z % 255) = Q := by rw [hQ]; exact wadd (by decide) (by decide) (by decide)
  have n1 : ¬ c.n = 0 := by omega
  have n2 : ¬ c.t = 0 := by omega
  have x1 := Int.emod_nonneg z n1
  have x2 := Int.emod_lt_of_pos z (show 0 < c.n by omega)
  have y1 := Int.emod_nonneg z n2
  have y2 := Int.emod_lt_of_pos z (show 0 < c.t by omega)
  have z3 : 1 ≤ Q ∧ Q ≤ 255 := by omega
  generalize z % c.n = A at a1 x1 x2
  generalize z % c.t = B at a2 y1 y2
  clear hQ
  have h17 : ∀ s, TT 1000 12 17 [.agg (eC c), .agg (eP s)] = some (iV (refS c s), []) := fun s => by
    rw [← chk_ref c s hok]; exact e17 1000 8 c s (by decide)
  have g1 := h17 ⟨k, A, B, z, Q⟩
  have g2 := h17 ⟨k, c.n, B, z, Q⟩
  have g3 := h17 ⟨k, A, c.t, z, Q⟩
  have g4 := h17 ⟨k, A, B, 256, Q⟩
  have g5 := h17 ⟨k, A, B, z, 0⟩
  have f1 : refS c ⟨k, A, B, z, Q⟩ = 0 := by
    rw [refS, if_neg (by dsimp only; omega), if_neg (by dsimp only; omega), if_pos (by unfold okS; dsimp only; omega)]
  have f2 : refS c ⟨k, c.n, B, z, Q⟩ = if 2 ≤ k ∧ k ≤ 5 then 0 else 9 := by
    rw [refS, if_neg (by dsimp only; omega)]
    by_cases h : 2 ≤ k ∧ k ≤ 5
    · rw [if_neg (by dsimp only; omega), if_pos (by unfold okS; dsimp only; omega), if_pos h]
    · rw [if_pos (by dsimp only; omega), if_neg h]
  have f3 : refS c ⟨k, A, c.t, z, Q⟩ = if 8 ≤ k then 1 else 0 := by
    rw [refS, if_neg (by dsimp only; omega), if_neg (by dsimp only; omega)]
    by_cases h : 8 ≤ k
    · rw [if_neg (by unfold okS; dsimp only; omega), if_pos h]
    · rw [if_pos (by unfold okS; dsimp only; omega), if_neg h]
  have f4 : refS c ⟨k, A, B, 256, Q⟩ = if (2 ≤ k ∧ k ≤ 5) ∨ k = 11 then 1 else 0 := by
    rw [refS, if_neg (by dsimp only; omega), if_neg (by dsimp only; omega)]
    by_cases h : (2 ≤ k ∧ k ≤ 5) ∨ k = 11
    · rw [if_neg (by unfold okS; dsimp only; omega), if_pos h]
    · rw [if_pos (by unfold okS; dsimp only; omega), if_neg h]
  have f5 : refS c ⟨k, A, B, z, 0⟩ = if k = 5 then 1 else 0 := by
    rw [refS, if_neg (by dsimp only; omega), if_neg (by dsimp only; omega)]
    by_cases h : k = 5
    · rw [if_neg (by unfold okS; dsimp only; omega), if_pos h]
    · rw [if_pos (by unfold okS; dsimp only; omega), if_neg h]
  rw [f1] at g1
  rw [f2] at g2
  rw [f3] at g3
  rw [f4] at g4
  rw [f5] at g5
  have hw0 := w0
  rw [t5, F_ev rfl]
  have hkk : k = 1 ∨ k = 2 ∨ k = 3 ∨ k = 4 ∨ k = 5 ∨ k = 6 ∨ k = 7 ∨ k = 8 ∨ k = 9 ∨ k = 10 ∨ k = 11 ∨ k = 12 ∨ k = 13 := by omega
  clear f1 f2 f3 f4 f5 h17
  rcases hkk with rfl | rfl | rfl | rfl | rfl | rfl | rfl | rfl | rfl | rfl | rfl | rfl | rfl
  all_goals
    simp only [Int.reduceLE, Int.reduceEq, and_self, and_true, true_and, and_false, false_and, or_self, or_true, true_or, or_false, false_or, if_true, if_false, reduceIte] at g2 g3 g4 g5
    simp only [h20, hb, hf, hk, hk1, a1, a2, a3, a4, n1, n2, g1, g2, g3, g4, g5, hw0, j5, b5, q5, qq, oo3, go_mkp, go_stp, ments, V.ment, List.isEmpty_nil, oo, pp, lives, V.live, purS, S.pur, V.pur, V.pur1, purs, pur1s, mentS, S.ment, S.ment.smt, ments, V.ment, List.append_nil, Hp.ok64, List.all_nil, List.all_cons, S.purT, S.purT.sp, S.self, V.self, selfs, S.self.sself, Hp.self, S.ren, S.ren.sren, V.ren, Hp.ren, true_or, or_true, false_or, or_false, Bool.and_true, Bool.true_and, Bool.and_false, Bool.false_and, Bool.and_self, hand, handSs, handS, handVs, handV, handBs, upTo, one1, List.contains_nil, List.isEmpty_nil, List.take_length, List.getElem?_cons_zero, List.getElem?_cons_succ, fillV, fillR, setAt, List.set_cons_zero, List.set_cons_succ, List.replicate, evE, asRow, callS, callT, callU, names, dedup, blkMents, Blk.mentB, idxOf, V.mapS, S.mapS, S.mapS.smapS, Blk.mapS, encs, encB, isBox, backN, hpBack, killsV, killsS, killsS.ks, killsB, rowsOf, without, keysOk, noTup, boxesOk, fresh, Option.isNone_none, Blk.ren, aloOk, aloV, aloB, frzL, freezes, Go.Proofs.YtbkemldecbcfhaaDoorR.freeze, drop1, S.frz, S.frz.sf, V.frz, Blk.frz, slMent, pickL, List.map_append, S.kill, S.kill.sk, V.kill, Blk.kill, eqvs, ones, Bool.not_true, Bool.not_false, decide_true, decide_false, List.length_append, Int.le_refl, Int.toNat_natCast, Int.toNat_one, Int.cast_ofNat_Int, List.all_nil, List.contains_cons, Nat.reduceBEq, Bool.false_or, Bool.or_false, Bool.true_or, Bool.or_true, look_hit, look_end, look_miss, List.map_cons, List.map_nil, List.cons_append, List.nil_append, Option.getD_some, Option.getD_none, X.ev, ev, bin, ibin, Option.map_some, Option.map_none, Option.bind_some, S.cells, rd, sub, Go.Proofs.YtbkemldecbcfhaaDoorR.shape, asI, bnd, evs, Rs.ev, R.ev, params, okKey, Nat.reduceAdd, Nat.reduceMul, Nat.reduceDiv, Nat.reduceEqDiff, Nat.reduceLeDiff, Nat.reduceLT, Int.reduceEq, Int.reduceNe, Int.reduceLT, Int.reduceLE, Int.reduceAdd, Int.reduceSub, Int.reduceMul, Int.reduceNeg, Int.reduceToNat, Int.reducePow, Nat.reducePow, Int.toNat_zero, not_false_eq_true, not_true_eq_false, reduceCtorEq, Nat.zero_add, Nat.add_zero, reduceIte, if_true, if_false, Bool.true_eq_false, Bool.false_eq_true, List.length_cons, List.length_nil, and_self, true_and, and_true, List.drop_zero, List.take_succ_cons, List.take_zero, List.drop_succ_cons, Nat.le_refl]
end Go.Proofs.YtbkemldecbcfhaaDoor.EC
