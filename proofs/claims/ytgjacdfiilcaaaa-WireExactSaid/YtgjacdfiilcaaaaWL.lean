import Derived.Test.YtgjacdfiilcaaaaWH
import Derived.Test.YtgjacdfiilcaaaaMI
set_option linter.unusedSimpArgs false
set_option linter.unusedVariables false
namespace Go.Proofs.Ytgjacdfiilcaaaa.CA
open Go Go.Proofs.YtgjacdfiilcaaaaR Go.Proofs.Ytgjacdfiilcaaaa.IW Go.Proofs.Ytgjacdfiilcaaaa.CZ Go.Proofs.Ytgjacdfiilcaaaa.WZ
set_option maxRecDepth 100000
set_option maxHeartbeats 4000000
theorem e14 (N d : Nat) (b : List Int) (hl : b.length < 1000000) : TT N (d + 1) 14 [.one (rU b)] = some (.one (.sl 0 0 b.length), [(0, .rows 5 1 (b.map eU))]) := by
  rw [t14, F_ev rfl]
  have h1 : (0 + b.length) * 1 ≤ 140737488355328 := by omega
  have h2 : b.length * 1 ≤ 140737488355328 := by omega
  simp only [allU, takeU, h1, h2, List.length_map, Nat.zero_add, Nat.le_refl, j14, b14, q14, qq, ww, List.append_nil, List.all_nil, List.all_cons, true_or, or_true, false_or, or_false, List.contains_nil, List.isEmpty_nil, List.take_length, List.getElem?_cons_zero, List.getElem?_cons_succ, List.set_cons_zero, List.set_cons_succ, List.replicate, Option.isNone_none, List.map_append, List.length_append, List.all_nil, List.contains_cons, Nat.reduceBEq, List.map_cons, List.map_nil, List.cons_append, List.nil_append, Option.getD_some, Option.getD_none, Option.map_some, Option.map_none, Option.bind_some, Nat.reduceAdd, Nat.reduceMul, Nat.reduceDiv, Nat.reduceEqDiff, Nat.reduceLeDiff, Nat.reduceLT, Int.reduceEq, Int.reduceNe, Int.reduceLT, Int.reduceLE, Int.reduceAdd, Int.reduceSub, Int.reduceMul, Int.reduceNeg, Int.reduceToNat, Int.reducePow, Nat.reducePow, not_false_eq_true, not_true_eq_false, reduceCtorEq, reduceIte, if_true, if_false, Bool.true_eq_false, Bool.false_eq_true, List.length_cons, List.length_nil, and_self, true_and, and_true, List.drop_zero, List.take_succ_cons, List.take_zero, List.drop_succ_cons]
  try simp
theorem tmod2 (n : Nat) : (n : Int).tmod 2 = ((n % 2 : Nat) : Int) := by rw [Int.tmod_eq_emod_of_nonneg (by omega)]; omega
theorem quo2 (n : Nat) (h : n < 4294967296) : IntKind.u32.wrap ((n : Int).tdiv 2) = ((n / 2 : Nat) : Int) := by
  rw [Int.tdiv_eq_ediv_of_nonneg (by omega)]
  simp only [IntKind.wrap, IntKind.bits, IntKind.signed]; simp; omega
theorem e57 (N d : Nat) (b : List Int) (hb : Bs b) (hN : b.length < N) (hN8 : 8 < N) (hl : b.length < 1000000) : TT N (d + 1) 57 [.one (rU b)] = some (iV (crcN b), []) := by
  rw [t57, F_ev rfl]
  simp only [List.length_map, j57, b57, q57, qq, ww, List.append_nil, List.all_nil, List.all_cons, true_or, or_true, false_or, or_false, List.contains_nil, List.isEmpty_nil, List.take_length, List.getElem?_cons_zero, List.getElem?_cons_succ, List.set_cons_zero, List.set_cons_succ, List.replicate, Option.isNone_none, List.map_append, List.length_append, List.all_nil, List.contains_cons, Nat.reduceBEq, List.map_cons, List.map_nil, List.cons_append, List.nil_append, Option.getD_some, Option.getD_none, Option.map_some, Option.map_none, Option.bind_some, Nat.reduceAdd, Nat.reduceMul, Nat.reduceDiv, Nat.reduceEqDiff, Nat.reduceLeDiff, Nat.reduceLT, Int.reduceEq, Int.reduceNe, Int.reduceLT, Int.reduceLE, Int.reduceAdd, Int.reduceSub, Int.reduceMul, Int.reduceNeg, Int.reduceToNat, Int.reducePow, Nat.reducePow, not_false_eq_true, not_true_eq_false, reduceCtorEq, reduceIte, if_true, if_false, Bool.true_eq_false, Bool.false_eq_true, List.length_cons, List.length_nil, and_self, true_and, and_true, List.drop_zero, List.take_succ_cons, List.take_zero, List.drop_succ_cons]
  refine loopK (K := fun o => fin _ (aft _ _ _ o)) (fun i => ⟨[(0, .one (rU b)), (3, .one (.int .u32 (reg 4294967295 (b.take i) : Nat))), (4, iV i)], []⟩) (fun i => some (iV (crcN b), [])) b.length ?hr b.length 0 N _ (by omega) hN ?hk
  case hk => simp only [gcK, lowB, Nat.reduceLeDiff, Nat.reduceBEq, List.contains_nil, List.contains_cons, Bool.or_false, Bool.false_or, Bool.false_eq_true, if_false, Bool.true_and, Bool.and_true, pickL, look_hit, look_miss, look_end, slMent, hpMent, S.ment, S.ment.smt, ments, V.ment, List.append_nil, List.nil_append, List.cons_append, List.all_nil, List.all_cons, Option.isSome_some, Bool.and_self, if_true, reduceIte, Nat.reduceEqDiff, not_false_eq_true, reduceCtorEq, Nat.reduceMul, Nat.reduceAdd]; rfl
  case hr =>
    intro i n hi ih
    (try dsimp only)
    have hr := reg_lt (b.take i) 4294967295 (Bs_take hb i) (by omega)
    by_cases hlt : i < b.length
    · have h1 : decide ((i : Int) < (b.length : Int)) = true := by simp; omega
      have hg1 : (b.map eU)[i]? = some (eU b[i]) := by simp [hlt]
      have hbb : 0 ≤ (i : Int) ∧ (i : Int) < (b.length : Int) := by omega
      have hc := hb b[i] (List.getElem_mem hlt)
      have hx : reg 4294967295 (b.take i) ^^^ b[i].toNat < 4294967296 := xor_lt hr (by omega)
      have hnx := reg_take 4294967295 b hlt
      unfold byteN at hnx
      have hxc := xorC _ _ hr hc
      generalize hX : reg 4294967295 (b.take i) ^^^ b[i].toNat = x at *
      simp only [h1, hbb.1, hbb.2, hg1, hxc, List.length_map, j57, b57, q57, qq, ww, List.append_nil, List.all_nil, List.all_cons, true_or, or_true, false_or, or_false, List.contains_nil, List.isEmpty_nil, List.take_length, List.getElem?_cons_zero, List.getElem?_cons_succ, List.set_cons_zero, List.set_cons_succ, List.replicate, Option.isNone_none, List.map_append, List.length_append, List.all_nil, List.contains_cons, Nat.reduceBEq, List.map_cons, List.map_nil, List.cons_append, List.nil_append, Option.getD_some, Option.getD_none, Option.map_some, Option.map_none, Option.bind_some, Nat.reduceAdd, Nat.reduceMul, Nat.reduceDiv, Nat.reduceEqDiff, Nat.reduceLeDiff, Nat.reduceLT, Int.reduceEq, Int.reduceNe, Int.reduceLT, Int.reduceLE, Int.reduceAdd, Int.reduceSub, Int.reduceMul, Int.reduceNeg, Int.reduceToNat, Int.reducePow, Nat.reducePow, not_false_eq_true, not_true_eq_false, reduceCtorEq, reduceIte, if_true, if_false, Bool.true_eq_false, Bool.false_eq_true, List.length_cons, List.length_nil, and_self, true_and, and_true, List.drop_zero, List.take_succ_cons, List.take_zero, List.drop_succ_cons]
      refine loopK (K := fun o => fin _ (aft _ _ _ (goL _ _ _ _ (aft _ _ _ o)))) (fun j => ⟨[(0, .one (rU b)), (3, .one (.int .u32 (itN j x : Nat))), (4, iV i), (5, iV j)], []⟩) (fun j => some (iV (crcN b), [])) 8 ?hr2 8 0 N _ (by omega) hN8 ?hk2
      case hk2 => simp only [gcK, lowB, Nat.reduceLeDiff, Nat.reduceBEq, List.contains_nil, List.contains_cons, Bool.or_false, Bool.false_or, Bool.false_eq_true, if_false, Bool.true_and, Bool.and_true, pickL, look_hit, look_miss, look_end, slMent, hpMent, S.ment, S.ment.smt, ments, V.ment, List.append_nil, List.nil_append, List.cons_append, List.all_nil, List.all_cons, Option.isSome_some, Bool.and_self, if_true, reduceIte, Nat.reduceEqDiff, not_false_eq_true, reduceCtorEq, Nat.reduceMul, Nat.reduceAdd]; rfl
      case hr2 =>
        intro j n2 hj ih2
        (try dsimp only)
        have hq : itN j x < 4294967296 := itN_lt j hx
        by_cases hjl : j < 8
        · have g1 : decide ((j : Int) < 8) = true := by simp; omega
          have ha := tmod2 (itN j x)
          have hu := quo2 _ hq
          have hp := xorP _ hq
          by_cases ho : itN j x % 2 = 1
          · have hs : itN (j + 1) x = itN j x / 2 ^^^ 3988292384 := by rw [itN_s, st1, if_pos ho]
            have hpick : decide (((itN j x % 2 : Nat) : Int) = 1) = true := by simp; omega
            simp only [g1, ha, hu, hpick, hp, wi j (by omega), j57, b57, q57, qq, ww, List.append_nil, List.all_nil, List.all_cons, true_or, or_true, false_or, or_false, List.contains_nil, List.isEmpty_nil, List.take_length, List.getElem?_cons_zero, List.getElem?_cons_succ, List.set_cons_zero, List.set_cons_succ, List.replicate, Option.isNone_none, List.map_append, List.length_append, List.all_nil, List.contains_cons, Nat.reduceBEq, List.map_cons, List.map_nil, List.cons_append, List.nil_append, Option.getD_some, Option.getD_none, Option.map_some, Option.map_none, Option.bind_some, Nat.reduceAdd, Nat.reduceMul, Nat.reduceDiv, Nat.reduceEqDiff, Nat.reduceLeDiff, Nat.reduceLT, Int.reduceEq, Int.reduceNe, Int.reduceLT, Int.reduceLE, Int.reduceAdd, Int.reduceSub, Int.reduceMul, Int.reduceNeg, Int.reduceToNat, Int.reducePow, Nat.reducePow, not_false_eq_true, not_true_eq_false, reduceCtorEq, reduceIte, if_true, if_false, Bool.true_eq_false, Bool.false_eq_true, List.length_cons, List.length_nil, and_self, true_and, and_true, List.drop_zero, List.take_succ_cons, List.take_zero, List.drop_succ_cons]
            exact ih2 hjl _ (by simp only [hs, gcK, lowB, Nat.reduceLeDiff, Nat.reduceBEq, List.contains_nil, List.contains_cons, Bool.or_false, Bool.false_or, Bool.false_eq_true, if_false, Bool.true_and, Bool.and_true, pickL, look_hit, look_miss, look_end, slMent, hpMent, S.ment, S.ment.smt, ments, V.ment, List.append_nil, List.nil_append, List.cons_append, List.all_nil, List.all_cons, Option.isSome_some, Bool.and_self, if_true, reduceIte, Nat.reduceEqDiff, not_false_eq_true, reduceCtorEq, Nat.reduceMul, Nat.reduceAdd])
          · have hs : itN (j + 1) x = itN j x / 2 := by rw [itN_s, st1, if_neg ho]
            have hpick : decide (((itN j x % 2 : Nat) : Int) = 1) = false := by simp; omega
            simp only [g1, ha, hu, hpick, wi j (by omega), j57, b57, q57, qq, ww, List.append_nil, List.all_nil, List.all_cons, true_or, or_true, false_or, or_false, List.contains_nil, List.isEmpty_nil, List.take_length, List.getElem?_cons_zero, List.getElem?_cons_succ, List.set_cons_zero, List.set_cons_succ, List.replicate, Option.isNone_none, List.map_append, List.length_append, List.all_nil, List.contains_cons, Nat.reduceBEq, List.map_cons, List.map_nil, List.cons_append, List.nil_append, Option.getD_some, Option.getD_none, Option.map_some, Option.map_none, Option.bind_some, Nat.reduceAdd, Nat.reduceMul, Nat.reduceDiv, Nat.reduceEqDiff, Nat.reduceLeDiff, Nat.reduceLT, Int.reduceEq, Int.reduceNe, Int.reduceLT, Int.reduceLE, Int.reduceAdd, Int.reduceSub, Int.reduceMul, Int.reduceNeg, Int.reduceToNat, Int.reducePow, Nat.reducePow, not_false_eq_true, not_true_eq_false, reduceCtorEq, reduceIte, if_true, if_false, Bool.true_eq_false, Bool.false_eq_true, List.length_cons, List.length_nil, and_self, true_and, and_true, List.drop_zero, List.take_succ_cons, List.take_zero, List.drop_succ_cons]
            exact ih2 hjl _ (by simp only [hs, gcK, lowB, Nat.reduceLeDiff, Nat.reduceBEq, List.contains_nil, List.contains_cons, Bool.or_false, Bool.false_or, Bool.false_eq_true, if_false, Bool.true_and, Bool.and_true, pickL, look_hit, look_miss, look_end, slMent, hpMent, S.ment, S.ment.smt, ments, V.ment, List.append_nil, List.nil_append, List.cons_append, List.all_nil, List.all_cons, Option.isSome_some, Bool.and_self, if_true, reduceIte, Nat.reduceEqDiff, not_false_eq_true, reduceCtorEq, Nat.reduceMul, Nat.reduceAdd])
        · obtain rfl : j = 8 := by omega
          have g1 : decide (((8 : Nat) : Int) < 8) = false := by simp
          simp only [g1, wi i (by omega), j57, b57, q57, qq, ww, List.append_nil, List.all_nil, List.all_cons, true_or, or_true, false_or, or_false, List.contains_nil, List.isEmpty_nil, List.take_length, List.getElem?_cons_zero, List.getElem?_cons_succ, List.set_cons_zero, List.set_cons_succ, List.replicate, Option.isNone_none, List.map_append, List.length_append, List.all_nil, List.contains_cons, Nat.reduceBEq, List.map_cons, List.map_nil, List.cons_append, List.nil_append, Option.getD_some, Option.getD_none, Option.map_some, Option.map_none, Option.bind_some, Nat.reduceAdd, Nat.reduceMul, Nat.reduceDiv, Nat.reduceEqDiff, Nat.reduceLeDiff, Nat.reduceLT, Int.reduceEq, Int.reduceNe, Int.reduceLT, Int.reduceLE, Int.reduceAdd, Int.reduceSub, Int.reduceMul, Int.reduceNeg, Int.reduceToNat, Int.reducePow, Nat.reducePow, not_false_eq_true, not_true_eq_false, reduceCtorEq, reduceIte, if_true, if_false, Bool.true_eq_false, Bool.false_eq_true, List.length_cons, List.length_nil, and_self, true_and, and_true, List.drop_zero, List.take_succ_cons, List.take_zero, List.drop_succ_cons]
          exact ih hlt _ (by simp only [hnx, gcK, lowB, Nat.reduceLeDiff, Nat.reduceBEq, List.contains_nil, List.contains_cons, Bool.or_false, Bool.false_or, Bool.false_eq_true, if_false, Bool.true_and, Bool.and_true, pickL, look_hit, look_miss, look_end, slMent, hpMent, S.ment, S.ment.smt, ments, V.ment, List.append_nil, List.nil_append, List.cons_append, List.all_nil, List.all_cons, Option.isSome_some, Bool.and_self, if_true, reduceIte, Nat.reduceEqDiff, not_false_eq_true, reduceCtorEq, Nat.reduceMul, Nat.reduceAdd])
    · have h1 : decide ((i : Int) < (b.length : Int)) = false := by simp; omega
      obtain rfl : i = b.length := by omega
      have hlt2 := crcN_lt hb
      rw [List.take_length] at hr
      simp only [h1, List.take_length, List.length_map, j57, b57, q57, qq, ww, List.append_nil, List.all_nil, List.all_cons, true_or, or_true, false_or, or_false, List.contains_nil, List.isEmpty_nil, List.take_length, List.getElem?_cons_zero, List.getElem?_cons_succ, List.set_cons_zero, List.set_cons_succ, List.replicate, Option.isNone_none, List.map_append, List.length_append, List.all_nil, List.contains_cons, Nat.reduceBEq, List.map_cons, List.map_nil, List.cons_append, List.nil_append, Option.getD_some, Option.getD_none, Option.map_some, Option.map_none, Option.bind_some, Nat.reduceAdd, Nat.reduceMul, Nat.reduceDiv, Nat.reduceEqDiff, Nat.reduceLeDiff, Nat.reduceLT, Int.reduceEq, Int.reduceNe, Int.reduceLT, Int.reduceLE, Int.reduceAdd, Int.reduceSub, Int.reduceMul, Int.reduceNeg, Int.reduceToNat, Int.reducePow, Nat.reducePow, not_false_eq_true, not_true_eq_false, reduceCtorEq, reduceIte, if_true, if_false, Bool.true_eq_false, Bool.false_eq_true, List.length_cons, List.length_nil, and_self, true_and, and_true, List.drop_zero, List.take_succ_cons, List.take_zero, List.drop_succ_cons]
      rw [xorF _ hr]
      exact congrArg (fun z => some (iV z, [])) (w32 _ hlt2)
def qd (s : Int) : Nat → Int
  | 0 => s
  | i + 1 => qd s i / 256
theorem qd_in {s : Int} (h : 0 ≤ s) : ∀ i, 0 ≤ qd s i ∧ qd s i ≤ s
  | 0 => ⟨h, Int.le_refl _⟩
  | i + 1 => by
    have := qd_in h i
    simp only [qd]
    omega
theorem tail_s (s : Int) {i : Nat} (h : i < 4) : (tailN s).take (i + 1) = (tailN s).take i ++ [qd s i % 256] := by
  match i, h with
  | 0, _ => rfl
  | 1, _ => rfl
  | 2, _ => simp only [tailN, qd, List.take_succ_cons, List.take_zero, List.cons_append, List.nil_append]; rw [show s / 256 / 256 = s / 65536 by omega]
  | 3, _ => simp only [tailN, qd, List.take_succ_cons, List.take_zero, List.cons_append, List.nil_append]; rw [show s / 256 / 256 / 256 = s / 16777216 by omega]
theorem dig8 {n : Int} (h : 0 ≤ n) : IntKind.u8.wrap (n.tmod 256) = n % 256 := by rw [w8, Int.tmod_eq_emod_of_nonneg h]; omega
theorem quo8 {n : Int} (h : 0 ≤ n ∧ n < 4611686018427387904) : IntKind.i64.wrap (n.tdiv 256) = n / 256 := by
  rw [Int.tdiv_eq_ediv_of_nonneg h.1, IntWalk.i64_in _ (by omega)]
theorem e47 (N d : Nat) (b : List Int) (hb : Bs b) (hN : b.length < N) (hN8 : 8 < N) (hl : b.length < 1000000) : TT N (d + 2) 47 [.one (rU b)] = some (.one (.sl 0 0 (b.length + 4)), [(0, .rows 5 1 ((sel b).map eU))]) := by
  have h57 := fun d => e57 N d b hb hN hN8 hl
  have h14 := fun d => e14 N d b hl
  have hs := crcN_lt hb
  rw [t47, F_ev rfl]
  have hsel : sel b = b ++ tailN ((crcN b : Nat) : Int) := rfl
  rw [hsel]
  generalize hz : ((crcN b : Nat) : Int) = z at *
  have hz0 : 0 ≤ z ∧ z < 4294967296 := by omega
  obtain ⟨T, hT⟩ : ∃ T, T = (b ++ tailN z).map eU := ⟨_, rfl⟩
  rw [← hT]
  simp only [h57, h14, selfU, takeU, List.length_map, Nat.le_refl, j47, b47, q47, qq, ww, List.append_nil, List.all_nil, List.all_cons, true_or, or_true, false_or, or_false, List.contains_nil, List.isEmpty_nil, List.take_length, List.getElem?_cons_zero, List.getElem?_cons_succ, List.set_cons_zero, List.set_cons_succ, List.replicate, Option.isNone_none, List.map_append, List.length_append, List.all_nil, List.contains_cons, Nat.reduceBEq, List.map_cons, List.map_nil, List.cons_append, List.nil_append, Option.getD_some, Option.getD_none, Option.map_some, Option.map_none, Option.bind_some, Nat.reduceAdd, Nat.reduceMul, Nat.reduceDiv, Nat.reduceEqDiff, Nat.reduceLeDiff, Nat.reduceLT, Int.reduceEq, Int.reduceNe, Int.reduceLT, Int.reduceLE, Int.reduceAdd, Int.reduceSub, Int.reduceMul, Int.reduceNeg, Int.reduceToNat, Int.reducePow, Nat.reducePow, not_false_eq_true, not_true_eq_false, reduceCtorEq, reduceIte, if_true, if_false, Bool.true_eq_false, Bool.false_eq_true, List.length_cons, List.length_nil, and_self, true_and, and_true, List.drop_zero, List.take_succ_cons, List.take_zero, List.drop_succ_cons]
  refine loopK (K := fun o => fin _ (aft _ _ _ o)) (fun i => ⟨[(3, iV (qd z i)), (4, .one (.sl 576 0 (b.length + i))), (5, iV i)], [(576, .rows 5 1 ((b ++ (tailN z).take i).map eU))]⟩) (fun _ => some (.one (.sl 0 0 (b.length + 4)), [(0, .rows 5 1 T)])) 4 ?hr 4 0 N _ (by omega) (by omega) ?hk
  case hk => simp only [List.take_zero, List.append_nil, Nat.add_zero, qd, gcK, lowB, Nat.reduceLeDiff, Nat.reduceBEq, List.contains_nil, List.contains_cons, Bool.or_false, Bool.false_or, Bool.false_eq_true, if_false, Bool.true_and, Bool.and_true, pickL, look_hit, look_miss, look_end, slMent, hpMent, S.ment, S.ment.smt, ments, V.ment, List.append_nil, List.nil_append, List.cons_append, List.all_nil, List.all_cons, Option.isSome_some, Bool.and_self, if_true, reduceIte, Nat.reduceEqDiff, not_false_eq_true, reduceCtorEq, Nat.reduceMul, Nat.reduceAdd]; rfl
  case hr =>
    intro i n hi ih
    (try dsimp only)
    by_cases hlt : i < 4
    · have g1 : decide ((i : Int) < 4) = true := by simp; omega
      have hq := qd_in hz0.1 i
      have hd := dig8 hq.1
      have hu : IntKind.i64.wrap ((qd z i).tdiv 256) = qd z (i + 1) := quo8 (by omega)
      have hC : (b ++ (tailN z).take (i + 1)).map eU = (b ++ (tailN z).take i).map eU ++ [eU (qd z i % 256)] := by
        rw [tail_s z hlt, ← List.append_assoc, List.map_append]; rfl
      have hCl : (b ++ (tailN z).take i).length = b.length + i := by rw [List.length_append, List.length_take]; simp only [tailN, List.length_cons, List.length_nil]; omega
      generalize hG : b ++ (tailN z).take i = G at *
      have htk : List.take (b.length + i) (G.map eU) = G.map eU := List.take_of_length_le (by rw [List.length_map]; omega)
      have hb2 : (b.length + i + 1) * 1 ≤ 140737488355328 := by omega
      simp only [g1, hd, hu, htk, hCl, hb2, allU, wi i (by omega), List.length_map, Nat.zero_add, j47, b47, q47, qq, ww, List.append_nil, List.all_nil, List.all_cons, true_or, or_true, false_or, or_false, List.contains_nil, List.isEmpty_nil, List.take_length, List.getElem?_cons_zero, List.getElem?_cons_succ, List.set_cons_zero, List.set_cons_succ, List.replicate, Option.isNone_none, List.map_append, List.length_append, List.all_nil, List.contains_cons, Nat.reduceBEq, List.map_cons, List.map_nil, List.cons_append, List.nil_append, Option.getD_some, Option.getD_none, Option.map_some, Option.map_none, Option.bind_some, Nat.reduceAdd, Nat.reduceMul, Nat.reduceDiv, Nat.reduceEqDiff, Nat.reduceLeDiff, Nat.reduceLT, Int.reduceEq, Int.reduceNe, Int.reduceLT, Int.reduceLE, Int.reduceAdd, Int.reduceSub, Int.reduceMul, Int.reduceNeg, Int.reduceToNat, Int.reducePow, Nat.reducePow, not_false_eq_true, not_true_eq_false, reduceCtorEq, reduceIte, if_true, if_false, Bool.true_eq_false, Bool.false_eq_true, List.length_cons, List.length_nil, and_self, true_and, and_true, List.drop_zero, List.take_succ_cons, List.take_zero, List.drop_succ_cons]
      exact ih hlt _ (by simp only [hC, ← Nat.add_assoc, gcK, lowB, Nat.reduceLeDiff, Nat.reduceBEq, List.contains_nil, List.contains_cons, Bool.or_false, Bool.false_or, Bool.false_eq_true, if_false, Bool.true_and, Bool.and_true, pickL, look_hit, look_miss, look_end, slMent, hpMent, S.ment, S.ment.smt, ments, V.ment, List.append_nil, List.nil_append, List.cons_append, List.all_nil, List.all_cons, Option.isSome_some, Bool.and_self, if_true, reduceIte, Nat.reduceEqDiff, not_false_eq_true, reduceCtorEq, Nat.reduceMul, Nat.reduceAdd])
    · obtain rfl : i = 4 := by omega
      have g1 : decide (((4 : Nat) : Int) < 4) = false := by simp
      have htt : (tailN z).take 4 = tailN z := rfl
      have hll : (b ++ tailN z).length = b.length + 4 := by rw [List.length_append]; rfl
      rw [htt, hT]
      have htk : List.take (b.length + 4) ((b ++ tailN z).map eU) = (b ++ tailN z).map eU := List.take_of_length_le (by rw [List.length_map]; omega)
      generalize b ++ tailN z = G at *
      simp only [g1, htk, hll, List.length_map, Nat.le_refl, j47, b47, q47, qq, ww, List.append_nil, List.all_nil, List.all_cons, true_or, or_true, false_or, or_false, List.contains_nil, List.isEmpty_nil, List.take_length, List.getElem?_cons_zero, List.getElem?_cons_succ, List.set_cons_zero, List.set_cons_succ, List.replicate, Option.isNone_none, List.map_append, List.length_append, List.all_nil, List.contains_cons, Nat.reduceBEq, List.map_cons, List.map_nil, List.cons_append, List.nil_append, Option.getD_some, Option.getD_none, Option.map_some, Option.map_none, Option.bind_some, Nat.reduceAdd, Nat.reduceMul, Nat.reduceDiv, Nat.reduceEqDiff, Nat.reduceLeDiff, Nat.reduceLT, Int.reduceEq, Int.reduceNe, Int.reduceLT, Int.reduceLE, Int.reduceAdd, Int.reduceSub, Int.reduceMul, Int.reduceNeg, Int.reduceToNat, Int.reducePow, Nat.reducePow, not_false_eq_true, not_true_eq_false, reduceCtorEq, reduceIte, if_true, if_false, Bool.true_eq_false, Bool.false_eq_true, List.length_cons, List.length_nil, and_self, true_and, and_true, List.drop_zero, List.take_succ_cons, List.take_zero, List.drop_succ_cons]
theorem cutA (b : List Int) (M : Nat) : (if (0 : Int) = (M : Int) then some (S.one (V.row []), ([] : Hp)) else if ((b.map eU).all fun x => x.length == 1) = true then some (S.one (V.row (List.take M (b.map eU))), []) else none) = some (S.one (rU (b.take M)), []) := by
  rw [allU]
  split
  · rename_i h
    obtain rfl : M = 0 := by omega
    rfl
  · rw [← List.map_take]; rfl
theorem sel_eq (b : List Int) (k : Nat) (hk : b.length = k + 4) : decide (sel (b.take k) = b) = sealed b := by
  rw [sealed, show b.length - 4 = k by omega, sel]
  apply decide_eq_decide.2
  constructor
  · intro h
    have h2 := congrArg (List.drop k) h
    rw [List.drop_left' (by rw [List.length_take]; omega)] at h2
    exact h2.symm
  · intro h
    rw [← h]
    exact List.take_append_drop k b
/-- What the page's Open tells. -/
theorem e34 (N d : Nat) (b : List Int) (hb : Bs b) (hN : b.length < N) (hN8 : 8 < N) (hl : b.length < 1000000) : ans (TT N (d + 3) 34 [.one (rU b)]) = some (.tup [.one (rU (opn b).1), iV (opn b).2]) := by
  rw [t34, F_ev rfl]
  by_cases hlt : b.length < 4
  · have h1 : decide ((b.length : Int) < 4) = true := by simp; omega
    rw [show opn b = ([], 2) by simp [opn, hlt]]
    simp only [h1, List.length_map, List.map_nil, j34, b34, q34, qq, ww, List.append_nil, List.all_nil, List.all_cons, true_or, or_true, false_or, or_false, List.contains_nil, List.isEmpty_nil, List.take_length, List.getElem?_cons_zero, List.getElem?_cons_succ, List.set_cons_zero, List.set_cons_succ, List.replicate, Option.isNone_none, List.map_append, List.length_append, List.all_nil, List.contains_cons, Nat.reduceBEq, List.map_cons, List.map_nil, List.cons_append, List.nil_append, Option.getD_some, Option.getD_none, Option.map_some, Option.map_none, Option.bind_some, Nat.reduceAdd, Nat.reduceMul, Nat.reduceDiv, Nat.reduceEqDiff, Nat.reduceLeDiff, Nat.reduceLT, Int.reduceEq, Int.reduceNe, Int.reduceLT, Int.reduceLE, Int.reduceAdd, Int.reduceSub, Int.reduceMul, Int.reduceNeg, Int.reduceToNat, Int.reducePow, Nat.reducePow, not_false_eq_true, not_true_eq_false, reduceCtorEq, reduceIte, if_true, if_false, Bool.true_eq_false, Bool.false_eq_true, List.length_cons, List.length_nil, and_self, true_and, and_true, List.drop_zero, List.take_succ_cons, List.take_zero, List.drop_succ_cons]
    rfl
  · have h1 : decide ((b.length : Int) < 4) = false := by simp; omega
    obtain ⟨k, hk⟩ : ∃ k, b.length = k + 4 := ⟨b.length - 4, by omega⟩
    have hw : IntKind.i64.wrap ((b.length : Int) - 4) = (k : Int) := by rw [IntWalk.i64_in _ (by omega)]; omega
    have hk2 : (0 : Int) ≤ (k : Int) ∧ (k : Int) ≤ (b.length : Int) := by omega
    have htl : (b.take k).length = k := by simp; omega
    have h47 := fun d => e47 N d (b.take k) (Bs_take hb k) (by omega) hN8 (by omega)
    have h10 := fun d => e10 N d (sel (b.take k)) b (by rw [sel_len]; omega) (by rw [sel_len]; omega)
    rw [htl] at h47
    have htk : List.take (k + 4) ((sel (b.take k)).map eU) = (sel (b.take k)).map eU := List.take_of_length_le (by rw [List.length_map, sel_len]; omega)
    have hse := sel_eq b k hk
    rw [hse] at h10
    have h14 := fun d => e14 N d (b.take k) (by omega)
    rw [htl] at h14
    have htk2 : List.take k ((b.take k).map eU) = (b.take k).map eU := List.take_of_length_le (by rw [List.length_map]; omega)
    have hcut := cutA b k
    have hsl : ((sel (b.take k)).map eU).length = k + 4 := by rw [List.length_map, sel_len, htl]
    have hxl : ((b.take k).map eU).length = k := by rw [List.length_map, htl]
    generalize hS : sel (b.take k) = Q at *
    cases hs : sealed b with
    | true =>
      rw [hs] at h10
      rw [show opn b = (b.take k, 0) by rw [opn, if_neg hlt, if_pos hs, show b.length - 4 = k by omega]]
      generalize b.take k = x at *
      simp only [h1, hw, hk2.1, hk2.2, hcut, h47, h10, h14, htk, htk2, hsl, hxl, List.length_map, Bool.not_true, Nat.le_refl, j34, b34, q34, qq, ww, List.append_nil, List.all_nil, List.all_cons, true_or, or_true, false_or, or_false, List.contains_nil, List.isEmpty_nil, List.take_length, List.getElem?_cons_zero, List.getElem?_cons_succ, List.set_cons_zero, List.set_cons_succ, List.replicate, Option.isNone_none, List.map_append, List.length_append, List.all_nil, List.contains_cons, Nat.reduceBEq, List.map_cons, List.map_nil, List.cons_append, List.nil_append, Option.getD_some, Option.getD_none, Option.map_some, Option.map_none, Option.bind_some, Nat.reduceAdd, Nat.reduceMul, Nat.reduceDiv, Nat.reduceEqDiff, Nat.reduceLeDiff, Nat.reduceLT, Int.reduceEq, Int.reduceNe, Int.reduceLT, Int.reduceLE, Int.reduceAdd, Int.reduceSub, Int.reduceMul, Int.reduceNeg, Int.reduceToNat, Int.reducePow, Nat.reducePow, not_false_eq_true, not_true_eq_false, reduceCtorEq, reduceIte, if_true, if_false, Bool.true_eq_false, Bool.false_eq_true, List.length_cons, List.length_nil, and_self, true_and, and_true, List.drop_zero, List.take_succ_cons, List.take_zero, List.drop_succ_cons]
    | false =>
      rw [hs] at h10
      rw [show opn b = ([], 4) by rw [opn, if_neg hlt, if_neg (by rw [hs]; decide)]]
      generalize b.take k = x at *
      simp only [h1, hw, hk2.1, hk2.2, hcut, h47, h10, h14, htk, htk2, hsl, hxl, List.length_map, List.map_nil, Bool.not_false, Nat.le_refl, j34, b34, q34, qq, ww, List.append_nil, List.all_nil, List.all_cons, true_or, or_true, false_or, or_false, List.contains_nil, List.isEmpty_nil, List.take_length, List.getElem?_cons_zero, List.getElem?_cons_succ, List.set_cons_zero, List.set_cons_succ, List.replicate, Option.isNone_none, List.map_append, List.length_append, List.all_nil, List.contains_cons, Nat.reduceBEq, List.map_cons, List.map_nil, List.cons_append, List.nil_append, Option.getD_some, Option.getD_none, Option.map_some, Option.map_none, Option.bind_some, Nat.reduceAdd, Nat.reduceMul, Nat.reduceDiv, Nat.reduceEqDiff, Nat.reduceLeDiff, Nat.reduceLT, Int.reduceEq, Int.reduceNe, Int.reduceLT, Int.reduceLE, Int.reduceAdd, Int.reduceSub, Int.reduceMul, Int.reduceNeg, Int.reduceToNat, Int.reducePow, Nat.reducePow, not_false_eq_true, not_true_eq_false, reduceCtorEq, reduceIte, if_true, if_false, Bool.true_eq_false, Bool.false_eq_true, List.length_cons, List.length_nil, and_self, true_and, and_true, List.drop_zero, List.take_succ_cons, List.take_zero, List.drop_succ_cons]
      rfl
end Go.Proofs.Ytgjacdfiilcaaaa.CA
