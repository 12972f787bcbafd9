import Derived.Test.YtgjacdfiilcaaaaWR
import Derived.Test.YtgjacdfiilcaaaaMH
set_option linter.unusedSimpArgs false
set_option linter.unusedVariables false
namespace Go.Proofs.Ytgjacdfiilcaaaa.CA
open Go Go.Proofs.YtgjacdfiilcaaaaR Go.Proofs.Ytgjacdfiilcaaaa.IW Go.Proofs.Ytgjacdfiilcaaaa.CZ Go.Proofs.Ytgjacdfiilcaaaa.WZ
open Go.Proofs.Ytgjacdfiilcaaaa.MA (Mg eM aM msgOK)
set_option maxRecDepth 100000
set_option maxHeartbeats 8000000
theorem get1 (x : List Int) {o : Nat} (h : o < x.length) : (x.map eU)[o]? = some (eU (nB x o 1)) := by
  have e : (x.drop o).take 1 = [x[o]] := by rw [show x.drop o = x[o] :: x.drop (o + 1) by simp]; rfl
  rw [nB, e, beV_one]
  simp [h]
theorem cut2 (x : List Int) (a b : Nat) : List.drop a (List.take b (x.map eU)) = ((x.drop a).take (b - a)).map eU := by
  rw [← List.map_take, ← List.map_drop, List.drop_take]
theorem num4 {x : List Int} (hx : Bs x) (o : Nat) (h : o + 4 ≤ x.length) : numB ((x.drop o).take 4) = (nB x o 4, true) := by
  have := (nB_in hx o 4 h).2
  have p : (256 : Int) ^ 4 = 4294967296 := by decide
  unfold nB at this
  rw [numB, if_neg (by omega)]
  rfl
theorem w1b {x : List Int} (hx : Bs x) (o : Nat) (h : o + 1 ≤ x.length) : IntKind.i64.wrap (nB x o 1) = nB x o 1 := by
  have := nB_in hx o 1 h
  have p : (256 : Int) ^ 1 = 256 := by decide
  exact IntWalk.i64_in _ (by omega)
theorem e17 (N d : Nat) (b : List Int) (hb : Bs b) (hl : b.length < 1000) : ans (TT (N + 3000) (d + 10) 17 [.one (rU b)]) = some (.tup [aM (decM b).1, iV (decM b).2]) := by
  have h34 := fun d => e34 (N + 3000) d b hb (by omega) (by omega) (by omega)
  rw [t17, F_ev rfl]
  cases hL : decide ((80 : Int) < (b.length : Int)) with
  | true =>
    have : 80 < b.length := by simp at hL; omega
    rw [show decM b = (zM, 2) by rw [decM, if_pos this]]
    simp only [hL, List.length_map, j17, b17, q17, qq, ww, List.append_nil, List.all_nil, List.all_cons, true_or, or_true, false_or, or_false, List.contains_nil, List.isEmpty_nil, List.take_length, List.getElem?_cons_zero, List.getElem?_cons_succ, List.set_cons_zero, List.set_cons_succ, List.replicate, Option.isNone_none, List.map_append, List.length_append, List.all_nil, List.contains_cons, Nat.reduceBEq, List.map_cons, List.map_nil, List.cons_append, List.nil_append, Option.getD_some, Option.getD_none, Option.map_some, Option.map_none, Option.bind_some, Nat.reduceAdd, Nat.reduceMul, Nat.reduceDiv, Nat.reduceEqDiff, Nat.reduceLeDiff, Nat.reduceLT, Int.reduceEq, Int.reduceNe, Int.reduceLT, Int.reduceLE, Int.reduceAdd, Int.reduceSub, Int.reduceMul, Int.reduceNeg, Int.reduceToNat, Int.reducePow, Nat.reducePow, not_false_eq_true, not_true_eq_false, reduceCtorEq, reduceIte, if_true, if_false, Bool.true_eq_false, Bool.false_eq_true, List.length_cons, List.length_nil, and_self, true_and, and_true, List.drop_zero, List.take_succ_cons, List.take_zero, List.drop_succ_cons]
    rfl
  | false =>
    have hL' : ¬ 80 < b.length := by simp at hL; omega
    rcases opn_c b with ⟨c0, c1⟩ | ⟨c0, cs, c1⟩ | ⟨c0, cs, c1⟩
    · rw [c1] at h34
      rw [show decM b = (zM, 2) by rw [decM, if_neg hL', c1]; rfl]
      simp only [hL, h34, List.length_map, List.map_nil, j17, b17, q17, qq, ww, List.append_nil, List.all_nil, List.all_cons, true_or, or_true, false_or, or_false, List.contains_nil, List.isEmpty_nil, List.take_length, List.getElem?_cons_zero, List.getElem?_cons_succ, List.set_cons_zero, List.set_cons_succ, List.replicate, Option.isNone_none, List.map_append, List.length_append, List.all_nil, List.contains_cons, Nat.reduceBEq, List.map_cons, List.map_nil, List.cons_append, List.nil_append, Option.getD_some, Option.getD_none, Option.map_some, Option.map_none, Option.bind_some, Nat.reduceAdd, Nat.reduceMul, Nat.reduceDiv, Nat.reduceEqDiff, Nat.reduceLeDiff, Nat.reduceLT, Int.reduceEq, Int.reduceNe, Int.reduceLT, Int.reduceLE, Int.reduceAdd, Int.reduceSub, Int.reduceMul, Int.reduceNeg, Int.reduceToNat, Int.reducePow, Nat.reducePow, not_false_eq_true, not_true_eq_false, reduceCtorEq, reduceIte, if_true, if_false, Bool.true_eq_false, Bool.false_eq_true, List.length_cons, List.length_nil, and_self, true_and, and_true, List.drop_zero, List.take_succ_cons, List.take_zero, List.drop_succ_cons]
      rfl
    rotate_left
    · rw [c1] at h34
      rw [show decM b = (zM, 4) by rw [decM, if_neg hL', c1]; rfl]
      simp only [hL, h34, List.length_map, List.map_nil, j17, b17, q17, qq, ww, List.append_nil, List.all_nil, List.all_cons, true_or, or_true, false_or, or_false, List.contains_nil, List.isEmpty_nil, List.take_length, List.getElem?_cons_zero, List.getElem?_cons_succ, List.set_cons_zero, List.set_cons_succ, List.replicate, Option.isNone_none, List.map_append, List.length_append, List.all_nil, List.contains_cons, Nat.reduceBEq, List.map_cons, List.map_nil, List.cons_append, List.nil_append, Option.getD_some, Option.getD_none, Option.map_some, Option.map_none, Option.bind_some, Nat.reduceAdd, Nat.reduceMul, Nat.reduceDiv, Nat.reduceEqDiff, Nat.reduceLeDiff, Nat.reduceLT, Int.reduceEq, Int.reduceNe, Int.reduceLT, Int.reduceLE, Int.reduceAdd, Int.reduceSub, Int.reduceMul, Int.reduceNeg, Int.reduceToNat, Int.reducePow, Nat.reducePow, not_false_eq_true, not_true_eq_false, reduceCtorEq, reduceIte, if_true, if_false, Bool.true_eq_false, Bool.false_eq_true, List.length_cons, List.length_nil, and_self, true_and, and_true, List.drop_zero, List.take_succ_cons, List.take_zero, List.drop_succ_cons]
      rfl
    · rw [c1] at h34
      have hxl : (b.take (b.length - 4)).length < 100 := by rw [List.length_take]; omega
      have hx := Bs_take hb (b.length - 4)
      have hd : decM b = match rdM (b.take (b.length - 4)) with
        | none => (zM, 3)
        | some (ns, pa, td) => if msgOK (mkM ns pa td) = true then (mkM ns pa td, 0) else (zM, 5) := by
        rw [decM, if_neg hL', c1]; rfl
      rw [hd]
      generalize b.take (b.length - 4) = x at *
      by_cases h42 : x.length < 42
      · have g1 : decide ((x.length : Int) < 42) = true := by simp; omega
        rw [rd_short h42]
        simp only [hL, h34, g1, List.length_map, j17, b17, q17, qq, ww, List.append_nil, List.all_nil, List.all_cons, true_or, or_true, false_or, or_false, List.contains_nil, List.isEmpty_nil, List.take_length, List.getElem?_cons_zero, List.getElem?_cons_succ, List.set_cons_zero, List.set_cons_succ, List.replicate, Option.isNone_none, List.map_append, List.length_append, List.all_nil, List.contains_cons, Nat.reduceBEq, List.map_cons, List.map_nil, List.cons_append, List.nil_append, Option.getD_some, Option.getD_none, Option.map_some, Option.map_none, Option.bind_some, Nat.reduceAdd, Nat.reduceMul, Nat.reduceDiv, Nat.reduceEqDiff, Nat.reduceLeDiff, Nat.reduceLT, Int.reduceEq, Int.reduceNe, Int.reduceLT, Int.reduceLE, Int.reduceAdd, Int.reduceSub, Int.reduceMul, Int.reduceNeg, Int.reduceToNat, Int.reducePow, Nat.reducePow, not_false_eq_true, not_true_eq_false, reduceCtorEq, reduceIte, if_true, if_false, Bool.true_eq_false, Bool.false_eq_true, List.length_cons, List.length_nil, and_self, true_and, and_true, List.drop_zero, List.take_succ_cons, List.take_zero, List.drop_succ_cons]
        rfl
      · have g1 : decide ((x.length : Int) < 42) = false := by simp; omega
        have p0 : (0 : Int) < (x.length : Int) := by omega
        have p1 : (1 : Int) < (x.length : Int) := by omega
        have p2 : (2 : Int) < (x.length : Int) := by omega
        have p3 : (3 : Int) < (x.length : Int) := by omega
        have p32 : (32 : Int) < (x.length : Int) := by omega
        have p41 : (41 : Int) < (x.length : Int) := by omega
        have r8 : (8 : Int) ≤ (x.length : Int) := by omega
        have r12 : (12 : Int) ≤ (x.length : Int) := by omega
        have r20 : (20 : Int) ≤ (x.length : Int) := by omega
        have r24 : (24 : Int) ≤ (x.length : Int) := by omega
        have r28 : (28 : Int) ≤ (x.length : Int) := by omega
        have r32 : (32 : Int) ≤ (x.length : Int) := by omega
        have r37 : (37 : Int) ≤ (x.length : Int) := by omega
        have r41 : (41 : Int) ≤ (x.length : Int) := by omega
        have l0 := get1 x (o := 0) (by omega)
        have l1 := get1 x (o := 1) (by omega)
        have l2 := get1 x (o := 2) (by omega)
        have l3 := get1 x (o := 3) (by omega)
        have l32 := get1 x (o := 32) (by omega)
        have l41 := get1 x (o := 41) (by omega)
        have v0 := w1b hx 0 (by omega)
        have v1 := w1b hx 1 (by omega)
        have v2 := w1b hx 2 (by omega)
        have v3 := w1b hx 3 (by omega)
        have v32 := w1b hx 32 (by omega)
        have v41 := w1b hx 41 (by omega)
        have k12 := cut2 x 12 20
        have k4 := cut2 x 4 8
        have k8 := cut2 x 8 12
        have k20 := cut2 x 20 24
        have k24 := cut2 x 24 28
        have k28 := cut2 x 28 32
        have k33 := cut2 x 33 37
        have k37 := cut2 x 37 41
        have h35 : ∀ d o s, s ≤ 8 → TT (N + 3000) (d + 1) 35 [.one (rU ((x.drop o).take s))] = some (.tup [iV (numB ((x.drop o).take s)).1, bV (numB ((x.drop o).take s)).2], []) := fun d o s h => e35 (N + 3000) d _ (Bs_take (Bs_drop hx o) s) (by rw [List.length_take]; omega) (by omega)
        have a4 := fun d => h35 d 4 4 (by omega)
        have a8 := fun d => h35 d 8 4 (by omega)
        have a12 := fun d => h35 d 12 8 (by omega)
        have a20 := fun d => h35 d 20 4 (by omega)
        have a24 := fun d => h35 d 24 4 (by omega)
        have a28 := fun d => h35 d 28 4 (by omega)
        have a33 := fun d => h35 d 33 4 (by omega)
        have a37 := fun d => h35 d 37 4 (by omega)
        rw [num4 hx 4 (by omega)] at a4
        rw [num4 hx 8 (by omega)] at a8
        rw [num4 hx 20 (by omega)] at a20
        rw [num4 hx 24 (by omega)] at a24
        rw [num4 hx 28 (by omega)] at a28
        rw [num4 hx 33 (by omega)] at a33
        rw [num4 hx 37 (by omega)] at a37
        clear h35
        have hrd : rdM x = dec3 (if 4611686018427387904 ≤ nB x 12 8 then none else some (numsC x, x.drop 42)) := by rw [rdM, dec42 hx (by omega)]
        have h36 := fun d => e36 (N + 3000) d x 42 hx (by omega) (by omega) (by omega)
        have h36n := fun d => e36n (N + 3000) d x
        have hnb : (numB ((x.drop 12).take 8) = (0, false) ∧ 4611686018427387904 ≤ nB x 12 8) ∨ (numB ((x.drop 12).take 8) = (nB x 12 8, true) ∧ ¬ 4611686018427387904 ≤ nB x 12 8) := by
          by_cases hbig : 4611686018427387904 ≤ nB x 12 8
          · exact .inl ⟨by rw [numB]; exact if_pos hbig, hbig⟩
          · exact .inr ⟨by rw [numB]; exact if_neg hbig, hbig⟩
        cases hd1 : decL (x.drop 42) with
        | none =>
          rw [hd1] at h36
          simp only [intA, Int.cast_ofNat_Int] at h36
          have hm1 : decide ((-1 : Int) = (x.length : Int)) = false := decide_eq_false (by omega)
          have hrn : rdM x = none := by
            rw [hrd]
            split
            · rfl
            · exact d3a hd1
          rw [hrn]
          rcases hnb with ⟨e1, e2⟩ | ⟨e1, e2⟩ <;> rw [e1] at a12 <;> simp only [hL, h34, g1, p0, p1, p2, p3, p32, p41, r8, r12, r20, r24, r28, r32, r37, r41, l0, l1, l2, l3, l32, l41, v0, v1, v2, v3, v32, v41, k4, k8, k12, k20, k24, k28, k33, k37, a4, a8, a12, a20, a24, a28, a33, a37, allU, Nat.reduceSub, h36, h36n, hm1, List.length_map, List.map_nil, Bool.not_true, Bool.not_false, j17, b17, q17, qq, ww, List.append_nil, List.all_nil, List.all_cons, true_or, or_true, false_or, or_false, List.contains_nil, List.isEmpty_nil, List.take_length, List.getElem?_cons_zero, List.getElem?_cons_succ, List.set_cons_zero, List.set_cons_succ, List.replicate, Option.isNone_none, List.map_append, List.length_append, List.all_nil, List.contains_cons, Nat.reduceBEq, List.map_cons, List.map_nil, List.cons_append, List.nil_append, Option.getD_some, Option.getD_none, Option.map_some, Option.map_none, Option.bind_some, Nat.reduceAdd, Nat.reduceMul, Nat.reduceDiv, Nat.reduceEqDiff, Nat.reduceLeDiff, Nat.reduceLT, Int.reduceEq, Int.reduceNe, Int.reduceLT, Int.reduceLE, Int.reduceAdd, Int.reduceSub, Int.reduceMul, Int.reduceNeg, Int.reduceToNat, Int.reducePow, Nat.reducePow, not_false_eq_true, not_true_eq_false, reduceCtorEq, reduceIte, if_true, if_false, Bool.true_eq_false, Bool.false_eq_true, List.length_cons, List.length_nil, and_self, true_and, and_true, List.drop_zero, List.take_succ_cons, List.take_zero, List.drop_succ_cons]
          · rfl
          · rfl
        | some pr =>
          obtain ⟨pa, r2⟩ := pr
          rw [hd1] at h36
          obtain ⟨q1, q2⟩ := decL_drop hx (by omega) hd1
          simp only [intA] at h36
          obtain ⟨A, hA⟩ : ∃ A, A = 42 + 1 + pa.length := ⟨_, rfl⟩
          rw [← hA] at h36 q1 q2
          simp only [Int.cast_ofNat_Int] at h36
          have h36b := fun d => e36 (N + 3000) d x A hx (by omega) (by omega) (by omega)
          have hm1 : decide ((-1 : Int) = (x.length : Int)) = false := decide_eq_false (by omega)
          cases hd2 : decL (x.drop A) with
          | none =>
            rw [hd2] at h36b
            simp only [intA] at h36b
            have hrn : rdM x = none := by
              rw [hrd]
              split
              · rfl
              · exact d3b hd1 (by rw [q1]; exact hd2)
            rw [hrn]
            rcases hnb with ⟨e1, e2⟩ | ⟨e1, e2⟩ <;> rw [e1] at a12 <;> simp only [hL, h34, g1, p0, p1, p2, p3, p32, p41, r8, r12, r20, r24, r28, r32, r37, r41, l0, l1, l2, l3, l32, l41, v0, v1, v2, v3, v32, v41, k4, k8, k12, k20, k24, k28, k33, k37, a4, a8, a12, a20, a24, a28, a33, a37, allU, Nat.reduceSub, h36, h36b, hm1, takeI, List.length_map, List.map_nil, Nat.le_refl, Bool.not_true, Bool.not_false, j17, b17, q17, qq, ww, List.append_nil, List.all_nil, List.all_cons, true_or, or_true, false_or, or_false, List.contains_nil, List.isEmpty_nil, List.take_length, List.getElem?_cons_zero, List.getElem?_cons_succ, List.set_cons_zero, List.set_cons_succ, List.replicate, Option.isNone_none, List.map_append, List.length_append, List.all_nil, List.contains_cons, Nat.reduceBEq, List.map_cons, List.map_nil, List.cons_append, List.nil_append, Option.getD_some, Option.getD_none, Option.map_some, Option.map_none, Option.bind_some, Nat.reduceAdd, Nat.reduceMul, Nat.reduceDiv, Nat.reduceEqDiff, Nat.reduceLeDiff, Nat.reduceLT, Int.reduceEq, Int.reduceNe, Int.reduceLT, Int.reduceLE, Int.reduceAdd, Int.reduceSub, Int.reduceMul, Int.reduceNeg, Int.reduceToNat, Int.reducePow, Nat.reducePow, not_false_eq_true, not_true_eq_false, reduceCtorEq, reduceIte, if_true, if_false, Bool.true_eq_false, Bool.false_eq_true, List.length_cons, List.length_nil, and_self, true_and, and_true, List.drop_zero, List.take_succ_cons, List.take_zero, List.drop_succ_cons]
            · rfl
            · rfl
          | some pr =>
            obtain ⟨td, r3⟩ := pr
            rw [hd2] at h36b
            obtain ⟨q3, q4⟩ := decL_drop hx (by omega) hd2
            simp only [intA] at h36b
            obtain ⟨B, hB⟩ : ∃ B, B = A + 1 + td.length := ⟨_, rfl⟩
            rw [← hB] at h36b q3 q4
            rcases hnb with ⟨e1, e2⟩ | ⟨e1, e2⟩
            · rw [e1] at a12
              have hrn : rdM x = none := by rw [hrd, if_pos e2]; rfl
              rw [hrn]
              simp only [hL, h34, g1, p0, p1, p2, p3, p32, p41, r8, r12, r20, r24, r28, r32, r37, r41, l0, l1, l2, l3, l32, l41, v0, v1, v2, v3, v32, v41, k4, k8, k12, k20, k24, k28, k33, k37, a4, a8, a12, a20, a24, a28, a33, a37, allU, Nat.reduceSub, h36, h36b, takeI, List.length_map, List.map_nil, Nat.le_refl, Bool.not_true, Bool.not_false, j17, b17, q17, qq, ww, List.append_nil, List.all_nil, List.all_cons, true_or, or_true, false_or, or_false, List.contains_nil, List.isEmpty_nil, List.take_length, List.getElem?_cons_zero, List.getElem?_cons_succ, List.set_cons_zero, List.set_cons_succ, List.replicate, Option.isNone_none, List.map_append, List.length_append, List.all_nil, List.contains_cons, Nat.reduceBEq, List.map_cons, List.map_nil, List.cons_append, List.nil_append, Option.getD_some, Option.getD_none, Option.map_some, Option.map_none, Option.bind_some, Nat.reduceAdd, Nat.reduceMul, Nat.reduceDiv, Nat.reduceEqDiff, Nat.reduceLeDiff, Nat.reduceLT, Int.reduceEq, Int.reduceNe, Int.reduceLT, Int.reduceLE, Int.reduceAdd, Int.reduceSub, Int.reduceMul, Int.reduceNeg, Int.reduceToNat, Int.reducePow, Nat.reducePow, not_false_eq_true, not_true_eq_false, reduceCtorEq, reduceIte, if_true, if_false, Bool.true_eq_false, Bool.false_eq_true, List.length_cons, List.length_nil, and_self, true_and, and_true, List.drop_zero, List.take_succ_cons, List.take_zero, List.drop_succ_cons]
              rfl
            · rw [e1] at a12
              by_cases hBx : B = x.length
              · have g2 : decide ((B : Int) = (x.length : Int)) = true := decide_eq_true (by omega)
                have hr3 : r3 = [] := by rw [q3]; exact List.drop_of_length_le (by omega)
                have hrs : rdM x = some (numsC x, pa, td) := by
                  rw [hrd, if_neg e2]
                  exact d3c hd1 (by rw [q1, hd2, hr3])
                rw [hrs]
                have h19 : ∀ d, TT (N + 3000) (d + 6) 19 [.agg [.int .i64 (nB x 0 1), .int .i64 (nB x 1 1), .int .i64 (nB x 4 4), .int .i64 (nB x 2 1), .int .i64 (nB x 8 4), .int .i64 (nB x 3 1), .int .i64 (nB x 12 8), .int .i64 (nB x 20 4), .int .i64 (nB x 24 4), .int .i64 (nB x 28 4), .int .i64 (nB x 32 1), .int .i64 (nB x 33 4), .int .i64 (nB x 37 4), .int .i64 (nB x 41 1), .row (pa.map eI), .row (td.map eI)]] = some (bV (msgOK (mkM (numsC x) pa td)), []) := fun d => MA.e19 N d (mkM (numsC x) pa td) (by rw [mk_pa]; omega) (by rw [mk_td]; omega)
                dsimp only
                cases hm : msgOK (mkM (numsC x) pa td) with
                | true =>
                  rw [hm] at h19
                  rw [if_pos rfl]
                  simp only [hL, h34, g1, p0, p1, p2, p3, p32, p41, r8, r12, r20, r24, r28, r32, r37, r41, l0, l1, l2, l3, l32, l41, v0, v1, v2, v3, v32, v41, k4, k8, k12, k20, k24, k28, k33, k37, a4, a8, a12, a20, a24, a28, a33, a37, allU, Nat.reduceSub, h36, h36b, g2, h19, takeI, List.length_map, List.map_nil, Nat.le_refl, Bool.not_true, Bool.not_false, j17, b17, q17, qq, ww, List.append_nil, List.all_nil, List.all_cons, true_or, or_true, false_or, or_false, List.contains_nil, List.isEmpty_nil, List.take_length, List.getElem?_cons_zero, List.getElem?_cons_succ, List.set_cons_zero, List.set_cons_succ, List.replicate, Option.isNone_none, List.map_append, List.length_append, List.all_nil, List.contains_cons, Nat.reduceBEq, List.map_cons, List.map_nil, List.cons_append, List.nil_append, Option.getD_some, Option.getD_none, Option.map_some, Option.map_none, Option.bind_some, Nat.reduceAdd, Nat.reduceMul, Nat.reduceDiv, Nat.reduceEqDiff, Nat.reduceLeDiff, Nat.reduceLT, Int.reduceEq, Int.reduceNe, Int.reduceLT, Int.reduceLE, Int.reduceAdd, Int.reduceSub, Int.reduceMul, Int.reduceNeg, Int.reduceToNat, Int.reducePow, Nat.reducePow, not_false_eq_true, not_true_eq_false, reduceCtorEq, reduceIte, if_true, if_false, Bool.true_eq_false, Bool.false_eq_true, List.length_cons, List.length_nil, and_self, true_and, and_true, List.drop_zero, List.take_succ_cons, List.take_zero, List.drop_succ_cons]
                  rfl
                | false =>
                  rw [hm] at h19
                  rw [if_neg (by decide)]
                  simp only [hL, h34, g1, p0, p1, p2, p3, p32, p41, r8, r12, r20, r24, r28, r32, r37, r41, l0, l1, l2, l3, l32, l41, v0, v1, v2, v3, v32, v41, k4, k8, k12, k20, k24, k28, k33, k37, a4, a8, a12, a20, a24, a28, a33, a37, allU, Nat.reduceSub, h36, h36b, g2, h19, takeI, List.length_map, List.map_nil, Nat.le_refl, Bool.not_true, Bool.not_false, j17, b17, q17, qq, ww, List.append_nil, List.all_nil, List.all_cons, true_or, or_true, false_or, or_false, List.contains_nil, List.isEmpty_nil, List.take_length, List.getElem?_cons_zero, List.getElem?_cons_succ, List.set_cons_zero, List.set_cons_succ, List.replicate, Option.isNone_none, List.map_append, List.length_append, List.all_nil, List.contains_cons, Nat.reduceBEq, List.map_cons, List.map_nil, List.cons_append, List.nil_append, Option.getD_some, Option.getD_none, Option.map_some, Option.map_none, Option.bind_some, Nat.reduceAdd, Nat.reduceMul, Nat.reduceDiv, Nat.reduceEqDiff, Nat.reduceLeDiff, Nat.reduceLT, Int.reduceEq, Int.reduceNe, Int.reduceLT, Int.reduceLE, Int.reduceAdd, Int.reduceSub, Int.reduceMul, Int.reduceNeg, Int.reduceToNat, Int.reducePow, Nat.reducePow, not_false_eq_true, not_true_eq_false, reduceCtorEq, reduceIte, if_true, if_false, Bool.true_eq_false, Bool.false_eq_true, List.length_cons, List.length_nil, and_self, true_and, and_true, List.drop_zero, List.take_succ_cons, List.take_zero, List.drop_succ_cons]
                  rfl
              · have g2 : decide ((B : Int) = (x.length : Int)) = false := decide_eq_false (by omega)
                have hrn : rdM x = none := by
                  rw [hrd, if_neg e2]
                  have hne : r3 ≠ [] := by
                    rw [q3]
                    intro e
                    have := congrArg List.length e
                    rw [List.length_drop] at this
                    simp at this
                    omega
                  rw [q1] at hd1
                  simp only [dec3, hd1, hd2]
                  cases r3 with
                  | nil => exact absurd rfl hne
                  | cons => rfl
                rw [hrn]
                simp only [hL, h34, g1, p0, p1, p2, p3, p32, p41, r8, r12, r20, r24, r28, r32, r37, r41, l0, l1, l2, l3, l32, l41, v0, v1, v2, v3, v32, v41, k4, k8, k12, k20, k24, k28, k33, k37, a4, a8, a12, a20, a24, a28, a33, a37, allU, Nat.reduceSub, h36, h36b, g2, takeI, List.length_map, List.map_nil, Nat.le_refl, Bool.not_true, Bool.not_false, j17, b17, q17, qq, ww, List.append_nil, List.all_nil, List.all_cons, true_or, or_true, false_or, or_false, List.contains_nil, List.isEmpty_nil, List.take_length, List.getElem?_cons_zero, List.getElem?_cons_succ, List.set_cons_zero, List.set_cons_succ, List.replicate, Option.isNone_none, List.map_append, List.length_append, List.all_nil, List.contains_cons, Nat.reduceBEq, List.map_cons, List.map_nil, List.cons_append, List.nil_append, Option.getD_some, Option.getD_none, Option.map_some, Option.map_none, Option.bind_some, Nat.reduceAdd, Nat.reduceMul, Nat.reduceDiv, Nat.reduceEqDiff, Nat.reduceLeDiff, Nat.reduceLT, Int.reduceEq, Int.reduceNe, Int.reduceLT, Int.reduceLE, Int.reduceAdd, Int.reduceSub, Int.reduceMul, Int.reduceNeg, Int.reduceToNat, Int.reducePow, Nat.reducePow, not_false_eq_true, not_true_eq_false, reduceCtorEq, reduceIte, if_true, if_false, Bool.true_eq_false, Bool.false_eq_true, List.length_cons, List.length_nil, and_self, true_and, and_true, List.drop_zero, List.take_succ_cons, List.take_zero, List.drop_succ_cons]
                rfl
end Go.Proofs.Ytgjacdfiilcaaaa.CA
