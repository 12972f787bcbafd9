import Derived.Test.YtgjacdfiilcaaaaWE
set_option linter.unusedSimpArgs false
set_option linter.unusedVariables false
namespace Go.Proofs.Ytgjacdfiilcaaaa.CA
open Go Go.Proofs.YtgjacdfiilcaaaaR Go.Proofs.Ytgjacdfiilcaaaa.IW Go.Proofs.Ytgjacdfiilcaaaa.CZ Go.Proofs.Ytgjacdfiilcaaaa.WZ
open Go.Proofs.Ytgjacdfiilcaaaa.MA (Mg eM aM msgOK)
set_option maxRecDepth 100000
set_option maxHeartbeats 4000000
def numsM (m : Mg) : List Int := [m.k, m.f, m.t, m.tp, m.fi, m.ti, m.e, m.s, m.l, m.v, m.nd, m.ic, m.c, m.h]
def encM (m : Mg) : List Int := enc (numsM m) m.pa m.td
theorem e30 (N d : Nat) (m : Mg) : TT N (d + 1) 30 [aM m] = some (.one (.sl 0 0 14), [(0, .rows 3 1 ((numsM m).map eI))]) := by
  rw [t30, F_ev rfl]
  simp only [numsM, j30, b30, q30, qq, ww, List.append_nil, List.all_nil, List.all_cons, true_or, or_true, false_or, or_false, List.contains_nil, List.isEmpty_nil, List.take_length, List.getElem?_cons_zero, List.getElem?_cons_succ, List.set_cons_zero, List.set_cons_succ, List.replicate, Option.isNone_none, List.map_append, List.length_append, List.all_nil, List.contains_cons, Nat.reduceBEq, List.map_cons, List.map_nil, List.cons_append, List.nil_append, Option.getD_some, Option.getD_none, Option.map_some, Option.map_none, Option.bind_some, Nat.reduceAdd, Nat.reduceMul, Nat.reduceDiv, Nat.reduceEqDiff, Nat.reduceLeDiff, Nat.reduceLT, Int.reduceEq, Int.reduceNe, Int.reduceLT, Int.reduceLE, Int.reduceAdd, Int.reduceSub, Int.reduceMul, Int.reduceNeg, Int.reduceToNat, Int.reducePow, Nat.reducePow, not_false_eq_true, not_true_eq_false, reduceCtorEq, reduceIte, if_true, if_false, Bool.true_eq_false, Bool.false_eq_true, List.length_cons, List.length_nil, and_self, true_and, and_true, List.drop_zero, List.take_succ_cons, List.take_zero, List.drop_succ_cons]
  try rfl
theorem encN_take : ∀ (ss : List Nat) (ns : List Int) (i s : Nat) (n : Int), ss[i]? = some s → ns[i]? = some n → encN (ss.take (i + 1)) (ns.take (i + 1)) = encN (ss.take i) (ns.take i) ++ digs s n
  | [], _, i, s, n, h, _ => by simp at h
  | _ :: _, [], i, s, n, _, h => by simp at h
  | a :: ss, b :: ns, 0, s, n, h, h' => by
    simp only [List.getElem?_cons_zero, Option.some.injEq] at h h'
    subst h; subst h'
    simp [encN]
  | a :: ss, b :: ns, i + 1, s, n, h, h' => by
    simp only [List.getElem?_cons_succ] at h h'
    show digs a b ++ encN (ss.take (i + 1)) (ns.take (i + 1)) = digs a b ++ encN (ss.take i) (ns.take i) ++ digs s n
    rw [encN_take ss ns i s n h h', List.append_assoc]
theorem encN_Bs : ∀ (ss : List Nat) (ns : List Int), Bs (encN ss ns)
  | [], _ => fun x hx => by cases hx
  | _ :: _, [] => fun x hx => by cases hx
  | s :: ss, n :: ns => Bs_app (digs_Bs s n) (encN_Bs ss ns)
theorem mod_Bs (l : List Int) : Bs (l.map (· % 256)) := by
  intro x hx
  obtain ⟨y, _, rfl⟩ := List.mem_map.1 hx
  show 0 ≤ y % 256 ∧ y % 256 ≤ 255
  omega
theorem encL_Bs (l : List Int) : Bs (encL l) := by
  intro x hx
  rcases List.mem_cons.1 hx with rfl | hx
  · omega
  · exact mod_Bs l x hx
theorem encM_Bs (m : Mg) : Bs (encM m) := Bs_app (encN_Bs _ _) (Bs_app (encL_Bs _) (encL_Bs _))
theorem encN_len : ∀ (ss : List Nat) (ns : List Int), (∀ s ∈ ss, s ≤ 8) → (encN ss ns).length ≤ 8 * ss.length
  | [], _, _ => by simp [encN]
  | _ :: _, [], _ => by simp [encN]
  | s :: ss, n :: ns, h => by
    have h1 := encN_len ss ns fun x hx => h x (List.mem_cons_of_mem _ hx)
    have h2 := h s (List.mem_cons_self ..)
    simp only [encN, List.length_append, digs_len, List.length_cons]
    omega
theorem szs8 : ∀ s ∈ szs, s ≤ 8 := by decide
theorem encM_len (m : Mg) : (encM m).length = 44 + m.pa.length + m.td.length := by
  simp only [encM, enc, encL, List.length_append, List.length_cons, List.length_map]
  have : (encN szs (numsM m)).length = 42 := by simp [szs, numsM, encN, digs_len]
  omega
/-- What Encode tells. -/
def encA (m : Mg) : Option (S × Hp) := if msgOK m = true then some (.tup [.one (.sl 0 0 (sel (encM m)).length), iV 0], [(0, .rows 5 1 ((sel (encM m)).map eU))]) else some (.tup [.one (.sl 0 0 0), iV 5], [(0, .rows 5 1 [])])
def eP (m : Mg) (i : Nat) : List Int := encN (szs.take i) ((numsM m).take i)
theorem nums_get (m : Mg) : ∀ i : Nat, i < 14 → ∃ n, (numsM m)[i]? = some n := fun i hi => ⟨(numsM m)[i]'(by show i < 14; exact hi), List.getElem?_eq_getElem _⟩
def b2 (m : Mg) : Nat → List Int
  | 0 => encN szs (numsM m)
  | 1 => encN szs (numsM m) ++ encL m.pa
  | _ => encM m
theorem b2_s (m : Mg) : ∀ k : Nat, k < 2 → ∃ l, [[V.row (m.pa.map eI)], [V.row (m.td.map eI)]][k]? = some [.row (l.map eI)] ∧ b2 m (k + 1) = b2 m k ++ encL l ∧ (l = m.pa ∨ l = m.td)
  | 0, _ => ⟨m.pa, rfl, rfl, .inl rfl⟩
  | 1, _ => ⟨m.td, rfl, by simp only [b2, encM, enc, List.append_assoc], .inr rfl⟩
theorem b2_len (m : Mg) (k : Nat) (ha : m.pa.length < 1000) (hb : m.td.length < 1000) : (b2 m k).length < 3000 := by
  have h0 : (encN szs (numsM m)).length = 42 := by simp [szs, numsM, encN, digs_len]
  match k with
  | 0 => simp only [b2]; omega
  | 1 => simp only [b2, encL, List.length_append, List.length_cons, List.length_map]; omega
  | _ + 2 => simp only [b2, encM_len]; omega
theorem e15 (N d : Nat) (m : Mg) (ha : m.pa.length < 1000) (hb : m.td.length < 1000) (hN : 1000 < N) : TT (N + 3000) (d + 10) 15 [aM m] = encA m := by
  have h29 := fun d => MA.e29 N d m ha hb
  rw [t15, F_ev rfl]
  cases hm : msgOK m with
  | false =>
    rw [show encA m = some (.tup [.one (.sl 0 0 0), iV 5], [(0, .rows 5 1 [])]) by rw [encA, if_neg (by rw [hm]; decide)]]
    simp only [h29, hm, j15, b15, q15, qq, ww, List.append_nil, List.all_nil, List.all_cons, true_or, or_true, false_or, or_false, List.contains_nil, List.isEmpty_nil, List.take_length, List.getElem?_cons_zero, List.getElem?_cons_succ, List.set_cons_zero, List.set_cons_succ, List.replicate, Option.isNone_none, List.map_append, List.length_append, List.all_nil, List.contains_cons, Nat.reduceBEq, List.map_cons, List.map_nil, List.cons_append, List.nil_append, Option.getD_some, Option.getD_none, Option.map_some, Option.map_none, Option.bind_some, Nat.reduceAdd, Nat.reduceMul, Nat.reduceDiv, Nat.reduceEqDiff, Nat.reduceLeDiff, Nat.reduceLT, Int.reduceEq, Int.reduceNe, Int.reduceLT, Int.reduceLE, Int.reduceAdd, Int.reduceSub, Int.reduceMul, Int.reduceNeg, Int.reduceToNat, Int.reducePow, Nat.reducePow, not_false_eq_true, not_true_eq_false, reduceCtorEq, reduceIte, if_true, if_false, Bool.true_eq_false, Bool.false_eq_true, List.length_cons, List.length_nil, and_self, true_and, and_true, List.drop_zero, List.take_succ_cons, List.take_zero, List.drop_succ_cons]
  | true =>
  rw [show encA m = some (.tup [.one (.sl 0 0 (sel (encM m)).length), iV 0], [(0, .rows 5 1 ((sel (encM m)).map eU))]) by rw [encA, if_pos hm]]
  have h30 := fun d => e30 (N + 3000) d m
  have h31 := fun d => e31 (N + 3000) d
  have hn14 : (numsM m).length = 14 := rfl
  have ht14 : List.take 14 ((numsM m).map eI) = (numsM m).map eI := List.take_of_length_le (by rw [List.length_map, hn14]; omega)
  simp only [h29, h30, h31, hm, ht14, hn14, show List.take 14 (szI.map eI) = szI.map eI from rfl, show szI.length = 14 from rfl, List.length_map, Nat.le_refl, j15, b15, q15, qq, ww, List.append_nil, List.all_nil, List.all_cons, true_or, or_true, false_or, or_false, List.contains_nil, List.isEmpty_nil, List.take_length, List.getElem?_cons_zero, List.getElem?_cons_succ, List.set_cons_zero, List.set_cons_succ, List.replicate, Option.isNone_none, List.map_append, List.length_append, List.all_nil, List.contains_cons, Nat.reduceBEq, List.map_cons, List.map_nil, List.cons_append, List.nil_append, Option.getD_some, Option.getD_none, Option.map_some, Option.map_none, Option.bind_some, Nat.reduceAdd, Nat.reduceMul, Nat.reduceDiv, Nat.reduceEqDiff, Nat.reduceLeDiff, Nat.reduceLT, Int.reduceEq, Int.reduceNe, Int.reduceLT, Int.reduceLE, Int.reduceAdd, Int.reduceSub, Int.reduceMul, Int.reduceNeg, Int.reduceToNat, Int.reducePow, Nat.reducePow, not_false_eq_true, not_true_eq_false, reduceCtorEq, reduceIte, if_true, if_false, Bool.true_eq_false, Bool.false_eq_true, List.length_cons, List.length_nil, and_self, true_and, and_true, List.drop_zero, List.take_succ_cons, List.take_zero, List.drop_succ_cons]
  refine loopK (K := fun o => fin _ (aft _ _ _ o)) (fun i => ⟨[(1, .one (.ref 64 0 0)), (5, .one (.sl 320 0 (eP m i).length)), (6, .one (rI (numsM m))), (20, .one (rI szI)), (21, iV 14), (22, iV i)], [(64, .box (eM m)), (320, .rows 5 1 ((eP m i).map eU))]⟩) (fun i => some (.tup [.one (.sl 0 0 (sel (encM m)).length), iV 0], [(0, .rows 5 1 ((sel (encM m)).map eU))])) 14 ?hr 14 0 (N + 3000) _ (by omega) (by omega) ?hk
  case hk => simp only [gcK, lowB, Nat.reduceLeDiff, Nat.reduceBEq, List.contains_nil, List.contains_cons, Bool.or_false, Bool.false_or, Bool.false_eq_true, if_false, Bool.true_and, Bool.and_true, pickL, look_hit, look_miss, look_end, slMent, hpMent, S.ment, S.ment.smt, ments, V.ment, List.append_nil, List.nil_append, List.cons_append, List.all_nil, List.all_cons, Option.isSome_some, Bool.and_self, if_true, reduceIte, Nat.reduceEqDiff, not_false_eq_true, reduceCtorEq, Nat.reduceMul, Nat.reduceAdd]; rfl
  case hr =>
    intro i q hi ih
    (try dsimp only)
    by_cases hlt : i < 14
    · obtain ⟨s, hs1, hs2, hs3, hs4⟩ := zip14 i hlt
      obtain ⟨n, hn⟩ := nums_get m i hlt
      have g1 : decide ((i : Int) < 14) = true := by simp; omega
      have hgs : (szI.map eI)[i]? = some (eI (s : Int)) := by rw [List.getElem?_map, hs2]; rfl
      have hgn : ((numsM m).map eI)[i]? = some (eI n) := by rw [List.getElem?_map, hn]; rfl
      have hbi : 0 ≤ (i : Int) ∧ (i : Int) < 14 := by omega
      have hel : (eP m i).length ≤ 8 * i := by
        have := encN_len (szs.take i) ((numsM m).take i) fun x hx => szs8 x (List.mem_of_mem_take hx)
        rw [List.length_take] at this
        have h14 : szs.length = 14 := rfl
        show (encN _ _).length ≤ _
        omega
      have h32 := fun d => e32 (N + 3000) d ((eP m i).map eU) (eP m i).length s n (by rw [List.length_map]) hs3 (by omega)
      have hst : eP m (i + 1) = eP m i ++ digs s n := encN_take szs (numsM m) i s n hs1 hn
      have hl1 : (eP m (i + 1)).length = (eP m i).length + s := by rw [hst, List.length_append, digs_len]
      have hma : (eP m (i + 1)).map eU = (eP m i).map eU ++ (digs s n).map eU := by rw [hst, List.map_append]
      simp only [g1, hgs, hgn, hbi.1, hbi.2, h32, hn14, wi i (by omega), show szI.length = 14 from rfl, List.length_map, Int.toNat_natCast, j15, b15, q15, qq, ww, List.append_nil, List.all_nil, List.all_cons, true_or, or_true, false_or, or_false, List.contains_nil, List.isEmpty_nil, List.take_length, List.getElem?_cons_zero, List.getElem?_cons_succ, List.set_cons_zero, List.set_cons_succ, List.replicate, Option.isNone_none, List.map_append, List.length_append, List.all_nil, List.contains_cons, Nat.reduceBEq, List.map_cons, List.map_nil, List.cons_append, List.nil_append, Option.getD_some, Option.getD_none, Option.map_some, Option.map_none, Option.bind_some, Nat.reduceAdd, Nat.reduceMul, Nat.reduceDiv, Nat.reduceEqDiff, Nat.reduceLeDiff, Nat.reduceLT, Int.reduceEq, Int.reduceNe, Int.reduceLT, Int.reduceLE, Int.reduceAdd, Int.reduceSub, Int.reduceMul, Int.reduceNeg, Int.reduceToNat, Int.reducePow, Nat.reducePow, not_false_eq_true, not_true_eq_false, reduceCtorEq, reduceIte, if_true, if_false, Bool.true_eq_false, Bool.false_eq_true, List.length_cons, List.length_nil, and_self, true_and, and_true, List.drop_zero, List.take_succ_cons, List.take_zero, List.drop_succ_cons]
      exact ih hlt _ (by simp only [hl1, hma, gcK, lowB, Nat.reduceLeDiff, Nat.reduceBEq, List.contains_nil, List.contains_cons, Bool.or_false, Bool.false_or, Bool.false_eq_true, if_false, Bool.true_and, Bool.and_true, pickL, look_hit, look_miss, look_end, slMent, hpMent, S.ment, S.ment.smt, ments, V.ment, List.append_nil, List.nil_append, List.cons_append, List.all_nil, List.all_cons, Option.isSome_some, Bool.and_self, if_true, reduceIte, Nat.reduceEqDiff, not_false_eq_true, reduceCtorEq, Nat.reduceMul, Nat.reduceAdd])
    · obtain rfl : i = 14 := by omega
      clear ih
      have g1 : decide (((14 : Nat) : Int) < 14) = false := by simp
      have he : eP m 14 = b2 m 0 := rfl
      simp only [g1, he, lives, V.live, j15, b15, q15, qq, ww, List.append_nil, List.all_nil, List.all_cons, true_or, or_true, false_or, or_false, List.contains_nil, List.isEmpty_nil, List.take_length, List.getElem?_cons_zero, List.getElem?_cons_succ, List.set_cons_zero, List.set_cons_succ, List.replicate, Option.isNone_none, List.map_append, List.length_append, List.all_nil, List.contains_cons, Nat.reduceBEq, List.map_cons, List.map_nil, List.cons_append, List.nil_append, Option.getD_some, Option.getD_none, Option.map_some, Option.map_none, Option.bind_some, Nat.reduceAdd, Nat.reduceMul, Nat.reduceDiv, Nat.reduceEqDiff, Nat.reduceLeDiff, Nat.reduceLT, Int.reduceEq, Int.reduceNe, Int.reduceLT, Int.reduceLE, Int.reduceAdd, Int.reduceSub, Int.reduceMul, Int.reduceNeg, Int.reduceToNat, Int.reducePow, Nat.reducePow, not_false_eq_true, not_true_eq_false, reduceCtorEq, reduceIte, if_true, if_false, Bool.true_eq_false, Bool.false_eq_true, List.length_cons, List.length_nil, and_self, true_and, and_true, List.drop_zero, List.take_succ_cons, List.take_zero, List.drop_succ_cons]
      refine loopK (K := fun o => fin _ (aft _ _ _ o)) (fun k => ⟨[(5, .one (.sl 320 0 (b2 m k).length)), (39, .one (.sl 2496 0 2)), (40, iV 2), (41, iV k)], [(320, .rows 5 1 ((b2 m k).map eU)), (2496, .rows 32 1 [[.row (m.pa.map eI)], [.row (m.td.map eI)]])]⟩) (fun k => some (.tup [.one (.sl 0 0 (sel (encM m)).length), iV 0], [(0, .rows 5 1 ((sel (encM m)).map eU))])) 2 ?hr2 2 0 (N + 3000) _ (by omega) (by omega) ?hk2
      case hk2 => simp only [gcK, lowB, Nat.reduceLeDiff, Nat.reduceBEq, List.contains_nil, List.contains_cons, Bool.or_false, Bool.false_or, Bool.false_eq_true, if_false, Bool.true_and, Bool.and_true, pickL, look_hit, look_miss, look_end, slMent, hpMent, S.ment, S.ment.smt, ments, V.ment, List.append_nil, List.nil_append, List.cons_append, List.all_nil, List.all_cons, Option.isSome_some, Bool.and_self, if_true, reduceIte, Nat.reduceEqDiff, not_false_eq_true, reduceCtorEq, Nat.reduceMul, Nat.reduceAdd]; rfl
      case hr2 =>
        intro k q2 hk ih
        (try dsimp only)
        have hbl := b2_len m k ha hb
        by_cases hkl : k < 2
        · obtain ⟨l, hl1, hl2, hl3⟩ := b2_s m k hkl
          have hll : l.length < 1000 := by rcases hl3 with rfl | rfl <;> assumption
          have g1 : decide ((k : Int) < 2) = true := by simp; omega
          have hbk : 0 ≤ (k : Int) ∧ (k : Int) < 2 := by omega
          have h32 := fun d => e32 (N + 3000) d ((b2 m k).map eU) (b2 m k).length 1 (l.length : Int) (by rw [List.length_map]) (.inl rfl) (by omega)
          simp only [Int.cast_ofNat_Int] at h32
          generalize b2 m k = B at *
          simp only [g1, hl1, hbk.1, hbk.2, h32, wi k (by omega), List.length_map, Int.toNat_natCast, Nat.zero_add, j15, b15, q15, qq, ww, List.append_nil, List.all_nil, List.all_cons, true_or, or_true, false_or, or_false, List.contains_nil, List.isEmpty_nil, List.take_length, List.getElem?_cons_zero, List.getElem?_cons_succ, List.set_cons_zero, List.set_cons_succ, List.replicate, Option.isNone_none, List.map_append, List.length_append, List.all_nil, List.contains_cons, Nat.reduceBEq, List.map_cons, List.map_nil, List.cons_append, List.nil_append, Option.getD_some, Option.getD_none, Option.map_some, Option.map_none, Option.bind_some, Nat.reduceAdd, Nat.reduceMul, Nat.reduceDiv, Nat.reduceEqDiff, Nat.reduceLeDiff, Nat.reduceLT, Int.reduceEq, Int.reduceNe, Int.reduceLT, Int.reduceLE, Int.reduceAdd, Int.reduceSub, Int.reduceMul, Int.reduceNeg, Int.reduceToNat, Int.reducePow, Nat.reducePow, not_false_eq_true, not_true_eq_false, reduceCtorEq, reduceIte, if_true, if_false, Bool.true_eq_false, Bool.false_eq_true, List.length_cons, List.length_nil, and_self, true_and, and_true, List.drop_zero, List.take_succ_cons, List.take_zero, List.drop_succ_cons]
          have hC0 : (B ++ digs 1 (l.length : Int) ++ (l.take 0).map (· % 256)).map eU = B.map eU ++ (digs 1 (l.length : Int)).map eU := by simp
          refine loopK (K := fun o => fin _ (aft _ _ _ (goL _ _ _ _ (aft _ _ _ o)))) (fun j => ⟨[(5, .one (.sl 320 0 (B.length + 1 + j))), (39, .one (.sl 2496 0 2)), (40, iV 2), (41, iV k), (49, .one (.row (l.map eI))), (50, iV l.length), (51, iV j)], [(320, .rows 5 1 ((B ++ digs 1 (l.length : Int) ++ (l.take j).map (· % 256)).map eU)), (2496, .rows 32 1 [[.row (m.pa.map eI)], [.row (m.td.map eI)]])]⟩) (fun j => some (.tup [.one (.sl 0 0 (sel (encM m)).length), iV 0], [(0, .rows 5 1 ((sel (encM m)).map eU))])) l.length ?hr3 l.length 0 (N + 3000) _ (by omega) (by omega) ?hk3
          case hk3 => simp only [hC0, Nat.add_zero, gcK, lowB, Nat.reduceLeDiff, Nat.reduceBEq, List.contains_nil, List.contains_cons, Bool.or_false, Bool.false_or, Bool.false_eq_true, if_false, Bool.true_and, Bool.and_true, pickL, look_hit, look_miss, look_end, slMent, hpMent, S.ment, S.ment.smt, ments, V.ment, List.append_nil, List.nil_append, List.cons_append, List.all_nil, List.all_cons, Option.isSome_some, Bool.and_self, if_true, reduceIte, Nat.reduceEqDiff, not_false_eq_true, reduceCtorEq, Nat.reduceMul, Nat.reduceAdd]; rfl
          case hr3 =>
            intro j q3 hj ih2
            (try dsimp only)
            by_cases hjl : j < l.length
            · have g1 : decide ((j : Int) < (l.length : Int)) = true := by simp; omega
              have hgl : (l.map eI)[j]? = some (eI l[j]) := by simp [hjl]
              have hbj : 0 ≤ (j : Int) ∧ (j : Int) < (l.length : Int) := by omega
              have hcl : (B ++ digs 1 (l.length : Int) ++ (l.take j).map (· % 256)).length = B.length + 1 + j := by
                simp only [List.length_append, digs_len, List.length_map, List.length_take]
                omega
              have hcs : (B ++ digs 1 (l.length : Int) ++ (l.take (j + 1)).map (· % 256)).map eU = (B ++ digs 1 (l.length : Int) ++ (l.take j).map (· % 256)).map eU ++ (digs 1 l[j]).map eU := by
                have e1 : (l.take (j + 1)).map (· % 256) = (l.take j).map (· % 256) ++ digs 1 l[j] := by rw [show l.take (j + 1) = l.take j ++ [l[j]] by simp, List.map_append]; rfl
                rw [e1, ← List.append_assoc, List.map_append]
              generalize hCC : (B ++ digs 1 (l.length : Int) ++ (l.take j).map (· % 256)) = CC at *
              have h32 := fun d => e32 (N + 3000) d (CC.map eU) (B.length + 1 + j) 1 l[j] (by rw [List.length_map, hcl]) (.inl rfl) (by omega)
              simp only [Int.cast_ofNat_Int] at h32
              simp only [g1, hgl, hbj.1, hbj.2, h32, wi j (by omega), List.length_map, Int.toNat_natCast, Nat.zero_add, j15, b15, q15, qq, ww, List.append_nil, List.all_nil, List.all_cons, true_or, or_true, false_or, or_false, List.contains_nil, List.isEmpty_nil, List.take_length, List.getElem?_cons_zero, List.getElem?_cons_succ, List.set_cons_zero, List.set_cons_succ, List.replicate, Option.isNone_none, List.map_append, List.length_append, List.all_nil, List.contains_cons, Nat.reduceBEq, List.map_cons, List.map_nil, List.cons_append, List.nil_append, Option.getD_some, Option.getD_none, Option.map_some, Option.map_none, Option.bind_some, Nat.reduceAdd, Nat.reduceMul, Nat.reduceDiv, Nat.reduceEqDiff, Nat.reduceLeDiff, Nat.reduceLT, Int.reduceEq, Int.reduceNe, Int.reduceLT, Int.reduceLE, Int.reduceAdd, Int.reduceSub, Int.reduceMul, Int.reduceNeg, Int.reduceToNat, Int.reducePow, Nat.reducePow, not_false_eq_true, not_true_eq_false, reduceCtorEq, reduceIte, if_true, if_false, Bool.true_eq_false, Bool.false_eq_true, List.length_cons, List.length_nil, and_self, true_and, and_true, List.drop_zero, List.take_succ_cons, List.take_zero, List.drop_succ_cons]
              exact ih2 hjl _ (by simp only [hcs, ← Nat.add_assoc, gcK, lowB, Nat.reduceLeDiff, Nat.reduceBEq, List.contains_nil, List.contains_cons, Bool.or_false, Bool.false_or, Bool.false_eq_true, if_false, Bool.true_and, Bool.and_true, pickL, look_hit, look_miss, look_end, slMent, hpMent, S.ment, S.ment.smt, ments, V.ment, List.append_nil, List.nil_append, List.cons_append, List.all_nil, List.all_cons, Option.isSome_some, Bool.and_self, if_true, reduceIte, Nat.reduceEqDiff, not_false_eq_true, reduceCtorEq, Nat.reduceMul, Nat.reduceAdd])
            · obtain rfl : j = l.length := by omega
              have g1 : decide ((l.length : Int) < (l.length : Int)) = false := by simp
              have hfin : B ++ digs 1 (l.length : Int) ++ (l.take l.length).map (· % 256) = B ++ encL l := by
                rw [List.take_length, List.append_assoc]
                rfl
              have hfl : (B ++ encL l).length = B.length + 1 + l.length := by simp [encL]; omega
              rw [hfin, ← hl2]
              rw [← hl2] at hfl
              simp only [g1, wi k (by omega), j15, b15, q15, qq, ww, List.append_nil, List.all_nil, List.all_cons, true_or, or_true, false_or, or_false, List.contains_nil, List.isEmpty_nil, List.take_length, List.getElem?_cons_zero, List.getElem?_cons_succ, List.set_cons_zero, List.set_cons_succ, List.replicate, Option.isNone_none, List.map_append, List.length_append, List.all_nil, List.contains_cons, Nat.reduceBEq, List.map_cons, List.map_nil, List.cons_append, List.nil_append, Option.getD_some, Option.getD_none, Option.map_some, Option.map_none, Option.bind_some, Nat.reduceAdd, Nat.reduceMul, Nat.reduceDiv, Nat.reduceEqDiff, Nat.reduceLeDiff, Nat.reduceLT, Int.reduceEq, Int.reduceNe, Int.reduceLT, Int.reduceLE, Int.reduceAdd, Int.reduceSub, Int.reduceMul, Int.reduceNeg, Int.reduceToNat, Int.reducePow, Nat.reducePow, not_false_eq_true, not_true_eq_false, reduceCtorEq, reduceIte, if_true, if_false, Bool.true_eq_false, Bool.false_eq_true, List.length_cons, List.length_nil, and_self, true_and, and_true, List.drop_zero, List.take_succ_cons, List.take_zero, List.drop_succ_cons]
              exact ih hkl _ (by simp only [hfl, gcK, lowB, Nat.reduceLeDiff, Nat.reduceBEq, List.contains_nil, List.contains_cons, Bool.or_false, Bool.false_or, Bool.false_eq_true, if_false, Bool.true_and, Bool.and_true, pickL, look_hit, look_miss, look_end, slMent, hpMent, S.ment, S.ment.smt, ments, V.ment, List.append_nil, List.nil_append, List.cons_append, List.all_nil, List.all_cons, Option.isSome_some, Bool.and_self, if_true, reduceIte, Nat.reduceEqDiff, not_false_eq_true, reduceCtorEq, Nat.reduceMul, Nat.reduceAdd])
        · obtain rfl : k = 2 := by omega
          have g1 : decide (((2 : Nat) : Int) < 2) = false := by simp
          have he : b2 m 2 = encM m := rfl
          have h8 := fun d => e8 (N + 3000) d (encM m) (encM_Bs m) (by rw [encM_len]; omega) (by omega) (by rw [encM_len]; omega)
          have htk : List.take ((encM m).length + 4) ((sel (encM m)).map eU) = (sel (encM m)).map eU := List.take_of_length_le (by rw [List.length_map, sel_len]; exact Nat.le_refl _)
          simp only [g1, he, h8, htk, takeU, selfU, sel_len, List.length_map, Nat.le_refl, j15, b15, q15, qq, ww, List.append_nil, List.all_nil, List.all_cons, true_or, or_true, false_or, or_false, List.contains_nil, List.isEmpty_nil, List.take_length, List.getElem?_cons_zero, List.getElem?_cons_succ, List.set_cons_zero, List.set_cons_succ, List.replicate, Option.isNone_none, List.map_append, List.length_append, List.all_nil, List.contains_cons, Nat.reduceBEq, List.map_cons, List.map_nil, List.cons_append, List.nil_append, Option.getD_some, Option.getD_none, Option.map_some, Option.map_none, Option.bind_some, Nat.reduceAdd, Nat.reduceMul, Nat.reduceDiv, Nat.reduceEqDiff, Nat.reduceLeDiff, Nat.reduceLT, Int.reduceEq, Int.reduceNe, Int.reduceLT, Int.reduceLE, Int.reduceAdd, Int.reduceSub, Int.reduceMul, Int.reduceNeg, Int.reduceToNat, Int.reducePow, Nat.reducePow, not_false_eq_true, not_true_eq_false, reduceCtorEq, reduceIte, if_true, if_false, Bool.true_eq_false, Bool.false_eq_true, List.length_cons, List.length_nil, and_self, true_and, and_true, List.drop_zero, List.take_succ_cons, List.take_zero, List.drop_succ_cons]
end Go.Proofs.Ytgjacdfiilcaaaa.CA
