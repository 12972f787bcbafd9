import Derived.Test.YtgjacdfiilcaaaaWN
set_option linter.unusedSimpArgs false
set_option linter.unusedVariables false
namespace Go.Proofs.Ytgjacdfiilcaaaa.CA
open Go Go.Proofs.YtgjacdfiilcaaaaR Go.Proofs.Ytgjacdfiilcaaaa.IW Go.Proofs.Ytgjacdfiilcaaaa.CZ Go.Proofs.Ytgjacdfiilcaaaa.WZ
open Go.Proofs.Ytgjacdfiilcaaaa.MA (Mg eM aM msgOK)
set_option maxRecDepth 100000
set_option maxHeartbeats 4000000
theorem tkD (s : Nat) (n : Int) : List.take s ((digs s n).map eU) = (digs s n).map eU := List.take_of_length_le (by rw [List.length_map, digs_len]; exact Nat.le_refl _)
theorem tkL (l : List Int) : List.take (l.length + 1) ((encL l).map eU) = (encL l).map eU := List.take_of_length_le (by rw [List.length_map, encL_len]; exact Nat.le_refl _)
theorem e21 (N d : Nat) (m : Mg) (hm : msgOK m = true) (hN : 1000 < N) : TT N (d + 3) 21 [aM m] = some (.one (rU (sel (encM m))), []) := by
  have r := msg_rg hm
  have h4 : ∀ d n, 0 ≤ n ∧ n < 4611686018427387904 → TT N (d + 1) 45 [iV 4, iV n] = some (.one (.sl 0 0 4), [(0, .rows 5 1 ((digs 4 n).map eU))]) := fun d n h => e45 N d 4 n (by omega) h (by omega)
  have h8 : ∀ d n, 0 ≤ n ∧ n < 4611686018427387904 → TT N (d + 1) 45 [iV 8, iV n] = some (.one (.sl 0 0 8), [(0, .rows 5 1 ((digs 8 n).map eU))]) := fun d n h => e45 N d 8 n (by omega) h (by omega)
  have t4 := fun n => tkD 4 n
  have t8 := fun n => tkD 8 n
  have a1 := fun d => h4 d m.fi (by have := r.fi; omega)
  have a2 := fun d => h4 d m.ti (by have := r.ti; omega)
  have a3 := fun d => h8 d m.e (by have := r.e; omega)
  have a4 := fun d => h4 d m.s (by have := r.s; omega)
  have a5 := fun d => h4 d m.l (by have := r.l; omega)
  have a6 := fun d => h4 d m.v (by have := r.v; omega)
  have a7 := fun d => h4 d m.ic (by have := r.ic; omega)
  have a8 := fun d => h4 d m.c (by have := r.c; omega)
  have rp := r.pa.1
  have rt := r.td.1
  have a9 := fun d => e46 N d m.pa (by omega) (by omega)
  have a10 := fun d => e46 N d m.td (by omega) (by omega)
  have tp := tkL m.pa
  have tt := tkL m.td
  have lp := encL_len m.pa
  have lt := encL_len m.td
  have hb1 : (42 + (m.pa.length + 1)) * 1 ≤ 140737488355328 := by omega
  have hb2 : (42 + (m.pa.length + 1) + (m.td.length + 1)) * 1 ≤ 140737488355328 := by omega
  have c1 : 42 + (m.pa.length + 1) ≤ 38 + (m.pa.length + 1) + 1 + 1 + 1 + 1 := by omega
  have c2 : 38 + (m.pa.length + 1) + 1 + 1 + 1 + 1 ≤ 42 + (m.pa.length + 1) := by omega
  have c3 : 42 + (m.pa.length + 1) + (m.td.length + 1) ≤ 38 + (m.pa.length + 1) + (m.td.length + 1) + 1 + 1 + 1 + 1 := by omega
  have c4 : 38 + (m.pa.length + 1) + (m.td.length + 1) + 1 + 1 + 1 + 1 ≤ 42 + (m.pa.length + 1) + (m.td.length + 1) := by omega
  have d1 : ∀ n, digs 1 n = [n % 256] := fun _ => rfl
  have hE : ([V.int .u8 (m.k % 256)] :: [V.int .u8 (m.f % 256)] :: [V.int .u8 (m.t % 256)] :: [V.int .u8 (m.tp % 256)] :: (List.map eU (digs 4 m.fi) ++ List.map eU (digs 4 m.ti) ++ List.map eU (digs 8 m.e) ++ List.map eU (digs 4 m.s) ++ List.map eU (digs 4 m.l) ++ List.map eU (digs 4 m.v) ++ [[V.int .u8 (m.nd % 256)]] ++ List.map eU (digs 4 m.ic) ++ List.map eU (digs 4 m.c) ++ [[V.int .u8 (m.h % 256)]] ++ List.map eU (encL m.pa) ++ List.map eU (encL m.td))) = (encM m).map eU := by
    simp only [encM, enc, szs, numsM, encN, d1, List.map_append, List.map_cons, List.map_nil, List.append_assoc, List.cons_append, List.nil_append, List.append_nil]
  have hel := encM_len m
  have h47 : ∀ d, TT N (d + 2) 47 [.one (.row ([V.int .u8 (m.k % 256)] :: [V.int .u8 (m.f % 256)] :: [V.int .u8 (m.t % 256)] :: [V.int .u8 (m.tp % 256)] :: (List.map eU (digs 4 m.fi) ++ List.map eU (digs 4 m.ti) ++ List.map eU (digs 8 m.e) ++ List.map eU (digs 4 m.s) ++ List.map eU (digs 4 m.l) ++ List.map eU (digs 4 m.v) ++ [[V.int .u8 (m.nd % 256)]] ++ List.map eU (digs 4 m.ic) ++ List.map eU (digs 4 m.c) ++ [[V.int .u8 (m.h % 256)]] ++ List.map eU (encL m.pa) ++ List.map eU (encL m.td))))] = some (.one (.sl 0 0 ((encM m).length + 4)), [(0, .rows 5 1 ((sel (encM m)).map eU))]) := fun d => by
    rw [hE]; exact e47 N d (encM m) (encM_Bs m) (by omega) (by omega) (by omega)
  have htk : List.take ((encM m).length + 4) ((sel (encM m)).map eU) = (sel (encM m)).map eU := List.take_of_length_le (by rw [List.length_map, sel_len]; exact Nat.le_refl _)
  have hsl : (sel (encM m)).length = (encM m).length + 4 := sel_len _
  clear hE hel
  generalize sel (encM m) = Sx at *
  generalize (encM m).length = Lx at *
  rw [t21, F_ev rfl]
  simp only [a1, a2, a3, a4, a5, a6, a7, a8, a9, a10, t4, t8, tp, tt, lp, lt, hb1, hb2, c1, c2, c3, c4, h47, htk, hsl, selfU, w8, allU, digs_len, List.length_map, List.take_of_length_le, Nat.zero_add, Nat.le_refl, j21, b21, q21, qq, ww, List.append_nil, List.all_nil, List.all_cons, true_or, or_true, false_or, or_false, List.contains_nil, List.isEmpty_nil, List.take_length, List.getElem?_cons_zero, List.getElem?_cons_succ, List.set_cons_zero, List.set_cons_succ, List.replicate, Option.isNone_none, List.map_append, List.length_append, List.all_nil, List.contains_cons, Nat.reduceBEq, List.map_cons, List.map_nil, List.cons_append, List.nil_append, Option.getD_some, Option.getD_none, Option.map_some, Option.map_none, Option.bind_some, Nat.reduceAdd, Nat.reduceMul, Nat.reduceDiv, Nat.reduceEqDiff, Nat.reduceLeDiff, Nat.reduceLT, Int.reduceEq, Int.reduceNe, Int.reduceLT, Int.reduceLE, Int.reduceAdd, Int.reduceSub, Int.reduceMul, Int.reduceNeg, Int.reduceToNat, Int.reducePow, Nat.reducePow, not_false_eq_true, not_true_eq_false, reduceCtorEq, reduceIte, if_true, if_false, Bool.true_eq_false, Bool.false_eq_true, List.length_cons, List.length_nil, and_self, true_and, and_true, List.drop_zero, List.take_succ_cons, List.take_zero, List.drop_succ_cons]
end Go.Proofs.Ytgjacdfiilcaaaa.CA
