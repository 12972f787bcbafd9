import Derived.Test.YtgjacdfiilcaaaaWD
set_option linter.unusedSimpArgs false
set_option linter.unusedVariables false
namespace Go.Proofs.Ytgjacdfiilcaaaa.CA
open Go Go.Proofs.YtgjacdfiilcaaaaR Go.Proofs.Ytgjacdfiilcaaaa.IW Go.Proofs.Ytgjacdfiilcaaaa.CZ Go.Proofs.Ytgjacdfiilcaaaa.WZ
open Go.Proofs.Ytgjacdfiilcaaaa.MA (Mg eM aM msgOK)
set_option maxRecDepth 100000
set_option maxHeartbeats 4000000
theorem digs1 (n : Int) : (digs 1 n).map eU = [[.int .u8 (n % 256)]] := rfl
theorem digs4 (n : Int) : (digs 4 n).map eU = [[.int .u8 (n / 16777216 % 256)], [.int .u8 (n / 65536 % 256)], [.int .u8 (n / 256 % 256)], [.int .u8 (n % 256)]] := by
  show [[V.int .u8 (n / 256 / 256 / 256 % 256)], [V.int .u8 (n / 256 / 256 % 256)], [V.int .u8 (n / 256 % 256)], [V.int .u8 (n % 256)]] = _
  rw [show n / 256 / 256 / 256 = n / 16777216 by omega, show n / 256 / 256 = n / 65536 by omega]
theorem digs8 (n : Int) : (digs 8 n).map eU = [[.int .u8 (n / 72057594037927936 % 256)], [.int .u8 (n / 281474976710656 % 256)], [.int .u8 (n / 1099511627776 % 256)], [.int .u8 (n / 4294967296 % 256)], [.int .u8 (n / 16777216 % 256)], [.int .u8 (n / 65536 % 256)], [.int .u8 (n / 256 % 256)], [.int .u8 (n % 256)]] := by
  show [[V.int .u8 (n / 256 / 256 / 256 / 256 / 256 / 256 / 256 % 256)], [V.int .u8 (n / 256 / 256 / 256 / 256 / 256 / 256 % 256)], [V.int .u8 (n / 256 / 256 / 256 / 256 / 256 % 256)], [V.int .u8 (n / 256 / 256 / 256 / 256 % 256)], [V.int .u8 (n / 256 / 256 / 256 % 256)], [V.int .u8 (n / 256 / 256 % 256)], [V.int .u8 (n / 256 % 256)], [V.int .u8 (n % 256)]] = _
  rw [show n / 256 / 256 / 256 / 256 / 256 / 256 / 256 = n / 72057594037927936 by omega, show n / 256 / 256 / 256 / 256 / 256 / 256 = n / 281474976710656 by omega, show n / 256 / 256 / 256 / 256 / 256 = n / 1099511627776 by omega, show n / 256 / 256 / 256 / 256 = n / 4294967296 by omega, show n / 256 / 256 / 256 = n / 16777216 by omega, show n / 256 / 256 = n / 65536 by omega]
theorem e32 (N d : Nat) (Rw : List (List V)) (L s : Nat) (n : Int) (hL : Rw.length = L) (hs : s = 1 ∨ s = 4 ∨ s = 8) (hl : L < 1000000) : TT N (d + 1) 32 [.one (.sl 0 0 L), iV s, iV n, .tup [hR 5 1 Rw]] = some (.one (.sl 0 0 (L + s)), [(0, .rows 5 1 (Rw ++ (digs s n).map eU))]) := by
  have qb : IntKind.i64.bits = 64 := rfl
  have h1 : (L + 1) * 1 ≤ 140737488355328 := by omega
  have h3 : (L + 3) * 1 ≤ 140737488355328 := by omega
  have h4 : (L + 4) * 1 ≤ 140737488355328 := by omega
  have h31 : (L + 3 + 1) * 1 ≤ 140737488355328 := by omega
  have h43 : (L + 4 + 3) * 1 ≤ 140737488355328 := by omega
  have h431 : (L + 4 + 3 + 1) * 1 ≤ 140737488355328 := by omega
  have ht : Rw.take L = Rw := List.take_of_length_le (by omega)
  have t3 : ∀ a b c : List V, (Rw ++ [a, b, c]).take (L + 3) = Rw ++ [a, b, c] := fun a b c => List.take_of_length_le (by simp; omega)
  have t4 : ∀ a b c e : List V, (Rw ++ [a, b, c, e]).take (L + 4) = Rw ++ [a, b, c, e] := fun a b c e => List.take_of_length_le (by simp; omega)
  have t43 : ∀ a b c e f g h : List V, (Rw ++ [a, b, c, e] ++ [f, g, h]).take (L + 4 + 3) = Rw ++ [a, b, c, e] ++ [f, g, h] := fun a b c e f g h => List.take_of_length_le (by simp; omega)
  rw [t32, F_evo rfl rfl (by simp)]
  rcases hs with rfl | rfl | rfl
  · simp only [qb, w8, h1, h3, h4, h31, h43, h431, ht, t3, t4, t43, hL, digs1, Nat.le_refl, BEq.rfl, Nat.add_assoc, List.append_assoc, Int.ediv_one, j32, b32, q32, qq, ww, List.append_nil, List.all_nil, List.all_cons, true_or, or_true, false_or, or_false, List.contains_nil, List.isEmpty_nil, List.take_length, List.getElem?_cons_zero, List.getElem?_cons_succ, List.set_cons_zero, List.set_cons_succ, List.replicate, Option.isNone_none, List.map_append, List.length_append, List.all_nil, List.contains_cons, Nat.reduceBEq, List.map_cons, List.map_nil, List.cons_append, List.nil_append, Option.getD_some, Option.getD_none, Option.map_some, Option.map_none, Option.bind_some, Nat.reduceAdd, Nat.reduceMul, Nat.reduceDiv, Nat.reduceEqDiff, Nat.reduceLeDiff, Nat.reduceLT, Int.reduceEq, Int.reduceNe, Int.reduceLT, Int.reduceLE, Int.reduceAdd, Int.reduceSub, Int.reduceMul, Int.reduceNeg, Int.reduceToNat, Int.reducePow, Nat.reducePow, not_false_eq_true, not_true_eq_false, reduceCtorEq, reduceIte, if_true, if_false, Bool.true_eq_false, Bool.false_eq_true, List.length_cons, List.length_nil, and_self, true_and, and_true, List.drop_zero, List.take_succ_cons, List.take_zero, List.drop_succ_cons]
  · simp only [qb, w8, h1, h3, h4, h31, h43, h431, ht, t3, t4, t43, hL, digs4, Nat.le_refl, BEq.rfl, Int.ediv_one, j32, b32, q32, qq, ww, List.append_nil, List.all_nil, List.all_cons, true_or, or_true, false_or, or_false, List.contains_nil, List.isEmpty_nil, List.take_length, List.getElem?_cons_zero, List.getElem?_cons_succ, List.set_cons_zero, List.set_cons_succ, List.replicate, Option.isNone_none, List.map_append, List.length_append, List.all_nil, List.contains_cons, Nat.reduceBEq, List.map_cons, List.map_nil, List.cons_append, List.nil_append, Option.getD_some, Option.getD_none, Option.map_some, Option.map_none, Option.bind_some, Nat.reduceAdd, Nat.reduceMul, Nat.reduceDiv, Nat.reduceEqDiff, Nat.reduceLeDiff, Nat.reduceLT, Int.reduceEq, Int.reduceNe, Int.reduceLT, Int.reduceLE, Int.reduceAdd, Int.reduceSub, Int.reduceMul, Int.reduceNeg, Int.reduceToNat, Int.reducePow, Nat.reducePow, not_false_eq_true, not_true_eq_false, reduceCtorEq, reduceIte, if_true, if_false, Bool.true_eq_false, Bool.false_eq_true, List.length_cons, List.length_nil, and_self, true_and, and_true, List.drop_zero, List.take_succ_cons, List.take_zero, List.drop_succ_cons]
    simp
  · simp only [qb, w8, h1, h3, h4, h31, h43, h431, ht, t3, t4, t43, hL, digs8, Nat.le_refl, BEq.rfl, Int.ediv_one, j32, b32, q32, qq, ww, List.append_nil, List.all_nil, List.all_cons, true_or, or_true, false_or, or_false, List.contains_nil, List.isEmpty_nil, List.take_length, List.getElem?_cons_zero, List.getElem?_cons_succ, List.set_cons_zero, List.set_cons_succ, List.replicate, Option.isNone_none, List.map_append, List.length_append, List.all_nil, List.contains_cons, Nat.reduceBEq, List.map_cons, List.map_nil, List.cons_append, List.nil_append, Option.getD_some, Option.getD_none, Option.map_some, Option.map_none, Option.bind_some, Nat.reduceAdd, Nat.reduceMul, Nat.reduceDiv, Nat.reduceEqDiff, Nat.reduceLeDiff, Nat.reduceLT, Int.reduceEq, Int.reduceNe, Int.reduceLT, Int.reduceLE, Int.reduceAdd, Int.reduceSub, Int.reduceMul, Int.reduceNeg, Int.reduceToNat, Int.reducePow, Nat.reducePow, not_false_eq_true, not_true_eq_false, reduceCtorEq, reduceIte, if_true, if_false, Bool.true_eq_false, Bool.false_eq_true, List.length_cons, List.length_nil, and_self, true_and, and_true, List.drop_zero, List.take_succ_cons, List.take_zero, List.drop_succ_cons]
    simp
end Go.Proofs.Ytgjacdfiilcaaaa.CA
