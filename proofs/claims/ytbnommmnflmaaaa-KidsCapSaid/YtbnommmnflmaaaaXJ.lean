/- slices.Insert of one element: the contract. -/
import Derived.Test.YtbnommmnflmaaaaXI
import Derived.Test.YtbnommmnflmaaaaIB
set_option linter.unusedVariables false
set_option linter.unusedSimpArgs false
set_option maxRecDepth 100000
namespace Go.Proofs.Ytbnommmnflmaaaa.XI
open Go Go.RowKit Go.Proofs.YtbnommmnflmaaaaR

theorem rows_ins {w : World} {ok : Nat → Prop} {e n at_ : Nat} {xs : List (List V)} {x : List V} {cs vcs L R : List Value} (hx : ∀ y ∈ xs, y.length = e) (hxe : x.length = e) (hn : xs.length = n) (ha : at_ ≤ n) (hcs : n * e ≤ cs.length) (hvcs : e ≤ vcs.length)
    (h1 : ∀ i j y p, xs[i]? = some y → y[j]? = some p → ∃ u, cs[i * e + j]? = some u ∧ Rep w ok p u) (h2 : ∀ (j : Nat) p, x[j]? = some p → ∃ u, vcs[j]? = some u ∧ Rep w ok p u) (hL : L = cs.take (at_ * e) ++ vcs.take e ++ (cs.take (n * e)).drop (at_ * e) ++ R)
    (i j : Nat) (y : List V) (p : V) (hy : (xs.take at_ ++ [x] ++ xs.drop at_)[i]? = some y) (hp : y[j]? = some p) : ∃ u, L[i * e + j]? = some u ∧ Rep w ok p u := by
  have hae : at_ * e ≤ n * e := Nat.mul_le_mul_right e ha
  have l1 : (cs.take (at_ * e)).length = at_ * e := by rw [List.length_take]; omega
  have l2 : (vcs.take e).length = e := by rw [List.length_take]; omega
  have l3 : ((cs.take (n * e)).drop (at_ * e)).length = n * e - at_ * e := by rw [List.length_drop, List.length_take]; omega
  rw [hL]
  rw [List.append_assoc] at hy
  have lt : (xs.take at_).length = at_ := by rw [List.length_take]; omega
  by_cases h3 : i < at_
  · rw [List.getElem?_append_left (by omega), List.getElem?_take, if_pos h3] at hy
    have hj : j < e := by rw [← hx y (List.mem_of_getElem? hy)]; exact (List.getElem?_eq_some_iff.1 hp).1
    obtain ⟨u, hu, hr⟩ := h1 i j y p hy hp
    have := idx_lt h3 hj
    refine ⟨u, ?_, hr⟩
    rw [List.append_assoc, List.append_assoc, List.getElem?_append_left (by omega), List.getElem?_take, if_pos this]
    exact hu
  · rw [List.getElem?_append_right (by omega), lt] at hy
    by_cases h4 : i = at_
    · subst h4
      simp at hy
      subst hy
      have hj : j < e := by rw [← hxe]; exact (List.getElem?_eq_some_iff.1 hp).1
      obtain ⟨u, hu, hr⟩ := h2 j p hp
      refine ⟨u, ?_, hr⟩
      rw [List.append_assoc, List.append_assoc, List.getElem?_append_right (by omega), l1, Nat.add_sub_cancel_left, List.getElem?_append_left (by omega), List.getElem?_take, if_pos hj]
      exact hu
    · obtain ⟨q, rfl⟩ : ∃ q, i = at_ + 1 + q := ⟨i - at_ - 1, by omega⟩
      rw [show at_ + 1 + q - at_ = q + 1 by omega, List.singleton_append, List.getElem?_cons_succ, List.getElem?_drop] at hy
      have hlt : at_ + q < n := by rw [← hn]; exact (List.getElem?_eq_some_iff.1 hy).1
      have hj : j < e := by rw [← hx y (List.mem_of_getElem? hy)]; exact (List.getElem?_eq_some_iff.1 hp).1
      obtain ⟨u, hu, hr⟩ := h1 (at_ + q) j y p hy hp
      have h5 := idx_lt hlt hj
      have h6 : (at_ + 1 + q) * e + j = at_ * e + (e + (q * e + j)) := by rw [Nat.add_mul, Nat.add_mul, Nat.one_mul]; omega
      have h7 : (at_ + q) * e + j = at_ * e + (q * e + j) := by rw [Nat.add_mul]; omega
      refine ⟨u, ?_, hr⟩
      rw [h6, List.append_assoc, List.append_assoc, List.getElem?_append_right (by omega), l1, Nat.add_sub_cancel_left, List.getElem?_append_right (by omega), l2, Nat.add_sub_cancel_left, List.getElem?_append_left (by omega), List.getElem?_drop, List.getElem?_take, if_pos (by omega), ← h7]
      exact hu
theorem rows_one {w : World} {ok : Nat → Prop} {e n : Nat} {xs : List (List V)} {cs : List Value} (he : 0 < e) (hx : ∀ y ∈ xs, y.length = e) (hn : n ≤ xs.length) (h1 : ∀ i j y p, xs[i]? = some y → y[j]? = some p → ∃ u, cs[i * e + j]? = some u ∧ Rep w ok p u) : ∀ v ∈ cs.take (n * e), v.oneCell' = true := by
  intro v hv
  obtain ⟨k, hk⟩ := List.getElem?_of_mem hv
  rw [List.getElem?_take] at hk
  split at hk
  · rename_i hlt
    have hi : k / e < xs.length := by
      have : k / e < n := by rw [Nat.div_lt_iff_lt_mul he]; exact hlt
      omega
    have hy := hx xs[k / e] (List.getElem_mem hi)
    have hj : k % e < (xs[k / e]).length := by rw [hy]; exact Nat.mod_lt _ he
    obtain ⟨u, hu, hr⟩ := h1 (k / e) (k % e) _ _ (List.getElem?_eq_getElem hi) (List.getElem?_eq_getElem hj)
    rw [Nat.div_add_mod' k e, hk] at hu
    cases hu
    exact hr.one
  · cases hk

/-- Insert of one element. -/
def insM (el e by_ : Nat) : Model
  | [.one (.sl 0 0 n), .one (.int .i64 at_), .one (.sl 1 0 1), .tup [.tup [.one (.ref el1 e1 0), .one (.row xs)], .tup [.one (.ref el2 e2 0), .one (.row [x])]]] =>
    if (el1 = el ∧ e1 = e ∧ el2 = el ∧ e2 = e) ∧ n = xs.length ∧ 0 ≤ at_ ∧ at_ ≤ n ∧ xs.all (·.length == e) = true ∧ x.length = e ∧ (n + 1) * by_ ≤ 140737488355328 then
      some (.one (.sl 0 0 (n + 1)), [(0, .rows el e (xs.take at_.toNat ++ [x] ++ xs.drop at_.toNat)), (1, .rows el e [x])])
    else none
  | _ => none
theorem ins_end (n : Nat) (xs : List (List V)) (x : List V) (hn : n = xs.length) (hx : xs.all (·.length == 3) = true) (hxe : x.length = 3) (hb : (n + 1) * 24 ≤ 140737488355328) :
    IB.i44.ev (fun _ _ => none) 1 [.one (.sl 0 0 n), iV n, .one (.sl 1 0 1), .tup [.tup [.one (.ref 35 3 0), .one (.row xs)], .tup [.one (.ref 35 3 0), .one (.row [x])]]] = some (.one (.sl 0 0 (n + 1)), [(0, .rows 35 3 (xs.take n ++ [x])), (1, .rows 35 3 [x])]) := by
  have hle : n ≤ xs.length := by omega
  have hx2 : (x.length == 3) = true := by simp [hxe]
  rw [F_evo rfl rfl (by simp)]
  by_cases h0 : n = 0
  · subst h0
    have hxs : xs = [] := List.eq_nil_of_length_eq_zero hn.symm
    subst hxs
    simp only [hx2, IB.j44, IB.b44, IB.q44, List.nil_append, qq, oo, pp, lives, V.live, purS, S.pur, V.pur, V.pur1, purs, pur1s, mentS, S.ment, S.ment.smt, ments, V.ment, List.append_nil, Hp.ok64, List.all_nil, List.all_cons, S.purT, S.purT.sp, S.self, V.self, selfs, S.self.sself, Hp.self, S.ren, S.ren.sren, V.ren, Hp.ren, true_or, or_true, false_or, or_false, Bool.and_true, Bool.true_and, Bool.and_false, Bool.false_and, Bool.and_self, hand, handSs, handS, handVs, handV, handBs, upTo, one1, List.contains_nil, List.isEmpty_nil, List.take_length, List.getElem?_cons_zero, List.getElem?_cons_succ, fillV, fillR, setAt, List.set_cons_zero, List.set_cons_succ, List.replicate, evE, asRow, callS, callT, callU, names, dedup, blkMents, Blk.mentB, idxOf, V.mapS, S.mapS, S.mapS.smapS, Blk.mapS, encs, encB, isBox, backN, hpBack, killsV, killsS, killsS.ks, killsB, rowsOf, without, keysOk, noTup, boxesOk, fresh, Option.isNone_none, Blk.ren, aloOk, aloV, aloB, frzL, freezes, Go.Proofs.YtbnommmnflmaaaaR.freeze, drop1, S.frz, S.frz.sf, V.frz, Blk.frz, slMent, pickL, List.map_append, S.kill, S.kill.sk, V.kill, Blk.kill, eqvs, ones, Bool.not_true, Bool.not_false, decide_true, decide_false, List.length_append, Int.le_refl, Int.toNat_natCast, Int.toNat_one, Int.cast_ofNat_Int, List.all_nil, List.contains_cons, Nat.reduceBEq, Bool.false_or, Bool.or_false, Bool.true_or, Bool.or_true, look_hit, look_end, look_miss, List.map_cons, List.map_nil, List.cons_append, List.nil_append, Option.getD_some, Option.getD_none, X.ev, ev, bin, ibin, Option.map_some, Option.map_none, Option.bind_some, S.cells, rd, sub, Go.Proofs.YtbnommmnflmaaaaR.shape, asI, bnd, evs, Rs.ev, R.ev, params, okKey, Nat.reduceAdd, Nat.reduceMul, Nat.reduceDiv, Nat.reduceEqDiff, Nat.reduceLeDiff, Nat.reduceLT, Int.reduceEq, Int.reduceNe, Int.reduceLT, Int.reduceLE, Int.reduceAdd, Int.reduceSub, Int.reduceMul, Int.reduceNeg, Int.reduceToNat, Int.reducePow, Nat.reducePow, Int.toNat_zero, not_false_eq_true, not_true_eq_false, reduceCtorEq, Nat.zero_add, Nat.add_zero, reduceIte, if_true, if_false, Bool.true_eq_false, Bool.false_eq_true, List.length_cons, List.length_nil, and_self, true_and, and_true, List.drop_zero, List.take_succ_cons, List.take_zero, List.drop_succ_cons, Nat.le_refl]
    try simp
  · have hn0 : ((n : Int) = 0) = False := eq_false (by omega)
    simp only [hx2, hn0, hx, hle, hb, IB.j44, IB.b44, IB.q44, qq, oo, pp, lives, V.live, purS, S.pur, V.pur, V.pur1, purs, pur1s, mentS, S.ment, S.ment.smt, ments, V.ment, List.append_nil, Hp.ok64, List.all_nil, List.all_cons, S.purT, S.purT.sp, S.self, V.self, selfs, S.self.sself, Hp.self, S.ren, S.ren.sren, V.ren, Hp.ren, true_or, or_true, false_or, or_false, Bool.and_true, Bool.true_and, Bool.and_false, Bool.false_and, Bool.and_self, hand, handSs, handS, handVs, handV, handBs, upTo, one1, List.contains_nil, List.isEmpty_nil, List.take_length, List.getElem?_cons_zero, List.getElem?_cons_succ, fillV, fillR, setAt, List.set_cons_zero, List.set_cons_succ, List.replicate, evE, asRow, callS, callT, callU, names, dedup, blkMents, Blk.mentB, idxOf, V.mapS, S.mapS, S.mapS.smapS, Blk.mapS, encs, encB, isBox, backN, hpBack, killsV, killsS, killsS.ks, killsB, rowsOf, without, keysOk, noTup, boxesOk, fresh, Option.isNone_none, Blk.ren, aloOk, aloV, aloB, frzL, freezes, Go.Proofs.YtbnommmnflmaaaaR.freeze, drop1, S.frz, S.frz.sf, V.frz, Blk.frz, slMent, pickL, List.map_append, S.kill, S.kill.sk, V.kill, Blk.kill, eqvs, ones, Bool.not_true, Bool.not_false, decide_true, decide_false, List.length_append, Int.le_refl, Int.toNat_natCast, Int.toNat_one, Int.cast_ofNat_Int, List.all_nil, List.contains_cons, Nat.reduceBEq, Bool.false_or, Bool.or_false, Bool.true_or, Bool.or_true, look_hit, look_end, look_miss, List.map_cons, List.map_nil, List.cons_append, List.nil_append, Option.getD_some, Option.getD_none, X.ev, ev, bin, ibin, Option.map_some, Option.map_none, Option.bind_some, S.cells, rd, sub, Go.Proofs.YtbnommmnflmaaaaR.shape, asI, bnd, evs, Rs.ev, R.ev, params, okKey, Nat.reduceAdd, Nat.reduceMul, Nat.reduceDiv, Nat.reduceEqDiff, Nat.reduceLeDiff, Nat.reduceLT, Int.reduceEq, Int.reduceNe, Int.reduceLT, Int.reduceLE, Int.reduceAdd, Int.reduceSub, Int.reduceMul, Int.reduceNeg, Int.reduceToNat, Int.reducePow, Nat.reducePow, Int.toNat_zero, not_false_eq_true, not_true_eq_false, reduceCtorEq, Nat.zero_add, Nat.add_zero, reduceIte, if_true, if_false, Bool.true_eq_false, Bool.false_eq_true, List.length_cons, List.length_nil, and_self, true_and, and_true, List.drop_zero, List.take_succ_cons, List.take_zero, List.drop_succ_cons, Nat.le_refl]
    try simp

theorem ins_mid {loc0 : Locs} {w : World} {ok0 : Nat → Prop} {vs : Array Value} {n at_ : Nat} {xs : List (List V)} {x : List V} (hn : n = xs.length) (hx : ∀ y ∈ xs, y.length = 3) (hxe : x.length = 3) (hb8 : (n + 1) * 24 ≤ 140737488355328) (hat : at_ < n)
    (hok : ∀ b, ok0 b → b < w.heap.size ∧ ¬ ownL loc0 b) (hHp : HpRel (ownL loc0) w.heap.size w ok0 loc0 [(0, .rows 35 3 xs), (1, .rows 35 3 [x])]) (hargs : RSs w ok0 loc0 [.one (.sl 0 0 n), .one (.int .i64 at_), .one (.sl 1 0 1)] vs.toList) :
    Calls Try.prog 44 vs w fun e w' => ∃ v loc, e = .returned v ∧ Frm (ownL loc0) w w' ∧ HpRel (ownL loc0) w.heap.size w' (okI w (fun b => ok0 b ∨ ownL loc0 b) w' loc) loc [(0, .rows 35 3 (xs.take at_ ++ [x] ++ xs.drop at_)), (1, .rows 35 3 [x])] ∧ RS w' (okI w (fun b => ok0 b ∨ ownL loc0 b) w' loc) loc (.one (.sl 0 0 (n + 1))) v ∧
      ∀ s b, loc0 s = some (.box b) → loc s = some (.box b) := by
  -- the arguments
  obtain ⟨ha1, ha2⟩ := hargs
  obtain ⟨v0, v1, v2, hvs⟩ : ∃ v0 v1 v2, vs.toList = [v0, v1, v2] := by
    match hq : vs.toList, ha1 with
    | [v0, v1, v2], _ => exact ⟨v0, v1, v2, rfl⟩
  have hvs' : vs = #[v0, v1, v2] := Array.toList_inj.1 hvs
  have r0 : RV w ok0 loc0 (.sl 0 0 n) v0 := ha2 0 _ v0 rfl (by rw [hvs]; rfl)
  have r1 : RV w ok0 loc0 (.int .i64 at_) v1 := ha2 1 _ v1 rfl (by rw [hvs]; rfl)
  have r2 : RV w ok0 loc0 (.sl 1 0 1) v2 := ha2 2 _ v2 rfl (by rw [hvs]; rfl)
  have e1 : v1 = .int .i64 at_ := by cases (r1 : Rep w ok0 (.int .i64 at_) v1); rfl
  subst e1
  rcases r0 with ⟨b, el0, e0, cap, l0, g0, rfl⟩ | ⟨_, _, g0, _⟩
  case inr => omega
  rcases r2 with ⟨vb, el2, e2, vcap, l2, g2, rfl⟩ | ⟨_, _, g2, _⟩
  case inr => omega
  obtain ⟨q1, q2, k1, k2, k3, cs, hb, hcs, hr⟩ := hHp.blk 0 _ _ l0 rfl
  obtain ⟨q3, q4, p1, p2, p3, vcs, hvb, hvc, hvr⟩ := hHp.blk 1 _ _ l2 rfl
  subst q1; subst q2; subst q3; subst q4
  have hne : vb ≠ b := by
    intro h
    subst h
    have := hHp.inj 0 1 _ _ vb l0 l2 rfl rfl
    omega
  have hown0 : ownL loc0 b := ⟨0, _, l0, rfl⟩
  have hown1 : ownL loc0 vb := ⟨1, _, l2, rfl⟩
  have hvs2 : 3 ≤ vcs.size := by rw [hvc]; omega
  have hbw := (hHp.lo 0 _ b l0 rfl).2
  have hvw := (hHp.lo 1 _ vb l2 rfl).2
  have hcsl : cs.toList.length = cap * 3 := by simp [hcs]
  have hcap63 : cap ≤ 9223372036854775807 := by unfold maxLen at k1; omega
  have h1 : ∀ i j y p, xs[i]? = some y → y[j]? = some p → ∃ u, cs.toList[i * 3 + j]? = some u ∧ Rep w ok0 p u := fun i j y p a1 a2 => by
    obtain ⟨u, hu, hr'⟩ := hr i j y p a1 a2
    exact ⟨u, by simpa using hu, hr'⟩
  have h2 : ∀ (j : Nat) p, x[j]? = some p → ∃ u, vcs.toList[j]? = some u ∧ Rep w ok0 p u := fun j p a => by
    obtain ⟨u, hu, hr'⟩ := hvr 0 j x p rfl a
    exact ⟨u, by simpa using hu, hr'⟩
  have h2' : ∀ i j y p, [x][i]? = some y → y[j]? = some p → ∃ u, vcs.toList[i * 3 + j]? = some u ∧ Rep w ok0 p u := fun i j y p a1 a2 => by
    obtain ⟨u, hu, hr'⟩ := hvr i j y p a1 a2
    exact ⟨u, by simpa using hu, hr'⟩
  have h1c := rows_one (w := w) (ok := ok0) (n := n) (cs := cs.toList) (by omega) hx (by omega) h1
  have h1v := rows_one (w := w) (ok := ok0) (n := 1) (cs := vcs.toList) (xs := [x]) (e := 3) (by omega) (by simpa using hxe) (by simp) h2'
  rw [Nat.one_mul] at h1v
  have hlen : (xs.take at_ ++ [x] ++ xs.drop at_).length = n + 1 := by simp only [List.length_append, List.length_take, List.length_drop, List.length_singleton]; omega
  have hall : ∀ y ∈ (xs.take at_ ++ [x] ++ xs.drop at_), y.length = 3 := by
    intro y hy
    simp only [List.mem_append, List.mem_singleton] at hy
    rcases hy with (hy | rfl) | hy
    · exact hx y (List.mem_of_mem_take hy)
    · exact hxe
    · exact hx y (List.mem_of_mem_drop hy)
  have hdom : ∀ s, (Go.Proofs.YtbnommmnflmaaaaR.look [(0, Blk.rows 35 3 (xs.take at_ ++ [x] ++ xs.drop at_)), (1, Blk.rows 35 3 [x])] s).isSome = (Go.Proofs.YtbnommmnflmaaaaR.look [(0, Blk.rows 35 3 xs), (1, Blk.rows 35 3 [x])] s).isSome := by
    intro s
    simp only [Go.Proofs.YtbnommmnflmaaaaR.look]
    split
    · rfl
    · split <;> rfl
  have hkey : ∀ s l, loc0 s = some l → s = 0 ∨ s = 1 := by
    intro s l hs
    have h := hHp.dom s
    rw [hs] at h
    simp only [Go.Proofs.YtbnommmnflmaaaaR.look] at h
    by_cases h0 : 0 = s
    · exact .inl h0.symm
    · rw [if_neg h0] at h
      by_cases h1 : 1 = s
      · exact .inr h1.symm
      · rw [if_neg h1] at h; cases h
  rw [hvs']
  simp only [Nat.zero_mul, Nat.sub_zero]
  have hvn : vcap ≥ 1 := by omega
  by_cases hroom : n + 1 ≤ cap
  · refine (shift b n cap at_ vb 1 vcap cs vcs w hat rfl hroom hcap63 hne hb hcs hvb hvs2 h1c h1v).mono fun e w' ⟨he, cs', hw, hc⟩ => ?_
    subst hw
    have hsame : ∀ k, k ≠ b → (w.drew.setRow b cs').heap[k]? = w.heap[k]? := fun k hk => setRow_other w.drew b k cs' hk
    have hsz : (w.drew.setRow b cs').heap.size = w.heap.size := by simp [World.setRow]
    have hok' : ∀ b', ok0 b' → okI w (fun b => ok0 b ∨ ownL loc0 b) (w.drew.setRow b cs') loc0 b' ∧ (w.drew.setRow b cs').heap[b']? = w.heap[b']? := fun b' h => ⟨⟨.inl (.inl h), by rw [hsz]; exact (hok b' h).1, fun s l hs hl => (hok b' h).2 ⟨s, l, hs, hl⟩⟩, hsame b' fun e => (hok b' h).2 (by rw [e]; exact hown0)⟩
    have hc' : cs'.toList = cs.toList.take (at_ * 3) ++ vcs.toList.take 3 ++ (cs.toList.take (n * 3)).drop (at_ * 3) ++ cs.toList.drop ((n + 1) * 3) := hc
    have hcl : cs'.size = cap * 3 := by
      rw [← Array.length_toList, hc']
      simp only [List.length_append, List.length_take, List.length_drop, hcsl, Array.length_toList]
      omega
    refine ⟨_, loc0, he, ⟨rfl, rfl, rfl, by rw [hsz]; exact Nat.le_refl _, fun k _ ho => hsame k fun e => ho (by rw [e]; exact hown0)⟩, ⟨fun s => by rw [hdom]; exact hHp.dom s, fun s l B hs hB => ?_, hHp.inj, fun s l b' hs hl => ⟨(hHp.lo s l b' hs hl).1, by rw [hsz]; exact (hHp.lo s l b' hs hl).2⟩⟩, ?_, fun s b' h => h⟩
    · rcases hkey s l hs with rfl | rfl
      · rw [l0] at hs
        cases hs
        cases hB
        refine ⟨rfl, rfl, k1, by rw [hlen]; exact hroom, hall, cs', setRow_heap w.drew b cs cs' _ _ hb, hcl, fun i j y p a1 a2 => ?_⟩
        obtain ⟨u, hu, hr'⟩ := rows_ins (w := w) (ok := ok0) hx hxe hn.symm (Nat.le_of_lt hat) (by omega) (by simpa using hvs2) h1 h2 hc' i j y p a1 a2
        exact ⟨u, by simpa using hu, hr'.mono hok'⟩
      · rw [l2] at hs
        cases hs
        cases hB
        refine ⟨rfl, rfl, p1, p2, p3, vcs, by rw [hsame vb hne]; exact hvb, hvc, fun i j y p a1 a2 => ?_⟩
        obtain ⟨u, hu, hr'⟩ := hvr i j y p a1 a2
        exact ⟨u, hu, hr'.mono hok'⟩
    · exact .inl ⟨b, _, _, cap, l0, by omega, by rw [Nat.zero_mul, Nat.sub_zero]⟩
  · refine (grow b n cap at_ vb 1 vcap cs vcs w hat rfl (by omega) (by omega) hb8 hne hb hcs hvb hvs2 h1c h1v).mono fun e w' ⟨G, hG1, hG2, he, cs', hcl, hc, hbel, hnew, hsz⟩ => ?_
    have hsame : ∀ k, k < w.heap.size → w'.heap[k]? = w.heap[k]? := fun k hk => hbel.block k hk
    obtain ⟨loc, hloc⟩ : ∃ loc : Locs, loc = loc0.set 0 (.rows w.heap.size 35 3 G) := ⟨_, rfl⟩
    have m0 : loc 0 = some (.rows w.heap.size 35 3 G) := by rw [hloc]; exact set_same _ _ _
    have mo : ∀ s, s ≠ 0 → loc s = loc0 s := fun s hs => by rw [hloc]; exact set_other _ _ hs
    have hok' : ∀ b', ok0 b' → okI w (fun b => ok0 b ∨ ownL loc0 b) w' loc b' ∧ w'.heap[b']? = w.heap[b']? := fun b' h => by
      have hlt := (hok b' h).1
      refine ⟨⟨.inl (.inl h), by omega, fun s l hs hl => ?_⟩, hsame b' hlt⟩
      by_cases h0 : s = 0
      · subst h0
        rw [m0] at hs
        cases hs
        cases hl
        omega
      · rw [mo s h0] at hs
        exact (hok b' h).2 ⟨s, l, hs, hl⟩
    refine ⟨_, loc, he, ⟨hbel.os, hbel.tape, hbel.output, hbel.size, fun k hk _ => hsame k hk⟩, ⟨fun s => ?_, fun s l B hs hB => ?_, fun s s' l l' b' hs hs' hl hl' => ?_, fun s l b' hs hl => ?_⟩, ?_, fun s b' h => ?_⟩
    · rw [hdom, ← hHp.dom]
      by_cases h0 : s = 0
      · subst h0; rw [m0, l0]; rfl
      · rw [mo s h0]
    · by_cases h0 : s = 0
      · subst h0
        rw [m0] at hs
        cases hs
        cases hB
        refine ⟨rfl, rfl, hG2, by rw [hlen]; exact hG1, hall, cs', hnew, hcl, fun i j y p a1 a2 => ?_⟩
        have hc2 : cs'.toList = cs.toList.take (at_ * 3) ++ vcs.toList.take 3 ++ (cs.toList.take (n * 3)).drop (at_ * 3) ++ cs'.toList.drop ((n + 1) * 3) := by rw [← hc, List.take_append_drop]
        obtain ⟨u, hu, hr'⟩ := rows_ins (w := w) (ok := ok0) hx hxe hn.symm (Nat.le_of_lt hat) (by omega) (by simpa using hvs2) h1 h2 hc2 i j y p a1 a2
        exact ⟨u, by simpa using hu, hr'.mono hok'⟩
      · rw [mo s h0] at hs
        rcases hkey s l hs with rfl | rfl
        · exact absurd rfl h0
        · rw [l2] at hs
          cases hs
          cases hB
          refine ⟨rfl, rfl, p1, p2, p3, vcs, by rw [hsame vb hvw]; exact hvb, hvc, fun i j y p a1 a2 => ?_⟩
          obtain ⟨u, hu, hr'⟩ := hvr i j y p a1 a2
          exact ⟨u, hu, hr'.mono hok'⟩
    · by_cases h0 : s = 0
      · by_cases h0' : s' = 0
        · rw [h0, h0']
        · subst h0
          rw [m0] at hs
          cases hs
          cases hl
          rw [mo s' h0'] at hs'
          have := (hHp.lo s' l' _ hs' hl').2
          omega
      · by_cases h0' : s' = 0
        · subst h0'
          rw [m0] at hs'
          cases hs'
          cases hl'
          rw [mo s h0] at hs
          have := (hHp.lo s l _ hs hl).2
          omega
        · rw [mo s h0] at hs
          rw [mo s' h0'] at hs'
          exact hHp.inj s s' l l' b' hs hs' hl hl'
    · by_cases h0 : s = 0
      · subst h0
        rw [m0] at hs
        cases hs
        cases hl
        exact ⟨.inr (Nat.le_refl _), by omega⟩
      · rw [mo s h0] at hs
        have := hHp.lo s l b' hs hl
        exact ⟨this.1, by have := this.2; omega⟩
    · exact .inl ⟨w.heap.size, _, _, G, m0, by omega, by rw [Nat.zero_mul, Nat.sub_zero]⟩
    · have h0 : s ≠ 0 := by
        intro h0
        subst h0
        rw [l0] at h
        cases h
      rw [mo s h0]
      exact h
theorem ins_ok : Sound Try.prog 44 (insM 35 3 24) := by
  intro args r hp hr ys h0 hsp w ok0 loc0 vs hok hHp hargs
  unfold insM at hr
  split at hr
  · rename_i n at_ el1 e1 xs el2 e2 x
    split at hr
    · rename_i hc
      obtain ⟨⟨rfl, rfl, rfl, rfl⟩, hn, h0', h1, hx, hxe, hb⟩ := hc
      have hx' : ∀ y ∈ xs, y.length = 3 := fun y hy => by have := List.all_eq_true.1 hx y hy; simpa using this
      cases hr
      cases hsp
      obtain ⟨k, rfl⟩ : ∃ k : Nat, at_ = (k : Int) := ⟨at_.toNat, by omega⟩
      rw [Int.toNat_natCast]
      by_cases hlt : k < n
      · exact ⟨by kernel_rfl, ins_mid hn hx' hxe hb hlt hok hHp hargs⟩
      · obtain rfl : k = n := by omega
        have h5 := ins_end k xs x hn hx hxe hb
        have h6 := (IB.s44 (m := IB.i44.ev (fun _ _ => none) 1) (E := fun _ _ => none) (fun _ => Sound.no) fun _ _ h => ⟨1, h⟩) _ _ _ h5 _ _ rfl w ok0 loc0 vs hok hHp hargs
        rw [show xs.drop k = [] from List.drop_of_length_le (by omega), List.append_nil]
        exact h6
    · cases hr
  · cases hr
end Go.Proofs.Ytbnommmnflmaaaa.XI
