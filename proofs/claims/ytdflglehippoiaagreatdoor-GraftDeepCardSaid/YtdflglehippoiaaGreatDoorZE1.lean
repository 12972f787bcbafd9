/- Texts joined: KA KB KC MA MB MC EC ED QA QB QC QD QE QF AA AB AC AD AE AF AG AH FA FB GA FC FD FE FF FG FH FI FJ FK FL GB GC GD FP FQ GE EE FT GO KD KE KF KG KH MD HA HB HC ME MF GH GI HD GJ GK EP GL MG MH MI HE KI KJ KK KL KM KN KO HG HN LJ HO. -/
import Derived.Test.YtdflglehippoiaaGreatDoorZI1
import Derived.IntWalk
import Derived.ProofKit
import Derived.Test.YtdflglehippoiaaGreatDoorProg
set_option linter.unusedVariables false
set_option linter.unusedSimpArgs false
namespace Go.Proofs.YtdflglehippoiaaGreatDoor.KA
open Go Go.Proofs.YtdflglehippoiaaGreatDoorR IG
set_option maxRecDepth 100000
set_option maxHeartbeats 4000000
def inB (n lo hi : Int) : Bool := decide (lo ≤ n) && decide (n ≤ hi)
theorem inB_t {n lo hi : Int} (h : inB n lo hi = true) : lo ≤ n ∧ n ≤ hi := by simpa [inB] using h
theorem wi (i : Nat) (h : i < 4611686018427387904) : IntKind.i64.wrap ((i : Int) + 1) = ((i + 1 : Nat) : Int) := by rw [IntWalk.i64_in _ (by omega)]; omega
theorem wm (i : Nat) (h : i < 4611686018427387904) (h0 : 0 < i) : IntKind.i64.wrap ((i : Int) - 1) = ((i - 1 : Nat) : Int) := by rw [IntWalk.i64_in _ (by omega)]; omega
theorem take_s {α : Type} {l : List α} {i : Nat} (h : i < l.length) : l.take (i + 1) = l.take i ++ [l[i]] := by simp
structure Kd where
 (n i a : Int)
 deriving DecidableEq
abbrev eK (x : Kd) : List V := [.int .i64 x.n, .int .i64 x.i, .int .i64 x.a]
abbrev aK (x : Kd) : S := .agg (eK x)
abbrev rK (l : List Kd) : V := .row (l.map eK)
theorem takeK (l : List Kd) : (l.map eK).take l.length = l.map eK := by rw [List.take_of_length_le (by simp)]
theorem all3 (l : List Kd) : (l.map eK).all (fun x => x.length == 3) = true := by simp
def tpL : List Int := [1462484242049070477, 1775212608919665246, 3535639072113518480, 3725500155902745375]
def ndL : List Int := [2342812313538366385, 1863050908023769503, 81111313352671826, 2434324899588211290, 2454816673080883147, 1342378062264523301, 820659310660760249, 2006264061484817761]
def tpK (t : Int) : Int := tpL.getD t.toNat 0
def ndK (n : Int) : Int := ndL.getD n.toNat 0
def okT (t : Int) : Bool := inB t 0 3
def okN (n : Int) : Bool := inB n 0 7
def gap (t n : Int) : Int := if ndK n - tpK t < 0 then ndK n - tpK t + 4611686018427387904 else ndK n - tpK t
def nr (t a b : Int) : Bool := okT t && okN a && okN b && decide (gap t a < gap t b)
theorem four {P : Int → Prop} (h0 : P 0) (h1 : P 1) (h2 : P 2) (h3 : P 3) {t : Int} (h : okT t = true) : P t := by
 have := inB_t h
 have : t = 0 ∨ t = 1 ∨ t = 2 ∨ t = 3 := by omega
 rcases this with rfl | rfl | rfl | rfl <;> assumption
theorem eight {P : Int → Prop} (h0 : P 0) (h1 : P 1) (h2 : P 2) (h3 : P 3) (h4 : P 4) (h5 : P 5) (h6 : P 6) (h7 : P 7) {t : Int} (h : okN t = true) : P t := by
 have := inB_t h
 have : t = 0 ∨ t = 1 ∨ t = 2 ∨ t = 3 ∨ t = 4 ∨ t = 5 ∨ t = 6 ∨ t = 7 := by omega
 rcases this with rfl | rfl | rfl | rfl | rfl | rfl | rfl | rfl <;> assumption
theorem tp_in {t : Int} (h : okT t = true) : 0 ≤ tpK t ∧ tpK t < 4611686018427387904 := four (P := fun t => 0 ≤ tpK t ∧ tpK t < 4611686018427387904) (by decide) (by decide) (by decide) (by decide) h
theorem nd_in {t : Int} (h : okN t = true) : 0 ≤ ndK t ∧ ndK t < 4611686018427387904 := eight (P := fun t => 0 ≤ ndK t ∧ ndK t < 4611686018427387904) (by decide) (by decide) (by decide) (by decide) (by decide) (by decide) (by decide) (by decide) h
theorem e123t (N d) {t : Int} (h : okT t = true) : TT N (d + 2) 123 [iV t] = some (.tup [iV (tpK t), iV 0], []) :=
 four (P := fun t => TT N (d + 2) 123 [iV t] = some (.tup [iV (tpK t), iV 0], [])) (by kernel_rfl) (by kernel_rfl) (by kernel_rfl) (by kernel_rfl) h
theorem e124t (N d) {t : Int} (h : okN t = true) : TT N (d + 3) 124 [iV t] = some (.tup [iV (ndK t), iV 0], []) :=
 eight (P := fun t => TT N (d + 3) 124 [iV t] = some (.tup [iV (ndK t), iV 0], [])) (by kernel_rfl) (by kernel_rfl) (by kernel_rfl) (by kernel_rfl) (by kernel_rfl) (by kernel_rfl) (by kernel_rfl) (by kernel_rfl) h
theorem e131 (N d) (n b : Int) : TT N (d + 1) 131 [iV n, iV b] = some (bV (decide (n ≥ 0) && decide (n < b)), []) := by
 rw [t131, F_ev rfl]
 simp only [j131, b131, q131, ww, simprocAttr]
 repeat' (refine fin_cases (fun h1 => ?_) (fun h1 => ?_) <;> simp only [h1, j131, b131, q131, ww, simprocAttr])
 all_goals grind
theorem okT_is (t : Int) : (decide (t ≥ 0) && decide (t < 4)) = okT t := by simp only [okT, inB]; congr 1; simp; omega
theorem okN_is (t : Int) : (decide (t ≥ 0) && decide (t < 8)) = okN t := by simp only [okN, inB]; congr 1; simp; omega
theorem e85 (N d) (n : Int) : TT N (d + 2) 85 [iV n] = some (bV (okN n), []) := by
 rw [t85, F_ev rfl]
 simp only [e131, okN_is, j85, b85, q85, ww, simprocAttr]
 repeat' (refine fin_cases (fun h1 => ?_) (fun h1 => ?_) <;> simp only [h1, e131, okN_is, j85, b85, q85, ww, simprocAttr])
theorem e123f (N d) {t : Int} (h : okT t = false) : TT N (d + 2) 123 [iV t] = some (.tup [iV 0, iV 1], []) := by
 rw [t123, F_ev rfl]
 simp only [e131, okT_is, h, j123, b123, q123, ww, simprocAttr]
theorem e124f (N d) {t : Int} (h : okN t = false) : TT N (d + 3) 124 [iV t] = some (.tup [iV 0, iV 1], []) := by
 rw [t124, F_ev rfl]
 simp only [e85, h, j124, b124, q124, ww, simprocAttr]
theorem e125 (N d) {k m : Int} (hk : 0 ≤ k ∧ k < 4611686018427387904) (hm : 0 ≤ m ∧ m < 4611686018427387904) : TT N (d + 1) 125 [iV k, iV m] = some (iV (if m - k < 0 then m - k + 4611686018427387904 else m - k), []) := by
 have h1 : IntKind.i64.wrap (m - k) = m - k := IntWalk.i64_in _ (by omega)
 have h2 : m - k < 0 → IntKind.i64.wrap (m - k + 4611686018427387904) = m - k + 4611686018427387904 := fun h => IntWalk.i64_in _ (by omega)
 rw [t125, F_ev rfl]
 by_cases h : m - k < 0
 ·have hd : decide (m - k < 0) = true := by simpa using h
  simp only [h1, h2 h, hd, h, j125, b125, q125, ww, simprocAttr]
 ·have hd : decide (m - k < 0) = false := by simpa using h
  simp only [h1, hd, h, j125, b125, q125, ww, simprocAttr]
theorem e65t (N d) {t n : Int} (ht : okT t = true) (hn : okN n = true) : TT N (d + 4) 65 [iV t, iV n] = some (.tup [iV (gap t n), iV 0], []) := by
 rw [t65, F_ev rfl]
 simp only [e123t _ _ ht, e124t _ _ hn, e125 _ _ (tp_in ht) (nd_in hn), j65, b65, q65, ww, simprocAttr]
 rfl
theorem e65f (N d) {t n : Int} (h : (okT t && okN n) = false) : TT N (d + 4) 65 [iV t, iV n] = some (.tup [iV 0, iV 1], []) := by
 rw [t65, F_ev rfl]
 cases ht : okT t with
 | false => simp only [e123f _ _ ht, j65, b65, q65, ww, simprocAttr]
 | true =>
  rw [ht, Bool.true_and] at h
  simp only [e123t _ _ ht, e124f _ _ h, j65, b65, q65, ww, simprocAttr]
theorem e28 (N d) (t a b : Int) : TT N (d + 5) 28 [iV t, iV a, iV b] = some (bV (nr t a b), []) := by
 rw [t28, F_ev rfl]
 cases h1 : (okT t && okN a) with
 | false =>
  have hn : nr t a b = false := by simp only [nr, h1, Bool.false_and]
  cases h2 : (okT t && okN b) with
  | false => simp only [e65f _ _ h1, e65f _ _ h2, hn, j28, b28, q28, ww, simprocAttr]
  | true =>
   have h3 := Bool.and_eq_true_iff.1 h2
   simp only [e65f _ _ h1, e65t _ _ h3.1 h3.2, hn, j28, b28, q28, ww, simprocAttr]
 | true =>
  have h4 := Bool.and_eq_true_iff.1 h1
  cases h2 : (okT t && okN b) with
  | false =>
   have hn : nr t a b = false := by rw [h4.1, Bool.true_and] at h2; simp [nr, h2]
   simp only [e65t _ _ h4.1 h4.2, e65f _ _ h2, hn, j28, b28, q28, ww, simprocAttr]
  | true =>
   have h3 := Bool.and_eq_true_iff.1 h2
   have hn : nr t a b = decide (gap t a < gap t b) := by simp [nr, h4.1, h4.2, h3.2]
   simp only [e65t _ _ h4.1 h4.2, e65t _ _ h3.1 h3.2, hn, j28, b28, q28, ww, simprocAttr]
theorem e110 (N d) (n lo hi) : TT N (d + 1) 110 [iV n, iV lo, iV hi] = some (bV (inB n lo hi), []) := by
 rw [t110, F_ev rfl]
 simp only [j110, b110, q110, ww, simprocAttr]
 repeat' (refine fin_cases (fun h1 => ?_) (fun h1 => ?_) <;> simp only [h1, j110, b110, q110, ww, simprocAttr])
 all_goals grind [inB]
theorem e116 (N d) (n) : TT N (d + 2) 116 [iV n] = some (bV (inB n 1 1073741824), []) := by
 rw [t116, F_ev rfl]
 simp only [e110, j116, b116, q116, ww, simprocAttr]
 repeat' (refine fin_cases (fun h1 => ?_) (fun h1 => ?_) <;> simp only [h1, e110, j116, b116, q116, ww, simprocAttr])
end Go.Proofs.YtdflglehippoiaaGreatDoor.KA
namespace Go.Proofs.YtdflglehippoiaaGreatDoor.KA
open Go Go.Proofs.YtdflglehippoiaaGreatDoorR IG
set_option maxRecDepth 100000
set_option maxHeartbeats 4000000
def ix {α : Type} (p : α → Bool) : List α → Int → Int
 | [], _ => -1
 | x :: r, i => if p x then i else ix p r (i + 1)
theorem e117 (N d f : Nat) (ps : List V) (p : Kd → Bool) (hf : ∀ x, TT N d f [aK x, .one (.ptr ps)] = some (bV (p x), [])) (l : List Kd) (hN : l.length < N) (hl : l.length < 1000000) : TT N (d + 1) 117 [.one (rK l), .one (.fn f [.ptr ps])] = some (iV (ix p l 0), []) := by
 rw [t117, F_ev rfl]
 simp only [List.length_map, j117, b117, q117, ww, simprocAttr]
 refine (loopK (K := fun o => fin _ (aft _ _ _ o)) (fun i => ⟨[(0, .one (rK l)), (1, .one (.fn f [.ptr ps])), (7, iV l.length), (8, iV i)], []⟩) (fun i => some (iV (ix p (l.drop i) i), [])) l.length ?hr l.length 0 N _ (by omega) hN ?hk).trans ?_
 case hk => simp only [kk, simprocAttr]; try rfl
 case hr =>
  intro i n hi ih
  (try dsimp only)
  by_cases hlt : i < l.length
  ·have h1 : decide ((i : Int) < (l.length : Int)) = true := by simp; omega
   have hget : (l.map eK)[i]? = some (eK l[i]) := by simp [hlt]
   have hd : l.drop i = l[i] :: l.drop (i + 1) := by simp
   have hb : 0 ≤ (i : Int) ∧ (i : Int) < (l.length : Int) := by omega
   simp only [h1, hb.1, hb.2, List.length_map, hget, hf, wi i (by omega), j117, b117, q117, ww, simprocAttr]
   refine fin_cases2 (fun hp => ?_) (fun hp => ?_) <;> simp only [wi i (by omega), j117, b117, q117, ww, simprocAttr]
   ·rw [hd, ix, hp, if_pos rfl]
   ·rw [hd, ix, hp, if_neg (by decide)]
    exact ih hlt _ (by simp only [kk, simprocAttr])
  ·have h1 : decide ((i : Int) < (l.length : Int)) = false := by simp; omega
   simp only [h1, j117, b117, q117, ww, simprocAttr]
   rw [List.drop_of_length_le (by omega)]
   rfl
 rfl
theorem e118 (N d : Nat) (y : Kd) (n : Int) : TT N (d + 1) 118 [aK y, .one (.ptr [.int .i64 n])] = some (bV (decide (y.n = n)), []) := by
 rw [t118, F_ev rfl]
 simp only [j118, b118, q118, ww, simprocAttr]
 repeat' (refine fin_cases (fun h1 => ?_) (fun h1 => ?_) <;> simp only [h1, j118, b118, q118, ww, simprocAttr])
theorem e69 (N d : Nat) (y : Kd) (n : Int) : TT N (d + 1) 69 [aK y, .one (.ptr [.int .i64 n])] = some (bV (decide (y.n = n)), []) := by
 rw [t69, F_ev rfl]
 simp only [j69, b69, q69, ww, simprocAttr]
 repeat' (refine fin_cases (fun h1 => ?_) (fun h1 => ?_) <;> simp only [h1, j69, b69, q69, ww, simprocAttr])
theorem e121 (N d : Nat) (y : Kd) (n : Int) : TT N (d + 1) 121 [aK y, .one (.ptr [.int .i64 n])] = some (bV (decide (y.n = n)), []) := by
 rw [t121, F_ev rfl]
 simp only [j121, b121, q121, ww, simprocAttr]
 repeat' (refine fin_cases (fun h1 => ?_) (fun h1 => ?_) <;> simp only [h1, j121, b121, q121, ww, simprocAttr])
abbrev hR (el e : Nat) (xs : List (List V)) : S := .tup [.one (.ref el e 0), .one (.row xs)]
theorem ix_some {α : Type} {p : α → Bool} : ∀ {l : List α} {i : Int}, 0 ≤ i → l.any p = true → ∃ k : Nat, ix p l i = i + k ∧ ∃ (h : k < l.length), p l[k] = true ∧ ∀ j (hj : j < k), p (l[j]'(by omega)) = false
 | [], i, _, h => by cases h
 | x :: r, i, h, ha => by
  unfold ix
  by_cases hp : p x = true
  ·exact ⟨0, by simp [hp], by simp, by simpa using hp, fun j hj => by omega⟩
  ·rw [if_neg hp]
   have hp' : p x = false := by simpa using hp
   rw [List.any_cons, hp', Bool.false_or] at ha
   obtain ⟨k, h1, h2, h3, h4⟩ := ix_some (l := r) (i := i + 1) (by omega) ha
   refine ⟨k + 1, by rw [h1]; omega, by simp; omega, by simpa using h3, fun j hj => ?_⟩
   cases j with
   | zero => simpa using hp'
   | succ j => simpa using h4 j (by omega)
theorem e120 (N d f : Nat) (ps : List V) (p : Kd → Bool) (hf : ∀ d x, TT N (d + 1) f [aK x, .one (.ptr ps)] = some (bV (p x), [])) (l : List Kd) (hN : l.length < N) (hl : l.length < 1000000) :
  TT N (d + 3) 120 [.one (.sl 0 0 l.length), .one (.fn f [.ptr ps]), .tup [hR 51 3 (l.map eK)]] =
   some (.one (if (l.filter fun x => !p x).length = 0 ∧ l ≠ [] then .row [] else .sl 0 0 (l.filter fun x => !p x).length), [(0, .rows 51 3 ((l.filter fun x => !p x).map eK))]) := by
 have h27 := e117 N (d + 1) f ps p (hf d) l hN hl
 rw [t120, F_evo rfl rfl (by simp)]
 cases ha : l.any p with
 | false =>
  have hix : ix p l 0 = -1 := by
   have h9 : ∀ (l : List Kd) (i : Int), l.any p = false → ix p l i = -1 := by
    intro l
    induction l with
    | nil => intro i _; rfl
    | cons x r ih =>
     intro i h
     rw [List.any_cons, Bool.or_eq_false_iff] at h
     rw [ix, h.1, if_neg (by decide)]
     exact ih _ h.2
   exact h9 l 0 ha
  have hfil : l.filter (fun x => !p x) = l := by
   rw [List.filter_eq_self]
   intro x hx
   have := List.any_eq_false.1 ha x hx
   simpa using this
  simp only [h27, hix, takeK, List.length_map, j120, b120, q120, ww, simprocAttr]
  rw [hfil]
  cases l with
  | nil => rfl
  | cons x r => simp
 | true =>
  obtain ⟨k, hix, hk, hpk, hbef⟩ := ix_some (Int.le_refl 0) ha
  rw [Int.zero_add] at hix
  have hne : ((k : Int) = -1) = False := eq_false (by omega)
  have hfk : (l.take (k + 1)).filter (fun x => !p x) = l.take k := by
   rw [take_s hk, List.filter_append]
   have h1 : (l.take k).filter (fun x => !p x) = l.take k := by
    rw [List.filter_eq_self]
    intro x hx
    obtain ⟨j, hj⟩ := List.getElem?_of_mem hx
    rw [List.getElem?_take] at hj
    split at hj
    ·rename_i hjk
     rw [List.getElem?_eq_getElem (by omega)] at hj
     cases hj
     have := hbef j hjk
     simpa using this
    ·cases hj
   rw [h1]
   simp [hpk]
  simp only [h27, hix, hne, takeK, wi k (by omega), List.length_map, j120, b120, q120, ww, simprocAttr]
  refine loopI (K := fun o => finG _ _ (aft _ _ _ o)) (I := fun q s => ∃ (c : List Kd) (i : Nat), s = ⟨[(0, .one (.sl 0 0 l.length)), (1, .one (.fn f [.ptr ps])), (5, iV i), (6, iV ((k + 1 + q : Nat) : Int))], [(0, .rows 51 3 (c.map eK))]⟩ ∧ c.length = l.length ∧ i ≤ k + q ∧ c.take i = (l.take (k + 1 + q)).filter (fun x => !p x) ∧ ∀ j, k + 1 + q ≤ j → c[j]? = l[j]?) _ (l.length - (k + 1)) ?hr (l.length - (k + 1)) 0 N _ ⟨[(0, .one (.sl 0 0 l.length)), (1, .one (.fn f [.ptr ps])), (5, iV k), (6, iV ((k + 1 : Nat) : Int))], [(0, .rows 51 3 (l.map eK))]⟩ (by omega) (by omega) ?hk ⟨l, k, rfl, rfl, by omega, by rw [Nat.add_zero]; exact hfk.symm, fun j _ => rfl⟩
  case hk => simp only [kk, simprocAttr]
  case hr =>
   rintro q n s hq ⟨c, i, rfl, hcl, hi, hct, hcj⟩ ih
   (try dsimp only)
   by_cases hlt : k + 1 + q < l.length
   ·have h1 : decide (((k + 1 + q : Nat) : Int) < (l.length : Int)) = true := by simp; omega
    have hg1 : (c.map eK)[k + 1 + q]? = some (eK l[k + 1 + q]) := by rw [List.getElem?_map, hcj _ (Nat.le_refl _), List.getElem?_eq_getElem hlt]; rfl
    have hb : 0 ≤ ((k + 1 + q : Nat) : Int) ∧ ((k + 1 + q : Nat) : Int) < (l.length : Int) := by omega
    simp only [h1, hb.1, hb.2, hg1, hf, List.length_map, wi (k + 1 + q) (by omega), j120, b120, q120, ww, simprocAttr]
    have hil : i < c.length := by omega
    have hg2 : (c.map eK)[i]? = some (eK c[i]) := by rw [List.getElem?_map, List.getElem?_eq_getElem hil]; rfl
    have hbi : 0 ≤ (i : Int) ∧ (i : Int) < (l.length : Int) := by omega
    have htk : (l.take (k + 1 + q + 1)).filter (fun x => !p x) = (l.take (k + 1 + q)).filter (fun x => !p x) ++ (if p l[k + 1 + q] then [] else [l[k + 1 + q]]) := by
     rw [take_s hlt, List.filter_append]
     congr 1
     cases hp : p l[k + 1 + q] <;> simp [hp]
    refine fin_cases2 (fun hp => ?_) (fun hp => ?_) <;> simp only [hbi.1, hbi.2, hg2, List.length_map, wi i (by omega), wi (k + 1 + q) (by omega), j120, b120, q120, ww, simprocAttr]
    ·have hp' : p l[k + 1 + q] = false := by simpa using hp
     refine ih (by omega) _ ⟨[(0, .one (.sl 0 0 l.length)), (1, .one (.fn f [.ptr ps])), (5, iV ((i + 1 : Nat) : Int)), (6, iV ((k + 1 + (q + 1) : Nat) : Int))], [(0, .rows 51 3 ((c.set i l[k + 1 + q]).map eK))]⟩ (by simp only [kk, simprocAttr, List.map_set]; try rfl) ⟨c.set i l[k + 1 + q], i + 1, rfl, by rw [List.length_set]; exact hcl, by omega, ?_, fun j hj => ?_⟩
     ·rw [show k + 1 + (q + 1) = k + 1 + q + 1 by omega, htk, hp', if_neg (by decide), ← hct, take_s (by rw [List.length_set]; exact hil), List.getElem_set_self, List.take_set_of_le (Nat.le_refl i)]
     ·rw [List.getElem?_set_ne (by omega)]
      exact hcj j (by omega)
    ·have hp' : p l[k + 1 + q] = true := by simpa using hp
     refine ih (by omega) _ ⟨[(0, .one (.sl 0 0 l.length)), (1, .one (.fn f [.ptr ps])), (5, iV i), (6, iV ((k + 1 + (q + 1) : Nat) : Int))], [(0, .rows 51 3 (c.map eK))]⟩ (by simp only [kk, simprocAttr]; try rfl) ⟨c, i, rfl, hcl, by omega, ?_, fun j hj => hcj j (by omega)⟩
     rw [show k + 1 + (q + 1) = k + 1 + q + 1 by omega, htk, hp', if_pos rfl, List.append_nil]
     exact hct
   ·have h1 : decide (((k + 1 + q : Nat) : Int) < (l.length : Int)) = false := by simp; omega
    have hq' : k + 1 + q = l.length := by omega
    have hil : i < l.length := by omega
    have hbi : 0 ≤ (i : Int) ∧ (i : Int) ≤ (l.length : Int) := by omega
    have hne2 : ((i : Int) = (l.length : Int)) = False := eq_false (by omega)
    have hsum : i + (l.length - i) = l.length := by omega
    have hcm : (c.map eK).take i = ((l.filter fun x => !p x)).map eK := by rw [← List.map_take, hct, hq', List.take_length]
    have hfl : (l.filter fun x => !p x).length = i := by
     have := congrArg List.length hcm
     simp only [List.length_take, List.length_map] at this
     omega
    have hlne : l ≠ [] := fun e => by rw [e] at hil; simp at hil
    simp only [h1, hbi.1, hbi.2, hne2, hcl, hsum, hcm, List.length_map, j120, b120, q120, ww, simprocAttr]
    by_cases h0 : i = 0
    ·have hz : ((0 : Int) = (i : Int)) = True := eq_true (by omega)
     have hfl' : (l.filter fun x => !p x).length = 0 := by omega
     have hnil : l.filter (fun x => !p x) = [] := List.eq_nil_of_length_eq_zero hfl'
     simp only [hz, hnil, j120, b120, q120, ww, simprocAttr]
     simp [hlne]
    ·have hz : ((0 : Int) = (i : Int)) = False := eq_false (by omega)
     simp only [hz, j120, b120, q120, ww, simprocAttr]
     rw [if_neg (fun h => h0 (by omega)), hfl]
     simp
theorem e101 (N d : Nat) (l : List Kd) (hl : l.length < 1000000) : TT N (d + 1) 101 [.one (rK l)] = some (.one (.sl 0 0 l.length), [(0, .rows 51 3 (l.map eK))]) := by
 rw [t101]
 unfold cloneM
 simp only [List.length_map]
 rw [if_pos ⟨all3 l, by omega⟩]
theorem e152 (N d : Nat) (l : List Kd) (x : Kd) (k : Nat) (hk : k ≤ l.length) (hl : l.length < 1000000) : TT N (d + 1) 152 [.one (.sl 0 0 l.length), iV k, .one (.sl 1 0 1), .tup [hR 51 3 (l.map eK), hR 51 3 [eK x]]] =
  some (.one (.sl 0 0 (l.length + 1)), [(0, .rows 51 3 ((l.take k ++ [x] ++ l.drop k).map eK)), (1, .rows 51 3 [eK x])]) := by
 rw [t152]
 show (if _ then _ else _) = _
 rw [if_pos ⟨⟨rfl, rfl, rfl, rfl⟩, by simp, by omega, by omega, all3 l, rfl, by omega⟩]
 simp [List.map_take, List.map_drop]
end Go.Proofs.YtdflglehippoiaaGreatDoor.KA
namespace Go.Proofs.YtdflglehippoiaaGreatDoor.KA
open Go Go.Proofs.YtdflglehippoiaaGreatDoorR IG
set_option maxRecDepth 100000
set_option maxHeartbeats 4000000
def inc2 (x : Kd) : Bool := inB x.i 1 1073741824 && inB x.a 0 6
theorem e100 (N d) (t self : Int) (x : Kd) : TT N (d + 6) 100 [iV t, iV self, aK x] = some (bV (nr t self x.n && inc2 x), []) := by
 rw [t100, F_ev rfl]
 simp only [e28, e116, j100, b100, q100, ww, simprocAttr]
 repeat' (refine fin_cases (fun h1 => ?_) (fun h1 => ?_) <;> simp only [h1, e28, e116, j100, b100, q100, ww, simprocAttr])
 all_goals grind [inc2, inB]
def chn (t : Int) : Int → List Kd → Bool
 | _, [] => true
 | p, x :: r => nr t p x.n && inc2 x && chn t x.n r
def rgt (t self : Int) : Option Int → List Kd → Bool
 | _, [] => true
 | p, x :: r => nr t self x.n && inc2 x && (match p with
  | some q => nr t q x.n
  | none => true) && rgt t self (some x.n) r
theorem nr_t {t a b : Int} (h : nr t a b = true) : okT t = true ∧ okN a = true ∧ okN b = true ∧ gap t a < gap t b := by
 simp only [nr, Bool.and_eq_true, decide_eq_true_eq] at h
 exact ⟨h.1.1.1, h.1.1.2, h.1.2, h.2⟩
theorem nr_of {t a b : Int} (h1 : okT t = true) (h2 : okN a = true) (h3 : okN b = true) (h4 : gap t a < gap t b) : nr t a b = true := by simp [nr, h1, h2, h3, h4]
theorem nr_trans {t a b c : Int} (h1 : nr t a b = true) (h2 : nr t b c = true) : nr t a c = true := by
 have a1 := nr_t h1
 have a2 := nr_t h2
 exact nr_of a1.1 a1.2.1 a2.2.2.1 (by omega)
theorem rgt_chn {t self : Int} : ∀ {l : List Kd} {p : Int}, (nr t self p = true) → rgt t self (some p) l = chn t p l
 | [], p, _ => rfl
 | x :: r, p, hp => by
  cases h1 : nr t p x.n with
  | false => simp only [rgt, chn, h1, Bool.false_and, Bool.and_false]
  | true =>
   have h2 := nr_trans hp h1
   simp only [rgt, chn, h1, h2, rgt_chn h2, Bool.true_and, Bool.and_true]
theorem rgt_chn0 {t self : Int} {l : List Kd} : rgt t self none l = chn t self l := by
 cases l with
 | nil => rfl
 | cons x r =>
  cases h1 : nr t self x.n with
  | false => simp only [rgt, chn, h1, Bool.false_and]
  | true => simp only [rgt, chn, h1, rgt_chn h1, Bool.true_and, Bool.and_true]
def kOK (t self limit : Int) (l : List Kd) : Bool := okT t && okN self && inB limit 1 4 && decide ((l.length : Int) ≤ limit) && chn t self l
def prv (l : List Kd) (i : Nat) : Option Int := if i = 0 then none else (l[i - 1]?).map Kd.n
theorem prv_s {l : List Kd} {i : Nat} (h : i < l.length) : prv l (i + 1) = some l[i].n := by
 unfold prv
 rw [if_neg (by omega), Nat.add_sub_cancel, List.getElem?_eq_getElem h]
 rfl
theorem e48 (N d : Nat) (t self limit : Int) (l : List Kd) (hN : l.length < N) (hl : l.length < 1000000) : TT N (d + 7) 48 [iV t, iV self, iV limit, .one (rK l)] = some (iV (if kOK t self limit l then 0 else 1), []) := by
 rw [t48, F_ev rfl]
 cases h0 : (okT t && okN self) with
 | false =>
  have : kOK t self limit l = false := by simp [kOK, h0]
  simp only [e65f _ _ h0, this, List.length_map, j48, b48, q48, ww, simprocAttr]
 | true =>
 have h4 := Bool.and_eq_true_iff.1 h0
 simp only [e65t _ _ h4.1 h4.2, List.length_map, j48, b48, q48, ww, simprocAttr]
 refine fin_cases (fun h1 => ?_) (fun h1 => ?_) <;> simp only [h1, List.length_map, j48, b48, q48, ww, simprocAttr]
 ·have : kOK t self limit l = false := by simp [kOK, inB, h4] at h1 ⊢; intros; omega
  simp [this]
 refine fin_cases (fun h2 => ?_) (fun h2 => ?_) <;> simp only [h1, h2, List.length_map, j48, b48, q48, ww, simprocAttr]
 ·have : kOK t self limit l = false := by simp [kOK, inB, h4] at h2 ⊢; intros; omega
  simp [this]
 refine fin_cases (fun h3 => ?_) (fun h3 => ?_) <;> simp only [h1, h2, h3, List.length_map, j48, b48, q48, ww, simprocAttr]
 ·have : kOK t self limit l = false := by simp [kOK, inB, h4] at h3 ⊢; intros; omega
  simp [this]
 have ho : kOK t self limit l = rgt t self none l := by
  have a1 : inB limit 1 4 = true := by simp [inB] at h1 h2 ⊢; omega
  have a2 : decide ((l.length : Int) ≤ limit) = true := by simp at h3 ⊢; omega
  simp [kOK, h4.1, h4.2, a1, a2, rgt_chn0]
 rw [ho]
 refine (loopK (K := fun o => fin _ (aft _ _ _ o)) (fun i => ⟨[(0, iV t), (1, iV self), (3, .one (rK l)), (35, .one (rK l)), (36, iV l.length), (37, iV i)], []⟩) (fun i => some (iV (if rgt t self (prv l i) (l.drop i) then 0 else 1), [])) l.length ?hr l.length 0 N _ (by omega) hN ?hk).trans ?_
 case hk => simp only [kk, simprocAttr]; try rfl
 case hr =>
  intro i n hi ih
  (try dsimp only)
  by_cases hlt : i < l.length
  ·have h1 : decide ((i : Int) < (l.length : Int)) = true := by simp; omega
   have hg1 : (l.map eK)[i]? = some (eK l[i]) := by simp [hlt]
   have hd1 : l.drop i = l[i] :: l.drop (i + 1) := by simp
   have hb : 0 ≤ (i : Int) ∧ (i : Int) < (l.length : Int) := by omega
   by_cases h0 : i = 0
   ·have hpos : decide ((i : Int) > 0) = false := by simp; omega
    have hpv : prv l i = none := by unfold prv; rw [if_pos h0]
    cases hB : (nr t self l[i].n && inc2 l[i]) with
    | false =>
     simp only [h1, hb.1, hb.2, hpos, hg1, e100, hB, List.length_map, j48, b48, q48, ww, simprocAttr]
     rw [hd1, hpv, rgt, hB]; rfl
    | true =>
     simp only [h1, hb.1, hb.2, hpos, hg1, e100, hB, wi i (by omega), List.length_map, j48, b48, q48, ww, simprocAttr]
     rw [hd1, hpv, rgt, ← prv_s hlt, hB]
     exact ih hlt _ (by simp only [kk, simprocAttr])
   ·obtain ⟨q, hq⟩ : ∃ q, q = l[i - 1]'(by omega) := ⟨_, rfl⟩
    have hg2 : (l.map eK)[i - 1]? = some (eK q) := by rw [List.getElem?_map, List.getElem?_eq_getElem (by omega), hq]; rfl
    have hb2 : 0 ≤ ((i - 1 : Nat) : Int) ∧ ((i - 1 : Nat) : Int) < (l.length : Int) := by omega
    have hpos : decide ((i : Int) > 0) = true := by simp; omega
    have hpv : prv l i = some q.n := by unfold prv; rw [if_neg h0, hq, List.getElem?_eq_getElem (by omega)]; rfl
    cases hB : (nr t self l[i].n && inc2 l[i]) with
    | false =>
     simp only [h1, hb.1, hb.2, hg1, hg2, hb2.1, hb2.2, hpos, hB, wm i (by omega) (by omega), e100, e28, List.length_map, j48, b48, q48, ww, simprocAttr]
     rw [hd1, hpv, rgt, hB]; rfl
    | true =>
     cases hQ : nr t q.n l[i].n with
     | false =>
      simp only [h1, hb.1, hb.2, hg1, hg2, hb2.1, hb2.2, hpos, hB, hQ, wm i (by omega) (by omega), e100, e28, List.length_map, j48, b48, q48, ww, simprocAttr]
      rw [hd1, hpv, rgt, hB]
      simp only [hQ]
      rfl
     | true =>
      simp only [h1, hb.1, hb.2, hg1, hg2, hb2.1, hb2.2, hpos, hB, hQ, wi i (by omega), wm i (by omega) (by omega), e100, e28, List.length_map, j48, b48, q48, ww, simprocAttr]
      rw [hd1, hpv, rgt, ← prv_s hlt, hB]
      simp only [hQ]
      exact ih hlt _ (by simp only [kk, simprocAttr])
  ·have h1 : decide ((i : Int) < (l.length : Int)) = false := by simp; omega
   simp only [h1, List.length_map, j48, b48, q48, ww, simprocAttr]
   rw [List.drop_of_length_le (by omega)]
   rfl
 rfl
end Go.Proofs.YtdflglehippoiaaGreatDoor.KA
namespace Go.Proofs.YtdflglehippoiaaGreatDoor.MA
open Go Go.Proofs.YtdflglehippoiaaGreatDoorR IG
set_option maxRecDepth 100000
def inB (n lo hi : Int) : Bool := decide (lo ≤ n) && decide (n ≤ hi)
theorem wi (i : Nat) (h : i < 4611686018427387904) : IntKind.i64.wrap ((i : Int) + 1) = ((i + 1 : Nat) : Int) := by rw [IntWalk.i64_in _ (by omega)]; omega
theorem e110 (N d) (n lo hi) : TT N (d + 1) 110 [iV n, iV lo, iV hi] = some (bV (inB n lo hi), []) := by
 rw [t110, F_ev rfl]
 simp only [j110, b110, q110, ww, simprocAttr]
 repeat' (refine fin_cases (fun h1 => ?_) (fun h1 => ?_) <;> simp only [h1, j110, b110, q110, ww, simprocAttr])
 all_goals grind [inB]
theorem e116 (N d) (n) : TT N (d + 2) 116 [iV n] = some (bV (inB n 1 1073741824), []) := by
 rw [t116, F_ev rfl]
 simp only [e110, j116, b116, q116, ww, simprocAttr]
 repeat' (refine fin_cases (fun h1 => ?_) (fun h1 => ?_) <;> simp only [h1, e110, j116, b116, q116, ww, simprocAttr])
theorem e56 (N d) (n) : TT N (d + 2) 56 [iV n] = some (bV (inB n 0 2147483647), []) := by
 rw [t56, F_ev rfl]
 simp only [e110, j56, b56, q56, ww, simprocAttr]
 repeat' (refine fin_cases (fun h1 => ?_) (fun h1 => ?_) <;> simp only [h1, e110, j56, b56, q56, ww, simprocAttr])
theorem e131 (N d) (n lo) : TT N (d + 1) 131 [iV n, iV lo] = some (bV (inB n 0 (lo - 1)), []) := by
 rw [t131, F_ev rfl]
 simp only [j131, b131, q131, ww, simprocAttr]
 repeat' (refine fin_cases (fun h1 => ?_) (fun h1 => ?_) <;> simp only [h1, j131, b131, q131, ww, simprocAttr])
 all_goals grind [inB]
theorem e85 (N d) (n) : TT N (d + 2) 85 [iV n] = some (bV (inB n 0 7), []) := by
 rw [t85, F_ev rfl]
 simp only [e131, j85, b85, q85, ww, simprocAttr]
 repeat' (refine fin_cases (fun h1 => ?_) (fun h1 => ?_) <;> simp only [h1, e131, j85, b85, q85, ww, simprocAttr])
theorem e127 (N d) (n) : TT N (d + 3) 127 [iV n] = some (bV (!inB n 0 7), []) := by
 rw [t127, F_ev rfl]
 simp only [e85, j127, b127, q127, ww, simprocAttr]
 repeat' (refine fin_cases (fun h1 => ?_) (fun h1 => ?_) <;> simp only [h1, e85, j127, b127, q127, ww, simprocAttr])
def ix {α : Type} (p : α → Bool) : List α → Int → Int
 | [], _ => -1
 | x :: r, i => if p x then i else ix p r (i + 1)
theorem ix_any {α : Type} (p : α → Bool) : ∀ (l : List α) (i : Int), 0 ≤ i → decide (ix p l i ≥ 0) = l.any p
 | [], i, h => by simp [ix]
 | x :: r, i, h => by
  have := ix_any p r (i + 1) (by omega)
  cases hp : p x <;> simp_all [ix]
theorem e155 (N d f : Nat) (p : Int → Bool) (hf : ∀ x, TT N d f [iV x] = some (bV (p x), [])) (l : List Int) (hN : l.length < N) (hl : l.length < 1000000) : TT N (d + 1) 155 [.one (rI l), .one (.fn f [])] = some (iV (ix p l 0), []) := by
 rw [t155, F_ev rfl]
 simp only [List.length_map, j155, b155, q155, ww, simprocAttr]
 refine (loopK (K := fun o => fin _ (aft _ _ _ o)) (fun i => ⟨[(0, .one (rI l)), (1, .one (.fn f [])), (7, iV l.length), (8, iV i)], []⟩) (fun i => some (iV (ix p (l.drop i) i), [])) l.length ?hr l.length 0 N _ (by omega) hN ?hk).trans ?_
 case hk => simp only [kk, simprocAttr]; try rfl
 case hr =>
  intro i n hi ih
  (try dsimp only)
  by_cases hlt : i < l.length
  ·have h1 : decide ((i : Int) < (l.length : Int)) = true := by simp; omega
   have hget : (l.map eI)[i]? = some (eI l[i]) := by simp [hlt]
   have hd : l.drop i = l[i] :: l.drop (i + 1) := by simp
   have hb : 0 ≤ (i : Int) ∧ (i : Int) < (l.length : Int) := by omega
   simp only [h1, hb.1, hb.2, List.length_map, hget, hf, wi i (by omega), j155, b155, q155, ww, simprocAttr]
   refine fin_cases2 (fun hp => ?_) (fun hp => ?_) <;> simp only [wi i (by omega), j155, b155, q155, ww, simprocAttr]
   ·rw [hd, ix, hp, if_pos rfl]
   ·rw [hd, ix, hp, if_neg (by decide)]
    exact ih hlt _ (by simp only [kk, simprocAttr])
  ·have h1 : decide ((i : Int) < (l.length : Int)) = false := by simp; omega
   simp only [h1, j155, b155, q155, ww, simprocAttr]
   rw [List.drop_of_length_le (by omega)]
   rfl
 rfl
theorem e126 (N d f : Nat) (p : Int → Bool) (hf : ∀ x, TT N d f [iV x] = some (bV (p x), [])) (l : List Int) (hN : l.length < N) (hl : l.length < 1000000) : TT N (d + 2) 126 [.one (rI l), .one (.fn f [])] = some (bV (l.any p), []) := by
 rw [t126, F_ev rfl]
 simp only [e155 N d f p hf l hN hl, j126, b126, q126, ww, simprocAttr]
 simp [ix_any]
theorem any_not {α : Type} (p : α → Bool) (l : List α) : l.any (fun x => !p x) = !l.all p := by
 induction l with
 | nil => rfl
 | cons a r ih => simp only [List.any_cons, List.all_cons, ih]; cases p a <;> simp
theorem e70 (N d : Nat) (l : List Int) (hN : l.length < N) (hl : l.length < 1000000) : TT N (d + 6) 70 [.one (rI l)] = some (bV (l.all fun n => inB n 0 7), []) := by
 have h89 := fun d => e126 N (d + 3) 127 (fun x => !inB x 0 7) (fun x => e127 N d x) l hN hl
 rw [t70, F_ev rfl]
 simp only [h89, any_not, Bool.not_not, j70, b70, q70, ww, simprocAttr]
theorem e196 (N d : Nat) (v : Int) (l : List Int) (hN : l.length < N) (hl : l.length < 1000000) : TT N (d + 1) 196 [.one (rI l), iV v] = some (iV (ix (fun x => decide (v = x)) l 0), []) := by
 rw [t196, F_ev rfl]
 simp only [List.length_map, j196, b196, q196, ww, simprocAttr]
 refine (loopK (K := fun o => fin _ (aft _ _ _ o)) (fun i => ⟨[(0, .one (rI l)), (1, iV v), (7, iV l.length), (8, iV i)], []⟩) (fun i => some (iV (ix (fun x => decide (v = x)) (l.drop i) i), [])) l.length ?hr l.length 0 N _ (by omega) hN ?hk).trans ?_
 case hk => simp only [kk, simprocAttr]; try rfl
 case hr =>
  intro i n hi ih
  (try dsimp only)
  by_cases hlt : i < l.length
  ·have h1 : decide ((i : Int) < (l.length : Int)) = true := by simp; omega
   have hget : (l.map eI)[i]? = some (eI l[i]) := by simp [hlt]
   have hd : l.drop i = l[i] :: l.drop (i + 1) := by simp
   have hb : 0 ≤ (i : Int) ∧ (i : Int) < (l.length : Int) := by omega
   simp only [h1, hb.1, hb.2, List.length_map, hget, wi i (by omega), j196, b196, q196, ww, simprocAttr]
   refine fin_cases2 (fun hp => ?_) (fun hp => ?_) <;> simp only [wi i (by omega), j196, b196, q196, ww, simprocAttr]
   ·rw [hd, ix, show decide (v = l[i]) = true from hp, if_pos rfl]
   ·rw [hd, ix, show decide (v = l[i]) = false from hp, if_neg (by decide)]
    exact ih hlt _ (by simp only [kk, simprocAttr])
  ·have h1 : decide ((i : Int) < (l.length : Int)) = false := by simp; omega
   simp only [h1, j196, b196, q196, ww, simprocAttr]
   rw [List.drop_of_length_le (by omega)]
   rfl
 rfl
theorem any_contains (v : Int) (l : List Int) : l.any (fun x => decide (v = x)) = l.contains v := by
 induction l with
 | nil => rfl
 | cons a r ih => rw [List.any_cons, ih, List.contains_cons]; rfl
theorem e186 (N d : Nat) (v : Int) (l : List Int) (hN : l.length < N) (hl : l.length < 1000000) : TT N (d + 2) 186 [.one (rI l), iV v] = some (bV (l.contains v), []) := by
 rw [t186, F_ev rfl]
 simp only [e196 N d v l hN hl, j186, b186, q186, ww, simprocAttr]
 have := ix_any (fun x => decide (v = x)) l 0 (by omega)
 simp only [ge_iff_le] at this
 rw [this]
 rw [any_contains]
end Go.Proofs.YtdflglehippoiaaGreatDoor.MA
namespace Go.Proofs.YtdflglehippoiaaGreatDoor.MA
open Go Go.Proofs.YtdflglehippoiaaGreatDoorR IG
set_option maxRecDepth 100000
def uqF : List Int → List Int → Bool
 | _, [] => true
 | pre, x :: r => !pre.contains x && uqF (pre ++ [x]) r
def uq (l : List Int) : Bool := uqF [] l
theorem take_s {α : Type} {l : List α} {i : Nat} (h : i < l.length) : l.take (i + 1) = l.take i ++ [l[i]] := by simp
theorem cutI (l : List Int) (i : Nat) : (if (0 : Int) = (i : Int) then some (S.one (V.row []), ([] : Hp)) else some (S.one (V.row ((l.map eI).take i)), [])) = some (S.one (rI (l.take i)), []) := by
 split
 ·rename_i h
  obtain rfl : i = 0 := by omega
  rfl
 ·rw [← List.map_take]
theorem all1 (l : List Int) : (l.map eI).all (fun x => x.length == 1) = true := by simp
theorem e159 (N d : Nat) (l : List Int) (hN : l.length < N) (hl : l.length < 1000000) : TT N (d + 3) 159 [.one (rI l)] = some (bV (uq l), []) := by
 rw [t159, F_ev rfl]
 simp only [List.length_map, j159, b159, q159, ww, simprocAttr]
 refine (loopK (K := fun o => fin _ (aft _ _ _ o)) (fun i => ⟨[(0, .one (rI l)), (5, .one (rI l)), (6, iV l.length), (7, iV i)], []⟩) (fun i => some (bV (uqF (l.take i) (l.drop i)), [])) l.length ?hr l.length 0 N _ (by omega) hN ?hk).trans ?_
 case hk => simp only [kk, simprocAttr]; try rfl
 case hr =>
  intro i n hi ih
  (try dsimp only)
  by_cases hlt : i < l.length
  ·have h1 : decide ((i : Int) < (l.length : Int)) = true := by simp; omega
   have hget : (l.map eI)[i]? = some (eI l[i]) := by simp [hlt]
   have hd : l.drop i = l[i] :: l.drop (i + 1) := by simp
   have hb : 0 ≤ (i : Int) ∧ (i : Int) < (l.length : Int) := by omega
   have hle : (i : Int) ≤ (l.length : Int) := by omega
   have h64 := fun d => e186 N d l[i] (l.take i) (by simp; omega) (by simp; omega)
   have hcut := cutI l i
   simp only [h1, hb.1, hb.2, hle, List.length_map, hget, all1, hcut, h64, wi i (by omega), j159, b159, q159, ww, simprocAttr]
   refine fin_cases2 (fun hp => ?_) (fun hp => ?_) <;> simp only [wi i (by omega), j159, b159, q159, ww, simprocAttr]
   ·rw [hd, uqF, hp]; rfl
   ·rw [hd, uqF, hp, ← take_s hlt]
    exact ih hlt _ (by simp only [kk, simprocAttr])
  ·have h1 : decide ((i : Int) < (l.length : Int)) = false := by simp; omega
   simp only [h1, j159, b159, q159, ww, simprocAttr]
   rw [List.drop_of_length_le (by omega)]
   rfl
 rfl
def nodesB (l : List Int) : Bool := (l.all fun n => inB n 0 7) && decide (l.length ≤ 8)
end Go.Proofs.YtdflglehippoiaaGreatDoor.MA
namespace Go.Proofs.YtdflglehippoiaaGreatDoor.MA
open Go Go.Proofs.YtdflglehippoiaaGreatDoorR IG
set_option maxRecDepth 100000
theorem e187 (N d : Nat) (n : Nat) (hn : n < 1000000) : TT N (d + 1) 187 [.one (.k (.slice none 0 0)), iV n] = some (.one (.sl 0 0 0), [(0, .rows 3 1 (List.replicate 0 []))]) := by
 have h0 : decide ((n : Int) < 0) = false := by simp
 have hw0 : IntKind.i64.wrap 0 = 0 := rfl
 have hb : 0 < n → (0 : Int) < (n : Int) ∧ (n : Int) * 8 ≤ 140737488355328 := by omega
 have hw : IntKind.i64.wrap ((n : Int) - 0) = (n : Int) := by rw [IntWalk.i64_in _ (by omega)]; omega
 rw [t187, F_ev rfl]
 simp only [h0, hw, hw0, j187, b187, q187, ww, simprocAttr]
 refine fin_cases (fun h1 => ?_) (fun h1 => ?_)
 ·have hb := hb (by simpa using h1)
  simp only [h0, hw, hw0, hb.1, hb.2, Nat.zero_le, j187, b187, q187, ww, simprocAttr]
 ·simp only [h0, hw, hw0, j187, b187, q187, ww, simprocAttr]
theorem e160 (N d : Nat) (a b : List Int) (ha : a.length < 1000) (hb : b.length < 1000) : TT (N + 3) (d + 2) 160 [.one (.row [[rI a], [rI b]])] = some (.one (.sl 0 0 (a ++ b).length), [(0, .rows 3 1 ((a ++ b).map eI))]) := by
 rw [t160, F_ev rfl]
 have hw1 : IntKind.i64.wrap (0 + (a.length : Int)) = (a.length : Int) := by rw [IntWalk.i64_in _ (by omega)]; omega
 have hw2 : IntKind.i64.wrap ((a.length : Int) + (b.length : Int)) = ((a.length + b.length : Nat) : Int) := by rw [IntWalk.i64_in _ (by omega)]; omega
 have h87 := fun d => e187 (N + 3) d (a.length + b.length) (by omega)
 have hn1 : decide ((a.length : Int) < 0) = false := by simp
 have hn2 : decide (((a.length + b.length : Nat) : Int) < 0) = false := by simp; omega
 have hw3 : IntKind.i64.wrap 1 = 1 := rfl
 have hw4 : IntKind.i64.wrap 2 = 2 := rfl
 have hb1 : a.length * 8 ≤ 140737488355328 := by omega
 have hb2 : (a.length + b.length) * 8 ≤ 140737488355328 := by omega
 have hta : (a.map eI).take a.length = a.map eI := List.take_of_length_le (by simp)
 have htb : (a.map eI ++ b.map eI).take (a.length + b.length) = a.map eI ++ b.map eI := List.take_of_length_le (by simp)
 simp only [iter_s, hta, htb, hw1, hw2, hw3, hw4, hn1, hn2, h87, hb1, hb2, all1, List.length_map, kk, simprocAttr, j160, b160, q160, ww, simprocAttr]


end Go.Proofs.YtdflglehippoiaaGreatDoor.MA
namespace Go.Proofs.YtdflglehippoiaaGreatDoor.EC
open Go Go.Proofs.YtdflglehippoiaaGreatDoorR IG EA
set_option maxRecDepth 100000
set_option maxHeartbeats 4000000
theorem e141 (N d : Nat) (s : ByteArray) (n lo hi e : Int) : TT N (d + 1) 141 [.one (.k (.string s)), iV n, iV lo, iV hi, iV e] = some (.one (oV (if lo ≤ n ∧ n ≤ hi then none else some (s, e))), []) := by
 rw [t141, F_ev rfl]
 simp only [j141, b141, q141, ww, simprocAttr]
 refine fin_cases (fun h1 => ?_) (fun h1 => ?_) <;> simp only [h1, blkMents, Blk.mentB, j141, b141, q141, ww, simprocAttr]
 ·have h1 : n < lo := by simpa using h1
  rw [if_neg (by omega)]
  rfl
 ·have h1 : ¬ n < lo := by simpa using h1
  refine fin_cases (fun h2 => ?_) (fun h2 => ?_) <;> simp only [h2, blkMents, Blk.mentB, j141, b141, q141, ww, simprocAttr]
  ·have h2 : hi < n := by simpa using h2
   rw [if_neg (by omega)]
   rfl
  ·have h2 : ¬ hi < n := by simpa using h2
   rw [if_pos (by omega)]
   rfl
theorem e140 (N d : Nat) (os : List Ow) (hN : os.length < N) (hl : os.length < 1000000) : TT N (d + 1) 140 [.one (.row (oR os))] = some (.one (joinV os), []) := by
 have hol : (oR os).length = os.length := by simp [oR]
 have hget : ∀ {i : Nat} (h : i < os.length), (oR os)[i]? = some [oV os[i]] := fun h => by simp [oR, h]
 have hle := oks_le os
 rw [t140, F_ev rfl]
 simp only [j140, b140, q140, ww, simprocAttr]
 refine loopK (K := fun o => fin _ (aft _ _ _ o)) (fun i => ⟨[(0, .one (.row (oR os))), (3, iV (oks (os.take i)).length), (9, .one (.row (oR os))), (10, iV (oR os).length), (11, iV i)], []⟩) (fun i => some (.one (joinV os), [])) os.length ?hr os.length 0 N _ (by omega) hN ?hk
 case hk => simp only [kk, simprocAttr]; try rfl
 case hr =>
  intro i q hi ih
  (try dsimp only)
  by_cases hlt : i < os.length
  ·have g1 : decide ((i : Int) < ((oR os).length : Int)) = true := by rw [hol]; simp; omega
   have hb : 0 ≤ (i : Int) ∧ (i : Int) < ((oR os).length : Int) := by rw [hol]; omega
   have hs := hget hlt
   have hst := oks_s hlt
   have hti := oks_le (os.take i)
   rw [List.length_take] at hti
   cases ho : os[i] with
   | none =>
    rw [ho] at hs hst
    simp only [oV] at hs
    simp only [g1, hb.1, hb.2, hs, wi i (by omega), j140, b140, q140, ww, simprocAttr]
    exact ih hlt _ (by simp only [hst, List.append_nil, kk, simprocAttr])
   | some p =>
    rw [ho] at hs hst
    simp only [oV] at hs
    simp only [g1, hb.1, hb.2, hs, wi i (by omega), wi (oks (os.take i)).length (by omega), j140, b140, q140, ww, simprocAttr]
    exact ih hlt _ (by simp only [hst, List.length_append, List.length_cons, List.length_nil, Nat.zero_add, kk, simprocAttr])
  ·clear ih
   obtain rfl : i = os.length := by omega
   have g1 : decide ((os.length : Int) < ((oR os).length : Int)) = false := by rw [hol]; simp
   rw [List.take_length]
   by_cases h0 : (oks os).length = 0
   ·have g2 : decide (((oks os).length : Int) = 0) = true := decide_eq_true (by omega)
    rw [joinV, if_pos h0]
    simp only [g1, g2, j140, b140, q140, ww, simprocAttr]
   ·have g2 : decide (((oks os).length : Int) = 0) = false := decide_eq_false (by omega)
    have hby : ((oks os).length : Int) * 16 ≤ 140737488355328 := by omega
    have hz : (0 : Int) ≤ ((oks os).length : Int) := by omega
    rw [joinV, if_neg h0]
    simp only [g1, g2, hby, hz, blkMents, Blk.mentB, j140, b140, q140, ww, simprocAttr]
    refine loopK (K := fun o => fin _ (aft _ _ _ o)) (fun i => ⟨[(6, .one (.ref 1600 0 0)), (26, .one (.row (oR os))), (27, iV (oR os).length), (28, iV i)], [(1600, .box [.sl 1472 0 (oks (os.take i)).length]), (1472, .rows 119 1 (wR (oks (os.take i))))]⟩) (fun i => some (.one (jV (wR (oks os))), [])) os.length ?hr2 os.length 0 N _ (by omega) hN ?hk2
    case hk2 => simp only [kk, simprocAttr]; try rfl
    case hr2 =>
     intro j q2 hj ih
     (try dsimp only)
     have htj := oks_le (os.take j)
     rw [List.length_take] at htj
     have hwl : (wR (oks (os.take j))).length = (oks (os.take j)).length := by simp [wR]
     have htk : List.take (oks (os.take j)).length (wR (oks (os.take j))) = wR (oks (os.take j)) := List.take_of_length_le (by omega)
     by_cases hlt : j < os.length
     ·have g1 : decide ((j : Int) < ((oR os).length : Int)) = true := by rw [hol]; simp; omega
      have hb : 0 ≤ (j : Int) ∧ (j : Int) < ((oR os).length : Int) := by rw [hol]; omega
      have hs := hget hlt
      have hst := oks_s hlt
      cases ho : os[j] with
      | none =>
       rw [ho] at hs hst
       simp only [oV] at hs
       simp only [g1, hb.1, hb.2, hs, wi j (by omega), j140, b140, q140, ww, simprocAttr]
       exact ih hlt _ (by simp only [hst, List.append_nil, kk, simprocAttr])
      | some p =>
       rw [ho] at hs hst
       simp only [oV] at hs
       have hby2 : ((oks (os.take j)).length + 1) * 16 ≤ 140737488355328 := by omega
       have hwa : wR (oks (os.take j) ++ [p]) = wR (oks (os.take j)) ++ [[wV p.1 p.2]] := by simp [wR]
       simp only [g1, hb.1, hb.2, hs, hwl, htk, hby2, wi j (by omega), BEq.rfl, j140, b140, q140, ww, simprocAttr]
       exact ih hlt _ (by simp only [hst, hwa, List.length_append, List.length_cons, List.length_nil, Nat.zero_add, kk, simprocAttr])
     ·obtain rfl : j = os.length := by omega
      have g1 : decide ((os.length : Int) < ((oR os).length : Int)) = false := by rw [hol]; simp
      rw [List.take_length] at hwl htk ⊢
      simp only [g1, blkMents, Blk.mentB, j140, b140, q140, ww, simprocAttr]
      simp only [hwl, htk, j140, b140, q140, ww, simprocAttr]
end Go.Proofs.YtdflglehippoiaaGreatDoor.EC
namespace Go.Proofs.YtdflglehippoiaaGreatDoor.EC
open Go Go.Proofs.YtdflglehippoiaaGreatDoorR IG EA
set_option maxRecDepth 100000
set_option maxHeartbeats 4000000
structure Cf where
 (n t k d p w q : Int)
structure Sp where
 (k n t v m : Int)
abbrev eC (c : Cf) : List V := [.int .i64 c.n, .int .i64 c.t, .int .i64 c.k, .int .i64 c.d, .int .i64 c.p, .int .i64 c.w, .int .i64 c.q]
theorem oV_live (o : Ow) : V.live (oV o) = true := by rcases o with _ | ⟨s, e⟩ <;> rfl
theorem oV_ment (o : Ow) : V.ment (oV o) = none := by rcases o with _ | ⟨s, e⟩ <;> rfl
theorem jo_ment (os : List Ow) : V.ment (joinV os) = none := by
 unfold joinV
 split <;> rfl
theorem oV_pur (o : Ow) (h : Nat → Option Blk) : V.pur h (oV o) = some (oV o) := by rcases o with _ | ⟨s, e⟩ <;> rfl
theorem oV_pur1 (o : Ow) (h : Nat → Option Blk) : V.pur1 h (oV o) = some (oV o) := by rcases o with _ | ⟨s, e⟩ <;> rfl
theorem jo_pur (os : List Ow) (h : Nat → Option Blk) : V.pur h (joinV os) = some (joinV os) := by
 unfold joinV
 split <;> rfl
theorem jo_hand (os : List Ow) (h : Nat → Option Blk) (m k : Nat) (u : List Nat) : handS h m u k (.one (joinV os)) = some (.one (joinV os), u, k + 1, []) := by
 unfold joinV
 split
 ·rfl
 ·cases u <;> rfl
theorem oV_hand (o : Ow) (h : Nat → Option Blk) (m k : Nat) (u : List Nat) : handS h m u k (.one (oV o)) = some (.one (oV o), u, k + 1, []) := by rcases o with _ | ⟨s, e⟩ <;> rfl
theorem jo_live (os : List Ow) : V.live (joinV os) = true := by
 unfold joinV
 split <;> rfl
theorem whys_w : ∀ ws : List (ByteArray × Int), whys (wR ws) = some (ws.map (·.2))
 | [] => rfl
 | p :: r => by
  have := whys_w r
  simp only [wR] at this
  simp [wR, whys, why1, this]
def errW : List (ByteArray × Int) → Int
 | [] => 0
 | p :: r => if ((p :: r).map (·.2)).any (fun x => decide (x = 9)) then 9 else p.2
theorem errno_j (os : List Ow) (h : os.length < 1000) : XE.errnoM [.one (joinV os)] = some (iV (errW (oks os)), []) := by
 have hle := oks_le os
 unfold joinV
 by_cases h0 : (oks os).length = 0
 ·rw [if_pos h0, List.eq_nil_of_length_eq_zero h0]; rfl
 ·rw [if_neg h0]
  cases hq : oks os with
  | nil => rw [hq] at h0; exact absurd rfl h0
  | cons p r =>
   rw [hq] at hle
   simp only [List.length_cons] at hle
   have hw := whys_w (p :: r)
   rw [List.map_cons] at hw
   simp only [XE.errnoM, hw, List.length_map]
   rw [if_pos (by omega)]
   rfl
abbrev fl (s : ByteArray) (n lo hi e : Int) : Ow := if lo ≤ n ∧ n ≤ hi then none else some (s, e)
abbrev cfl (c : Cf) : List Ow := [fl ⟨#[110, 111, 100, 101, 115]⟩ c.n 1 8 13, fl ⟨#[116, 111, 112, 105, 99, 115]⟩ c.t 1 4 13, fl ⟨#[107, 105, 100, 115]⟩ c.k 1 4 13, fl ⟨#[100, 101, 112, 116, 104]⟩ c.d 1 8 13, fl ⟨#[107, 101, 101, 112]⟩ c.p 1 16 13, fl ⟨#[119, 105, 110, 100, 111, 119]⟩ c.w 1 16 13, fl ⟨#[113, 117, 101, 117, 101]⟩ c.q 2 32 13]
theorem e105 (N d : Nat) (c : Cf) (hN : 7 < N) : TT N (d + 2) 105 [.agg (eC c)] = some (.one (joinV (cfl c)), []) := by
 have h30 := fun d s n lo hi e => e141 N d s n lo hi e
 have h29 : ∀ d, TT N (d + 1) 140 [.one (.row [[oV (fl ⟨#[110, 111, 100, 101, 115]⟩ c.n 1 8 13)], [oV (fl ⟨#[116, 111, 112, 105, 99, 115]⟩ c.t 1 4 13)], [oV (fl ⟨#[107, 105, 100, 115]⟩ c.k 1 4 13)], [oV (fl ⟨#[100, 101, 112, 116, 104]⟩ c.d 1 8 13)], [oV (fl ⟨#[107, 101, 101, 112]⟩ c.p 1 16 13)], [oV (fl ⟨#[119, 105, 110, 100, 111, 119]⟩ c.w 1 16 13)], [oV (fl ⟨#[113, 117, 101, 117, 101]⟩ c.q 2 32 13)]])] = some (.one (joinV (cfl c)), []) := fun d => e140 N d (cfl c) (by simpa using hN) (by simp)
 rw [t105, F_ev rfl]
 simp only [h30, h29, ↓oV_pur, ↓oV_pur1, ↓jo_pur, ↓oV_live, ↓oV_ment, ↓jo_hand, ↓oV_hand, ↓jo_live, ↓jo_ment, j105, b105, q105, ww, simprocAttr]
def okC (c : Cf) : Bool := decide ((1 ≤ c.n ∧ c.n ≤ 8) ∧ (1 ≤ c.t ∧ c.t ≤ 4) ∧ (1 ≤ c.k ∧ c.k ≤ 4) ∧ (1 ≤ c.d ∧ c.d ≤ 8) ∧ (1 ≤ c.p ∧ c.p ≤ 16) ∧ (1 ≤ c.w ∧ c.w ≤ 16) ∧ (2 ≤ c.q ∧ c.q ≤ 32))
theorem errW_13 : ∀ ws : List (ByteArray × Int), (∀ p ∈ ws, p.2 = 13) → errW ws = if ws = [] then 0 else 13
 | [], _ => rfl
 | p :: r, h => by
  have h1 : ((p :: r).map (·.2)).any (fun x => decide (x = 9)) = false := by
   rw [List.any_eq_false]
   intro x hx
   obtain ⟨q, hq, rfl⟩ := List.mem_map.1 hx
   simp [h q hq]
  rw [errW, h1, if_neg (by decide), if_neg (by simp)]
  exact h p (by simp)
theorem errW_c (c : Cf) : errW (oks (cfl c)) = if okC c then 0 else 13 := by
 rw [errW_13]
 ·congr 1
  apply propext
  simp only [okC, oks, decide_eq_true_eq, List.filterMap_eq_nil_iff]
  constructor
  ·intro h
   refine ⟨?_, ?_, ?_, ?_, ?_, ?_, ?_⟩
   all_goals (apply Decidable.byContradiction; intro hc)
   ·have := h (fl ⟨#[110, 111, 100, 101, 115]⟩ c.n 1 8 13) (by simp); rw [fl, if_neg hc] at this; cases this
   ·have := h (fl ⟨#[116, 111, 112, 105, 99, 115]⟩ c.t 1 4 13) (by simp); rw [fl, if_neg hc] at this; cases this
   ·have := h (fl ⟨#[107, 105, 100, 115]⟩ c.k 1 4 13) (by simp); rw [fl, if_neg hc] at this; cases this
   ·have := h (fl ⟨#[100, 101, 112, 116, 104]⟩ c.d 1 8 13) (by simp); rw [fl, if_neg hc] at this; cases this
   ·have := h (fl ⟨#[107, 101, 101, 112]⟩ c.p 1 16 13) (by simp); rw [fl, if_neg hc] at this; cases this
   ·have := h (fl ⟨#[119, 105, 110, 100, 111, 119]⟩ c.w 1 16 13) (by simp); rw [fl, if_neg hc] at this; cases this
   ·have := h (fl ⟨#[113, 117, 101, 117, 101]⟩ c.q 2 32 13) (by simp); rw [fl, if_neg hc] at this; cases this
  ·rintro ⟨h1, h2, h3, h4, h5, h6, h7⟩ o ho
   simp only [fl, if_pos h1, if_pos h2, if_pos h3, if_pos h4, if_pos h5, if_pos h6, if_pos h7, List.mem_cons, List.not_mem_nil, or_false, or_self] at ho
   subst ho
   rfl
 ·intro p hp
  simp only [oks, List.mem_filterMap, id] at hp
  obtain ⟨o, ho, rfl⟩ := hp
  simp only [List.mem_cons, List.not_mem_nil, or_false, fl] at ho
  rcases ho with h | h | h | h | h | h | h <;> split at h <;> first | (cases h; rfl) | cases h
theorem e54 (N d : Nat) (c : Cf) (hN : 7 < N) : TT N (d + 3) 54 [.agg (eC c)] = some (iV (if okC c then 0 else 13), []) := by
 have h24 := fun d => e105 N d c hN
 have h23 : ∀ d, TT N (d + 1) 104 [.one (joinV (cfl c))] = some (iV (if okC c then 0 else 13), []) := fun d => by
  rw [t104, errno_j _ (by simp), errW_c]
 rw [t54, F_ev rfl]
 simp only [h24, h23, ↓jo_pur, ↓jo_hand, ↓oV_hand, ↓jo_live, ↓jo_ment, j54, b54, q54, ww, simprocAttr]
end Go.Proofs.YtdflglehippoiaaGreatDoor.EC
namespace Go.Proofs.YtdflglehippoiaaGreatDoor.QA
open Go Go.Proofs.YtdflglehippoiaaGreatDoorR IG
set_option maxRecDepth 100000
structure Ev where
 (k e s l v c : Int)
 deriving DecidableEq
abbrev eE (x : Ev) : List V := [.int .i64 x.k, .int .i64 x.e, .int .i64 x.s, .int .i64 x.l, .int .i64 x.v, .int .i64 x.c]
abbrev aE (x : Ev) : S := .agg (eE x)
abbrev rE (l : List Ev) : V := .row (l.map eE)
def inB (n lo hi : Int) : Bool := decide (lo ≤ n) && decide (n ≤ hi)
def epOK (n : Int) : Bool := inB n 1 1073741824 && decide (n.tmod 16 < 8)
abbrev pl (x : Ev) : Bool := epOK x.e && inB x.s 1 1073741824
def evOK (x : Ev) : Bool :=
 if x.k = 1 then pl x && inB x.v 0 2147483647 && decide (x.l = 0) && decide (x.c = 0)
 else if x.k = 2 then pl x && inB x.l x.s 1073741824 && decide (x.v = 0) && decide (x.c = 0)
 else if x.k = 3 then inB x.c 1 40 && inB x.v 0 7 && decide (x.e = 0) && decide (x.s = 0) && decide (x.l = 0)
 else if x.k = 4 then inB x.c 1 40 && decide (x.v = 0) && decide (x.e = 0) && decide (x.s = 0) && decide (x.l = 0)
 else if x.k = 5 then decide (x.c = 0) && decide (x.v = 0) && decide (x.e = 0) && decide (x.s = 0) && decide (x.l = 0)
 else false
theorem e110 (N d) (n lo hi) : TT N (d + 1) 110 [iV n, iV lo, iV hi] = some (bV (inB n lo hi), []) := by
 rw [t110, F_ev rfl]
 simp only [j110, b110, q110, ww, simprocAttr]
 repeat' (refine fin_cases (fun h1 => ?_) (fun h1 => ?_) <;> simp only [h1, j110, b110, q110, ww, simprocAttr])
 all_goals grind [inB]
theorem e116 (N d) (n) : TT N (d + 2) 116 [iV n] = some (bV (inB n 1 1073741824), []) := by
 rw [t116, F_ev rfl]
 simp only [e110, j116, b116, q116, ww, simprocAttr]
 repeat' (refine fin_cases (fun h1 => ?_) (fun h1 => ?_) <;> simp only [h1, e110, j116, b116, q116, ww, simprocAttr])
theorem e56 (N d) (n) : TT N (d + 2) 56 [iV n] = some (bV (inB n 0 2147483647), []) := by
 rw [t56, F_ev rfl]
 simp only [e110, j56, b56, q56, ww, simprocAttr]
 repeat' (refine fin_cases (fun h1 => ?_) (fun h1 => ?_) <;> simp only [h1, e110, j56, b56, q56, ww, simprocAttr])
theorem e131 (N d) (n lo) : TT N (d + 1) 131 [iV n, iV lo] = some (bV (inB n 0 (lo - 1)), []) := by
 rw [t131, F_ev rfl]
 simp only [j131, b131, q131, ww, simprocAttr]
 repeat' (refine fin_cases (fun h1 => ?_) (fun h1 => ?_) <;> simp only [h1, j131, b131, q131, ww, simprocAttr])
 all_goals grind [inB]
theorem e85 (N d) (n) : TT N (d + 2) 85 [iV n] = some (bV (inB n 0 7), []) := by
 rw [t85, F_ev rfl]
 simp only [e131, j85, b85, q85, ww, simprocAttr]
 repeat' (refine fin_cases (fun h1 => ?_) (fun h1 => ?_) <;> simp only [h1, e131, j85, b85, q85, ww, simprocAttr])
theorem e53 (N d) (n) : TT N (d + 3) 53 [iV n] = some (iV (if epOK n then 0 else 1), []) := by
 rw [t53, F_ev rfl]
 simp only [e85, j53, b53, q53, ww, simprocAttr]
 repeat' (refine fin_cases (fun h1 => ?_) (fun h1 => ?_) <;> simp only [h1, e85, j53, b53, q53, ww, simprocAttr])
 all_goals (first | (simp_all [epOK, inB]; done) | (simp_all [epOK, inB]; omega) | grind [inB, epOK])
theorem e198 (N d) (n) : TT N (d + 1) 198 [iV n] = some (bV (inB n 1 40), []) := by
 rw [t198, F_ev rfl]
 simp only [j198, b198, q198, ww, simprocAttr]
 repeat' (refine fin_cases (fun h1 => ?_) (fun h1 => ?_) <;> simp only [h1, j198, b198, q198, ww, simprocAttr])
 all_goals grind [inB]
theorem e197 (N d) (x) : TT N (d + 4) 197 [aE x] = some (bV (pl x), []) := by
 rw [t197, F_ev rfl]
 simp only [e53, e116, j197, b197, q197, ww, simprocAttr]
 repeat' (refine fin_cases (fun h1 => ?_) (fun h1 => ?_) <;> simp only [h1, e53, e116, j197, b197, q197, ww, simprocAttr])
 all_goals (first | (simp_all [epOK, inB]; done) | (simp_all [epOK, inB]; omega) | grind [inB, epOK])
end Go.Proofs.YtdflglehippoiaaGreatDoor.QA
namespace Go.Proofs.YtdflglehippoiaaGreatDoor.QA
open Go Go.Proofs.YtdflglehippoiaaGreatDoorR IG
set_option maxRecDepth 100000
def bareE (x : Ev) : Ev × Bool :=
 if x.k = 1 then (⟨1, 0, 0, x.l, 0, x.c⟩, pl x && inB x.v 0 2147483647)
 else if x.k = 2 then (⟨2, 0, 0, 0, x.v, x.c⟩, pl x && decide (x.s ≤ x.l) && decide (x.l ≤ 1073741824))
 else if x.k = 3 then (⟨3, x.e, x.s, x.l, 0, 0⟩, inB x.c 1 40 && inB x.v 0 7)
 else if x.k = 4 then (⟨4, x.e, x.s, x.l, x.v, 0⟩, inB x.c 1 40)
 else (x, decide (x.k = 5))
theorem e192 (N d) (x) : TT N (d + 5) 192 [aE x] = some (.tup [aE (bareE x).1, bV (bareE x).2], []) := by
 rw [t192, F_ev rfl]
 simp only [e197, e198, e85, e56, j192, b192, q192, ww, simprocAttr]
 repeat' (refine fin_cases (fun h1 => ?_) (fun h1 => ?_) <;> simp only [h1, e197, e198, e85, e56, j192, b192, q192, ww, simprocAttr])
 all_goals (first | (simp_all [bareE]; done) | (simp_all [bareE]; omega) | grind [bareE])
theorem e178 (N d) (x) : TT N (d + 6) 178 [aE x] = some (iV (if evOK x then 0 else 1), []) := by
 rw [t178, F_ev rfl]
 simp only [e192, j178, b178, q178, ww, simprocAttr]
 repeat' (refine fin_cases (fun h1 => ?_) (fun h1 => ?_) <;> simp only [h1, e192, j178, b178, q178, ww, simprocAttr])
 all_goals grind [bareE, evOK, inB]

def gapE (x : Ev) : Option Ev := if x.k = 1 then some ⟨2, x.e, x.s, x.s, 0, 0⟩ else if x.k = 2 then some x else none
theorem n01 {b : Bool} : decide ((if b = true then (0 : Int) else 1) = 0) = b := by cases b <;> rfl
theorem e177 (N d) (x) : TT N (d + 7) 177 [aE x] = some (bV (!evOK x), []) := by
 rw [t177, F_ev rfl]
 simp only [e178, n01, j177, b177, q177, ww, simprocAttr]
 repeat' (refine fin_cases (fun h1 => ?_) (fun h1 => ?_) <;> simp only [h1, e178, n01, j177, b177, q177, ww, simprocAttr])
def ix {α : Type} (p : α → Bool) : List α → Int → Int
 | [], _ => -1
 | x :: r, i => if p x then i else ix p r (i + 1)
theorem wi (i : Nat) (h : i < 4611686018427387904) : IntKind.i64.wrap ((i : Int) + 1) = ((i + 1 : Nat) : Int) := by rw [IntWalk.i64_in _ (by omega)]; omega
theorem e191 (N d f : Nat) (p : Ev → Bool) (hf : ∀ x, TT N d f [aE x] = some (bV (p x), [])) (l : List Ev) (hN : l.length < N) (hl : l.length < 1000000) : TT N (d + 1) 191 [.one (rE l), .one (.fn f [])] = some (iV (ix p l 0), []) := by
 rw [t191, F_ev rfl]
 simp only [j191, b191, q191, ww, simprocAttr, List.length_map]
 refine (loopK (K := fun o => fin _ (aft _ _ _ o)) (fun i => ⟨[(0, .one (rE l)), (1, .one (.fn f [])), (7, iV l.length), (8, iV i)], []⟩) (fun i => some (iV (ix p (l.drop i) i), [])) l.length ?hr l.length 0 N _ (by omega) hN ?hk).trans ?_
 case hk => simp only [kk, simprocAttr]; try rfl
 case hr =>
  intro i n hi ih
  (try dsimp only)
  by_cases hlt : i < l.length
  ·have h1 : decide ((i : Int) < (l.length : Int)) = true := by simp; omega
   have hget : (l.map eE)[i]? = some (eE l[i]) := by simp [hlt]
   have hd : l.drop i = l[i] :: l.drop (i + 1) := by simp
   have hb : 0 ≤ (i : Int) ∧ (i : Int) < (l.length : Int) := by omega
   simp only [ww, simprocAttr, h1, hb.1, hb.2, List.length_map, Int.toNat_natCast, hget, hf, wi i (by omega)]
   refine fin_cases2 (fun hp => ?_) (fun hp => ?_) <;> simp only [j191, b191, q191, ww, simprocAttr, wi i (by omega)]
   ·rw [hd, ix, hp, if_pos rfl]
   ·rw [hd, ix, hp, if_neg (by decide)]
    exact ih hlt _ (by simp only [kk, simprocAttr])
  ·have h1 : decide ((i : Int) < (l.length : Int)) = false := by simp; omega
   simp only [j191, b191, q191, ww, simprocAttr, h1]
   rw [List.drop_of_length_le (by omega)]
   rfl
 rfl

theorem ix_any {α : Type} (p : α → Bool) : ∀ (l : List α) (i : Int), 0 ≤ i → decide (ix p l i ≥ 0) = l.any p
 | [], i, h => by simp [ix]
 | x :: r, i, h => by
  have := ix_any p r (i + 1) (by omega)
  cases hp : p x <;> simp_all [ix]
theorem e176 (N d f : Nat) (p : Ev → Bool) (hf : ∀ x, TT N d f [aE x] = some (bV (p x), [])) (l : List Ev) (hN : l.length < N) (hl : l.length < 1000000) : TT N (d + 2) 176 [.one (rE l), .one (.fn f [])] = some (bV (l.any p), []) := by
 rw [t176, F_ev rfl]
 simp only [e191 N d f p hf l hN hl, j176, b176, q176, ww, simprocAttr]
 simp [ix_any]
end Go.Proofs.YtdflglehippoiaaGreatDoor.QA
namespace Go.Proofs.YtdflglehippoiaaGreatDoor.QA
open Go Go.Proofs.YtdflglehippoiaaGreatDoorR IG
set_option maxRecDepth 100000
def lastK (l : List Ev) : Int := match l.getLast? with
 | some y => y.k
 | none => 0
def qOK (l : List Ev) (limit : Int) : Bool := decide (2 ≤ limit) && decide (limit ≤ 32) && decide ((l.length : Int) ≤ limit) && l.all evOK && (!decide ((l.length : Int) = limit) || decide (lastK l = 2))
theorem any_not {α : Type} (p : α → Bool) (l : List α) : l.any (fun x => !p x) = !l.all p := by
 induction l with
 | nil => rfl
 | cons a r ih => simp only [List.any_cons, List.all_cons, ih]; cases p a <;> simp
theorem last_of {l : List Ev} (h : 0 < l.length) : ∃ y, l[l.length - 1]? = some y ∧ lastK l = y.k := by
 refine ⟨l[l.length - 1], by simp, ?_⟩
 simp [lastK, List.getLast?_eq_getElem?, List.getElem?_eq_getElem (show l.length - 1 < l.length by omega)]
theorem e143 (N d : Nat) (l : List Ev) (limit : Int) (hN : l.length < N) (hl : l.length < 1000000) : TT N (d + 10) 143 [.one (rE l), iV limit] = some (iV (if qOK l limit then 0 else 1), []) := by
 have h53 := fun d => e176 N (d + 7) 177 (fun x => !evOK x) (fun x => e177 N d x) l hN hl
 rw [t143, F_ev rfl]
 by_cases hc : 2 ≤ limit ∧ limit ≤ 32 ∧ (l.length : Int) = limit
 ·obtain ⟨h1, h2, h3⟩ := hc
  obtain ⟨y, hy, hk⟩ := last_of (l := l) (by omega)
  have hw : IntKind.i64.wrap (limit - 1) = limit - 1 := IntWalk.i64_in _ (by omega)
  have hg : (l.map eE)[(limit - 1).toNat]? = some (eE y) := by rw [show (limit - 1).toNat = l.length - 1 by omega]; exact get_map hy
  have hb : 0 ≤ limit - 1 ∧ limit - 1 < (l.length : Int) := by omega
  simp only [h53, hw, hg, hb.1, hb.2, List.length_map, j143, b143, q143, ww, simprocAttr]
  repeat' (refine fin_cases (fun h1 => ?_) (fun h1 => ?_) <;> simp only [h1, h53, hw, hg, hb.1, hb.2, List.length_map, j143, b143, q143, ww, simprocAttr])
  all_goals clear h53; simp_all [qOK, any_not]
  all_goals (intros; first | omega | grind)
 ·simp only [h53, List.length_map, j143, b143, q143, ww, simprocAttr]
  repeat' (refine fin_cases (fun h1 => ?_) (fun h1 => ?_) <;> simp only [h1, h53, List.length_map, j143, b143, q143, ww, simprocAttr])
  all_goals clear h53; simp_all [qOK, any_not]
  all_goals (intros; first | omega | grind)
end Go.Proofs.YtdflglehippoiaaGreatDoor.QA
namespace Go.Proofs.YtdflglehippoiaaGreatDoor.QA
open Go Go.Proofs.YtdflglehippoiaaGreatDoorR IG
set_option maxRecDepth 100000
theorem e102 (N d : Nat) (l : List Ev) (hl : l.length < 1000000) : TT N (d + 1) 102 [.one (rE l)] = some (.one (.sl 0 0 l.length), [(0, .rows 84 6 (l.map eE))]) := by
 show cloneM 84 6 48 [.one (rE l)] = _
 simp only [cloneM]
 rw [if_pos ⟨by simp, by rw [List.length_map]; omega⟩, List.length_map]
end Go.Proofs.YtdflglehippoiaaGreatDoor.QA
namespace Go.Proofs.YtdflglehippoiaaGreatDoor.QA
open Go Go.Proofs.YtdflglehippoiaaGreatDoorR IG
set_option maxRecDepth 100000
def putE (l : List Ev) (limit : Int) (x : Ev) : Int × List Ev :=
 if qOK l limit && evOK x then
  if (l.length : Int) < limit - 1 then (0, l ++ [x])
  else match gapE x with
   | none => (6, [])
   | some g =>
    if (l.length : Int) < limit then (0, l ++ [g])
    else match l.getLast? with
     | none => (6, [])
     | some y => if g.e = y.e ∧ g.s = y.l + 1 then (0, l.dropLast ++ [{ y with l := g.l }]) else (6, [])
 else (1, [])
end Go.Proofs.YtdflglehippoiaaGreatDoor.QA
namespace Go.Proofs.YtdflglehippoiaaGreatDoor.QA
open Go Go.Proofs.YtdflglehippoiaaGreatDoorR IG
set_option maxRecDepth 100000
end Go.Proofs.YtdflglehippoiaaGreatDoor.QA
namespace Go.Proofs.YtdflglehippoiaaGreatDoor.AA
open Go Go.Proofs.YtdflglehippoiaaGreatDoorR IG
set_option maxRecDepth 100000
set_option maxHeartbeats 4000000
def inB (n lo hi : Int) : Bool := decide (lo ≤ n) && decide (n ≤ hi)
theorem wi (i : Nat) (h : i < 4611686018427387904) : IntKind.i64.wrap ((i : Int) + 1) = ((i + 1 : Nat) : Int) := by rw [IntWalk.i64_in _ (by omega)]; omega
structure It where
 (s v : Int)
 deriving DecidableEq
abbrev eT (x : It) : List V := [.int .i64 x.s, .int .i64 x.v]
abbrev aT (x : It) : S := .agg (eT x)
abbrev rT (l : List It) : V := .row (l.map eT)
theorem takeT (l : List It) : (l.map eT).take l.length = l.map eT := by rw [List.take_of_length_le (by simp)]
theorem allT (l : List It) : (l.map eT).all (fun x => x.length == 2) = true := by simp
theorem take_s {α : Type} {l : List α} {i : Nat} (h : i < l.length) : l.take (i + 1) = l.take i ++ [l[i]] := by simp
theorem e110 (N d) (n lo hi) : TT N (d + 1) 110 [iV n, iV lo, iV hi] = some (bV (inB n lo hi), []) := by
 rw [t110, F_ev rfl]
 simp only [j110, b110, q110, ww, simprocAttr]
 repeat' (refine fin_cases (fun h1 => ?_) (fun h1 => ?_) <;> simp only [h1, j110, b110, q110, ww, simprocAttr])
 all_goals grind [inB]
theorem e116 (N d) (n) : TT N (d + 2) 116 [iV n] = some (bV (inB n 1 1073741824), []) := by
 rw [t116, F_ev rfl]
 simp only [e110, j116, b116, q116, ww, simprocAttr]
 repeat' (refine fin_cases (fun h1 => ?_) (fun h1 => ?_) <;> simp only [h1, e110, j116, b116, q116, ww, simprocAttr])
theorem e56 (N d) (n) : TT N (d + 2) 56 [iV n] = some (bV (inB n 0 2147483647), []) := by
 rw [t56, F_ev rfl]
 simp only [e110, j56, b56, q56, ww, simprocAttr]
 repeat' (refine fin_cases (fun h1 => ?_) (fun h1 => ?_) <;> simp only [h1, e110, j56, b56, q56, ww, simprocAttr])
def fitsB (s want win : Int) : Bool := decide (want < s) && decide (s < want + win) && decide (s < 1073741824)
theorem e150 (N d) (s want win : Int) (h : IntKind.i64.wrap (want + win) = want + win) : TT N (d + 1) 150 [iV s, iV want, iV win] = some (bV (fitsB s want win), []) := by
 rw [t150, F_ev rfl]
 simp only [h, j150, b150, q150, ww, simprocAttr]
 repeat' (refine fin_cases (fun h1 => ?_) (fun h1 => ?_) <;> simp only [h1, h, j150, b150, q150, ww, simprocAttr])
 all_goals grind [fitsB]
theorem e137 (N d : Nat) (l : List It) (hl : l.length < 1000000) : TT N (d + 1) 137 [.one (rT l)] = some (.one (.sl 0 0 l.length), [(0, .rows 88 2 (l.map eT))]) := by
 rw [t137]
 unfold cloneM
 simp only [List.length_map]
 rw [if_pos ⟨allT l, by omega⟩]
def risB (want win : Int) : Option Int → List It → Bool
 | _, [] => true
 | p, x :: r => fitsB x.s want win && inB x.v 0 2147483647 && (match p with
  | some q => decide (q < x.s)
  | none => true) && risB want win (some x.s) r
def ahOK (l : List It) (want win : Int) : Bool := inB want 1 1073741824 && inB win 1 16 && risB want win none l
def prv (l : List It) (i : Nat) : Option Int := if i = 0 then none else (l[i - 1]?).map It.s
theorem prv_s {l : List It} {i : Nat} (h : i < l.length) : prv l (i + 1) = some l[i].s := by
 unfold prv
 rw [if_neg (by omega), Nat.add_sub_cancel, List.getElem?_eq_getElem h]
 rfl
theorem wm (i : Nat) (h : i < 4611686018427387904) (h0 : 0 < i) : IntKind.i64.wrap ((i : Int) - 1) = ((i - 1 : Nat) : Int) := by rw [IntWalk.i64_in _ (by omega)]; omega
theorem e147 (N d : Nat) (l : List It) (want win : Int) (hN : l.length < N) (hl : l.length < 1000000) : TT N (d + 3) 147 [.one (rT l), iV want, iV win] = some (iV (if ahOK l want win then 0 else 1), []) := by
 rw [t147, F_ev rfl]
 simp only [e116, List.length_map, j147, b147, q147, ww, simprocAttr]
 refine fin_cases (fun h1 => ?_) (fun h1 => ?_) <;> simp only [h1, e116, List.length_map, j147, b147, q147, ww, simprocAttr]
 ·simp_all [ahOK]
 refine fin_cases (fun h2 => ?_) (fun h2 => ?_) <;> simp only [h2, e116, List.length_map, j147, b147, q147, ww, simprocAttr]
 ·simp_all [ahOK, inB]
  intros; omega
 refine fin_cases (fun h3 => ?_) (fun h3 => ?_) <;> simp only [h3, e116, List.length_map, j147, b147, q147, ww, simprocAttr]
 ·simp_all [ahOK, inB]
  intros; omega
 have hw : 1 ≤ want ∧ want ≤ 1073741824 ∧ 1 ≤ win ∧ win ≤ 16 := by simp [inB] at h1 h2 h3; omega
 have hww : IntKind.i64.wrap (want + win) = want + win := IntWalk.i64_in _ (by omega)
 have h68 := fun d s => e150 N d s want win hww
 have ho : ahOK l want win = risB want win none l := by
  have : inB want 1 1073741824 = true ∧ inB win 1 16 = true := by simp [inB]; omega
  simp [ahOK, this.1, this.2]
 rw [ho]
 refine (loopK (K := fun o => fin _ (aft _ _ _ o)) (fun i => ⟨[(0, .one (rT l)), (1, iV want), (2, iV win), (20, .one (rT l)), (21, iV l.length), (22, iV i)], []⟩) (fun i => some (iV (if risB want win (prv l i) (l.drop i) then 0 else 1), [])) l.length ?hr l.length 0 N _ (by omega) hN ?hk).trans ?_
 case hk => simp only [kk, simprocAttr]; try rfl
 case hr =>
  intro i n hi ih
  (try dsimp only)
  by_cases hlt : i < l.length
  ·have h1 : decide ((i : Int) < (l.length : Int)) = true := by simp; omega
   have hg1 : (l.map eT)[i]? = some (eT l[i]) := by simp [hlt]
   have hd1 : l.drop i = l[i] :: l.drop (i + 1) := by simp
   have hb : 0 ≤ (i : Int) ∧ (i : Int) < (l.length : Int) := by omega
   by_cases h0 : i = 0
   ·have hpos : decide ((i : Int) > 0) = false := by simp; omega
    have hpv : prv l i = none := by unfold prv; rw [if_pos h0]
    simp only [h1, hb.1, hb.2, hpos, hg1, h68, e56, List.length_map, j147, b147, q147, ww, simprocAttr]
    repeat' (refine fin_cases2 (fun hp => ?_) (fun hp => ?_) <;> simp only [hp, hpos, e56, wi i (by omega), j147, b147, q147, ww, simprocAttr])
    ·rw [hd1, hpv]; clear ih hd1; simp_all [risB]
    ·rw [hd1, hpv]; clear ih hd1; simp_all [risB]
    ·rw [hd1, hpv, risB, ← prv_s hlt]
     refine (ih hlt _ (by simp only [kk, simprocAttr])).trans ?_
     clear ih hd1
     simp_all
   ·obtain ⟨q, hq⟩ : ∃ q, q = l[i - 1]'(by omega) := ⟨_, rfl⟩
    have hg2 : (l.map eT)[i - 1]? = some (eT q) := by rw [List.getElem?_map, List.getElem?_eq_getElem (by omega), hq]; rfl
    have hb2 : 0 ≤ ((i - 1 : Nat) : Int) ∧ ((i - 1 : Nat) : Int) < (l.length : Int) := by omega
    have hpos : decide ((i : Int) > 0) = true := by simp; omega
    have hpv : prv l i = some q.s := by unfold prv; rw [if_neg h0, hq, List.getElem?_eq_getElem (by omega)]; rfl
    simp only [h1, hb.1, hb.2, hg1, hg2, hb2.1, hb2.2, hpos, wm i (by omega) (by omega), h68, e56, List.length_map, j147, b147, q147, ww, simprocAttr]
    repeat' (refine fin_cases2 (fun hp => ?_) (fun hp => ?_) <;> simp only [hp, hg2, hb2.1, hb2.2, hpos, wm i (by omega) (by omega), e56, List.length_map, wi i (by omega), j147, b147, q147, ww, simprocAttr])
    ·rw [hd1, hpv]; clear ih hd1; simp_all [risB]
    ·rw [hd1, hpv]; clear ih hd1; simp_all [risB]
    ·have h5 : decide (q.s < l[i].s) = false := by simp at hp ⊢; omega
     rw [hd1, hpv, risB]
     simp only [h5, Bool.and_false, Bool.false_and]
     rfl
    ·have h5 : decide (q.s < l[i].s) = true := by simp at hp ⊢; omega
     rw [hd1, hpv, risB, ← prv_s hlt]
     refine (ih hlt _ (by simp only [kk, simprocAttr])).trans ?_
     clear ih hd1
     simp_all
  ·have h1 : decide ((i : Int) < (l.length : Int)) = false := by simp; omega
   simp only [h1, List.length_map, j147, b147, q147, ww, simprocAttr]
   rw [List.drop_of_length_le (by omega)]
   rfl
 rfl
end Go.Proofs.YtdflglehippoiaaGreatDoor.AA
namespace Go.Proofs.YtdflglehippoiaaGreatDoor.AA
open Go Go.Proofs.YtdflglehippoiaaGreatDoorR IG
set_option maxRecDepth 100000
set_option maxHeartbeats 4000000
def ix {α : Type} (p : α → Bool) : List α → Int → Int
 | [], _ => -1
 | x :: r, i => if p x then i else ix p r (i + 1)
abbrev hR (el e : Nat) (xs : List (List V)) : S := .tup [.one (.ref el e 0), .one (.row xs)]
theorem ix_some {α : Type} {p : α → Bool} : ∀ {l : List α} {i : Int}, 0 ≤ i → l.any p = true → ∃ k : Nat, ix p l i = i + k ∧ ∃ (h : k < l.length), p l[k] = true ∧ ∀ j (hj : j < k), p (l[j]'(by omega)) = false
 | [], i, _, h => by cases h
 | x :: r, i, h, ha => by
  unfold ix
  by_cases hp : p x = true
  ·exact ⟨0, by simp [hp], by simp, by simpa using hp, fun j hj => by omega⟩
  ·rw [if_neg hp]
   have hp' : p x = false := by simpa using hp
   rw [List.any_cons, hp', Bool.false_or] at ha
   obtain ⟨k, h1, h2, h3, h4⟩ := ix_some (l := r) (i := i + 1) (by omega) ha
   refine ⟨k + 1, by rw [h1]; omega, by simp; omega, by simpa using h3, fun j hj => ?_⟩
   cases j with
   | zero => simpa using hp'
   | succ j => simpa using h4 j (by omega)
end Go.Proofs.YtdflglehippoiaaGreatDoor.AA
namespace Go.Proofs.YtdflglehippoiaaGreatDoor.AA
open Go Go.Proofs.YtdflglehippoiaaGreatDoorR IG
set_option maxRecDepth 100000
set_option maxHeartbeats 4000000
def pre (c : It → Int → Bool) : List It → Nat → Nat
 | [], _ => 0
 | y :: r, k => if c y k then pre c r (k + 1) + 1 else 0
def cP (want : Int) (y : It) (k : Int) : Bool := decide (IntKind.i64.wrap (y.s - want) = k)
def leftL (want : Int) (l : List It) : List It := l.filter fun x => decide (want ≤ x.s)
end Go.Proofs.YtdflglehippoiaaGreatDoor.AA
namespace Go.Proofs.YtdflglehippoiaaGreatDoor.AA
open Go Go.Proofs.YtdflglehippoiaaGreatDoorR IG
set_option maxRecDepth 100000
set_option maxHeartbeats 4000000
theorem left_s {want : Int} {l : List It} {i : Nat} (h : i < l.length) : leftL want (l.take (i + 1)) = leftL want (l.take i) ++ (if want ≤ l[i].s then [l[i]] else []) := by
 unfold leftL
 rw [take_s h, List.filter_append]
 congr 1
 by_cases hw : want ≤ l[i].s <;> simp [hw]
end Go.Proofs.YtdflglehippoiaaGreatDoor.AA
namespace Go.Proofs.YtdflglehippoiaaGreatDoor.AA
open Go Go.Proofs.YtdflglehippoiaaGreatDoorR IG
set_option maxRecDepth 100000
set_option maxHeartbeats 4000000
end Go.Proofs.YtdflglehippoiaaGreatDoor.AA
namespace Go.Proofs.YtdflglehippoiaaGreatDoor.AA
open Go Go.Proofs.YtdflglehippoiaaGreatDoorR IG
set_option maxRecDepth 100000
set_option maxHeartbeats 4000000
def ins (x : It) : List It → Option (List It)
 | [] => some [x]
 | y :: r => if x.s ≤ y.s then (if y.s = x.s then none else some (x :: y :: r)) else (ins x r).map (y :: ·)
def addA (l : List It) (want win : Int) (x : It) : List It × Int :=
 if !(ahOK l want win && inB x.v 0 2147483647) then ([], 1) else if !fitsB x.s want win then ([], 6) else match ins x l with
 | none => ([], 8)
 | some m => (m, 0)
theorem ins_end {x : It} : ∀ {l : List It}, (l.any fun y => decide (x.s ≤ y.s)) = false → ins x l = some (l ++ [x])
 | [], _ => rfl
 | y :: r, h => by
  rw [List.any_cons, Bool.or_eq_false_iff] at h
  have h1 : ¬ x.s ≤ y.s := by simpa using h.1
  unfold ins
  rw [if_neg h1, ins_end h.2]
  rfl
end Go.Proofs.YtdflglehippoiaaGreatDoor.AA
namespace Go.Proofs.YtdflglehippoiaaGreatDoor.AA
open Go Go.Proofs.YtdflglehippoiaaGreatDoorR IG
set_option maxRecDepth 100000
set_option maxHeartbeats 4000000
def stp (x : It) (o : List It × Bool) (y : It) : List It × Bool := if (!o.2 && decide (x.s < y.s)) = true then (o.1 ++ [x] ++ [y], true) else (o.1 ++ [y], o.2)
def fnl (x : It) (o : List It × Bool) : List It := if o.2 then o.1 else o.1 ++ [x]
def sti (x : It) (l : List It) (i : Nat) : List It × Bool := (l.take i).foldl (stp x) ([], false)
def addR (l : List It) (x : It) : List It × Int := if l.any (fun y => decide (y.s = x.s)) then ([], 8) else (fnl x (l.foldl (stp x) ([], false)), 0)
end Go.Proofs.YtdflglehippoiaaGreatDoor.AA
namespace Go.Proofs.YtdflglehippoiaaGreatDoor.AA
open Go Go.Proofs.YtdflglehippoiaaGreatDoorR IG
set_option maxRecDepth 100000
set_option maxHeartbeats 4000000
theorem stp_true (x : It) : ∀ (l o : List It), l.foldl (stp x) (o, true) = (o ++ l, true)
 | [], o => by simp
 | y :: r, o => by
  rw [List.foldl_cons, show stp x (o, true) y = (o ++ [y], true) by simp [stp], stp_true x r]
  simp
theorem stp_ins (x : It) : ∀ (l o : List It), (l.any fun y => decide (y.s = x.s)) = false → ∃ m, ins x l = some m ∧ fnl x (l.foldl (stp x) (o, false)) = o ++ m
 | [], o, _ => ⟨[x], rfl, rfl⟩
 | y :: r, o, h => by
  rw [List.any_cons, Bool.or_eq_false_iff] at h
  have hne : ¬ y.s = x.s := by simpa using h.1
  by_cases hlt : x.s < y.s
  ·refine ⟨x :: y :: r, ?_, ?_⟩
   ·unfold ins
    rw [if_pos (by omega), if_neg hne]
   ·rw [List.foldl_cons, show stp x (o, false) y = (o ++ [x] ++ [y], true) by simp [stp, hlt], stp_true]
    simp [fnl]
  ·obtain ⟨m, h1, h2⟩ := stp_ins x r (o ++ [y]) h.2
   refine ⟨y :: m, ?_, ?_⟩
   ·unfold ins
    rw [if_neg (by omega), h1]
    rfl
   ·rw [List.foldl_cons, show stp x (o, false) y = (o ++ [y], false) by simp [stp, hlt], h2]
    simp
end Go.Proofs.YtdflglehippoiaaGreatDoor.AA
namespace Go.Proofs.YtdflglehippoiaaGreatDoor.FA
open Go Go.Proofs.YtdflglehippoiaaGreatDoorR IG
open QA (Ev eE aE rE inB epOK evOK qOK putE)
open AA (It eT aT rT ahOK addA leftL wi wm takeT allT take_s)
open EC (Cf eC okC)
set_option maxRecDepth 100000
set_option maxHeartbeats 4000000
def kRow : Int → List It → Bool
 | _, [] => true
 | s, x :: r => decide (1 ≤ x.s) && decide (x.s = s) && inB x.v 0 2147483647 && kRow (s + 1) r
theorem e190 (N d : Nat) (l : List It) (want : Int) (hw : 0 ≤ want ∧ want ≤ 1073741824) (hN : l.length < N) (hl : l.length < 1000000) : TT N (d + 3) 190 [.one (rT l), iV want] = some (bV (kRow (want - l.length) l), []) := by
 have hwl : IntKind.i64.wrap (want - (l.length : Int)) = want - l.length := IntWalk.i64_in _ (by omega)
 have hv := fun d n => AA.e56 N d n
 rw [t190, F_ev rfl]
 simp only [List.length_map, j190, b190, q190, ww, simprocAttr]
 refine (loopK (K := fun o => fin _ (aft _ _ _ o)) (fun i => ⟨[(0, .one (rT l)), (1, iV want), (7, .one (rT l)), (8, iV l.length), (9, iV i)], []⟩) (fun i => some (bV (kRow (want - l.length + i) (l.drop i)), [])) l.length ?hr l.length 0 N _ (by omega) hN ?hk).trans ?_
 case hk => simp only [kk, simprocAttr]; try rfl
 case hr =>
  intro i n hi ih
  (try dsimp only)
  by_cases hlt : i < l.length
  ·have h1 : decide ((i : Int) < (l.length : Int)) = true := by simp; omega
   have hg1 : (l.map eT)[i]? = some (eT l[i]) := by simp [hlt]
   have hd1 : l.drop i = l[i] :: l.drop (i + 1) := by simp
   have hb : 0 ≤ (i : Int) ∧ (i : Int) < (l.length : Int) := by omega
   have hwi : IntKind.i64.wrap (want - (l.length : Int) + i) = want - l.length + i := IntWalk.i64_in _ (by omega)
   have hnx : want - (l.length : Int) + ((i + 1 : Nat) : Int) = want - (l.length : Int) + i + 1 := by omega
   rw [hd1, kRow]
   rw [hnx] at ih
   simp only [h1, hb.1, hb.2, hg1, hwl, hwi, hv, wi i (by omega), List.length_map, j190, b190, q190, ww, simprocAttr]
   repeat' (refine fin_cases2 (fun hp => ?_) (fun hp => ?_) <;> simp only [hp, hwl, hwi, hv, wi i (by omega), List.length_map, j190, b190, q190, ww, simprocAttr])
   ·have : decide (1 ≤ l[i].s) = false := by simp at hp ⊢; omega
    simp [this]
   ·have : decide (l[i].s = want - (l.length : Int) + i) = false := by simp at hp ⊢; omega
    simp [this]
   ·have : inB l[i].v 0 2147483647 = false := by simp [inB]; simp [AA.inB] at hp; omega
    simp [this]
   ·refine (ih hlt _ (by simp only [kk, simprocAttr])).trans ?_
    clear ih
    rename_i g1 g2
    have a1 : decide (1 ≤ l[i].s) = true := by simp at g1 ⊢; omega
    have a2 : decide (l[i].s = want - (l.length : Int) + i) = true := by simp at g2 ⊢; omega
    have a3 : inB l[i].v 0 2147483647 = true := by simp [inB]; simp [AA.inB] at hp; omega
    simp [a1, a2, a3]
  ·have h1 : decide ((i : Int) < (l.length : Int)) = false := by simp; omega
   simp only [h1, List.length_map, j190, b190, q190, ww, simprocAttr]
   rw [List.drop_of_length_le (by omega)]
   rfl
 simp
def kpOK (l : List It) (want lim : Int) : Bool := inB want 1 1073741824 && inB lim 1 16 && decide ((l.length : Int) ≤ lim) && kRow (want - l.length) l
theorem e175 (N d : Nat) (l : List It) (want lim : Int) (hN : l.length < N) (hl : l.length < 1000000) : TT N (d + 4) 175 [.one (rT l), iV want, iV lim] = some (iV (if kpOK l want lim then 0 else 1), []) := by
 have hc := fun d n => AA.e116 N d n
 rw [t175, F_ev rfl]
 simp only [hc, List.length_map, j175, b175, q175, ww, simprocAttr]
 cases h0 : AA.inB want 1 1073741824 with
 | false =>
  have : kpOK l want lim = false := by rw [kpOK, show inB want 1 1073741824 = false from h0]; rfl
  rw [this]
  simp only [h0, j175, b175, q175, ww, simprocAttr]
 | true =>
  have hk := fun d => e190 N d l want (by simp [AA.inB] at h0; omega) hN hl
  have : kpOK l want lim = (inB lim 1 16 && decide ((l.length : Int) ≤ lim) && kRow (want - l.length) l) := by rw [kpOK, show inB want 1 1073741824 = true from h0]; simp
  rw [this]
  have hw : 1 ≤ want ∧ want ≤ 1073741824 := by simpa [AA.inB] using h0
  by_cases h1 : 1 ≤ lim ∧ lim ≤ 16 ∧ (l.length : Int) ≤ lim
  ·have g1 : decide (lim < 1) = false := by simp; omega
   have g2 : decide (lim > 16) = false := by simp; omega
   have g3 : decide ((l.length : Int) > lim) = false := by simp; omega
   rw [show inB lim 1 16 = true by simp [inB]; omega, show decide ((l.length : Int) ≤ lim) = true by simp; omega]
   cases h2 : kRow (want - l.length) l <;> simp only [h0, hk, h2, g1, g2, g3, List.length_map, j175, b175, q175, ww, simprocAttr] <;> rfl
  ·have hf : (inB lim 1 16 && decide ((l.length : Int) ≤ lim)) = false := by
    cases h : (inB lim 1 16 && decide ((l.length : Int) ≤ lim)) with
    | false => rfl
    | true => exfalso; simp [inB] at h; omega
   rw [hf]
   by_cases g1 : lim < 1
   ·simp only [h0, decide_eq_true g1, List.length_map, j175, b175, q175, ww, simprocAttr]; try rfl
   ·by_cases g2 : lim > 16
    ·simp only [h0, decide_eq_false g1, decide_eq_true g2, List.length_map, j175, b175, q175, ww, simprocAttr]; try rfl
    ·have g3 : (l.length : Int) > lim := by omega
     simp only [h0, decide_eq_false g1, decide_eq_false g2, decide_eq_true g3, List.length_map, j175, b175, q175, ww, simprocAttr]; try rfl
def pushL (l : List It) (want lim v : Int) : List It := (l ++ [(⟨want, v⟩ : It)]).drop (l.length + 1 - lim.toNat)
def pushP (l : List It) (want lim v : Int) : List It × Int :=
 if (kpOK l want lim && inB v 0 2147483647) = false then ([], 1) else if 1073741824 ≤ want then ([], 11) else (pushL l want lim v, 0)
def fitE (l : List Ev) (lim : Int) (x : Ev) : List Ev := if (putE l lim x).1 = 0 then (putE l lim x).2 else l
end Go.Proofs.YtdflglehippoiaaGreatDoor.FA
namespace Go.Proofs.YtdflglehippoiaaGreatDoor.FA
open Go Go.Proofs.YtdflglehippoiaaGreatDoorR IG
open QA (Ev eE aE rE inB epOK evOK qOK putE n01)
open AA (It eT aT rT ahOK addA leftL wi wm takeT allT take_s)
open EC (Cf eC okC)
set_option maxRecDepth 100000
set_option maxHeartbeats 4000000
structure Sm where
 (e w kn : Int)
 (kp ah : List It)
 deriving DecidableEq
abbrev eS (s : Sm) : List V := [.int .i64 s.e, .int .i64 s.w, .int .i64 s.kn, rT s.kp, rT s.ah]
abbrev aS (s : Sm) : S := .agg (eS s)
abbrev s0 : Sm := ⟨0, 0, 0, [], []⟩
abbrev smL (s : Sm) : Prop := s.kp.length < 900 ∧ s.ah.length < 900
def zeroB (s : Sm) : Bool := decide (s.e = 0) && decide (s.w = 0) && decide (s.kn = 0) && decide ((s.kp.length : Int) = 0) && decide ((s.ah.length : Int) = 0)
theorem zeroB_iff {s : Sm} : zeroB s = true ↔ s = s0 := by
 obtain ⟨e, w, k, kp, ah⟩ := s
 simp [zeroB, and_assoc, List.length_eq_zero_iff]
theorem e174 (N d : Nat) (s : Sm) : TT N (d + 1) 174 [aS s] = some (bV (zeroB s), []) := by
 rw [t174, F_ev rfl]
 simp only [List.length_map, j174, b174, q174, ww, simprocAttr]
 repeat' (refine fin_cases (fun h1 => ?_) (fun h1 => ?_) <;> simp only [h1, List.length_map, j174, b174, q174, ww, simprocAttr])
 all_goals simp_all [zeroB]
def rightB (c : Cf) (s : Sm) : Bool := zeroB s || (epOK s.e && inB s.w 1 1073741824 && decide (s.w ≤ s.kn) && decide (s.kn ≤ 1073741824) && kpOK s.kp s.w c.p && ahOK s.ah s.w c.w)
theorem e142 (N d : Nat) (hN : 1000 ≤ N) (c : Cf) (s : Sm) (hs : smL s) : TT N (d + 5) 142 [.agg (eC c), aS s] = some (bV (rightB c s), []) := by
 have hz := fun d => e174 N d s
 have he := fun d => QA.e53 N d s.e
 have hc := fun d => QA.e116 N d s.w
 have hk := fun d => e175 N d s.kp s.w c.p (by omega) (by omega)
 have ha := fun d => AA.e147 N d s.ah s.w c.w (by omega) (by omega)
 rw [t142, F_ev rfl]
 simp only [hz, he, hc, hk, ha, n01, j142, b142, q142, ww, simprocAttr]
 repeat' (refine fin_cases (fun h1 => ?_) (fun h1 => ?_) <;> simp only [h1, hz, he, hc, hk, ha, n01, j142, b142, q142, ww, simprocAttr])
 all_goals first
  | (simp_all [rightB]; done)
  | (simp_all [rightB]; intros; omega)
def flowC (c : Cf) (s : Sm) (q : List Ev) : Int := if okC c then (if rightB c s && qOK q c.q then 0 else 1) else 13
theorem e109 (N d : Nat) (hN : 1000 ≤ N) (c : Cf) (s : Sm) (q : List Ev) (hs : smL s) (hq : q.length < 900) : TT N (d + 11) 109 [.agg (eC c), aS s, .one (rE q)] = some (iV (flowC c s q), []) := by
 have h1 := fun d => EC.e54 N d c (by omega)
 have h2 := fun d => e142 N d hN c s hs
 have h3 := fun d => QA.e143 N d q c.q (by omega) (by omega)
 rw [t109, F_ev rfl]
 cases hc : okC c with
 | false =>
  rw [hc] at h1
  simp only [flowC, hc, h1, j109, b109, q109, ww, simprocAttr]
 | true =>
 rw [hc] at h1
 cases hr : rightB c s with
 | false =>
  rw [hr] at h2
  simp only [flowC, hc, hr, h1, h2, j109, b109, q109, ww, simprocAttr]
  try rfl
 | true =>
 rw [hr] at h2
 cases hq : qOK q c.q <;> rw [hq] at h3 <;> simp only [flowC, hc, hr, hq, h1, h2, h3, j109, b109, q109, ww, simprocAttr] <;> try rfl
theorem e52 (N d : Nat) (at_ next : Int) : TT N (d + 1) 52 [iV at_, iV next] = some (aS ⟨at_, next, next, [], []⟩, []) := by
 rw [t52, F_ev rfl]
 simp only [j52, b52, q52, ww, simprocAttr]
 repeat' (refine fin_cases (fun h1 => ?_) (fun h1 => ?_) <;> simp only [h1, j52, b52, q52, ww, simprocAttr])
 all_goals rfl
theorem e103 (N d : Nat) (s : Sm) (hs : smL s) : TT N (d + 2) 103 [aS s] = some (aS s, []) := by
 have h1 := fun d => AA.e137 N d s.kp (by omega)
 have h2 := fun d => AA.e137 N d s.ah (by omega)
 rw [t103, F_ev rfl]
 simp only [h1, h2, takeT, List.length_map, j103, b103, q103, ww, simprocAttr]
end Go.Proofs.YtdflglehippoiaaGreatDoor.FA
namespace Go.Proofs.YtdflglehippoiaaGreatDoor.GA
open Go Go.Proofs.YtdflglehippoiaaGreatDoorR IG
open QA (Ev eE aE rE epOK evOK qOK putE n01)
open AA (It eT aT rT wi takeT allT)
open EC (Cf eC okC)
open FA (Sm eS aS s0 smL flowC rightB)
open KA (Kd eK aK rK nr okT okN kOK inB gap takeK all3)
set_option maxRecDepth 100000
set_option maxHeartbeats 4000000
def risP (t : Int) : Int → List Int → Bool
 | _, [] => true
 | p, x :: r => nr t x p && risP t x r
theorem e71 (N d : Nat) (t self : Int) (l : List Int) (hN : l.length < N) (hl : l.length < 1000000) : TT N (d + 6) 71 [iV t, iV self, .one (rI l)] = some (bV (risP t self l), []) := by
 have hn := fun d a b => KA.e28 N d t a b
 rw [t71, F_ev rfl]
 simp only [List.length_map, j71, b71, q71, ww, simprocAttr]
 refine loopI (K := fun o => fin _ (aft _ _ _ o)) (I := fun i st => ∃ p, st = ⟨[(0, iV t), (1, iV p), (9, .one (rI l)), (10, iV l.length), (11, iV i)], []⟩ ∧ risP t self l = risP t p (l.drop i)) _ l.length ?hr l.length 0 N _ ⟨[(0, iV t), (1, iV self), (9, .one (rI l)), (10, iV l.length), (11, iV 0)], []⟩ (by omega) (by omega) ?hk ⟨self, rfl, rfl⟩
 case hk => simp only [kk, simprocAttr]; try rfl
 case hr =>
  rintro i n st hi ⟨p, rfl, hp⟩ ih
  (try dsimp only)
  by_cases hlt : i < l.length
  ·have h1 : decide ((i : Int) < (l.length : Int)) = true := by simp; omega
   have hget : (l.map eI)[i]? = some (eI l[i]) := by simp [hlt]
   have hd : l.drop i = l[i] :: l.drop (i + 1) := by simp
   have hb : 0 ≤ (i : Int) ∧ (i : Int) < (l.length : Int) := by omega
   rw [hd, risP] at hp
   cases h2 : nr t l[i] p with
   | false =>
    rw [h2, Bool.false_and] at hp
    simp only [h1, hb.1, hb.2, List.length_map, hget, hn, h2, hp, j71, b71, q71, ww, simprocAttr]
   | true =>
    rw [h2, Bool.true_and] at hp
    simp only [h1, hb.1, hb.2, List.length_map, hget, hn, h2, wi i (by omega), j71, b71, q71, ww, simprocAttr]
    exact ih hlt _ _ (by simp only [kk, simprocAttr]) ⟨_, rfl, hp⟩
  ·have h1 : decide ((i : Int) < (l.length : Int)) = false := by simp; omega
   rw [List.drop_of_length_le (by omega), risP] at hp
   simp only [h1, hp, j71, b71, q71, ww, simprocAttr]
def pthC (t self : Int) (l : List Int) (depth : Int) : Int := if okT t && okN self && inB depth 1 8 && l.all okN then (if (l.length : Int) > depth then 12 else if risP t self l then 0 else 1) else 1
theorem e31 (N d : Nat) (t self : Int) (l : List Int) (depth : Int) (hN : l.length < N) (hl : l.length < 1000000) : TT N (d + 7) 31 [iV t, iV self, .one (rI l), iV depth] = some (iV (pthC t self l depth), []) := by
 have ha : ∀ d, TT N (d + 6) 70 [.one (rI l)] = some (bV (l.all okN), []) := fun d => MA.e70 N d l hN hl
 have hr := fun d => e71 N d t self l hN hl
 rw [t31, F_ev rfl]
 unfold pthC
 cases h0 : (okT t && okN self) with
 | false =>
  simp only [KA.e65f _ _ h0, h0, List.length_map, j31, b31, q31, ww, simprocAttr]
  try rfl
 | true =>
 have h4 := Bool.and_eq_true_iff.1 h0
 simp only [KA.e65t _ _ h4.1 h4.2, ha, hr, List.length_map, j31, b31, q31, ww, simprocAttr]
 by_cases g1 : depth < 1
 ·have : inB depth 1 8 = false := by simp [inB]; omega
  simp only [decide_eq_true g1, this, j31, b31, q31, ww, simprocAttr]
  try rfl
 by_cases g2 : depth > 8
 ·have : inB depth 1 8 = false := by simp [inB]; omega
  simp only [decide_eq_false g1, decide_eq_true g2, this, j31, b31, q31, ww, simprocAttr]
  try rfl
 have h5 : inB depth 1 8 = true := by simp [inB]; omega
 cases g3 : l.all okN with
 | false =>
  simp only [decide_eq_false g1, decide_eq_false g2, ha, g3, h5, j31, b31, q31, ww, simprocAttr]
  try rfl
 | true =>
 by_cases g4 : (l.length : Int) > depth
 ·simp only [decide_eq_false g1, decide_eq_false g2, ha, g3, h5, g4, decide_eq_true g4, if_true, List.length_map, j31, b31, q31, ww, simprocAttr]
 cases g5 : risP t self l with
 | false =>
  simp only [decide_eq_false g1, decide_eq_false g2, ha, hr, g3, h5, g4, g5, decide_eq_false g4, if_true, if_false, List.length_map, j31, b31, q31, ww, simprocAttr]
  try rfl
 | true =>
  simp only [decide_eq_false g1, decide_eq_false g2, ha, hr, g3, h5, g4, g5, decide_eq_false g4, if_true, if_false, List.length_map, j31, b31, q31, ww, simprocAttr]
end Go.Proofs.YtdflglehippoiaaGreatDoor.GA
namespace Go.Proofs.YtdflglehippoiaaGreatDoor.FA
open Go Go.Proofs.YtdflglehippoiaaGreatDoorR IG
open QA (Ev eE aE rE inB epOK evOK qOK putE n01)
open AA (It eT aT rT ahOK addA leftL wi wm takeT allT take_s hR pre cP)
open EC (Cf eC okC)
set_option maxRecDepth 100000
set_option maxHeartbeats 4000000
def toldS (s : Sm) (at_ next : Int) : Sm := if at_ > s.e then ⟨at_, next, next, [], []⟩ else if at_ = s.e then ⟨s.e, s.w, if next > s.kn then next else s.kn, s.kp, s.ah⟩ else s
def toldP (c : Cf) (s : Sm) (at_ next : Int) : Sm × Int :=
 if flowC c s [] = 0 then if (epOK at_ && inB next 1 1073741824) = true then (toldS s at_ next, 0) else (s0, 1) else (s0, flowC c s [])
theorem e81 (N d : Nat) (hN : 1000 ≤ N) (c : Cf) (s : Sm) (at_ next : Int) (hs : smL s) : TT N (d + 12) 81 [.agg (eC c), aS s, iV at_, iV next] = some (.tup [aS (toldP c s at_ next).1, iV (toldP c s at_ next).2], []) := by
 have h0 : ∀ d, TT N (d + 11) 109 [.agg (eC c), aS s, .one (.row [])] = some (iV (flowC c s []), []) := fun d => e109 N d hN c s [] hs (by simp)
 have h1 := fun d => e103 N d s hs
 have h2 := fun d => e52 N d at_ next
 have h3 := fun d => QA.e53 N d at_
 have h4 := fun d => QA.e116 N d next
 rw [t81, F_ev rfl]
 unfold toldP
 by_cases g0 : flowC c s [] = 0
 ·rw [if_pos g0]
  rw [g0] at h0
  cases g1 : epOK at_ with
  | false =>
   rw [g1] at h3
   rw [if_neg (by simp)]
   simp only [h0, h3, j81, b81, q81, ww, simprocAttr]
   try rfl
  | true =>
  rw [g1] at h3
  cases g2 : inB next 1 1073741824 with
  | false =>
   rw [g2] at h4
   rw [if_neg (by simp)]
   simp only [h0, h3, h4, j81, b81, q81, ww, simprocAttr]
   try rfl
  | true =>
  rw [g2] at h4
  rw [if_pos (by decide)]
  unfold toldS
  by_cases g3 : at_ > s.e
  ·rw [if_pos g3]
   simp only [h0, h1, h2, h3, h4, decide_eq_true g3, j81, b81, q81, ww, simprocAttr]
  rw [if_neg g3]
  by_cases g4 : at_ = s.e
  ·rw [if_pos g4]
   simp only [h0, h1, h2, h3, h4, decide_eq_false g3, decide_eq_true g4, j81, b81, q81, ww, simprocAttr]
  ·rw [if_neg g4]
   simp only [h0, h1, h2, h3, h4, decide_eq_false g3, decide_eq_false g4, j81, b81, q81, ww, simprocAttr]
 ·rw [if_neg g0]
  simp only [h0, decide_eq_false g0, j81, b81, q81, ww, simprocAttr]
  try rfl
end Go.Proofs.YtdflglehippoiaaGreatDoor.FA
namespace Go.Proofs.YtdflglehippoiaaGreatDoor.FA
open Go Go.Proofs.YtdflglehippoiaaGreatDoorR IG
open QA (Ev eE aE rE inB epOK evOK qOK putE n01)
open AA (It eT aT rT ahOK addA leftL wi wm takeT allT take_s hR pre cP)
open EC (Cf eC okC)
set_option maxRecDepth 100000
set_option maxHeartbeats 4000000
def oneS (c : Cf) (s : Sm) (v : Int) : Sm := ⟨s.e, s.w + 1, if s.w + 1 > s.kn then s.w + 1 else s.kn, (pushP s.kp s.w c.p v).1, s.ah⟩
def oneQ (c : Cf) (s : Sm) (sub : Bool) (q : List Ev) (v : Int) : List Ev := if sub then fitE q c.q ⟨1, s.e, s.w, 0, v, 0⟩ else q
end Go.Proofs.YtdflglehippoiaaGreatDoor.FA
namespace Go.Proofs.YtdflglehippoiaaGreatDoor.FA
open Go Go.Proofs.YtdflglehippoiaaGreatDoorR IG
open QA (Ev eE aE rE inB epOK evOK qOK putE n01)
open AA (It eT aT rT ahOK addA leftL wi wm takeT allT take_s hR pre cP)
open EC (Cf eC okC)
set_option maxRecDepth 100000
set_option maxHeartbeats 4000000
def foldK (c : Cf) (sub : Bool) : List It → Sm → List Ev → List It → Sm × List Ev × List It
 | [], s, q, on => (s, q, on)
 | x :: r, s, q, on => foldK c sub r (oneS c s x.v) (oneQ c s sub q x.v) (on ++ [⟨s.w, x.v⟩])
abbrev cut (s : Sm) : Nat := pre (cP s.w) (leftL s.w s.ah) 0
def moreK (c : Cf) (sub : Bool) (s : Sm) (q : List Ev) (on : List It) : Sm × List Ev × List It :=
 let r := foldK c sub ((leftL s.w s.ah).take (cut s)) s q on
 (⟨r.1.e, r.1.w, r.1.kn, r.1.kp, (leftL s.w s.ah).drop (cut s)⟩, r.2.1, r.2.2)
end Go.Proofs.YtdflglehippoiaaGreatDoor.FA
namespace Go.Proofs.YtdflglehippoiaaGreatDoor.FA
open Go Go.Proofs.YtdflglehippoiaaGreatDoorR IG
open QA (Ev eE aE rE inB epOK evOK qOK putE n01)
open AA (It eT aT rT ahOK addA leftL wi wm takeT allT take_s hR pre cP risB fitsB)
open EC (Cf eC okC)
set_option maxRecDepth 100000
set_option maxHeartbeats 4000000
theorem ris_len {want win : Int} : ∀ {l : List It} {p : Int}, risB want win (some p) l = true → l ≠ [] → p + l.length < want + win ∧ p + l.length < 1073741824
 | [], p, _, h => absurd rfl h
 | [x], p, h, _ => by
  simp only [risB, fitsB, Bool.and_eq_true, decide_eq_true_eq] at h
  simp only [List.length_cons, List.length_nil]
  omega
 | x :: y :: r, p, h, _ => by
  rw [risB] at h
  simp only [fitsB, Bool.and_eq_true, decide_eq_true_eq] at h
  have := ris_len h.2 (by simp)
  simp only [List.length_cons] at this ⊢
  omega
theorem ris_none {want win : Int} {l : List It} (h : risB want win none l = true) : risB want win (some want) l = true := by
 cases l with
 | nil => rfl
 | cons x r =>
  simp only [risB, fitsB, Bool.and_eq_true, decide_eq_true_eq, and_true] at h ⊢
  simp_all
theorem ah_len {l : List It} {want win : Int} (h : ahOK l want win = true) : l.length ≤ 15 ∧ (l ≠ [] → want + l.length < 1073741824) := by
 simp only [ahOK, AA.inB, Bool.and_eq_true, decide_eq_true_eq] at h
 by_cases hl : l = []
 ·subst hl; simp
 ·have := ris_len (ris_none h.2) hl
  exact ⟨by omega, fun _ => this.2⟩
theorem flow_t {c : Cf} {s : Sm} {q : List Ev} (h : flowC c s q = 0) : okC c = true ∧ rightB c s = true ∧ qOK q c.q = true := by
 unfold flowC at h
 split at h
 ·split at h
  ·rename_i h1 h2
   simp only [Bool.and_eq_true] at h2
   exact ⟨h1, h2.1, h2.2⟩
  ·cases h
 ·cases h
theorem flow_of {c : Cf} {s : Sm} {q : List Ev} (h1 : okC c = true) (h2 : rightB c s = true) (h3 : qOK q c.q = true) : flowC c s q = 0 := by
 unfold flowC
 rw [if_pos h1, h2, h3]; rfl
theorem right_t {c : Cf} {s : Sm} (h : rightB c s = true) : s.kp.length ≤ 16 ∧ s.ah.length ≤ 15 ∧ 0 ≤ s.w ∧ s.w ≤ 1073741824 ∧ s.w ≤ s.kn ∧ s.kn ≤ 1073741824 ∧ (s.ah ≠ [] → s.w + s.ah.length < 1073741824) ∧ 0 ≤ s.e ∧ s.e ≤ 1073741824 := by
 unfold rightB at h
 rw [Bool.or_eq_true] at h
 rcases h with h | h
 ·rw [zeroB_iff] at h; subst h; simp
 ·simp only [Bool.and_eq_true, decide_eq_true_eq] at h
  obtain ⟨⟨⟨⟨⟨h1, h2⟩, h3⟩, h4⟩, h5⟩, h6⟩ := h
  have ha := ah_len h6
  simp only [kpOK, inB, Bool.and_eq_true, decide_eq_true_eq] at h2 h5
  simp only [epOK, inB, Bool.and_eq_true, decide_eq_true_eq] at h1
  exact ⟨by omega, ha.1, by omega, by omega, h3, h4, ha.2, by omega, by omega⟩
theorem q_t {q : List Ev} {n : Int} (h : qOK q n = true) : q.length ≤ 32 ∧ 2 ≤ n ∧ n ≤ 32 ∧ (q.length : Int) ≤ n := by
 simp [qOK] at h; omega
def itemG (c : Cf) (s1 : Sm) (sub : Bool) (q : List Ev) (old : Bool) (x : It) : Sm × List Ev × List It :=
 if (old || decide (x.s < s1.w)) = true then (s1, q, [])
 else if x.s = s1.w then moreK c sub (oneS c s1 x.v) (oneQ c s1 sub q x.v) [⟨s1.w, x.v⟩]
 else (⟨s1.e, s1.w, if x.s + 1 > s1.kn then x.s + 1 else s1.kn, s1.kp, if (addA s1.ah s1.w c.w x).2 = 0 then (addA s1.ah s1.w c.w x).1 else s1.ah⟩, q, [])
def itemP (c : Cf) (s : Sm) (sub : Bool) (q : List Ev) (at_ : Int) (x : It) : (Sm × List Ev × List It) × Int :=
 if flowC c s q = 0 then
  if (epOK at_ && inB x.s 1 1073741823 && inB x.v 0 2147483647) = true then
   (itemG c (if at_ > s.e then ⟨at_, x.s, x.s, [], []⟩ else s) sub q (decide (at_ < s.e)) x, 0)
  else ((s0, [], []), 1)
 else ((s0, [], []), flowC c s q)
abbrev fA (r : (Sm × List Ev × List It) × Int) : S := .tup [aS r.1.1, .one (rE r.1.2.1), .one (rT r.1.2.2), iV r.2]
end Go.Proofs.YtdflglehippoiaaGreatDoor.FA
namespace Go.Proofs.YtdflglehippoiaaGreatDoor.FA
open Go Go.Proofs.YtdflglehippoiaaGreatDoorR IG
open QA (Ev eE aE rE inB epOK evOK qOK putE n01 gapE lastK)
open AA (It eT aT rT ahOK addA leftL wi wm takeT allT take_s hR pre cP risB fitsB)
open EC (Cf eC okC)
set_option maxRecDepth 100000
set_option maxHeartbeats 4000000
end Go.Proofs.YtdflglehippoiaaGreatDoor.FA
namespace Go.Proofs.YtdflglehippoiaaGreatDoor.FA
open Go Go.Proofs.YtdflglehippoiaaGreatDoorR IG
open QA (Ev eE aE rE inB epOK evOK qOK putE n01 gapE lastK)
open AA (It eT aT rT ahOK addA leftL wi wm takeT allT take_s hR pre cP risB fitsB)
open EC (Cf eC okC)
set_option maxRecDepth 100000
set_option maxHeartbeats 4000000
structure RI (c : Cf) (sub : Bool) (ah : List It) (s : Sm) (q : List Ev) (x : It) : Prop where
 cc : 1 ≤ c.p ∧ c.p ≤ 16
 qq : sub = true → qOK q c.q = true ∧ epOK s.e = true
 xs : x.s = s.w
 ws : 1 ≤ s.w ∧ s.w ≤ 1073741823
 xv : inB x.v 0 2147483647 = true
 ay : ∀ y ∈ ah, inB y.v 0 2147483647 = true ∧ y.s ≤ 1073741823
 kl : s.kp.length ≤ 16
 ql : q.length < 900
end Go.Proofs.YtdflglehippoiaaGreatDoor.FA
namespace Go.Proofs.YtdflglehippoiaaGreatDoor.FA
open Go Go.Proofs.YtdflglehippoiaaGreatDoorR IG
open QA (Ev eE aE rE inB epOK evOK qOK putE n01 gapE lastK)
open AA (It eT aT rT ahOK addA leftL wi wm takeT allT take_s hR pre cP risB fitsB)
open EC (Cf eC okC)
set_option maxRecDepth 100000
set_option maxHeartbeats 4000000
end Go.Proofs.YtdflglehippoiaaGreatDoor.FA
namespace Go.Proofs.YtdflglehippoiaaGreatDoor.FA
open Go Go.Proofs.YtdflglehippoiaaGreatDoorR IG
open QA (Ev eE aE rE inB epOK evOK qOK putE n01 gapE lastK)
open AA (It eT aT rT ahOK addA addR leftL wi wm takeT allT take_s hR pre cP risB fitsB)
open EC (Cf eC okC)
set_option maxRecDepth 100000
set_option maxHeartbeats 4000000
abbrev gA (r : Sm × List Ev × List It) : S := .tup [aS r.1, .one (rE r.2.1), .one (rT r.2.2)]
theorem okC_t {c : Cf} (h : okC c = true) : (1 ≤ c.n ∧ c.n ≤ 8) ∧ (1 ≤ c.t ∧ c.t ≤ 4) ∧ (1 ≤ c.k ∧ c.k ≤ 4) ∧ (1 ≤ c.d ∧ c.d ≤ 8) ∧ (1 ≤ c.p ∧ c.p ≤ 16) ∧ (1 ≤ c.w ∧ c.w ≤ 16) ∧ (2 ≤ c.q ∧ c.q ≤ 32) := by simpa [okC] using h
end Go.Proofs.YtdflglehippoiaaGreatDoor.FA
namespace Go.Proofs.YtdflglehippoiaaGreatDoor.FA
open Go Go.Proofs.YtdflglehippoiaaGreatDoorR IG
open QA (Ev eE aE rE inB epOK evOK qOK putE n01 gapE lastK)
open AA (It eT aT rT ahOK addA addR leftL wi wm takeT allT take_s hR pre cP risB fitsB left_s)
open EC (Cf eC okC)
set_option maxRecDepth 100000
set_option maxHeartbeats 4000000
end Go.Proofs.YtdflglehippoiaaGreatDoor.FA
namespace Go.Proofs.YtdflglehippoiaaGreatDoor.FA
open Go Go.Proofs.YtdflglehippoiaaGreatDoorR IG
open QA (Ev eE aE rE inB epOK evOK qOK putE n01 gapE lastK)
open AA (It eT aT rT ahOK addA addR leftL wi wm takeT allT take_s hR pre cP risB fitsB left_s)
open EC (Cf eC okC)
set_option maxRecDepth 100000
set_option maxHeartbeats 4000000
def heavyB (s : Sm) (q : List Ev) : Bool := decide ((s.kp.length : Int) > 30) || decide ((s.ah.length : Int) > 30) || decide ((q.length : Int) > 50)
theorem heavy_t {s : Sm} {q : List Ev} (h : heavyB s q = false) : s.kp.length ≤ 30 ∧ s.ah.length ≤ 30 ∧ q.length ≤ 50 := by
 simp [heavyB] at h; omega
end Go.Proofs.YtdflglehippoiaaGreatDoor.FA
namespace Go.Proofs.YtdflglehippoiaaGreatDoor.GA
open Go Go.Proofs.YtdflglehippoiaaGreatDoorR IG
open QA (Ev eE aE rE epOK evOK qOK putE n01)
open AA (It eT aT rT wi takeT allT)
open EC (Cf eC okC)
open FA (Sm eS aS s0 smL flowC rightB heavyB heavy_t)
open KA (Kd eK aK rK nr okT okN kOK inB gap takeK all3)
set_option maxRecDepth 100000
set_option maxHeartbeats 4000000
structure Tp where
 (m b : Bool)
 (t r p a o g : Int)
 (pa : List Int)
 (ks : List Kd)
 (s : Sm)
 (q : List Ev)
 deriving DecidableEq
abbrev eX (x : Tp) : List V := [.bool x.m, .bool x.b, .int .i64 x.t, .int .i64 x.r, .int .i64 x.p, .int .i64 x.a, .int .i64 x.o, .int .i64 x.g, rI x.pa, rK x.ks, .int .i64 x.s.e, .int .i64 x.s.w, .int .i64 x.s.kn, rT x.s.kp, rT x.s.ah, rE x.q]
abbrev aX (x : Tp) : S := .agg (eX x)
abbrev x0 : Tp := ⟨false, false, 0, 0, 0, 0, 0, 0, [], [], s0, []⟩
abbrev smX (x : Tp) : Prop := x.pa.length < 900 ∧ x.ks.length < 900 ∧ smL x.s ∧ x.q.length < 900
def lnk (t self n : Int) : Bool := decide (n = 0) || (decide (n > 0) && nr t (IntKind.i64.wrap (n - 1)) self)
theorem e106 (N d : Nat) (t self n : Int) : TT N (d + 6) 106 [iV t, iV self, iV n] = some (bV (lnk t self n), []) := by
 have hn := fun d a b => KA.e28 N d t a b
 rw [t106, F_ev rfl]
 unfold lnk
 by_cases h1 : n = 0
 ·simp only [hn, decide_eq_true h1, j106, b106, q106, ww, simprocAttr]
 by_cases h2 : n > 0
 ·simp only [hn, decide_eq_false h1, decide_eq_true h2, j106, b106, q106, ww, simprocAttr]
 ·simp only [hn, decide_eq_false h1, decide_eq_false h2, j106, b106, q106, ww, simprocAttr]
theorem e17 (N d : Nat) (e : Int) : TT N (d + 4) 17 [iV e] = some (.tup [iV (if epOK e then e.tmod 16 else 0), iV (if epOK e then 0 else 1)], []) := by
 have h1 := fun d => QA.e53 N d e
 rw [t17, F_ev rfl]
 cases h : epOK e with
 | false =>
  rw [h] at h1
  simp only [h1, j17, b17, q17, ww, simprocAttr]
  try rfl
 | true =>
  rw [h] at h1
  have hb : 1 ≤ e ∧ e ≤ 1073741824 := by simp [epOK, QA.inB] at h; omega
  have hm := Int.tmod_nonneg 16 (show 0 ≤ e by omega)
  have hm2 := Int.tmod_lt_of_pos e (show 0 < 16 by omega)
  have hw : IntKind.i64.wrap (e.tmod 16) = e.tmod 16 := IntWalk.i64_in _ (by omega)
  simp only [h1, hw, if_true, j17, b17, q17, ww, simprocAttr]
  try rfl
def rtd (self : Int) (x : Tp) : Bool := decide (x.r = 0) || (epOK x.r && (decide (x.r.tmod 16 = self) && (decide (x.r ≤ x.t) && (decide (x.p = 0) && decide (x.s.e = x.r)))))
theorem e107 (N d : Nat) (self : Int) (x : Tp) : TT N (d + 5) 107 [iV self, aX x] = some (bV (rtd self x), []) := by
 have h1 := fun d => e17 N d x.r
 rw [t107, F_ev rfl]
 unfold rtd
 by_cases g : x.r = 0
 ·simp only [h1, decide_eq_true g, j107, b107, q107, ww, simprocAttr]
 cases h : epOK x.r with
 | false =>
  rw [h] at h1
  simp only [h1, decide_eq_false g, j107, b107, q107, ww, simprocAttr]
  try rfl
 | true =>
  rw [h] at h1
  simp only [h1, decide_eq_false g, if_true, j107, b107, q107, ww, simprocAttr]
  by_cases g1 : x.r.tmod 16 = self
  ·by_cases g2 : x.r ≤ x.t
   ·by_cases g3 : x.p = 0
    ·simp only [decide_eq_true g1, decide_eq_true g2, decide_eq_true g3, j107, b107, q107, ww, simprocAttr]
    ·simp only [decide_eq_true g1, decide_eq_true g2, decide_eq_false g3, j107, b107, q107, ww, simprocAttr]
   ·simp only [decide_eq_true g1, decide_eq_false g2, j107, b107, q107, ww, simprocAttr]
  ·simp only [decide_eq_false g1, j107, b107, q107, ww, simprocAttr]
def plc (x : Tp) : Bool := match x.pa with
 | [] => decide (x.p = 0)
 | y :: _ => decide (x.p = IntKind.i64.wrap (y + 1))
theorem e108 (N d : Nat) (x : Tp) : TT N (d + 1) 108 [aX x] = some (bV (plc x), []) := by
 rw [t108, F_ev rfl]
 unfold plc
 cases h : x.pa with
 | nil => simp only [h, j108, b108, q108, ww, simprocAttr]; try rfl
 | cons y r =>
  have h1 : decide (((r.length + 1 : Nat) : Int) = 0) = false := by simp; omega
  have h2 : (0 : Int) ≤ 0 ∧ (0 : Int) < ((r.length + 1 : Nat) : Int) := by omega
  simp only [h, h1, h2.1, h2.2, List.length_map, j108, b108, q108, ww, simprocAttr]
  try rfl
def rgtB (c : Cf) (t self : Int) (x : Tp) : Bool := decide (0 ≤ x.t) && (decide (x.t ≤ 1073741824) && (decide (0 ≤ x.g) && (decide (x.g ≤ 1000) && (lnk t self x.p && (lnk t self x.a && (lnk t self x.o && (rtd self x && (plc x && (decide (pthC t self x.pa c.d = 0) && (kOK t self c.k x.ks && decide (flowC c x.s x.q = 0)))))))))))
theorem e55 (N d : Nat) (hN : 1000 ≤ N) (c : Cf) (t self : Int) (x : Tp) (hx : smX x) : TT N (d + 12) 55 [.agg (eC c), iV t, iV self, aX x] = some (bV (rgtB c t self x), []) := by
 have k1 := fun d n => e106 N d t self n
 have k2 := fun d => e107 N d self x
 have k3 := fun d => e108 N d x
 have k4 := fun d => e31 N d t self x.pa c.d (by omega) (by omega)
 have k5 := fun d => KA.e48 N d t self c.k x.ks (by omega) (by omega)
 have k6 := fun d => FA.e109 N d hN c x.s x.q hx.2.2.1 hx.2.2.2
 rw [t55, F_ev rfl]
 unfold rgtB
 by_cases g1 : x.t < 0
 ·simp only [decide_eq_true g1, decide_eq_false (show ¬ 0 ≤ x.t by omega), j55, b55, q55, ww, simprocAttr]
 by_cases g2 : x.t > 1073741824
 ·simp only [decide_eq_false g1, decide_eq_true g2, decide_eq_true (show 0 ≤ x.t by omega), decide_eq_false (show ¬ x.t ≤ 1073741824 by omega), j55, b55, q55, ww, simprocAttr]
 by_cases g3 : x.g < 0
 ·simp only [decide_eq_false g1, decide_eq_false g2, decide_eq_true g3, decide_eq_false (show ¬ 0 ≤ x.g by omega), j55, b55, q55, ww, simprocAttr]
 by_cases g4 : x.g > 1000
 ·simp only [decide_eq_false g1, decide_eq_false g2, decide_eq_false g3, decide_eq_true g4, decide_eq_false (show ¬ x.g ≤ 1000 by omega), j55, b55, q55, ww, simprocAttr]
 simp only [decide_eq_true (show 0 ≤ x.t by omega), decide_eq_true (show x.t ≤ 1073741824 by omega), decide_eq_true (show 0 ≤ x.g by omega), decide_eq_true (show x.g ≤ 1000 by omega), Bool.true_and]
 cases g5 : lnk t self x.p with
 | false => simp only [decide_eq_false g1, decide_eq_false g2, decide_eq_false g3, decide_eq_false g4, k1, g5, j55, b55, q55, ww, simprocAttr]
 | true =>
 cases g6 : lnk t self x.a with
 | false => simp only [decide_eq_false g1, decide_eq_false g2, decide_eq_false g3, decide_eq_false g4, k1, g5, g6, j55, b55, q55, ww, simprocAttr]
 | true =>
 cases g7 : lnk t self x.o with
 | false => simp only [decide_eq_false g1, decide_eq_false g2, decide_eq_false g3, decide_eq_false g4, k1, g5, g6, g7, j55, b55, q55, ww, simprocAttr]
 | true =>
 cases g8 : rtd self x with
 | false => simp only [decide_eq_false g1, decide_eq_false g2, decide_eq_false g3, decide_eq_false g4, k1, k2, g5, g6, g7, g8, j55, b55, q55, ww, simprocAttr]
 | true =>
 cases g9 : plc x with
 | false => simp only [decide_eq_false g1, decide_eq_false g2, decide_eq_false g3, decide_eq_false g4, k1, k2, k3, g5, g6, g7, g8, g9, j55, b55, q55, ww, simprocAttr]
 | true =>
 by_cases g10 : pthC t self x.pa c.d = 0
 ·cases g11 : kOK t self c.k x.ks with
  | false =>
   rw [g11] at k5
   simp only [decide_eq_false g1, decide_eq_false g2, decide_eq_false g3, decide_eq_false g4, k1, k2, k3, k4, k5, g5, g6, g7, g8, g9, decide_eq_true g10, j55, b55, q55, ww, simprocAttr]
   try rfl
  | true =>
   rw [g11] at k5
   simp only [decide_eq_false g1, decide_eq_false g2, decide_eq_false g3, decide_eq_false g4, k1, k2, k3, k4, k5, k6, g5, g6, g7, g8, g9, decide_eq_true g10, if_true, j55, b55, q55, ww, simprocAttr]
   try rfl
 ·simp only [decide_eq_false g1, decide_eq_false g2, decide_eq_false g3, decide_eq_false g4, k1, k2, k3, k4, g5, g6, g7, g8, g9, decide_eq_false g10, j55, b55, q55, ww, simprocAttr]
def grC (c : Cf) (t self : Int) (x : Tp) : Int := if okC c then (if decide (0 ≤ t) && (decide (t < c.t) && (decide (0 ≤ self) && (decide (self < c.n) && rgtB c t self x))) then 0 else 1) else 13
theorem e18 (N d : Nat) (hN : 1000 ≤ N) (c : Cf) (t self : Int) (x : Tp) (hx : smX x) : TT N (d + 13) 18 [.agg (eC c), iV t, iV self, aX x] = some (iV (grC c t self x), []) := by
 have k1 := fun d => EC.e54 N d c (by omega)
 have k2 := fun d => e55 N d hN c t self x hx
 rw [t18, F_ev rfl]
 unfold grC
 cases g0 : okC c with
 | false =>
  rw [g0] at k1
  simp only [k1, j18, b18, q18, ww, simprocAttr]
  try rfl
 | true =>
 rw [g0] at k1
 by_cases g1 : t < 0
 ·simp only [k1, if_true, decide_eq_true g1, decide_eq_false (show ¬ 0 ≤ t by omega), j18, b18, q18, ww, simprocAttr]
  try rfl
 by_cases g2 : t ≥ c.t
 ·simp only [k1, if_true, decide_eq_false g1, decide_eq_true g2, decide_eq_false (show ¬ t < c.t by omega), j18, b18, q18, ww, simprocAttr]
  try rfl
 by_cases g3 : self < 0
 ·simp only [k1, if_true, decide_eq_false g1, decide_eq_false g2, decide_eq_true g3, decide_eq_false (show ¬ 0 ≤ self by omega), j18, b18, q18, ww, simprocAttr]
  try rfl
 by_cases g4 : self ≥ c.n
 ·simp only [k1, if_true, decide_eq_false g1, decide_eq_false g2, decide_eq_false g3, decide_eq_true g4, decide_eq_false (show ¬ self < c.n by omega), j18, b18, q18, ww, simprocAttr]
  try rfl
 cases g5 : rgtB c t self x with
 | false =>
  simp only [k1, k2, if_true, decide_eq_false g1, decide_eq_false g2, decide_eq_false g3, decide_eq_false g4, g5, j18, b18, q18, ww, simprocAttr]
  try rfl
 | true =>
  simp only [k1, k2, if_true, decide_eq_false g1, decide_eq_false g2, decide_eq_false g3, decide_eq_false g4, g5, decide_eq_true (show 0 ≤ t by omega), decide_eq_true (show t < c.t by omega), decide_eq_true (show 0 ≤ self by omega), decide_eq_true (show self < c.n by omega), j18, b18, q18, ww, simprocAttr]
theorem all1' (l : List Int) : (l.map eI).all (fun x => x.length == 1) = true := by simp
theorem e80 (N d : Nat) (l : List Int) (hl : l.length < 1000000) : TT N (d + 1) 80 [.one (rI l)] = some (.one (.sl 0 0 l.length), [(0, .rows 3 1 (l.map eI))]) := by
 rw [t80]
 unfold cloneM
 simp only [List.length_map]
 rw [if_pos ⟨all1' l, by omega⟩]
theorem takeI (l : List Int) : (l.map eI).take l.length = l.map eI := by rw [List.take_of_length_le (by simp)]
theorem takeE (l : List Ev) : (l.map eE).take l.length = l.map eE := by rw [List.take_of_length_le (by simp)]
theorem e50 (N d : Nat) (x : Tp) (hx : smX x) : TT N (d + 3) 50 [aX x] = some (aX x, []) := by
 have h1 := fun d => e80 N d x.pa (by omega)
 have h2 := fun d => KA.e101 N d x.ks (by omega)
 have h3 := fun d => QA.e102 N d x.q (by omega)
 have h4 := fun d => FA.e103 N d x.s hx.2.2.1
 rw [t50, F_ev rfl]
 simp only [h1, h2, h3, h4, takeI, takeK, takeE, List.length_map, j50, b50, q50, ww, simprocAttr]
end Go.Proofs.YtdflglehippoiaaGreatDoor.GA
namespace Go.Proofs.YtdflglehippoiaaGreatDoor.GA
open Go Go.Proofs.YtdflglehippoiaaGreatDoorR IG
open QA (Ev eE aE rE epOK evOK qOK putE n01)
open AA (It eT aT rT wi takeT allT)
open EC (Cf eC okC)
open FA (Sm eS aS s0 smL flowC rightB heavyB heavy_t)
open KA (Kd eK aK rK nr okT okN kOK inB gap takeK all3)
set_option maxRecDepth 100000
set_option maxHeartbeats 4000000
theorem gr_t {c : Cf} {t self : Int} {x : Tp} (h : grC c t self x = 0) : okC c = true ∧ 0 ≤ t ∧ t < c.t ∧ 0 ≤ self ∧ self < c.n ∧ rgtB c t self x = true ∧ okN self = true ∧ okT t = true ∧ 0 ≤ x.t ∧ x.t ≤ 1073741824 ∧ flowC c x.s x.q = 0 := by
 unfold grC at h
 by_cases h0 : okC c = true
 ·rw [if_pos h0] at h
  split at h
  ·rename_i h1
   simp only [Bool.and_eq_true, decide_eq_true_eq] at h1
   have hc := FA.okC_t h0
   have h2 := h1.2.2.2.2
   unfold rgtB at h2
   simp only [Bool.and_eq_true, decide_eq_true_eq] at h2
   exact ⟨h0, h1.1, h1.2.1, h1.2.2.1, h1.2.2.2.1, h1.2.2.2.2, by simp [okN, inB]; omega, by simp [okT, inB]; omega, h2.1, h2.2.1, h2.2.2.2.2.2.2.2.2.2.2.2⟩
  ·omega
 ·rw [if_neg h0] at h; omega
end Go.Proofs.YtdflglehippoiaaGreatDoor.GA
namespace Go.Proofs.YtdflglehippoiaaGreatDoor.GA
open Go Go.Proofs.YtdflglehippoiaaGreatDoorR IG
open QA (Ev eE aE rE epOK evOK qOK putE n01)
open AA (It eT aT rT wi takeT allT take_s)
open EC (Cf eC okC)
open FA (Sm eS aS s0 smL flowC rightB heavyB heavy_t)
open KA (Kd eK aK rK nr okT okN kOK inB gap takeK all3)
set_option maxRecDepth 100000
set_option maxHeartbeats 4000000
structure Dm where
 (n t e s v : Int)
end Go.Proofs.YtdflglehippoiaaGreatDoor.GA
namespace Go.Proofs.YtdflglehippoiaaGreatDoor.FA
open Go Go.Proofs.YtdflglehippoiaaGreatDoorR IG
open QA (Ev eE aE rE inB epOK evOK qOK putE n01 gapE lastK)
open AA (It eT aT rT ahOK addA addR leftL wi wm takeT allT take_s hR pre cP risB fitsB left_s ins)
open EC (Cf eC okC)
set_option maxRecDepth 100000
end Go.Proofs.YtdflglehippoiaaGreatDoor.FA
namespace Go.Proofs.YtdflglehippoiaaGreatDoor.FA
open Go Go.Proofs.YtdflglehippoiaaGreatDoorR IG
open QA (Ev eE aE rE inB epOK evOK qOK putE n01 gapE lastK)
open AA (It eT aT rT ahOK addA addR leftL wi wm takeT allT take_s hR pre cP risB fitsB left_s ins)
open EC (Cf eC okC)
set_option maxRecDepth 100000
theorem right_of {c : Cf} {s : Sm} (h1 : epOK s.e = true) (h2 : 1 ≤ s.w ∧ s.w ≤ 1073741824) (h3 : s.w ≤ s.kn) (h4 : s.kn ≤ 1073741824) (h5 : kpOK s.kp s.w c.p = true) (h6 : ahOK s.ah s.w c.w = true) : rightB c s = true := by
 have : inB s.w 1 1073741824 = true := by simp [inB]; omega
 simp [rightB, h1, this, h3, h4, h5, h6]
end Go.Proofs.YtdflglehippoiaaGreatDoor.FA
namespace Go.Proofs.YtdflglehippoiaaGreatDoor.GA
open Go Go.Proofs.YtdflglehippoiaaGreatDoorR IG
open QA (Ev eE aE rE epOK evOK qOK putE n01)
open AA (It eT aT rT wi takeT allT ahOK)
open EC (Cf eC okC)
open FA (Sm eS aS s0 smL flowC rightB heavyB heavy_t itemP itemG fA gA flow_t flow_of right_t q_t kpOK kRow)
open KA (Kd eK aK rK nr okT okN kOK inB gap takeK all3)
set_option maxRecDepth 100000
set_option maxHeartbeats 4000000
end Go.Proofs.YtdflglehippoiaaGreatDoor.GA
namespace Go.Proofs.YtdflglehippoiaaGreatDoor.EC
open Go Go.Proofs.YtdflglehippoiaaGreatDoorR IG EA
set_option maxRecDepth 100000
set_option maxHeartbeats 4000000
end Go.Proofs.YtdflglehippoiaaGreatDoor.EC
namespace Go.Proofs.YtdflglehippoiaaGreatDoor.FA
open Go Go.Proofs.YtdflglehippoiaaGreatDoorR IG
open QA (Ev eE aE rE inB epOK evOK qOK putE n01 gapE lastK)
open AA (It eT aT rT ahOK addA addR leftL wi wm takeT allT take_s hR pre cP risB fitsB left_s ins)
open EC (Cf eC okC)
set_option maxRecDepth 100000
theorem umodF (z m : Int) (hm : 0 < m) (hm2 : m ≤ 4611686018427387904) : 0 ≤ IntKind.i64.wrap ((IntKind.u64.wrap z).tmod m) ∧ IntKind.i64.wrap ((IntKind.u64.wrap z).tmod m) < m := by
 have h : 0 ≤ IntKind.u64.wrap z := by
  simp [IntKind.wrap, IntKind.signed, IntKind.bits]
  omega
 have h1 := Int.tmod_nonneg m h
 have h2 := Int.tmod_lt_of_pos (IntKind.u64.wrap z) hm
 rw [IntWalk.i64_in _ (by omega)]
 exact ⟨h1, h2⟩
end Go.Proofs.YtdflglehippoiaaGreatDoor.FA
namespace Go.Proofs.YtdflglehippoiaaGreatDoor.GA
open Go Go.Proofs.YtdflglehippoiaaGreatDoorR IG
open QA (Ev eE aE rE epOK evOK qOK putE n01)
open AA (It eT aT rT wi takeT allT ahOK)
open EC (Cf eC okC)
open FA (Sm eS aS s0 smL flowC rightB heavyB heavy_t itemP itemG fA gA flow_t flow_of right_t q_t kpOK kRow)
open KA (Kd eK aK rK nr okT okN kOK inB gap takeK all3)
set_option maxRecDepth 100000
set_option maxHeartbeats 8000000
end Go.Proofs.YtdflglehippoiaaGreatDoor.GA
namespace Go.Proofs.YtdflglehippoiaaGreatDoor.KA
open Go Go.Proofs.YtdflglehippoiaaGreatDoorR IG
set_option maxRecDepth 100000
set_option maxHeartbeats 4000000
theorem ix_ge {α : Type} {p : α → Bool} {l : List α} : decide (ix p l 0 ≥ 0) = l.any p := by
 cases h : l.any p with
 | true =>
  obtain ⟨k, h1, _⟩ := ix_some (Int.le_refl 0) h
  rw [h1]
  simp
 | false =>
  have h9 : ∀ (l : List α) (i : Int), l.any p = false → ix p l i = -1 := by
   intro l
   induction l with
   | nil => intro i _; rfl
   | cons x r ih =>
    intro i h
    rw [List.any_cons, Bool.or_eq_false_iff] at h
    rw [ix, h.1, if_neg (by decide)]
    exact ih _ h.2
  rw [h9 l 0 h]
  rfl
def hasN (l : List Kd) (n : Int) : Bool := l.any fun y => decide (y.n = n)
theorem e30 (N d : Nat) (l : List Kd) (n : Int) (hN : l.length < N) (hl : l.length < 1000000) : TT N (d + 4) 30 [.one (rK l), iV n] = some (bV (hasN l n), []) := by
 have h27 := e117 N (d + 1) 69 [.int .i64 n] (fun y => decide (y.n = n)) (fun x => e69 N d x n) l hN hl
 have h32 : TT N (d + 3) 68 [.one (rK l), .one (.fn 69 [.ptr [.int .i64 n]])] = some (bV (hasN l n), []) := by
  rw [t68, F_ev rfl]
  simp only [h27, ix_ge, j68, b68, q68, ww, simprocAttr]
  rfl
 rw [t30, F_ev rfl]
 simp only [h32, j30, b30, q30, ww, simprocAttr]
def drp (l : List Kd) (n : Int) : List Kd := l.filter fun y => !decide (y.n = n)
theorem e63 (N d : Nat) (l : List Kd) (n : Int) (hN : l.length < N) (hl : l.length < 1000000) : ans (TT N (d + 4) 63 [.one (rK l), iV n]) = some (.one (rK (drp l n))) := by
 have h29 := fun d => e101 N d l hl
 have h40 := e120 N d 121 [.int .i64 n] (fun y => decide (y.n = n)) (fun d x => e121 N d x n) l hN hl
 rw [show (l.filter fun x => !(fun y : Kd => decide (y.n = n)) x) = drp l n from rfl] at h40
 rw [t63, F_ev rfl]
 by_cases hc : (drp l n).length = 0 ∧ l ≠ []
 ·rw [if_pos hc] at h40
  have hnil : drp l n = [] := List.eq_nil_of_length_eq_zero hc.1
  rw [hnil] at h40 ⊢
  simp only [h29, h40, List.length_map, j63, b63, q63, ww, simprocAttr]
  rfl
 ·rw [if_neg hc] at h40
  simp only [h29, h40, takeK, List.length_map, j63, b63, q63, ww, simprocAttr]
end Go.Proofs.YtdflglehippoiaaGreatDoor.KA
namespace Go.Proofs.YtdflglehippoiaaGreatDoor.KA
open Go Go.Proofs.YtdflglehippoiaaGreatDoorR IG
set_option maxRecDepth 100000
set_option maxHeartbeats 4000000
theorem chn_all {t : Int} : ∀ {l : List Kd} {p : Int}, chn t p l = true → ∀ y ∈ l, nr t p y.n = true ∧ inc2 y = true
 | [], p, _, y, hy => by simp at hy
 | x :: r, p, h, y, hy => by
  simp only [chn, Bool.and_eq_true] at h
  rcases List.mem_cons.1 hy with rfl | hy
  ·exact h.1
  ·have := chn_all h.2 y hy
   exact ⟨nr_trans h.1.1 this.1, this.2⟩
theorem kOK_t {t self limit : Int} {l : List Kd} (h : kOK t self limit l = true) : okT t = true ∧ okN self = true ∧ 1 ≤ limit ∧ limit ≤ 4 ∧ (l.length : Int) ≤ limit ∧ chn t self l = true := by
 simp only [kOK, Bool.and_eq_true, decide_eq_true_eq] at h
 have := inB_t h.1.1.2
 exact ⟨h.1.1.1.1, h.1.1.1.2, this.1, this.2, h.1.2, h.2⟩
def kAt (t : Int) (x : Kd) : List Kd → Nat
 | [] => 0
 | y :: r => if nr t y.n x.n then kAt t x r + 1 else 0
theorem kAt_le (t : Int) (x : Kd) : ∀ l : List Kd, kAt t x l ≤ l.length
 | [] => Nat.le_refl _
 | y :: r => by
  have := kAt_le t x r
  unfold kAt
  split <;> simp <;> omega
def insP (t : Int) (x : Kd) (l : List Kd) : List Kd := l.take (kAt t x l) ++ [x] ++ l.drop (kAt t x l)
theorem insP_len (t : Int) (x : Kd) (l : List Kd) : (insP t x l).length = l.length + 1 := by
 have := kAt_le t x l
 unfold insP
 simp
 omega
theorem e119 (N d : Nat) (t : Int) (l : List Kd) (x : Kd) (hN : l.length < N) (hl : l.length < 100000) : TT N (d + 6) 119 [iV t, .one (rK l), aK x] = some (.one (.sl 0 0 (l.length + 1)), [(0, .rows 51 3 ((insP t x l).map eK))]) := by
 rw [t119, F_ev rfl]
 simp only [List.length_map, j119, b119, q119, ww, simprocAttr]
 refine (loopK (K := fun o => fin _ (aft _ _ _ o)) (fun i => ⟨[(0, iV t), (1, .one (rK l)), (5, .one (.ref 320 0 0)), (7, iV i)], [(320, .box (eK x))]⟩) (fun i => some (.one (.sl 0 0 (l.length + 1)), [(0, .rows 51 3 ((l.take (i + kAt t x (l.drop i))).map eK ++ [eK x] ++ (l.drop (i + kAt t x (l.drop i))).map eK))])) l.length ?hr l.length 0 N _ (by omega) hN ?hk).trans ?_
 case hk => simp only [kk, simprocAttr]; try rfl
 case hr =>
  intro i m hi ih
  (try dsimp only)
  have h29 := fun d => e101 N d l (by omega)
  have h44 := fun d => e152 N d l x i hi (by omega)
  have hlk : (List.take i l).length + 1 + (List.drop i l).length = l.length + 1 := by rw [List.length_take, List.length_drop]; omega
  have htk : List.take (l.length + 1) (List.map eK (List.take i l) ++ [eK x] ++ List.map eK (List.drop i l)) = List.map eK (List.take i l) ++ [eK x] ++ List.map eK (List.drop i l) := List.take_of_length_le (by simp; omega)
  by_cases hlt : i < l.length
  ·have h1 : decide ((i : Int) < (l.length : Int)) = true := by simp; omega
   have hg1 : (l.map eK)[i]? = some (eK l[i]) := by simp [hlt]
   have hd1 : l.drop i = l[i] :: l.drop (i + 1) := by simp
   have hb : 0 ≤ (i : Int) ∧ (i : Int) < (l.length : Int) := by omega
   cases c1 : nr t l[i].n x.n with
   | true =>
    have hka : i + kAt t x (l.drop i) = (i + 1) + kAt t x (l.drop (i + 1)) := by rw [hd1, kAt, c1, if_pos rfl]; omega
    rw [hka]
    simp only [h1, hb.1, hb.2, hg1, e28, c1, wi i (by omega), List.length_map, j119, b119, q119, ww, simprocAttr]
    exact ih hlt _ (by simp only [kk, simprocAttr])
   | false =>
    have hka : i + kAt t x (l.drop i) = i := by rw [hd1, kAt, c1]; rfl
    rw [hka]
    simp only [h1, hb.1, hb.2, hg1, e28, c1, h29, h44, hlk, htk, List.length_map, j119, b119, q119, ww, simprocAttr]
  ·have h1 : decide ((i : Int) < (l.length : Int)) = false := by simp; omega
   have hka : i + kAt t x (l.drop i) = i := by rw [List.drop_of_length_le (by omega)]; rfl
   rw [hka]
   simp only [h1, h29, h44, hlk, htk, List.length_map, j119, b119, q119, ww, simprocAttr]
 simp [insP]
end Go.Proofs.YtdflglehippoiaaGreatDoor.KA
namespace Go.Proofs.YtdflglehippoiaaGreatDoor.KA
open Go Go.Proofs.YtdflglehippoiaaGreatDoorR IG
set_option maxRecDepth 100000
set_option maxHeartbeats 4000000
def stp (t : Int) (x : Kd) (o : List Kd × Bool) (y : Kd) : List Kd × Bool := if (!o.2 && nr t x.n y.n) = true then (o.1 ++ [x] ++ [y], true) else (o.1 ++ [y], o.2)
def fnl (x : Kd) (o : List Kd × Bool) : List Kd := if o.2 then o.1 else o.1 ++ [x]
def sti (t : Int) (x : Kd) (l : List Kd) (i : Nat) : List Kd × Bool := (l.take i).foldl (stp t x) ([], false)
theorem stp_t {t : Int} {x : Kd} {o : List Kd} {y : Kd} : stp t x (o, true) y = (o ++ [y], true) := by
 unfold stp
 rw [if_neg (by rw [Bool.not_true, Bool.false_and]; exact Bool.noConfusion)]
theorem stp_f1 {t : Int} {x : Kd} {o : List Kd} {y : Kd} (h : nr t x.n y.n = true) : stp t x (o, false) y = (o ++ [x] ++ [y], true) := by
 unfold stp
 rw [if_pos (by rw [h]; rfl)]
theorem stp_f2 {t : Int} {x : Kd} {o : List Kd} {y : Kd} (h : nr t x.n y.n = false) : stp t x (o, false) y = (o ++ [y], false) := by
 unfold stp
 rw [if_neg (by rw [h]; exact Bool.noConfusion)]
def insR (t : Int) (x : Kd) (l : List Kd) : List Kd := fnl x (l.foldl (stp t x) ([], false))
attribute [irreducible] sti stp
end Go.Proofs.YtdflglehippoiaaGreatDoor.KA
namespace Go.Proofs.YtdflglehippoiaaGreatDoor.KA
open Go Go.Proofs.YtdflglehippoiaaGreatDoorR IG
set_option maxRecDepth 100000
set_option maxHeartbeats 4000000
def askT (t limit : Int) (l : List Kd) (n inc : Int) : List Kd × Int × Int × Int :=
 if hasN l n then (l.set (ix (fun y => decide (y.n = n)) l 0).toNat ⟨n, inc, 0⟩, 0, 0, 0) else
 if (l.length : Int) < limit then (insP t ⟨n, inc, 0⟩ l, 0, 0, 0) else
 match l with
 | [] => ([], 0, 0, 0)
 | y :: r => if nr t y.n n then (y :: r, n + 1, y.n + 1, 0) else (insP t ⟨n, inc, 0⟩ ((y :: r).take r.length), ((y :: r)[r.length]'(by simp)).n + 1, n + 1, 0)
def askP (t self limit : Int) (l : List Kd) (n inc : Int) : List Kd × Int × Int × Int :=
 if !(kOK t self limit l && nr t self n && inB inc 1 1073741824) then ([], 0, 0, 1) else askT t limit l n inc
abbrev askS (r : List Kd × Int × Int × Int) : S := .tup [.one (rK r.1), iV r.2.1, iV r.2.2.1, iV r.2.2.2]
theorem okN_b {n : Int} (h : okN n = true) : 0 ≤ n ∧ n ≤ 7 := inB_t h
theorem e61 (N d : Nat) (t self limit : Int) (l : List Kd) (n inc : Int) (hN : l.length < N) (hl : l.length < 100000) : ans (TT N (d + 8) 61 [iV t, iV self, iV limit, .one (rK l), iV n, iV inc]) = some (askS (askP t self limit l n inc)) := by
 have h13 := e48 N d t self limit l hN (by omega)
 have h27 := e117 N (d + 6) 118 [.int .i64 n] (fun y => decide (y.n = n)) (fun x => e118 N (d + 5) x n) l hN (by omega)
 have h29 := fun d => e101 N d l (by omega)
 rw [t61, F_ev rfl]
 cases hk : kOK t self limit l with
 | false =>
  rw [hk] at h13
  simp only [h13, List.length_map, j61, b61, q61, ww, simprocAttr]
  simp [askP, hk]
 | true =>
 rw [hk] at h13
 cases hn : nr t self n with
 | false =>
  simp only [h13, e28, hn, List.length_map, j61, b61, q61, ww, simprocAttr]
  simp [askP, hk, hn]
 | true =>
 cases hi : inB inc 1 1073741824 with
 | false =>
  simp only [h13, e28, e116, hn, hi, List.length_map, j61, b61, q61, ww, simprocAttr]
  simp [askP, hk, hn, hi]
 | true =>
 have hok := kOK_t hk
 have hnb := okN_b (nr_t hn).2.2.1
 have hall := chn_all hok.2.2.2.2.2
 rw [show askP t self limit l n inc = askT t limit l n inc by unfold askP; rw [hk, hn, hi]; rfl]
 have hwn : IntKind.i64.wrap (n + 1) = n + 1 := IntWalk.i64_in _ (by omega)
 cases hh : hasN l n with
 | true =>
  obtain ⟨k, k1, k2, k3, k4⟩ := ix_some (Int.le_refl 0) (show l.any (fun y => decide (y.n = n)) = true from hh)
  rw [Int.zero_add] at k1
  have hask : askT t limit l n inc = (l.set k ⟨n, inc, 0⟩, 0, 0, 0) := by unfold askT; rw [hh, if_pos rfl, k1]; rfl
  rw [k1] at h27
  rw [hask]
  have hb : 0 ≤ (k : Int) ∧ (k : Int) < (l.length : Int) := by omega
  have hge : decide ((k : Int) ≥ 0) = true := by simp
  have hg : (l.map eK)[k]? = some (eK l[k]) := by simp [k2]
  have hset : (l.map eK).set k (eK ⟨n, inc, 0⟩) = (l.set k ⟨n, inc, 0⟩).map eK := by rw [List.map_set]
  have htk : (List.map eK (l.set k ⟨n, inc, 0⟩)).take l.length = (l.set k ⟨n, inc, 0⟩).map eK := List.take_of_length_le (by simp)
  (try dsimp only at hset htk)
  simp only [h13, e28, e116, hn, hi, h27, hge, hb.1, hb.2, hg, h29, hset, htk, List.length_map, List.length_set, j61, b61, q61, ww, simprocAttr]
 | false =>
 have hneg : ix (fun y : Kd => decide (y.n = n)) l 0 = -1 := by
  have h9 : ∀ (l : List Kd) (i : Int), l.any (fun y => decide (y.n = n)) = false → ix (fun y : Kd => decide (y.n = n)) l i = -1 := by
   intro l
   induction l with
   | nil => intro i _; rfl
   | cons x r ih =>
    intro i h
    rw [List.any_cons, Bool.or_eq_false_iff] at h
    rw [ix, h.1, if_neg (by decide)]
    exact ih _ h.2
  exact h9 l 0 hh
 rw [hneg] at h27
 have hge : decide ((-1 : Int) ≥ 0) = false := rfl
 cases hroom : decide ((l.length : Int) < limit) with
 | true =>
  have hask : askT t limit l n inc = (insP t ⟨n, inc, 0⟩ l, 0, 0, 0) := by unfold askT; rw [hh, if_neg (by decide), if_pos (by simpa using hroom)]
  rw [hask]
  have h30 := fun d => e119 N d t l ⟨n, inc, 0⟩ hN hl
  have htk : (List.map eK (insP t ⟨n, inc, 0⟩ l)).take (l.length + 1) = (insP t ⟨n, inc, 0⟩ l).map eK := List.take_of_length_le (by rw [List.length_map, insP_len]; omega)
  (try dsimp only at h30)
  simp only [h13, e28, e116, hn, hi, h27, hge, hroom, h30, htk, List.length_map, insP_len, j61, b61, q61, ww, simprocAttr]
 | false =>
 cases l with
 | nil => simp at hroom; omega
 | cons y r =>
  have hynr := hall y (by simp)
  have hyb := okN_b (nr_t hynr.1).2.2.1
  have hwy : IntKind.i64.wrap (y.n + 1) = y.n + 1 := IntWalk.i64_in _ (by omega)
  have hg0 : ((y :: r).map eK)[0]? = some (eK y) := rfl
  have hb0 : (0 : Int) ≤ 0 ∧ (0 : Int) < (((y :: r).length : Nat) : Int) := by simp
  cases hf : nr t y.n n with
  | true =>
   have hask : askT t limit (y :: r) n inc = (y :: r, n + 1, y.n + 1, 0) := by unfold askT; rw [hh, if_neg (by decide), if_neg (by simpa using hroom)]; simp only [hf, if_true]
   rw [hask]
   generalize hL : y :: r = L at *
   simp only [h13, e28, e116, hn, hi, h27, hge, hroom, hf, hb0.1, hb0.2, hg0, hwn, hwy, h29, takeK, List.length_map, j61, b61, q61, ww, simprocAttr]
  | false =>
   have hask : askT t limit (y :: r) n inc = (insP t ⟨n, inc, 0⟩ ((y :: r).take r.length), ((y :: r)[r.length]'(by simp)).n + 1, n + 1, 0) := by unfold askT; rw [hh, if_neg (by decide), if_neg (by simpa using hroom)]; simp only [hf]; rfl
   rw [hask]
   obtain ⟨z, hz⟩ : ∃ z, z = (y :: r)[r.length]'(by simp) := ⟨_, rfl⟩
   rw [← hz]
   have hzm : z ∈ y :: r := by rw [hz]; exact List.getElem_mem _
   have hzb := okN_b (nr_t (hall z hzm).1).2.2.1
   have hwz : IntKind.i64.wrap (z.n + 1) = z.n + 1 := IntWalk.i64_in _ (by omega)
   have hgz : ((y :: r).map eK)[r.length]? = some (eK z) := by rw [List.getElem?_map, List.getElem?_eq_getElem (by simp), hz]; rfl
   have hw1 : IntKind.i64.wrap ((((y :: r).length : Nat) : Int) - 1) = ((r.length : Nat) : Int) := by rw [IntWalk.i64_in _ (by simp at hl ⊢; omega)]; simp
   have hbz : 0 ≤ ((r.length : Nat) : Int) ∧ ((r.length : Nat) : Int) < (((y :: r).length : Nat) : Int) := by simp; omega
   have hbz2 : ((r.length : Nat) : Int) ≤ (((y :: r).length : Nat) : Int) := by omega
   have hlm : ((y :: r).take r.length).length = r.length := by simp
   have h30 : ∀ d, TT N (d + 6) 119 [iV t, .one (.row (((y :: r).map eK).take r.length)), aK ⟨n, inc, 0⟩] = some (.one (.sl 0 0 (r.length + 1)), [(0, .rows 51 3 ((insP t ⟨n, inc, 0⟩ ((y :: r).take r.length)).map eK))]) := by
    intro d
    have h := e119 N d t ((y :: r).take r.length) ⟨n, inc, 0⟩ (by rw [hlm]; simp at hN; omega) (by rw [hlm]; simp at hl; omega)
    rw [hlm] at h
    rw [← List.map_take]
    exact h
   have hin : (insP t ⟨n, inc, 0⟩ ((y :: r).take r.length)).length = r.length + 1 := by rw [insP_len, hlm]
   have htk : (List.map eK (insP t ⟨n, inc, 0⟩ ((y :: r).take r.length))).take (r.length + 1) = (insP t ⟨n, inc, 0⟩ ((y :: r).take r.length)).map eK := List.take_of_length_le (by rw [List.length_map, hin]; omega)
   have hal := all3 (y :: r)
   clear hz hask
   generalize hL : y :: r = L at *
   generalize hI : insP t ⟨n, inc, 0⟩ (L.take r.length) = I at *
   (try dsimp only at h30)
   by_cases hr0 : r.length = 0
   ·have hq : ((0 : Int) = ((r.length : Nat) : Int)) = True := eq_true (by omega)
    have h30' := h30
    rw [hr0, List.take_zero] at h30'
    have htk1 : (I.map eK).take 1 = I.map eK := by rw [hr0] at htk; exact htk
    have hin1 : I.length = 1 := by rw [hin, hr0]
    have h11 : (1 : Nat) ≤ 1 := Nat.le_refl 1
    simp only [h13, e28, e116, hn, hi, h27, hge, hroom, hf, hb0.1, hb0.2, hg0, hgz, hw1, hwz, hwn, hbz.1, hbz.2, hbz2, hq, h30', htk1, hin1, h11, hal, List.length_map, j61, b61, q61, ww, simprocAttr]
   ·have hq : ((0 : Int) = ((r.length : Nat) : Int)) = False := eq_false (by omega)
    simp only [h13, e28, e116, hn, hi, h27, hge, hroom, hf, hb0.1, hb0.2, hg0, hgz, hw1, hwz, hwn, hbz.1, hbz.2, hbz2, hq, h30, htk, hin, hal, List.length_map, j61, b61, q61, ww, simprocAttr]
end Go.Proofs.YtdflglehippoiaaGreatDoor.KA
namespace Go.Proofs.YtdflglehippoiaaGreatDoor.KA
open Go Go.Proofs.YtdflglehippoiaaGreatDoorR IG
set_option maxRecDepth 100000
set_option maxHeartbeats 4000000
theorem gapB : ((List.range 4).all fun (t : Nat) => (List.range 8).all fun (a : Nat) => (List.range 8).all fun (b : Nat) => decide (a = b) || !decide (gap (t : Int) (a : Int) = gap (t : Int) (b : Int))) = true := by decide +kernel
theorem gap_inj {t a b : Int} (ht : okT t = true) (ha : okN a = true) (hb : okN b = true) (h : gap t a = gap t b) : a = b := by
 have h1 := inB_t ht
 have h2 := inB_t ha
 have h3 := inB_t hb
 obtain ⟨t', rfl⟩ := Int.eq_ofNat_of_zero_le h1.1
 obtain ⟨a', rfl⟩ := Int.eq_ofNat_of_zero_le h2.1
 obtain ⟨b', rfl⟩ := Int.eq_ofNat_of_zero_le h3.1
 have h4 := List.all_eq_true.1 (List.all_eq_true.1 (List.all_eq_true.1 gapB t' (by simp; omega)) a' (by simp; omega)) b' (by simp; omega)
 simp only [Bool.or_eq_true, decide_eq_true_eq, Bool.not_eq_true', decide_eq_false_iff_not] at h4
 rcases h4 with h4 | h4
 ·rw [h4]
 ·exact absurd h h4
theorem nr_anti {t a b : Int} (h : nr t a b = true) : nr t b a = false := by
 cases h2 : nr t b a with
 | false => rfl
 | true =>
  have := nr_t h
  have := nr_t h2
  omega
theorem nr_ne {t a b : Int} (h : nr t a b = true) : a ≠ b := by
 rintro rfl
 have := nr_t h
 omega
theorem nr_tot {t a b : Int} (ht : okT t = true) (ha : okN a = true) (hb : okN b = true) (hne : a ≠ b) (h : nr t a b = false) : nr t b a = true := by
 refine nr_of ht hb ha ?_
 have h1 : gap t a ≠ gap t b := fun e => hne (gap_inj ht ha hb e)
 have h2 : ¬ gap t a < gap t b := fun e => by rw [nr_of ht ha hb e] at h; cases h
 omega
theorem insP_t {t : Int} {x y : Kd} {r : List Kd} (h : nr t y.n x.n = true) : insP t x (y :: r) = y :: insP t x r := by
 unfold insP
 rw [kAt, if_pos h]
 simp
theorem insP_f {t : Int} {x y : Kd} {r : List Kd} (h : nr t y.n x.n = false) : insP t x (y :: r) = x :: y :: r := by
 unfold insP
 rw [kAt, if_neg (by rw [h]; decide)]
 rfl
theorem stp_done {t : Int} {x : Kd} : ∀ {l o : List Kd}, l.foldl (stp t x) (o, true) = (o ++ l, true)
 | [], o => by simp
 | y :: r, o => by rw [List.foldl_cons, stp_t, stp_done]; simp
theorem stp_ins {t : Int} {x : Kd} : ∀ {l o : List Kd}, (∀ y ∈ l, nr t x.n y.n = !nr t y.n x.n) → fnl x (l.foldl (stp t x) (o, false)) = o ++ insP t x l
 | [], o, _ => rfl
 | y :: r, o, h => by
  have h1 := h y (by simp)
  rw [List.foldl_cons]
  cases h2 : nr t y.n x.n with
  | true =>
   rw [h2] at h1
   rw [stp_f2 h1, stp_ins (fun z hz => h z (by simp [hz])), insP_t h2]
   simp
  | false =>
   rw [h2] at h1
   rw [stp_f1 h1, stp_done, insP_f h2]
   simp [fnl]
theorem ins_eq {t : Int} {x : Kd} {l : List Kd} (ht : okT t = true) (hx : okN x.n = true) (hl : ∀ y ∈ l, okN y.n = true ∧ y.n ≠ x.n) : insR t x l = insP t x l := by
 unfold insR
 rw [stp_ins (o := []) fun y hy => ?_]
 ·rfl
 ·obtain ⟨h1, h2⟩ := hl y hy
  cases h3 : nr t y.n x.n with
  | true => exact nr_anti h3
  | false => exact nr_tot ht h1 hx h2 h3
theorem drp_id {n : Int} {l : List Kd} (h : ∀ y ∈ l, y.n ≠ n) : drp l n = l := by
 unfold drp
 rw [List.filter_eq_self]
 intro y hy
 simpa using h y hy
theorem drp_mem {n : Int} {l : List Kd} {y : Kd} (h : y ∈ drp l n) : y ∈ l ∧ y.n ≠ n := by
 unfold drp at h
 rw [List.mem_filter] at h
 exact ⟨h.1, by simpa using h.2⟩
theorem chn_gt {t : Int} {l : List Kd} {p : Int} (h : chn t p l = true) : ∀ y ∈ l, nr t p y.n = true := fun y hy => (chn_all h y hy).1
theorem set_eq {t : Int} {x : Kd} : ∀ {l : List Kd} {p : Int} {k : Nat}, chn t p l = true → (h : k < l.length) → l[k].n = x.n → insP t x (drp l x.n) = l.set k x
 | [], p, k, _, h, _ => by simp at h
 | y :: r, p, k, hc, h, hk => by
  simp only [chn, Bool.and_eq_true] at hc
  have hgt := chn_gt hc.2
  cases k with
  | zero =>
   have hy : y.n = x.n := by simpa using hk
   have hd : drp (y :: r) x.n = r := by
    have h1 : drp (y :: r) x.n = drp r x.n := by unfold drp; rw [List.filter_cons]; simp [hy]
    rw [h1]
    exact drp_id fun z hz => fun e => nr_ne (hgt z hz) (by rw [e, hy])
   rw [hd]
   cases r with
   | nil => rfl
   | cons z r' =>
    rw [insP_f (nr_anti (by rw [← hy]; exact hgt z (by simp)))]
    rfl
  | succ k =>
   have hk' : r[k]'(by simpa using h) = (y :: r)[k + 1] := rfl
   have hlt : nr t y.n x.n = true := by rw [← hk, ← hk']; exact hgt _ (List.getElem_mem _)
   have hd : drp (y :: r) x.n = y :: drp r x.n := by
    unfold drp
    rw [List.filter_cons]
    simp [nr_ne hlt]
   rw [hd, insP_t hlt, set_eq hc.2 (by simpa using h) (by rw [hk']; exact hk)]
   rfl
theorem hasN_f {l : List Kd} {n : Int} (h : hasN l n = false) : ∀ y ∈ l, y.n ≠ n := by
 intro y hy e
 unfold hasN at h
 rw [List.any_eq_false] at h
 exact h y hy (by simpa using e)
def askR (t limit : Int) (l : List Kd) (n inc : Int) : List Kd × Int × Int :=
 if hasN l n then (insR t ⟨n, inc, 0⟩ (drp l n), 0, 0) else
 if (l.length : Int) < limit then (insR t ⟨n, inc, 0⟩ l, 0, 0) else
 match l with
 | [] => ([], 0, 0)
 | y :: r => if nr t y.n n then (y :: r, n + 1, y.n + 1) else (insR t ⟨n, inc, 0⟩ ((y :: r).take r.length), ((y :: r)[r.length]'(by simp)).n + 1, n + 1)
theorem ask_eq {t self limit : Int} {l : List Kd} {n inc : Int} (hk : kOK t self limit l = true) (hn : nr t self n = true) : askT t limit l n inc = ((askR t limit l n inc).1, (askR t limit l n inc).2.1, (askR t limit l n inc).2.2, 0) := by
 have hok := kOK_t hk
 have hall := chn_all hok.2.2.2.2.2
 have hnn := (nr_t hn).2.2.1
 have hins : ∀ m : List Kd, (∀ y ∈ m, y ∈ l ∧ y.n ≠ n) → insR t ⟨n, inc, 0⟩ m = insP t ⟨n, inc, 0⟩ m := fun m hm => ins_eq hok.1 hnn fun y hy => ⟨(nr_t (hall y (hm y hy).1).1).2.2.1, (hm y hy).2⟩
 unfold askT askR
 cases hh : hasN l n with
 | true =>
  obtain ⟨k, k1, k2, k3, k4⟩ := ix_some (Int.le_refl 0) (show l.any (fun y => decide (y.n = n)) = true from hh)
  rw [Int.zero_add] at k1
  rw [if_pos rfl, if_pos rfl, k1, hins _ fun y hy => drp_mem hy]
  have := set_eq (x := ⟨n, inc, 0⟩) hok.2.2.2.2.2 k2 (by simpa using k3)
  (try dsimp only at this)
  rw [this]
  rfl
 | false =>
  have hne := hasN_f hh
  simp only [Bool.false_eq_true, if_false]
  by_cases hroom : (l.length : Int) < limit
  ·simp only [if_pos hroom]
   rw [hins l fun y hy => ⟨hy, hne y hy⟩]
  ·simp only [if_neg hroom]
   cases l with
   | nil => rfl
   | cons y r =>
    cases hf : nr t y.n n with
    | true => simp only [hf, if_true]
    | false =>
     simp only [hf]
     rw [hins ((y :: r).take r.length) fun z hz => ⟨List.mem_of_mem_take hz, hne z (List.mem_of_mem_take hz)⟩]
     rfl
abbrev askQ (r : List Kd × Int × Int) : S := .tup [.one (rK r.1), iV r.2.1, iV r.2.2]
end Go.Proofs.YtdflglehippoiaaGreatDoor.KA
namespace Go.Proofs.YtdflglehippoiaaGreatDoor.MA
open Go Go.Proofs.YtdflglehippoiaaGreatDoorR IG
set_option maxRecDepth 100000
structure Mg where
 (k f fi t ti tp e s l v nd ic c h : Int)
 (pa td : List Int)
 deriving DecidableEq
abbrev eM (m : Mg) : List V := [.int .i64 m.k, .int .i64 m.f, .int .i64 m.fi, .int .i64 m.t, .int .i64 m.ti, .int .i64 m.tp, .int .i64 m.e, .int .i64 m.s, .int .i64 m.l, .int .i64 m.v, .int .i64 m.nd, .int .i64 m.ic, .int .i64 m.c, .int .i64 m.h, rI m.pa, rI m.td]
abbrev aM (m : Mg) : S := .agg (eM m)
def wayB (l : List Int) : Bool := nodesB l && uq l
theorem e156 (N d : Nat) (l : List Int) (hN : l.length < N) (hl : l.length < 1000000) : TT N (d + 7) 156 [.one (rI l)] = some (bV (wayB l), []) := by
 have h86 := fun d => e70 N d l hN hl
 have h31 := fun d => e159 N d l hN hl
 have hle : decide ((l.length : Int) ≤ 8) = decide (l.length ≤ 8) := by congr 1; simp; omega
 rw [t156, F_ev rfl]
 simp only [h86, h31, hle, List.length_map, j156, b156, q156, ww, simprocAttr]
 repeat' (refine fin_cases (fun h1 => ?_) (fun h1 => ?_) <;> simp only [h1, h86, h31, hle, List.length_map, j156, b156, q156, ww, simprocAttr])
 all_goals (clear h86 h31; grind [wayB, nodesB])
theorem e157 (N d : Nat) (m : Mg) : TT N (d + 3) 157 [aM m] = some (bV (inB m.e 1 1073741824 && inB m.s 1 1073741824), []) := by
 rw [t157, F_ev rfl]
 simp only [e110, e116, j157, b157, q157, ww, simprocAttr]
 repeat' (refine fin_cases (fun h1 => ?_) (fun h1 => ?_) <;> simp only [h1, e110, e116, j157, b157, q157, ww, simprocAttr])
 all_goals grind
def whoseB (m : Mg) : Bool := inB m.nd 0 7 && inB m.ic 1 1073741824 && inB m.v 0 2147483647 && inB m.h 0 16
theorem e158 (N d : Nat) (m : Mg) : TT N (d + 3) 158 [aM m] = some (bV (whoseB m), []) := by
 rw [t158, F_ev rfl]
 simp only [e110, e116, e56, e85, j158, b158, q158, ww, simprocAttr]
 repeat' (refine fin_cases (fun h1 => ?_) (fun h1 => ?_) <;> simp only [h1, e110, e116, e56, e85, j158, b158, q158, ww, simprocAttr])
 all_goals grind [whoseB]
def endsB (m : Mg) : Bool := inB m.f 0 7 && inB m.t 0 7 && !decide (m.f = m.t) && inB m.fi 1 1073741824
theorem e129 (N d : Nat) (m : Mg) : TT N (d + 3) 129 [aM m] = some (bV (endsB m), []) := by
 rw [t129, F_ev rfl]
 simp only [e116, e85, j129, b129, q129, ww, simprocAttr]
 repeat' (refine fin_cases (fun h1 => ?_) (fun h1 => ?_) <;> simp only [h1, e116, e85, j129, b129, q129, ww, simprocAttr])
 all_goals grind [endsB]
end Go.Proofs.YtdflglehippoiaaGreatDoor.MA
namespace Go.Proofs.YtdflglehippoiaaGreatDoor.GA
open Go Go.Proofs.YtdflglehippoiaaGreatDoorR IG
open QA (Ev eE aE rE epOK evOK qOK putE n01)
open AA (It eT aT rT wi takeT allT ahOK)
open EC (Cf eC okC)
open FA (Sm eS aS s0 smL flowC rightB heavyB heavy_t flow_t flow_of right_t q_t kpOK kRow umodF)
open KA (Kd eK aK rK nr okT okN kOK inB gap takeK all3 askP askT askR askS askQ hasN drp)
open MA (Mg eM aM)
set_option maxRecDepth 100000
set_option maxHeartbeats 4000000
abbrev rM (l : List Mg) : V := .row (l.map eM)
def hasW (x : Tp) : Bool := !decide (x.r = 0) || decide ((x.pa.length : Int) > 0)
theorem e62 (N d : Nat) (x : Tp) : TT N (d + 1) 62 [aX x] = some (bV (hasW x), []) := by
 rw [t62, F_ev rfl]
 unfold hasW
 by_cases g : x.r = 0
 ·simp only [decide_eq_true g, List.length_map, j62, b62, q62, ww, simprocAttr]
 ·simp only [decide_eq_false g, List.length_map, j62, b62, q62, ww, simprocAttr]
theorem takeO (p : Int) (l : List Int) : (eI p :: l.map eI).take (1 + l.length) = eI p :: l.map eI := List.take_of_length_le (by simp; omega)
theorem e122 (N d : Nat) (self : Int) (x : Tp) (hx : x.pa.length < 900) : ans (TT N (d + 1) 122 [iV self, aX x]) = some (.one (rI (self :: x.pa))) := by
 have h1 : (1 + x.pa.length) * 8 ≤ 140737488355328 := by omega
 have h2 : 1 + x.pa.length ≤ x.pa.length + 1 := by omega
 rw [t122, F_ev rfl]
 simp only [h1, h2, all1', takeO, List.length_map, j122, b122, q122, ww, simprocAttr]
 rfl
def redM (t who to : Int) : Mg := ⟨4, 0, 0, IntKind.i64.wrap (who - 1), 0, t, 0, 0, 0, 0, IntKind.i64.wrap (to - 1), 0, 0, 0, [], []⟩
def refM (t n : Int) : Mg := ⟨5, 0, 0, n, 0, t, 0, 0, 0, 0, 0, 0, 0, 0, [], []⟩
def ackM (t self : Int) (x : Tp) (n : Int) : Mg := ⟨3, 0, 0, n, 0, t, x.s.e, if 1 > x.s.w then 1 else x.s.w, x.t, 0, 0, 0, 0, 0, self :: x.pa, []⟩
theorem e64 (N d : Nat) (t self : Int) (x : Tp) (n : Int) (hx : x.pa.length < 900) : TT N (d + 2) 64 [iV t, iV self, aX x, iV n] = some (aM (ackM t self x n), []) := by
 have h1 := fun d => e122 N d self x hx
 rw [t64, F_ev rfl]
 simp only [h1, List.length_map, j64, b64, q64, ww, simprocAttr]
 try rfl
end Go.Proofs.YtdflglehippoiaaGreatDoor.GA
namespace Go.Proofs.YtdflglehippoiaaGreatDoor.GA
open Go Go.Proofs.YtdflglehippoiaaGreatDoorR IG
open QA (Ev eE aE rE epOK evOK qOK putE n01)
open AA (It eT aT rT wi takeT allT ahOK)
open EC (Cf eC okC)
open FA (Sm eS aS s0 smL flowC rightB heavyB heavy_t flow_t flow_of right_t q_t kpOK kRow umodF)
open KA (Kd eK aK rK nr okT okN kOK inB gap takeK all3 askP askT askR askS askQ hasN drp)
open MA (Mg eM aM)
set_option maxRecDepth 100000
set_option maxHeartbeats 4000000
abbrev askY (x : Tp) (top : Int) (l : List Kd) : Tp := ⟨x.m, x.b, if top > x.t then top else x.t, x.r, x.p, x.a, x.o, x.g, x.pa, l, x.s, x.q⟩
def jnG (c : Cf) (t self : Int) (x : Tp) (n inc top : Int) : Tp × List Mg :=
 if (nr t self n && inB inc 1 1073741824) = true then
  if (hasN (askR t c.k x.ks n inc).1 n && hasW x) = true then
   if ((x.pa.length + 1 : Nat) : Int) > c.d then (askY x top (drp (askR t c.k x.ks n inc).1 n), (if (askR t c.k x.ks n inc).2.1 > 0 then [redM t (askR t c.k x.ks n inc).2.1 (askR t c.k x.ks n inc).2.2] else []) ++ [refM t n])
   else (askY x top (askR t c.k x.ks n inc).1, (if (askR t c.k x.ks n inc).2.1 > 0 then [redM t (askR t c.k x.ks n inc).2.1 (askR t c.k x.ks n inc).2.2] else []) ++ [ackM t self (askY x top (askR t c.k x.ks n inc).1) n])
  else (askY x top (askR t c.k x.ks n inc).1, if (askR t c.k x.ks n inc).2.1 > 0 then [redM t (askR t c.k x.ks n inc).2.1 (askR t c.k x.ks n inc).2.2] else [])
 else (x, [])
def jnP (c : Cf) (t self : Int) (x : Tp) (n inc top : Int) : (Tp × List Mg) × Int :=
 if grC c t self x = 0 then (if (decide (0 ≤ top) && decide (top ≤ 1073741824)) = true then (jnG c t self x n inc top, 0) else ((x0, []), 1)) else ((x0, []), grC c t self x)
abbrev aJ (r : (Tp × List Mg) × Int) : S := .tup [aX r.1.1, .one (rM r.1.2), iV r.2]
theorem gr_k {c : Cf} {t self : Int} {x : Tp} (h : grC c t self x = 0) : kOK t self c.k x.ks = true ∧ x.ks.length ≤ 4 ∧ pthC t self x.pa c.d = 0 ∧ lnk t self x.p = true ∧ lnk t self x.a = true ∧ lnk t self x.o = true ∧ rtd self x = true ∧ plc x = true ∧ 0 ≤ x.g ∧ x.g ≤ 1000 := by
 obtain ⟨k1, k2, k3, k4, k5, k6, k7, k8, k9, k10, k11⟩ := gr_t h
 unfold rgtB at k6
 simp only [Bool.and_eq_true, decide_eq_true_eq] at k6
 obtain ⟨h1, h2, h3, h4, h5, h6, h7, h8, h9, h10, h11, h12⟩ := k6
 refine ⟨h11, ?_, h10, h5, h6, h7, h8, h9, h3, h4⟩
 simp only [kOK, Bool.and_eq_true, decide_eq_true_eq] at h11
 have := FA.okC_t k1
 omega
theorem askP_of {t self limit : Int} {l : List Kd} {n inc : Int} (hk : kOK t self limit l = true) (hn : nr t self n = true) (hi : inB inc 1 1073741824 = true) : askP t self limit l n inc = ((askR t limit l n inc).1, (askR t limit l n inc).2.1, (askR t limit l n inc).2.2, 0) := by
 rw [← KA.ask_eq hk hn]
 unfold askP
 rw [hk, hn, hi]
 rfl
theorem askP_no {t self limit : Int} {l : List Kd} {n inc : Int} (h : (nr t self n && inB inc 1 1073741824) = false) : askP t self limit l n inc = ([], 0, 0, 1) := by
 unfold askP
 rw [Bool.and_assoc, h, Bool.and_false]
 rfl
theorem askP_len (t self limit : Int) (l : List Kd) (n inc : Int) : (askP t self limit l n inc).1.length ≤ l.length + 1 := by
 unfold askP
 split
 ·simp
 ·unfold askT
  split
  ·simp
  ·split
   ·simp [KA.insP_len]
   ·split
    ·simp
    ·split
     ·simp
     ·simp [KA.insP_len]
theorem askR_len {t self limit : Int} {l : List Kd} {n inc : Int} (hk : kOK t self limit l = true) (hn : nr t self n = true) (hi : inB inc 1 1073741824 = true) : (askR t limit l n inc).1.length ≤ l.length + 1 := by
 have h := askP_len t self limit l n inc
 rw [askP_of hk hn hi] at h
 exact h
theorem e27 (N d : Nat) (hN : 1000 ≤ N) (c : Cf) (t self : Int) (x : Tp) (n inc top : Int) (hx : smX x) : ans (TT N (d + 14) 27 [.agg (eC c), iV t, iV self, aX x, iV n, iV inc, iV top]) = some (aJ (jnP c t self x n inc top)) := by
 have h1 := fun d => e18 N d hN c t self x hx
 have h2 := fun d => e50 N d x hx
 have h3 := fun d => KA.e61 N d t self c.k x.ks n inc (by omega) (by omega)
 rw [t27, F_ev rfl]
 unfold jnP
 by_cases g0 : grC c t self x = 0
 rotate_left
 ·rw [if_neg g0]
  have g0' : decide (grC c t self x = 0) = false := decide_eq_false g0
  simp only [h1, g0', j27, b27, q27, ww, simprocAttr]
  try rfl
 rw [if_pos g0]
 rw [g0] at h1
 by_cases g1 : top < 0
 ·rw [if_neg (by simp; omega)]
  simp only [h1, decide_eq_true g1, j27, b27, q27, ww, simprocAttr]
  try rfl
 by_cases g2 : top > 1073741824
 ·rw [if_neg (by simp; omega)]
  simp only [h1, decide_eq_false g1, decide_eq_true g2, j27, b27, q27, ww, simprocAttr]
  try rfl
 rw [if_pos (by simp; omega)]
 obtain ⟨q1, q2, q3, _⟩ := gr_k g0
 unfold jnG
 cases g3 : (nr t self n && inB inc 1 1073741824) with
 | false =>
  rw [if_neg (by decide)]
  rw [askP_no g3] at h3
  simp only [h1, h2, h3, decide_eq_false g1, decide_eq_false g2, j27, b27, q27, ww, simprocAttr]
  try rfl
 | true =>
 rw [if_pos rfl]
 have g4 := Bool.and_eq_true_iff.1 g3
 rw [askP_of q1 g4.1 g4.2] at h3
 have hl := askR_len q1 g4.1 g4.2
 generalize askR t c.k x.ks n inc = A at *
 obtain ⟨l, who, to⟩ := A
 dsimp only at h3 hl ⊢
 have h4 := fun d => KA.e30 N d l n (by omega) (by omega)
 have h5 := fun d => KA.e63 N d l n (by omega) (by omega)
 have h6 := fun d => e62 N d (askY x top l)
 have h7 := fun d => e64 N d t self (askY x top l) n hx.1
 rw [show hasW (askY x top l) = hasW x from rfl] at h6
 have w1 : IntKind.i64.wrap ((x.pa.length : Int) + 1) = ((x.pa.length + 1 : Nat) : Int) := by rw [IntWalk.i64_in _ (by omega)]; omega
 have m1 : (0 + 1) * 160 ≤ 140737488355328 := by decide
 have m2 : (1 + 1) * 160 ≤ 140737488355328 := by decide
 have hz : decide ((0 : Int) = 0) = true := rfl
 by_cases g5 : who > 0
 ·have g5' := decide_eq_true g5
  rw [if_pos g5]
  cases g6 : hasN l n with
  | false =>
   rw [if_neg (by simp)]
   simp only [h1, h2, h3, h4, hz, g5', g6, decide_eq_false g1, decide_eq_false g2, List.length_map, j27, b27, q27, ww, simprocAttr]
   try rfl
  | true =>
  cases g7 : hasW x with
  | false =>
   rw [if_neg (by decide)]
   simp only [h1, h2, h3, h4, h6, hz, g5', g6, g7, decide_eq_false g1, decide_eq_false g2, List.length_map, j27, b27, q27, ww, simprocAttr]
   try rfl
  | true =>
  rw [if_pos (show (true && true) = true from rfl)]
  by_cases g8 : ((x.pa.length + 1 : Nat) : Int) > c.d
  ·rw [if_pos g8]
   simp only [h1, h2, h3, h4, h5, h6, hz, w1, g5', g6, g7, decide_eq_true g8, decide_eq_false g1, decide_eq_false g2, List.length_map, j27, b27, q27, ww, simprocAttr]
   try rfl
  ·rw [if_neg g8]
   simp only [h1, h2, h3, h4, h6, h7, hz, w1, g5', g6, g7, decide_eq_false g8, decide_eq_false g1, decide_eq_false g2, List.length_map, j27, b27, q27, ww, simprocAttr]
   try rfl
 ·have g5' := decide_eq_false g5
  rw [if_neg g5]
  cases g6 : hasN l n with
  | false =>
   rw [if_neg (by simp)]
   simp only [h1, h2, h3, h4, hz, g5', g6, decide_eq_false g1, decide_eq_false g2, List.length_map, j27, b27, q27, ww, simprocAttr]
   try rfl
  | true =>
  cases g7 : hasW x with
  | false =>
   rw [if_neg (by decide)]
   simp only [h1, h2, h3, h4, h6, hz, g5', g6, g7, decide_eq_false g1, decide_eq_false g2, List.length_map, j27, b27, q27, ww, simprocAttr]
   try rfl
  | true =>
  rw [if_pos (show (true && true) = true from rfl)]
  by_cases g8 : ((x.pa.length + 1 : Nat) : Int) > c.d
  ·rw [if_pos g8]
   simp only [h1, h2, h3, h4, h5, h6, hz, w1, g5', g6, g7, decide_eq_true g8, decide_eq_false g1, decide_eq_false g2, List.length_map, j27, b27, q27, ww, simprocAttr]
   try rfl
  ·rw [if_neg g8]
   simp only [h1, h2, h3, h4, h6, h7, hz, w1, g5', g6, g7, decide_eq_false g8, decide_eq_false g1, decide_eq_false g2, List.length_map, j27, b27, q27, ww, simprocAttr]
   try rfl
end Go.Proofs.YtdflglehippoiaaGreatDoor.GA
namespace Go.Proofs.YtdflglehippoiaaGreatDoor.GA
open Go Go.Proofs.YtdflglehippoiaaGreatDoorR IG
open QA (Ev eE aE rE epOK evOK qOK putE n01)
open AA (It eT aT rT wi takeT allT ahOK)
open EC (Cf eC okC)
open FA (Sm eS aS s0 smL flowC rightB heavyB heavy_t flow_t flow_of right_t q_t kpOK kRow umodF)
open KA (Kd eK aK rK nr okT okN kOK inB gap takeK all3 askP askT askR askS askQ hasN drp)
open MA (Mg eM aM)
set_option maxRecDepth 100000
set_option maxHeartbeats 4000000
end Go.Proofs.YtdflglehippoiaaGreatDoor.GA
namespace Go.Proofs.YtdflglehippoiaaGreatDoor.MA
open Go Go.Proofs.YtdflglehippoiaaGreatDoorR IG
set_option maxRecDepth 100000
abbrev plM (m : Mg) : Bool := inB m.e 1 1073741824 && inB m.s 1 1073741824
def okM (m : Mg) : Bool :=
 if m.k = 1 then true else if m.k = 5 then true else if m.k = 6 then true
 else if m.k = 2 then inB m.e 0 1073741824
 else if m.k = 3 then inB m.e 0 1073741824 && inB m.s 1 1073741824 && inB m.l 0 1073741824 && !m.pa.isEmpty && wayB m.pa && decide (m.pa.headD 0 = m.f)
 else if m.k = 4 then inB m.nd 0 7 && !decide (m.nd = m.f) && !decide (m.nd = m.t)
 else if m.k = 7 then plM m && inB m.v 0 2147483647
 else if m.k = 8 then plM m
 else if m.k = 9 then plM m && inB m.l m.s 1073741824
 else if m.k = 10 then whoseB m && inB m.c 1 1073741824
 else if m.k = 11 then whoseB m && inB m.c 1 40 && wayB m.pa && wayB m.td && uq (m.pa ++ m.td)
 else if m.k = 12 then inB m.c 1 40 && inB m.v 0 7
 else if m.k = 13 then inB m.c 1 40
 else false
def restM (m : Mg) : Mg :=
 if m.k = 1 then m else if m.k = 5 then m else if m.k = 6 then m
 else if m.k = 2 then { m with e := 0 }
 else if m.k = 3 then { m with e := 0, s := 0, l := 0, pa := [] }
 else if m.k = 4 then { m with nd := 0 }
 else if m.k = 7 then { m with e := 0, s := 0, v := 0 }
 else if m.k = 8 then { m with e := 0, s := 0 }
 else if m.k = 9 then { m with e := 0, s := 0, l := 0 }
 else if m.k = 10 then { m with nd := 0, ic := 0, c := 0, v := 0, h := 0 }
 else if m.k = 11 then { m with nd := 0, ic := 0, c := 0, v := 0, h := 0, pa := [], td := [] }
 else if m.k = 12 then { m with c := 0, v := 0 }
 else if m.k = 13 then { m with c := 0 }
 else m
theorem e157x (N d : Nat) (k f fi t ti tp e s l v nd ic c h : Int) (pa td : List Int) : TT N (d + 3) 157 [.agg [.int .i64 k, .int .i64 f, .int .i64 fi, .int .i64 t, .int .i64 ti, .int .i64 tp, .int .i64 e, .int .i64 s, .int .i64 l, .int .i64 v, .int .i64 nd, .int .i64 ic, .int .i64 c, .int .i64 h, rI pa, rI td]] = some (bV (inB e 1 1073741824 && inB s 1 1073741824), []) := e157 N d ⟨k, f, fi, t, ti, tp, e, s, l, v, nd, ic, c, h, pa, td⟩
theorem e158x (N d : Nat) (k f fi t ti tp e s l v nd ic c h : Int) (pa td : List Int) : TT N (d + 3) 158 [.agg [.int .i64 k, .int .i64 f, .int .i64 fi, .int .i64 t, .int .i64 ti, .int .i64 tp, .int .i64 e, .int .i64 s, .int .i64 l, .int .i64 v, .int .i64 nd, .int .i64 ic, .int .i64 c, .int .i64 h, rI pa, rI td]] = some (bV (inB nd 0 7 && inB ic 1 1073741824 && inB v 0 2147483647 && inB h 0 16), []) := e158 N d ⟨k, f, fi, t, ti, tp, e, s, l, v, nd, ic, c, h, pa, td⟩
theorem selfI (a b : List Int) : (a.map eI ++ b.map eI).all selfs = true := by
 simp [List.all_append, selfs, V.self]
theorem takeI (a b : List Int) : (a.map eI ++ b.map eI).take (a.length + b.length) = a.map eI ++ b.map eI := List.take_of_length_le (by simp)
theorem e159x (N d : Nat) (a b : List Int) (h : a.length + b.length < N) (h' : a.length + b.length < 1000000) : TT N (d + 3) 159 [.one (.row (a.map eI ++ b.map eI))] = some (bV (uq (a ++ b)), []) := by
 have e : V.row (a.map eI ++ b.map eI) = rI (a ++ b) := by show _ = V.row ((a ++ b).map eI); rw [List.map_append]
 rw [e]
 exact e159 N d (a ++ b) (by simpa using h) (by simpa using h')

theorem e128_1 (N d : Nat) (m : Mg) (ha : m.pa.length < 1000) (hb : m.td.length < 1000) (hk : m.k = 1) : TT (N + 3000) (d + 8) 128 [aM m] = some (.tup [aM (restM m), bV (okM m)], []) := by
 rw [t128, F_ev rfl]
 simp only [hk, e110, e116, e56, e85, e157x, e158x, List.length_map, j128, b128, q128, ww, simprocAttr]
 repeat' (refine fin_cases (fun h1 => ?_) (fun h1 => ?_) <;> simp only [h1, hk, e110, e116, e56, e85, e157x, e158x, List.length_map, j128, b128, q128, ww, simprocAttr])
 all_goals (simp_all [okM, restM, whoseB])
theorem e128_5 (N d : Nat) (m : Mg) (ha : m.pa.length < 1000) (hb : m.td.length < 1000) (hk : m.k = 5) : TT (N + 3000) (d + 8) 128 [aM m] = some (.tup [aM (restM m), bV (okM m)], []) := by
 rw [t128, F_ev rfl]
 simp only [hk, e110, e116, e56, e85, e157x, e158x, List.length_map, j128, b128, q128, ww, simprocAttr]
 repeat' (refine fin_cases (fun h1 => ?_) (fun h1 => ?_) <;> simp only [h1, hk, e110, e116, e56, e85, e157x, e158x, List.length_map, j128, b128, q128, ww, simprocAttr])
 all_goals (simp_all [okM, restM, whoseB])
theorem e128_6 (N d : Nat) (m : Mg) (ha : m.pa.length < 1000) (hb : m.td.length < 1000) (hk : m.k = 6) : TT (N + 3000) (d + 8) 128 [aM m] = some (.tup [aM (restM m), bV (okM m)], []) := by
 rw [t128, F_ev rfl]
 simp only [hk, e110, e116, e56, e85, e157x, e158x, List.length_map, j128, b128, q128, ww, simprocAttr]
 repeat' (refine fin_cases (fun h1 => ?_) (fun h1 => ?_) <;> simp only [h1, hk, e110, e116, e56, e85, e157x, e158x, List.length_map, j128, b128, q128, ww, simprocAttr])
 all_goals (simp_all [okM, restM, whoseB])
theorem e128_2 (N d : Nat) (m : Mg) (ha : m.pa.length < 1000) (hb : m.td.length < 1000) (hk : m.k = 2) : TT (N + 3000) (d + 8) 128 [aM m] = some (.tup [aM (restM m), bV (okM m)], []) := by
 rw [t128, F_ev rfl]
 simp only [hk, e110, e116, e56, e85, e157x, e158x, List.length_map, j128, b128, q128, ww, simprocAttr]
 repeat' (refine fin_cases (fun h1 => ?_) (fun h1 => ?_) <;> simp only [h1, hk, e110, e116, e56, e85, e157x, e158x, List.length_map, j128, b128, q128, ww, simprocAttr])
 all_goals (simp_all [okM, restM, whoseB])
theorem e128_3 (N d : Nat) (m : Mg) (ha : m.pa.length < 1000) (hb : m.td.length < 1000) (hk : m.k = 3) : TT (N + 3000) (d + 8) 128 [aM m] = some (.tup [aM (restM m), bV (okM m)], []) := by
 have h77a := fun d => e156 (N + 3000) d m.pa (by omega) (by omega)
 have h77b := fun d => e156 (N + 3000) d m.td (by omega) (by omega)
 have h80 := fun d => e160 (N + 2997) d m.pa m.td ha hb
 have h31 := fun d => e159x (N + 3000) d m.pa m.td (by omega) (by omega)
 have hlen : decide ((0 : Int) < (m.pa.length : Int)) = !m.pa.isEmpty := by cases m.pa <;> simp
 rw [t128, F_ev rfl]
 cases hp : m.pa.isEmpty with
 | true =>
  simp only [hk, e110, e116, e56, e85, e157x, e158x, h77a, h77b, h80, h31, selfI, takeI, hlen, hp, List.length_map, j128, b128, q128, ww, simprocAttr]
  repeat' (refine fin_cases (fun h1 => ?_) (fun h1 => ?_) <;> simp only [h1, hk, e110, e116, e56, e85, e157x, e158x, h77a, h77b, h80, h31, selfI, takeI, hlen, hp, List.length_map, j128, b128, q128, ww, simprocAttr])
  all_goals (clear h77a h77b h80 h31; simp_all [okM, restM, whoseB])
 | false =>
  have hg : (m.pa.map eI)[0]? = some (eI (m.pa.headD 0)) := by cases h : m.pa with
   | nil => rw [h] at hp; cases hp
   | cons a r => rfl
  have hpos : (0 : Int) < (m.pa.length : Int) := by cases h : m.pa with
   | nil => rw [h] at hp; cases hp
   | cons a r => simp
  simp only [hk, e110, e116, e56, e85, e157x, e158x, h77a, h77b, h80, h31, selfI, takeI, hlen, hp, hg, hpos, List.length_map, j128, b128, q128, ww, simprocAttr]
  repeat' (refine fin_cases (fun h1 => ?_) (fun h1 => ?_) <;> simp only [h1, hk, e110, e116, e56, e85, e157x, e158x, h77a, h77b, h80, h31, selfI, takeI, hlen, hp, hg, hpos, List.length_map, j128, b128, q128, ww, simprocAttr])
  all_goals (clear h77a h77b h80 h31; simp_all [okM, restM, whoseB])
theorem e128_4 (N d : Nat) (m : Mg) (ha : m.pa.length < 1000) (hb : m.td.length < 1000) (hk : m.k = 4) : TT (N + 3000) (d + 8) 128 [aM m] = some (.tup [aM (restM m), bV (okM m)], []) := by
 rw [t128, F_ev rfl]
 simp only [hk, e110, e116, e56, e85, e157x, e158x, List.length_map, j128, b128, q128, ww, simprocAttr]
 repeat' (refine fin_cases (fun h1 => ?_) (fun h1 => ?_) <;> simp only [h1, hk, e110, e116, e56, e85, e157x, e158x, List.length_map, j128, b128, q128, ww, simprocAttr])
 all_goals (simp_all [okM, restM, whoseB])
theorem e128_7 (N d : Nat) (m : Mg) (ha : m.pa.length < 1000) (hb : m.td.length < 1000) (hk : m.k = 7) : TT (N + 3000) (d + 8) 128 [aM m] = some (.tup [aM (restM m), bV (okM m)], []) := by
 rw [t128, F_ev rfl]
 simp only [hk, e110, e116, e56, e85, e157x, e158x, List.length_map, j128, b128, q128, ww, simprocAttr]
 repeat' (refine fin_cases (fun h1 => ?_) (fun h1 => ?_) <;> simp only [h1, hk, e110, e116, e56, e85, e157x, e158x, List.length_map, j128, b128, q128, ww, simprocAttr])
 all_goals (simp_all [okM, restM, whoseB])
theorem e128_8 (N d : Nat) (m : Mg) (ha : m.pa.length < 1000) (hb : m.td.length < 1000) (hk : m.k = 8) : TT (N + 3000) (d + 8) 128 [aM m] = some (.tup [aM (restM m), bV (okM m)], []) := by
 rw [t128, F_ev rfl]
 simp only [hk, e110, e116, e56, e85, e157x, e158x, List.length_map, j128, b128, q128, ww, simprocAttr]
 repeat' (refine fin_cases (fun h1 => ?_) (fun h1 => ?_) <;> simp only [h1, hk, e110, e116, e56, e85, e157x, e158x, List.length_map, j128, b128, q128, ww, simprocAttr])
 all_goals (simp_all [okM, restM, whoseB])
theorem e128_9 (N d : Nat) (m : Mg) (ha : m.pa.length < 1000) (hb : m.td.length < 1000) (hk : m.k = 9) : TT (N + 3000) (d + 8) 128 [aM m] = some (.tup [aM (restM m), bV (okM m)], []) := by
 rw [t128, F_ev rfl]
 simp only [hk, e110, e116, e56, e85, e157x, e158x, List.length_map, j128, b128, q128, ww, simprocAttr]
 repeat' (refine fin_cases (fun h1 => ?_) (fun h1 => ?_) <;> simp only [h1, hk, e110, e116, e56, e85, e157x, e158x, List.length_map, j128, b128, q128, ww, simprocAttr])
 all_goals (simp_all [okM, restM, whoseB])
theorem e128_10 (N d : Nat) (m : Mg) (ha : m.pa.length < 1000) (hb : m.td.length < 1000) (hk : m.k = 10) : TT (N + 3000) (d + 8) 128 [aM m] = some (.tup [aM (restM m), bV (okM m)], []) := by
 rw [t128, F_ev rfl]
 simp only [hk, e110, e116, e56, e85, e157x, e158x, List.length_map, j128, b128, q128, ww, simprocAttr]
 repeat' (refine fin_cases (fun h1 => ?_) (fun h1 => ?_) <;> simp only [h1, hk, e110, e116, e56, e85, e157x, e158x, List.length_map, j128, b128, q128, ww, simprocAttr])
 all_goals (simp_all [okM, restM, whoseB])
theorem e128_11 (N d : Nat) (m : Mg) (ha : m.pa.length < 1000) (hb : m.td.length < 1000) (hk : m.k = 11) : TT (N + 3000) (d + 8) 128 [aM m] = some (.tup [aM (restM m), bV (okM m)], []) := by
 have h77a := fun d => e156 (N + 3000) d m.pa (by omega) (by omega)
 have h77b := fun d => e156 (N + 3000) d m.td (by omega) (by omega)
 have h80 := fun d => e160 (N + 2997) d m.pa m.td ha hb
 have h31 := fun d => e159x (N + 3000) d m.pa m.td (by omega) (by omega)
 rw [t128, F_ev rfl]
 simp only [hk, e110, e116, e56, e85, e157x, e158x, h77a, h77b, h80, h31, selfI, takeI, List.length_map, j128, b128, q128, ww, simprocAttr]
 repeat' (refine fin_cases (fun h1 => ?_) (fun h1 => ?_) <;> simp only [h1, hk, e110, e116, e56, e85, e157x, e158x, h77a, h77b, h80, h31, selfI, takeI, List.length_map, j128, b128, q128, ww, simprocAttr])
 all_goals (clear h77a h77b h80 h31; simp_all [okM, restM, whoseB])
theorem e128_12 (N d : Nat) (m : Mg) (ha : m.pa.length < 1000) (hb : m.td.length < 1000) (hk : m.k = 12) : TT (N + 3000) (d + 8) 128 [aM m] = some (.tup [aM (restM m), bV (okM m)], []) := by
 rw [t128, F_ev rfl]
 simp only [hk, e110, e116, e56, e85, e157x, e158x, List.length_map, j128, b128, q128, ww, simprocAttr]
 repeat' (refine fin_cases (fun h1 => ?_) (fun h1 => ?_) <;> simp only [h1, hk, e110, e116, e56, e85, e157x, e158x, List.length_map, j128, b128, q128, ww, simprocAttr])
 all_goals (simp_all [okM, restM, whoseB])
theorem e128_13 (N d : Nat) (m : Mg) (ha : m.pa.length < 1000) (hb : m.td.length < 1000) (hk : m.k = 13) : TT (N + 3000) (d + 8) 128 [aM m] = some (.tup [aM (restM m), bV (okM m)], []) := by
 rw [t128, F_ev rfl]
 simp only [hk, e110, e116, e56, e85, e157x, e158x, List.length_map, j128, b128, q128, ww, simprocAttr]
 repeat' (refine fin_cases (fun h1 => ?_) (fun h1 => ?_) <;> simp only [h1, hk, e110, e116, e56, e85, e157x, e158x, List.length_map, j128, b128, q128, ww, simprocAttr])
 all_goals (simp_all [okM, restM, whoseB])
theorem e128 (N d : Nat) (m : Mg) (ha : m.pa.length < 1000) (hb : m.td.length < 1000) : TT (N + 3000) (d + 8) 128 [aM m] = some (.tup [aM (restM m), bV (okM m)], []) := by
 by_cases h1 : m.k = 1
 ·exact e128_1 N d m ha hb h1
 by_cases h5 : m.k = 5
 ·exact e128_5 N d m ha hb h5
 by_cases h6 : m.k = 6
 ·exact e128_6 N d m ha hb h6
 by_cases h2 : m.k = 2
 ·exact e128_2 N d m ha hb h2
 by_cases h3 : m.k = 3
 ·exact e128_3 N d m ha hb h3
 by_cases h4 : m.k = 4
 ·exact e128_4 N d m ha hb h4
 by_cases h7 : m.k = 7
 ·exact e128_7 N d m ha hb h7
 by_cases h8 : m.k = 8
 ·exact e128_8 N d m ha hb h8
 by_cases h9 : m.k = 9
 ·exact e128_9 N d m ha hb h9
 by_cases h10 : m.k = 10
 ·exact e128_10 N d m ha hb h10
 by_cases h11 : m.k = 11
 ·exact e128_11 N d m ha hb h11
 by_cases h12 : m.k = 12
 ·exact e128_12 N d m ha hb h12
 by_cases h13 : m.k = 13
 ·exact e128_13 N d m ha hb h13
 have g : ∀ j : Int, True := fun _ => trivial
 rw [t128, F_ev rfl]
 simp only [decide_eq_false h1, decide_eq_false h5, decide_eq_false h6, decide_eq_false h2, decide_eq_false h3, decide_eq_false h4, decide_eq_false h7, decide_eq_false h8, decide_eq_false h9, decide_eq_false h10, decide_eq_false h11, decide_eq_false h12, decide_eq_false h13, j128, b128, q128, ww, simprocAttr]
 simp_all [okM, restM, whoseB]
end Go.Proofs.YtdflglehippoiaaGreatDoor.MA
namespace Go.Proofs.YtdflglehippoiaaGreatDoor.MA
open Go Go.Proofs.YtdflglehippoiaaGreatDoorR IG
set_option maxRecDepth 100000
set_option maxHeartbeats 4000000
def knownB (m : Mg) : Bool := endsB m && if m.k = 1 then decide (m.ti = 0) && decide (m.tp = 0) else inB m.ti 1 1073741824 && inB m.tp 0 3
def bareB (r : Mg) : Bool := decide (r.e = 0) && decide (r.s = 0) && decide (r.l = 0) && decide (r.v = 0) && decide (r.nd = 0) && decide (r.ic = 0) && decide (r.c = 0) && decide (r.h = 0) && r.pa.isEmpty && r.td.isEmpty
def msgOK (m : Mg) : Bool := okM m && knownB m && bareB (restM m)
theorem lenpos {l : List Int} : decide ((0 : Int) < (l.length : Int)) = !l.isEmpty := by cases l <;> simp
theorem e79 (N d : Nat) (m : Mg) (ha : m.pa.length < 1000) (hb : m.td.length < 1000) : TT (N + 3000) (d + 9) 79 [aM m] = some (iV (if msgOK m then 0 else 5), []) := by
 have h59 := fun d => e128 N d m ha hb
 rw [t79, F_ev rfl]
 simp only [h59, e129, e116, e110, lenpos, List.length_map, j79, b79, q79, ww, simprocAttr]
 repeat' (refine fin_cases (fun h1 => ?_) (fun h1 => ?_) <;> simp only [h1, h59, e129, e116, e110, lenpos, List.length_map, j79, b79, q79, ww, simprocAttr])
 all_goals (clear h59; simp_all [msgOK, knownB, bareB])
end Go.Proofs.YtdflglehippoiaaGreatDoor.MA
namespace Go.Proofs.YtdflglehippoiaaGreatDoor.GA
open Go Go.Proofs.YtdflglehippoiaaGreatDoorR IG
open QA (Ev eE aE rE epOK evOK qOK putE n01)
open AA (It eT aT rT wi takeT allT ahOK)
open EC (Cf eC okC)
open FA (Sm eS aS s0 smL flowC rightB heavyB heavy_t)
open KA (Kd eK aK rK nr okT okN kOK inB gap takeK all3)
set_option maxRecDepth 100000
set_option maxHeartbeats 4000000
end Go.Proofs.YtdflglehippoiaaGreatDoor.GA
namespace Go.Proofs.YtdflglehippoiaaGreatDoor.GA
open Go Go.Proofs.YtdflglehippoiaaGreatDoorR IG
open QA (Ev eE aE rE epOK evOK qOK putE n01)
open AA (It eT aT rT wi takeT allT ahOK)
open EC (Cf eC okC)
open FA (Sm eS aS s0 smL flowC rightB heavyB heavy_t)
open KA (Kd eK aK rK nr okT okN kOK inB gap takeK all3)
set_option maxRecDepth 100000
set_option maxHeartbeats 4000000
end Go.Proofs.YtdflglehippoiaaGreatDoor.GA
namespace Go.Proofs.YtdflglehippoiaaGreatDoor.GA
open Go Go.Proofs.YtdflglehippoiaaGreatDoorR IG
open QA (Ev eE aE rE epOK evOK qOK putE n01)
open AA (It eT aT rT wi takeT allT ahOK)
open EC (Cf eC okC)
open FA (Sm eS aS s0 smL flowC rightB heavyB heavy_t flow_t flow_of right_t q_t kpOK kRow umodF toldS toldP)
open KA (Kd eK aK rK nr okT okN kOK inB gap takeK all3 askP askT askR askS askQ hasN drp)
open MA (Mg eM aM msgOK)
set_option maxRecDepth 100000
set_option maxHeartbeats 4000000
def mx3 (a b c : Int) : Int := if c > (if b > a then b else a) then c else (if b > a then b else a)
def ackG (c : Cf) (t self : Int) (x : Tp) (n : Int) (m : Mg) : Tp :=
 if x.a = IntKind.i64.wrap (n + 1) ∧ x.r = 0 ∧ pthC t self m.pa c.d = 0 then ⟨x.m, x.b, mx3 x.t m.l m.e, x.r, IntKind.i64.wrap (n + 1), x.a, x.o, 0, m.pa, x.ks, if epOK m.e = true then toldS x.s m.e m.s else x.s, x.q⟩ else x
def ackP (c : Cf) (t self : Int) (x : Tp) (n : Int) (m : Mg) : Tp × Int :=
 if grC c t self x = 0 then (if msgOK m = true ∧ m.k = 3 ∧ m.tp = t ∧ m.f = n then (ackG c t self x n m, 0) else (x0, 1)) else (x0, grC c t self x)
theorem okM_seq {m : Mg} (h : msgOK m = true) (hk : m.k = 3) : 1 ≤ m.s ∧ m.s ≤ 1073741824 ∧ 0 ≤ m.e ∧ m.e ≤ 1073741824 ∧ 0 ≤ m.l ∧ m.l ≤ 1073741824 ∧ 0 ≤ m.f ∧ m.f ≤ 7 ∧ ∃ r, m.pa = m.f :: r := by
 unfold msgOK MA.knownB MA.endsB at h
 simp only [Bool.and_eq_true] at h
 have h1 := h.1.1
 unfold MA.okM at h1
 rw [hk] at h1
 simp [MA.inB] at h1
 have h2 := h.1.2.1.1.1.1
 simp [MA.inB] at h2
 refine ⟨by omega, by omega, by omega, by omega, by omega, by omega, h2.1, h2.2, ?_⟩
 have h3 := h1.1.1.2
 have h4 := h1.2
 cases hp : m.pa with
 | nil => exact absurd hp h3
 | cons y r =>
  rw [hp] at h4
  exact ⟨r, by rw [← show y = m.f from h4]⟩
theorem flow_nil {c : Cf} {s : Sm} {q : List Ev} (h : flowC c s q = 0) : flowC c s [] = 0 := by
 obtain ⟨k1, k2, k3⟩ := flow_t h
 have k4 := q_t k3
 refine flow_of k1 k2 ?_
 simp [qOK]
 omega
theorem told_ok {c : Cf} {s : Sm} {q : List Ev} {at_ n : Int} (h : flowC c s q = 0) (hn : 1 ≤ n ∧ n ≤ 1073741824) : toldP c s at_ n = if epOK at_ = true then (toldS s at_ n, 0) else (s0, 1) := by
 have h2 : QA.inB n 1 1073741824 = true := by simp [QA.inB]; omega
 unfold toldP
 rw [if_pos (flow_nil h), h2, Bool.and_true]
theorem e33 (N d : Nat) (hN : 1000 ≤ N) (c : Cf) (t self : Int) (x : Tp) (n : Int) (m : Mg) (hx : smX x) (ha : m.pa.length < 1000) (hb : m.td.length < 1000) : TT (N + 3000) (d + 14) 33 [.agg (eC c), iV t, iV self, aX x, iV n, aM m] = some (.tup [aX (ackP c t self x n m).1, iV (ackP c t self x n m).2], []) := by
 have h1 := fun d => e18 (N + 3000) d (by omega) c t self x hx
 have h2 := fun d => e50 (N + 3000) d x hx
 have h3 := fun d => MA.e79 N d m ha hb
 have h4 := fun d => e31 (N + 3000) d t self m.pa c.d (by omega) (by omega)
 have h5 := fun d => e80 (N + 3000) d m.pa (by omega)
 have h6 := fun d => FA.e81 (N + 3000) d (by omega) c x.s m.e m.s hx.2.2.1
 have h00 : decide ((0 : Int) = 0) = true := rfl
 have h50 : decide ((5 : Int) = 0) = false := rfl
 rw [t33, F_ev rfl]
 unfold ackP
 by_cases g0 : grC c t self x = 0
 rotate_left
 ·rw [if_neg g0]
  have g0' : decide (grC c t self x = 0) = false := decide_eq_false g0
  simp only [h1, g0', j33, b33, q33, ww, simprocAttr]
  try rfl
 rw [if_pos g0]
 rw [g0] at h1
 cases g1 : msgOK m with
 | false =>
  rw [g1] at h3
  rw [if_neg (by simp)]
  simp only [h1, h3, h00, h50, j33, b33, q33, ww, simprocAttr]
  try rfl
 | true =>
 rw [g1] at h3
 by_cases g2 : m.k = 3
 rotate_left
 ·rw [if_neg (fun h => g2 h.2.1)]
  simp only [h1, h3, h00, decide_eq_false g2, j33, b33, q33, ww, simprocAttr]
  try rfl
 by_cases g3 : m.tp = t
 rotate_left
 ·rw [if_neg (fun h => g3 h.2.2.1)]
  simp only [h1, h3, h00, decide_eq_true g2, decide_eq_false g3, j33, b33, q33, ww, simprocAttr]
  try rfl
 by_cases g4 : m.f = n
 rotate_left
 ·rw [if_neg (fun h => g4 h.2.2.2)]
  simp only [h1, h3, h00, decide_eq_true g2, decide_eq_true g3, decide_eq_false g4, j33, b33, q33, ww, simprocAttr]
  try rfl
 rw [if_pos ⟨rfl, g2, g3, g4⟩]
 obtain ⟨k1, k2, k3, k4, k5, k6, k7, k8, k9, k10, k11⟩ := gr_t g0
 have hs := okM_seq g1 g2
 rw [told_ok k11 ⟨hs.1, hs.2.1⟩] at h6
 unfold ackG
 by_cases g5 : x.a = IntKind.i64.wrap (n + 1)
 rotate_left
 ·rw [if_neg (fun h => g5 h.1)]
  simp only [h1, h2, h3, h00, decide_eq_true g2, decide_eq_true g3, decide_eq_true g4, decide_eq_false g5, j33, b33, q33, ww, simprocAttr]
  try rfl
 by_cases g6 : x.r = 0
 rotate_left
 ·rw [if_neg (fun h => g6 h.2.1)]
  simp only [h1, h2, h3, h00, decide_eq_true g2, decide_eq_true g3, decide_eq_true g4, decide_eq_true g5, decide_eq_false g6, j33, b33, q33, ww, simprocAttr]
  try rfl
 by_cases g7 : pthC t self m.pa c.d = 0
 rotate_left
 ·rw [if_neg (fun h => g7 h.2.2)]
  simp only [h1, h2, h3, h4, h00, decide_eq_true g2, decide_eq_true g3, decide_eq_true g4, decide_eq_true g5, decide_eq_true g6, decide_eq_false g7, j33, b33, q33, ww, simprocAttr]
  try rfl
 rw [if_pos ⟨g5, g6, g7⟩]
 cases g8 : epOK m.e with
 | false =>
  rw [g8] at h6
  simp only [h1, h2, h3, h4, h5, h6, h00, takeI, decide_eq_true g2, decide_eq_true g3, decide_eq_true g4, decide_eq_true g5, decide_eq_true g6, decide_eq_true g7, List.length_map, j33, b33, q33, ww, simprocAttr]
  try rfl
 | true =>
  rw [g8, if_pos rfl] at h6
  rw [if_pos rfl]
  simp only [h1, h2, h3, h4, h5, h6, h00, takeI, decide_eq_true g2, decide_eq_true g3, decide_eq_true g4, decide_eq_true g5, decide_eq_true g6, decide_eq_true g7, List.length_map, j33, b33, q33, ww, simprocAttr]
  try rfl
end Go.Proofs.YtdflglehippoiaaGreatDoor.GA
namespace Go.Proofs.YtdflglehippoiaaGreatDoor.GA
open Go Go.Proofs.YtdflglehippoiaaGreatDoorR IG
open QA (Ev eE aE rE epOK evOK qOK putE n01)
open AA (It eT aT rT wi takeT allT ahOK)
open EC (Cf eC okC)
open FA (Sm eS aS s0 smL flowC rightB heavyB heavy_t)
open KA (Kd eK aK rK nr okT okN kOK inB gap takeK all3)
set_option maxRecDepth 100000
set_option maxHeartbeats 4000000
end Go.Proofs.YtdflglehippoiaaGreatDoor.GA
namespace Go.Proofs.YtdflglehippoiaaGreatDoor.GA
open Go Go.Proofs.YtdflglehippoiaaGreatDoorR IG
open QA (Ev eE aE rE epOK evOK qOK putE n01)
open AA (It eT aT rT wi takeT allT ahOK)
open EC (Cf eC okC)
open FA (Sm eS aS s0 smL flowC rightB heavyB heavy_t)
open KA (Kd eK aK rK nr okT okN kOK inB gap takeK all3)
set_option maxRecDepth 100000
set_option maxHeartbeats 4000000
end Go.Proofs.YtdflglehippoiaaGreatDoor.GA
namespace Go.Proofs.YtdflglehippoiaaGreatDoor.EC
open Go Go.Proofs.YtdflglehippoiaaGreatDoorR IG EA
set_option maxRecDepth 100000
set_option maxHeartbeats 4000000
def inB (n lo hi : Int) : Bool := decide (lo ≤ n) && decide (n ≤ hi)
end Go.Proofs.YtdflglehippoiaaGreatDoor.EC
namespace Go.Proofs.YtdflglehippoiaaGreatDoor.GA
open Go Go.Proofs.YtdflglehippoiaaGreatDoorR IG
open QA (Ev eE aE rE epOK evOK qOK putE n01)
open AA (It eT aT rT wi takeT allT ahOK)
open EC (Cf eC okC)
open FA (Sm eS aS s0 smL flowC rightB heavyB heavy_t itemP itemG fA gA flow_t flow_of right_t q_t kpOK kRow umodF)
open KA (Kd eK aK rK nr okT okN kOK inB gap takeK all3)
set_option maxRecDepth 100000
set_option maxHeartbeats 4000000
end Go.Proofs.YtdflglehippoiaaGreatDoor.GA
namespace Go.Proofs.YtdflglehippoiaaGreatDoor.MA
open Go Go.Proofs.YtdflglehippoiaaGreatDoorR IG
set_option maxRecDepth 100000
set_option maxHeartbeats 4000000
end Go.Proofs.YtdflglehippoiaaGreatDoor.MA
namespace Go.Proofs.YtdflglehippoiaaGreatDoor.MA
open Go Go.Proofs.YtdflglehippoiaaGreatDoorR IG
set_option maxRecDepth 100000
set_option maxHeartbeats 4000000
end Go.Proofs.YtdflglehippoiaaGreatDoor.MA
namespace Go.Proofs.YtdflglehippoiaaGreatDoor.MA
open Go Go.Proofs.YtdflglehippoiaaGreatDoorR IG
set_option maxRecDepth 100000
set_option maxHeartbeats 4000000
def heavyB (m : Mg) : Bool := decide ((30 : Int) < (m.pa.length : Int)) || decide ((30 : Int) < (m.td.length : Int))
end Go.Proofs.YtdflglehippoiaaGreatDoor.MA
namespace Go.Proofs.YtdflglehippoiaaGreatDoor.GA
open Go Go.Proofs.YtdflglehippoiaaGreatDoorR IG
open QA (Ev eE aE rE epOK evOK qOK putE n01)
open AA (It eT aT rT wi takeT allT ahOK)
open EC (Cf eC okC)
open FA (Sm eS aS s0 smL flowC rightB heavyB heavy_t flow_t flow_of right_t q_t kpOK kRow umodF toldS toldP)
open KA (Kd eK aK rK nr okT okN kOK inB gap takeK all3 askP askT askR askS askQ hasN drp)
open MA (Mg eM aM msgOK)
set_option maxRecDepth 100000
set_option maxHeartbeats 8000000
theorem w19 : TT 4000 19 29 [] = some (bV true, []) := by kernel_rfl
theorem z00 : decide ((0 : Int) = 0) = true := rfl
end Go.Proofs.YtdflglehippoiaaGreatDoor.GA
namespace Go.Proofs.YtdflglehippoiaaGreatDoor.KA
open Go Go.Proofs.YtdflglehippoiaaGreatDoorR IG
set_option maxRecDepth 100000
set_option maxHeartbeats 4000000
theorem askP_len (t self limit : Int) (l : List Kd) (n inc : Int) : (askP t self limit l n inc).1.length ≤ l.length + 1 := by
 unfold askP
 split
 ·simp
 ·unfold askT
  split
  ·simp
  ·split
   ·simp [insP_len]
   ·split
    ·simp
    ·split
     ·simp
     ·simp [insP_len]
end Go.Proofs.YtdflglehippoiaaGreatDoor.KA
namespace Go.Proofs.YtdflglehippoiaaGreatDoor.KA
open Go Go.Proofs.YtdflglehippoiaaGreatDoorR IG
set_option maxRecDepth 100000
set_option maxHeartbeats 4000000
end Go.Proofs.YtdflglehippoiaaGreatDoor.KA
namespace Go.Proofs.YtdflglehippoiaaGreatDoor.KA
open Go Go.Proofs.YtdflglehippoiaaGreatDoorR IG
set_option maxRecDepth 100000
set_option maxHeartbeats 4000000
end Go.Proofs.YtdflglehippoiaaGreatDoor.KA
namespace Go.Proofs.YtdflglehippoiaaGreatDoor.KA
open Go Go.Proofs.YtdflglehippoiaaGreatDoorR IG
set_option maxRecDepth 100000
set_option maxHeartbeats 4000000
end Go.Proofs.YtdflglehippoiaaGreatDoor.KA
namespace Go.Proofs.YtdflglehippoiaaGreatDoor.KA
open Go Go.Proofs.YtdflglehippoiaaGreatDoorR IG
set_option maxRecDepth 100000
set_option maxHeartbeats 4000000
def ad (t n : Int) (l : List Kd) : List Kd := if hasN l n then l else insP t ⟨n, 2, 0⟩ l
structure Good (t s : Int) (l : List Kd) : Prop where
 ch : chn t s l = true
 eq : ∀ y ∈ l, y = ⟨y.n, 2, 0⟩
end Go.Proofs.YtdflglehippoiaaGreatDoor.KA
namespace Go.Proofs.YtdflglehippoiaaGreatDoor.KA
open Go Go.Proofs.YtdflglehippoiaaGreatDoorR IG
set_option maxRecDepth 100000
set_option maxHeartbeats 4000000
end Go.Proofs.YtdflglehippoiaaGreatDoor.KA
namespace Go.Proofs.YtdflglehippoiaaGreatDoor.KA
open Go Go.Proofs.YtdflglehippoiaaGreatDoorR IG
set_option maxRecDepth 100000
set_option maxHeartbeats 4000000
structure Cap (t s c : Int) (asked : Int → Bool) (l : List Kd) : Prop where
 ok : kOK t s c l = true
 sub : ∀ y ∈ l, asked y.n = true
 near : ∀ m, asked m = true → nr t s m = true → ∃ y r, l = y :: r ∧ (y.n = m ∨ nr t y.n m = true)
end Go.Proofs.YtdflglehippoiaaGreatDoor.KA
namespace Go.Proofs.YtdflglehippoiaaGreatDoor.GA
open Go Go.Proofs.YtdflglehippoiaaGreatDoorR IG
open QA (Ev eE aE rE epOK evOK qOK putE n01)
open AA (It eT aT rT wi takeT allT ahOK)
open EC (Cf eC okC)
open FA (Sm eS aS s0 smL flowC rightB heavyB heavy_t flow_t flow_of right_t q_t kpOK kRow umodF toldS toldP)
open KA (Kd eK aK rK nr okT okN kOK inB gap takeK all3 askP askT askR askS askQ hasN drp)
open MA (Mg eM aM msgOK)
set_option maxRecDepth 100000
set_option maxHeartbeats 4000000
theorem rtd_of {self : Int} {x : Tp} (h : x.r = 0 ∨ (epOK x.r = true ∧ x.r.tmod 16 = self ∧ x.r ≤ x.t ∧ x.p = 0 ∧ x.s.e = x.r)) : rtd self x = true := by
 unfold rtd
 simp only [Bool.or_eq_true, Bool.and_eq_true, decide_eq_true_eq]
 exact h
structure Gd (c : Cf) (t u : Int) (x y : Tp) : Prop where
 r : grC c t u y = 0
 t : x.t ≤ y.t
 e : x.s.e ≤ y.s.e
 ro : y.r = x.r
theorem lnk_of {t self n : Int} (h : nr t n self = true) : lnk t self (IntKind.i64.wrap (n + 1)) = true := by
 have hb := KA.okN_b (KA.nr_t h).2.1
 rw [IntWalk.i64_in _ (by omega)]
 unfold lnk
 rw [decide_eq_true (show n + 1 > 0 by omega), IntWalk.i64_in _ (by omega), show n + 1 - 1 = n by omega, h]
 simp
end Go.Proofs.YtdflglehippoiaaGreatDoor.GA
namespace Go.Proofs.YtdflglehippoiaaGreatDoor.GA
open Go Go.Proofs.YtdflglehippoiaaGreatDoorR IG
open QA (Ev eE aE rE epOK evOK qOK putE n01)
open AA (It eT aT rT wi takeT allT ahOK)
open EC (Cf eC okC)
open FA (Sm eS aS s0 smL flowC rightB heavyB heavy_t flow_t flow_of right_t q_t kpOK kRow umodF toldS toldP)
open KA (Kd eK aK rK nr okT okN kOK inB gap takeK all3 askP askT askR askS askQ hasN drp)
open MA (Mg eM aM msgOK)
set_option maxRecDepth 100000
set_option maxHeartbeats 8000000
def chL (t : Int) : List Int := if t ≤ 1 then [1, 7, 0, 3, 4, 2, 6, 5] else [2, 6, 5, 1, 7, 0, 3, 4]
def ch (t : Int) (i : Nat) : Int := (chL t).getD i 0
def pthD (t : Int) (i : Nat) : List Int := ((chL t).take i).reverse
theorem chL_len (t : Int) : (chL t).length = 8 := by unfold chL; split <;> rfl
theorem ch_get {t : Int} {i : Nat} (h : i < 8) : ((chL t).map eI)[i]? = some (eI (ch t i)) := by
 rw [List.getElem?_map, List.getElem?_eq_getElem (by rw [chL_len]; exact h)]
 unfold ch
 rw [List.getD_eq_getElem?_getD, List.getElem?_eq_getElem (by rw [chL_len]; exact h)]
 rfl
theorem e35 {t : Int} (h : okT t = true) : ans (TT 4000 19 35 [iV t]) = some (.one (rI (chL t))) :=
 KA.four (P := fun t => ans (TT 4000 19 35 [iV t]) = some (.one (rI (chL t)))) (by kernel_rfl) (by kernel_rfl) (by kernel_rfl) (by kernel_rfl) h
theorem chk1 : ((List.range 4).all fun (t : Nat) => (List.range 8).all fun (i : Nat) => okN (ch t i) && (risP t (ch t i) (pthD t i) && ((pthD t i).all okN && (decide ((pthD t i).length = i) && (MA.wayB (pthD t (i + 1)) && (decide (pthD t (i + 1) = ch t i :: pthD t i) && (List.range 8).all fun (k : Nat) => nr t (ch t i) (ch t k) == decide (i < k))))))) = true := by decide +kernel
theorem chk {t : Int} {i : Nat} (ht : okT t = true) (hi : i < 8) : okN (ch t i) = true ∧ risP t (ch t i) (pthD t i) = true ∧ (pthD t i).all okN = true ∧ (pthD t i).length = i ∧ MA.wayB (pthD t (i + 1)) = true ∧ pthD t (i + 1) = ch t i :: pthD t i ∧ ∀ k, k < 8 → nr t (ch t i) (ch t k) = decide (i < k) := by
 have hb := KA.inB_t ht
 obtain ⟨n, rfl⟩ : ∃ n : Nat, t = (n : Int) := ⟨t.toNat, by omega⟩
 have h1 := List.all_eq_true.1 chk1 n (List.mem_range.2 (by omega))
 have h2 := List.all_eq_true.1 h1 i (List.mem_range.2 hi)
 simp only [Bool.and_eq_true, decide_eq_true_eq] at h2
 obtain ⟨a, b, c, d, e, f, g⟩ := h2
 exact ⟨a, b, c, d, e, f, fun k hk => by have := List.all_eq_true.1 g k (List.mem_range.2 hk); simpa using this⟩
theorem full4 (d : Nat) : TT 4000 (d + 1) 23 [] = some (.agg (eC ⟨8, 4, 2, 8, 8, 8, 16⟩), []) := by kernel_rfl
theorem gr_pl {k d t self : Int} {x : Tp} (hk : 1 ≤ k ∧ k ≤ 4) (hd : 1 ≤ d ∧ d ≤ 8) (ht : okT t = true) (hs : okN self = true) (h1 : 0 ≤ x.t ∧ x.t ≤ 1073741824) (h2 : x.g = 0) (h3 : lnk t self x.p = true) (h4 : lnk t self x.a = true) (h5 : x.o = 0) (h6 : rtd self x = true) (h7 : plc x = true) (h8 : pthC t self x.pa d = 0) (h9 : kOK t self k x.ks = true) (h10 : rightB ⟨8, 4, k, d, 8, 8, 16⟩ x.s = true) (h11 : x.q = []) : grC ⟨8, 4, k, d, 8, 8, 16⟩ t self x = 0 := by
 have hb := KA.inB_t ht
 have hn := KA.okN_b hs
 have hc : okC ⟨8, 4, k, d, 8, 8, 16⟩ = true := by simp [okC]; omega
 have hf : flowC ⟨8, 4, k, d, 8, 8, 16⟩ x.s x.q = 0 := flow_of hc h10 (by rw [h11]; show qOK [] 16 = true; decide)
 have h12 : rgtB ⟨8, 4, k, d, 8, 8, 16⟩ t self x = true := by
  simp only [rgtB, Bool.and_eq_true, decide_eq_true_eq]
  exact ⟨h1.1, h1.2, by omega, by omega, h3, h4, by rw [h5]; rfl, h6, h7, h8, h9, hf⟩
 unfold grC
 rw [if_pos hc, if_pos]
 simp only [Bool.and_eq_true, decide_eq_true_eq]
 exact ⟨hb.1, by show t < 4; omega, hn.1, by show self < 8; omega, h12⟩
end Go.Proofs.YtdflglehippoiaaGreatDoor.GA
set_option maxRecDepth 100000
namespace Go.Proofs.YtdflglehippoiaaGreatDoor.LJ
open Go Go.Proofs.YtdflglehippoiaaGreatDoorR
def j8 : C := (.seq (.region [nO 6 (.mov (.c (.bool false)))] false)
 (.seq (.region [nO 20 (.mov (.t 0)),
  nO 21 (.conv .u64 (.t 20)),
  nO 22 (.bin .rem (.t 21) (.c (.int .u64 4))),
  nO 23 (.conv .i64 (.t 22)),
  nO 24 (.mov (.t 1)),
  nO 25 (.conv .u64 (.t 24)),
  nO 26 (.bin .rem (.t 25) (.c (.int .u64 8))),
  nO 27 (.conv .i64 (.t 26)),
  nO 28 (.bin .add (.c (.int .i64 1)) (.t 27)),
  nO 29 (.mov (.t 2)),
  nO 30 (.conv .u64 (.t 29)),
  nO 31 (.bin .rem (.t 30) (.c (.int .u64 7))),
  nO 32 (.conv .i64 (.t 31)),
  nO 33 (.bin .add (.c (.int .i64 1)) (.t 32)),
  nO 0 (.mov (.t 23)),
  nO 1 (.mov (.t 28)),
  nO 2 (.mov (.t 33))] false)
 (.seq (.region [nO 34 (.call false 23 []),
  nO 7 (.alloc [.int .i64 0, .int .i64 0, .int .i64 0, .int .i64 0, .int .i64 0, .int .i64 0, .int .i64 0]),
  ⟨none, .store none 7 (.t 7) (.t 34), none, [], []⟩] false)
 (.seq (.region [nO 35 (.mov (.t 1)),
  nO 36 (.fad 3 (.t 7)),
  ⟨none, .store none 1 (.t 36) (.t 35), none, [], []⟩] false)
 (.seq (.region [nO 37 (.mov (.t 0)),
  nO 38 (.call false 35 [(.t 37)]),
  nO 8 (.mov (.t 38))] false)
 (.seq (.seq (.region [nO 39 (.mov (.t 8)),
  nO 40 (.len (.t 39)),
  nO 41 (.bin .neq (.t 40) (.c (.int .i64 8)))] false)
 (.cond (.t 41) (.seq (.region [nO 6 (.mov (.c (.bool false)))] false)
 .ret) .skip))
 (.seq (.region [nO 42 (.mov (.t 8)),
  nO 43 (.iad 1 (.t 42) (.c (.int .i64 0))),
  nO 44 (.load false 1 (.t 43)),
  nO 45 (.bin .add (.c (.int .i64 16)) (.t 44)),
  nO 9 (.mov (.t 45))] false)
 (.seq (.region [nO 46 (.mov (.t 9)),
  nO 47 (.mov (.t 9)),
  nO 48 (.mov (.t 9)),
  nO 49 (.build [.int .i64 0, .int .i64 0, .int .i64 0, .row [], .row []] [(0, 1, (.t 48)), (1, 1, (.c (.int .i64 5))), (2, 1, (.c (.int .i64 5)))]),
  nO 50 (.build [.bool false, .bool false, .int .i64 0, .int .i64 0, .int .i64 0, .int .i64 0, .int .i64 0, .int .i64 0, .row [], .row [], .int .i64 0, .int .i64 0, .int .i64 0, .row [], .row [], .row []] [(3, 1, (.t 46)), (2, 1, (.t 47)), (10, 5, (.t 49))]),
  nO 10 (.alloc [.bool false, .bool false, .int .i64 0, .int .i64 0, .int .i64 0, .int .i64 0, .int .i64 0, .int .i64 0, .row [], .row [], .int .i64 0, .int .i64 0, .int .i64 0, .row [], .row [], .row []]),
  ⟨none, .store none 16 (.t 10) (.t 50), none, [], []⟩] false)
 (.seq (.seq (.region [nO 11 (.mov (.c (.int .i64 0)))] false)
 (.block 0 (.loop (.keep [0, 1, 2, 7, 8, 9, 10, 11] (.seq (.seq (.region [nO 51 (.mov (.t 11)),
  nO 52 (.mov (.t 2)),
  nO 53 (.bin .lss (.t 51) (.t 52))] false)
 (.cond (.t 53) .skip (.exit 0)))
 (.seq (.block 1 (.seq (.region [⟨some 56, .mov (.t 8), none, [57, 60, 61, 62, 63, 64], []⟩,
  ⟨some 57, .mov (.t 11), none, [56, 60, 61, 62, 63, 64], []⟩,
  ⟨some 58, .iad 1 (.t 56) (.t 57), none, [60, 61, 62, 63, 64], [0, 1]⟩,
  ⟨some 59, .load false 1 (.t 58), none, [60, 61, 62, 63, 64], [0, 1, 2]⟩,
  ⟨some 60, .mov (.t 8), none, [12, 56, 57, 58, 59, 61, 62], []⟩,
  ⟨some 61, .mov (.t 11), none, [12, 56, 57, 58, 59, 60], []⟩,
  ⟨some 62, .bin .add (.t 61) (.c (.int .i64 1)), none, [12, 56, 57, 58, 59, 60], [5]⟩,
  ⟨some 63, .iad 1 (.t 60) (.t 62), none, [12, 56, 57, 58, 59], [4, 5, 6]⟩,
  ⟨some 64, .load false 1 (.t 63), none, [12, 56, 57, 58, 59], [4, 5, 6, 7]⟩,
  ⟨some 12, .mov (.t 59), none, [60, 61, 62, 63, 64], [0, 1, 2, 3]⟩,
  ⟨some 13, .mov (.t 64), none, [], [0, 1, 2, 3, 4, 5, 6, 7, 8, 9]⟩] true)
 (.seq (.region [nO 66 (.load true 7 (.t 7)),
  nO 67 (.mov (.t 0)),
  nO 68 (.mov (.t 12)),
  nO 69 (.load true 16 (.t 10)),
  nO 70 (.mov (.t 13)),
  nO 71 (.call false 27 [(.t 66), (.t 67), (.t 68), (.t 69), (.t 70), (.c (.int .i64 2)), (.c (.int .i64 0))]),
  nO 65 (.mov (.t 71)),
  nO 72 (.ext (.t 65) 0),
  nO 73 (.ext (.t 65) 1),
  nO 74 (.ext (.t 65) 2),
  nO 14 (.alloc [.bool false, .bool false, .int .i64 0, .int .i64 0, .int .i64 0, .int .i64 0, .int .i64 0, .int .i64 0, .row [], .row [], .int .i64 0, .int .i64 0, .int .i64 0, .row [], .row [], .row []]),
  ⟨none, .store none 16 (.t 14) (.t 72), none, [], []⟩,
  nO 15 (.mov (.t 73)),
  nO 16 (.mov (.t 74))] false)
 (.seq (.seq (.region [nO 75 (.mov (.t 16)),
  nO 76 (.bin .neq (.t 75) (.c (.int .i64 0))),
  nO 77 (.mov (.t 76)),
  gO 78 (.mov (.t 15)) 77 false,
  gO 79 (.len (.t 78)) 77 false,
  gO 80 (.bin .neq (.t 79) (.c (.int .i64 1))) 77 false,
  nO 81 (.pick (.t 77) (.c (.bool true)) (.t 80)),
  nO 82 (.mov (.t 81)),
  gO 83 (.mov (.t 15)) 82 false,
  gO 84 (.iad 16 (.t 83) (.c (.int .i64 0))) 82 false,
  gO 85 (.fad 3 (.t 84)) 82 false,
  gO 86 (.load false 1 (.t 85)) 82 false,
  gO 87 (.mov (.t 13)) 82 false,
  gO 88 (.bin .neq (.t 86) (.t 87)) 82 false,
  nO 89 (.pick (.t 82) (.c (.bool true)) (.t 88))] false)
 (.cond (.t 89) (.seq (.region [nO 6 (.mov (.c (.bool false)))] false)
 .ret) .skip))
 (.seq (.seq (.region [nO 90 (.mov (.t 11)),
  nO 91 (.bin .add (.t 90) (.c (.int .i64 1))),
  nO 92 (.mov (.t 1)),
  nO 93 (.bin .gtr (.t 91) (.t 92))] false)
 (.cond (.t 93) (.seq (.region [nO 94 (.mov (.t 15)),
  nO 95 (.iad 16 (.t 94) (.c (.int .i64 0))),
  nO 96 (.fad 0 (.t 95)),
  nO 97 (.load false 1 (.t 96)),
  nO 98 (.bin .eql (.t 97) (.c (.int .i64 5))),
  nO 99 (.mov (.t 98)),
  gO 100 (.fad 9 (.t 14)) 99 true,
  gO 101 (.load false 1 (.t 100)) 99 true,
  gO 102 (.len (.t 101)) 99 true,
  gO 103 (.bin .eql (.t 102) (.c (.int .i64 0))) 99 true,
  nO 104 (.pick (.t 99) (.t 103) (.c (.bool false))),
  nO 105 (.mov (.t 104)),
  gO 106 (.call false 29 []) 105 true,
  nO 107 (.pick (.t 105) (.t 106) (.c (.bool false))),
  nO 6 (.mov (.t 107))] false)
 .ret) .skip))
 (.seq (.region [nO 108 (.mov (.t 15)),
  nO 109 (.iad 16 (.t 108) (.c (.int .i64 0))),
  nO 110 (.load true 16 (.t 109)),
  nO 17 (.alloc [.int .i64 0, .int .i64 0, .int .i64 0, .int .i64 0, .int .i64 0, .int .i64 0, .int .i64 0, .int .i64 0, .int .i64 0, .int .i64 0, .int .i64 0, .int .i64 0, .int .i64 0, .int .i64 0, .row [], .row []]),
  ⟨none, .store none 16 (.t 17) (.t 110), none, [], []⟩] false)
 (.seq (.region [nO 111 (.mov (.t 12)),
  nO 112 (.fad 1 (.t 17)),
  ⟨none, .store none 1 (.t 112) (.t 111), none, [], []⟩,
  nO 113 (.fad 2 (.t 17)),
  ⟨none, .store none 1 (.t 113) (.c (.int .i64 1)), none, [], []⟩,
  nO 114 (.fad 4 (.t 17)),
  ⟨none, .store none 1 (.t 114) (.c (.int .i64 2)), none, [], []⟩] false)
 (.seq (.region [nO 116 (.load true 7 (.t 7)),
  nO 117 (.mov (.t 0)),
  nO 118 (.mov (.t 13)),
  nO 119 (.mov (.t 12)),
  nO 120 (.bin .add (.t 119) (.c (.int .i64 1))),
  nO 121 (.build [.bool false, .bool false, .int .i64 0, .int .i64 0, .int .i64 0, .int .i64 0, .int .i64 0, .int .i64 0, .row [], .row [], .int .i64 0, .int .i64 0, .int .i64 0, .row [], .row [], .row []] [(5, 1, (.t 120))]),
  nO 122 (.mov (.t 12)),
  nO 123 (.load true 16 (.t 17)),
  nO 124 (.call false 33 [(.t 116), (.t 117), (.t 118), (.t 121), (.t 122), (.t 123)]),
  nO 115 (.mov (.t 124)),
  nO 125 (.ext (.t 115) 0),
  nO 126 (.ext (.t 115) 1),
  nO 18 (.alloc [.bool false, .bool false, .int .i64 0, .int .i64 0, .int .i64 0, .int .i64 0, .int .i64 0, .int .i64 0, .row [], .row [], .int .i64 0, .int .i64 0, .int .i64 0, .row [], .row [], .row []]),
  ⟨none, .store none 16 (.t 18) (.t 125), none, [], []⟩,
  nO 19 (.mov (.t 126))] false)
 (.seq (.seq (.region [nO 127 (.mov (.t 19)),
  nO 128 (.bin .neq (.t 127) (.c (.int .i64 0))),
  nO 129 (.mov (.t 128)),
  gO 130 (.fad 0 (.t 17)) 129 false,
  gO 131 (.load false 1 (.t 130)) 129 false,
  gO 132 (.bin .neq (.t 131) (.c (.int .i64 3))) 129 false,
  nO 133 (.pick (.t 129) (.c (.bool true)) (.t 132)),
  nO 134 (.mov (.t 133)),
  gO 135 (.fad 4 (.t 18)) 134 false,
  gO 136 (.load false 1 (.t 135)) 134 false,
  gO 137 (.mov (.t 12)) 134 false,
  gO 138 (.bin .add (.t 137) (.c (.int .i64 1))) 134 false,
  gO 139 (.bin .neq (.t 136) (.t 138)) 134 false,
  nO 140 (.pick (.t 134) (.c (.bool true)) (.t 139)),
  nO 141 (.mov (.t 140)),
  gO 142 (.fad 8 (.t 18)) 141 false,
  gO 143 (.load false 1 (.t 142)) 141 false,
  gO 144 (.len (.t 143)) 141 false,
  gO 145 (.mov (.t 11)) 141 false,
  gO 146 (.bin .add (.t 145) (.c (.int .i64 1))) 141 false,
  gO 147 (.bin .neq (.t 144) (.t 146)) 141 false,
  nO 148 (.pick (.t 141) (.c (.bool true)) (.t 147)),
  nO 149 (.mov (.t 148)),
  gO 150 (.fad 10 (.t 18)) 149 false,
  gO 151 (.fad 0 (.t 150)) 149 false,
  gO 152 (.load false 1 (.t 151)) 149 false,
  gO 153 (.mov (.t 9)) 149 false,
  gO 154 (.bin .neq (.t 152) (.t 153)) 149 false,
  nO 155 (.pick (.t 149) (.c (.bool true)) (.t 154)),
  nO 156 (.mov (.t 155)),
  gO 157 (.fad 10 (.t 18)) 156 false,
  gO 158 (.fad 1 (.t 157)) 156 false,
  gO 159 (.load false 1 (.t 158)) 156 false,
  gO 160 (.bin .neq (.t 159) (.c (.int .i64 5))) 156 false,
  nO 161 (.pick (.t 156) (.c (.bool true)) (.t 160)),
  nO 162 (.mov (.t 161)),
  gO 163 (.fad 2 (.t 18)) 162 false,
  gO 164 (.load false 1 (.t 163)) 162 false,
  gO 165 (.mov (.t 9)) 162 false,
  gO 166 (.bin .neq (.t 164) (.t 165)) 162 false,
  nO 167 (.pick (.t 162) (.c (.bool true)) (.t 166))] false)
 (.cond (.t 167) (.seq (.region [nO 6 (.mov (.c (.bool false)))] false)
 .ret) .skip))
 (.region [nO 168 (.load true 16 (.t 18)),
  ⟨none, .store none 16 (.t 10) (.t 168), none, [], []⟩] false))))))))))
 (.region [nO 54 (.mov (.t 11)),
  nO 55 (.bin .add (.t 54) (.c (.int .i64 1))),
  nO 11 (.mov (.t 55))] false)))))))
 (.seq (.region [nO 169 (.call false 29 []),
  nO 6 (.mov (.t 169))] false)
 .ret))))))))))
def i8 : F := ⟨3, 170, j8, [.t 6]⟩
theorem b8 : i8.body = j8 := rfl
theorem q8 : i8.res = [.t 6] := rfl
theorem c8 : chkF Tryz.prog Tryz.f8 i8 = true := by kernel_rfl
theorem s8 {m : Model} {E : Nat → Model} (hE : ∀ f, Sound Tryz.prog f (E f)) (hm : ∀ args r, m args = some r → ∃ N, i8.ev E N args = some r) : Sound Tryz.prog 8 m := sound_of i8 Tryz.func8 rfl c8 hE hm
def xt : List (Nat × Model) := []
def tb : List (Nat × F) := [(8, i8)]
theorem xt_ok : ∀ p ∈ xt, Sound Tryz.prog p.1 p.2 := all_nil
theorem tb_ok (N : Nat) : ∀ p ∈ tb, ∀ E : Nat → Model, (∀ f, Sound Tryz.prog f (E f)) → Sound Tryz.prog p.1 (p.2.ev E N) := all_cons (fun E hE => s8 hE fun _ _ h => ⟨N, h⟩) (all_nil)
abbrev TT (N : Nat) : Nat → Nat → Model := T1 (IG.TT N) 8 i8 N
theorem TT_ok (N d f : Nat) : Sound Tryz.prog f (TT N d f) := T1_ok (IG.TT_ok N) (fun E hE => s8 hE fun _ _ h => ⟨N, h⟩) d f
theorem t8 (N d : Nat) : TT N (d + 1) 8 = i8.ev (IG.TT N d) N := rfl
end Go.Proofs.YtdflglehippoiaaGreatDoor.LJ
namespace Go.Proofs.YtdflglehippoiaaGreatDoor.GA
open Go Go.Proofs.YtdflglehippoiaaGreatDoorR IG
open QA (Ev eE aE rE epOK evOK qOK putE n01)
open AA (It eT aT rT wi takeT allT ahOK)
open EC (Cf eC okC)
open FA (Sm eS aS s0 smL flowC rightB heavyB heavy_t flow_t flow_of right_t q_t kpOK kRow umodF toldS toldP)
open KA (Kd eK aK rK nr okT okN kOK inB gap takeK all3 askP askT askR askS askQ hasN drp)
open MA (Mg eM aM msgOK)
open LJ (j8 i8 b8 q8)
set_option maxRecDepth 100000
set_option maxHeartbeats 8000000
theorem ask_nil {t n inc : Int} : askR t 2 [] n inc = ([⟨n, inc, 0⟩], 0, 0) := by
 have h := KA.fnl
 unfold askR
 rw [if_neg (by simp [hasN]), if_pos (by simp)]
 rfl
def ep0 (t : Int) : Int := 16 + ch t 0
def xD (t : Int) : Nat → Tp
 | 0 => ⟨false, false, ep0 t, ep0 t, 0, 0, 0, 0, [], [], ⟨ep0 t, 5, 5, [], []⟩, []⟩
 | i + 1 => ⟨false, false, ep0 t, 0, ch t i + 1, ch t i + 1, 0, 0, pthD t (i + 1), [], ⟨ep0 t, 5, 5, [], []⟩, []⟩
theorem ep_ok {t : Int} (h : okT t = true) : epOK (ep0 t) = true ∧ (ep0 t).tmod 16 = ch t 0 ∧ 16 ≤ ep0 t ∧ ep0 t ≤ 100 := by
 refine KA.four (P := fun t => epOK (ep0 t) = true ∧ (ep0 t).tmod 16 = ch t 0 ∧ 16 ≤ ep0 t ∧ ep0 t ≤ 100) ?_ ?_ ?_ ?_ h <;> decide
theorem pth_of {t s d : Int} {l : List Int} (ht : okT t = true) (hs : okN s = true) (hd : 1 ≤ d ∧ d ≤ 8) (ha : l.all okN = true) (hl : (l.length : Int) ≤ d) (hr : risP t s l = true) : pthC t s l d = 0 := by
 have h1 : inB d 1 8 = true := by simp [inB]; omega
 unfold pthC
 rw [ht, hs, h1, ha, if_pos (show (true && true && true && true) = true from rfl), if_neg (by omega), if_pos hr]
theorem lnk_s {t s n : Int} (h : nr t n s = true) : lnk t s (n + 1) = true := by
 have hb := KA.okN_b (KA.nr_t h).2.1
 have := lnk_of h
 rwa [IntWalk.i64_in _ (by omega)] at this
theorem right_5 {c : Cf} {e : Int} (hc : okC c = true) (he : epOK e = true) : rightB c ⟨e, 5, 5, [], []⟩ = true := by
 have := FA.okC_t hc
 refine FA.right_of he (by show (1 : Int) ≤ 5 ∧ (5 : Int) ≤ 1073741824; omega) (Int.le_refl _) (by show (5 : Int) ≤ 1073741824; omega) ?_ ?_
 ·simp [kpOK, QA.inB, kRow]; omega
 ·simp [ahOK, AA.inB, AA.risB]; omega
theorem xD_right {t d : Int} {i : Nat} (ht : okT t = true) (hd : 1 ≤ d ∧ d ≤ 8) (hi : i < 8) (hid : (i : Int) ≤ d) : grC ⟨8, 4, 2, d, 8, 8, 16⟩ t (ch t i) (xD t i) = 0 := by
 obtain ⟨e1, e2, e3, e4⟩ := ep_ok ht
 obtain ⟨c1, c2, c3, c4, c5, c6, c7⟩ := chk ht hi
 have hc : okC ⟨8, 4, 2, d, 8, 8, 16⟩ = true := by simp [okC]; omega
 have hk : ∀ s, okN s = true → kOK t s 2 [] = true := fun s hs => by simp [kOK, ht, hs, inB, KA.chn]
 cases i with
 | zero =>
  refine gr_pl (by omega) hd ht c1 ⟨by show 0 ≤ ep0 t; omega, by show ep0 t ≤ 1073741824; omega⟩ rfl rfl rfl rfl (rtd_of (.inr ⟨e1, e2, Int.le_refl _, rfl, rfl⟩)) rfl (pth_of ht c1 hd rfl (by show (0 : Int) ≤ d; omega) rfl) (hk _ c1) (right_5 hc e1) rfl
 | succ i =>
  obtain ⟨b1, b2, b3, b4, b5, b6, b7⟩ := chk ht (show i < 8 by omega)
  have hn : nr t (ch t i) (ch t (i + 1)) = true := by rw [b7 (i + 1) hi]; simp
  have hbb := KA.okN_b b1
  refine gr_pl (by omega) hd ht c1 ⟨by show 0 ≤ ep0 t; omega, by show ep0 t ≤ 1073741824; omega⟩ rfl (lnk_s hn) (lnk_s hn) rfl (rtd_of (.inl rfl)) ?_ (pth_of ht c1 hd c3 (by show ((pthD t (i + 1)).length : Int) ≤ d; rw [c4]; exact hid) c2) (hk _ c1) (right_5 hc e1) rfl
  unfold plc xD
  dsimp only
  rw [b6]
  simp only [decide_eq_true_eq]
  rw [IntWalk.i64_in _ (by omega)]
theorem xD_sm (t : Int) {i : Nat} (hi : i < 8) (ht : okT t = true) : smX (xD t i) := by
 cases i with
 | zero => simp [xD, smX]
 | succ i =>
  have := (chk ht hi).2.2.2.1
  simp [xD, smX, this]
  omega
theorem xD_f (t : Int) (i : Nat) : (xD t i).t = ep0 t ∧ (xD t i).ks = [] ∧ (xD t i).pa = pthD t i ∧ (xD t i).s = ⟨ep0 t, 5, 5, [], []⟩ := by
 cases i with
 | zero => exact ⟨rfl, rfl, by simp [xD, pthD], rfl⟩
 | succ i => exact ⟨rfl, rfl, rfl, rfl⟩
theorem xD_way {t : Int} {i : Nat} (ht : okT t = true) (hi : i < 8) : hasW (xD t i) = true := by
 have h := (chk ht hi).2.2.2.1
 have he := (ep_ok ht).2.2.1
 unfold hasW
 cases i with
 | zero => rw [show decide ((xD t 0).r = 0) = false from decide_eq_false (by show ¬ ep0 t = 0; omega)]; rfl
 | succ i =>
  rw [show decide (((xD t (i + 1)).pa.length : Int) > 0) = true from decide_eq_true (by show ((pthD t (i + 1)).length : Int) > 0; omega), Bool.or_true]
abbrev mD (t : Int) (i : Nat) : Mg := ⟨3, ch t i, 1, ch t (i + 1), 2, t, ep0 t, 5, ep0 t, 0, 0, 0, 0, 0, ch t i :: pthD t i, []⟩
theorem mD_ok {t : Int} {i : Nat} (ht : okT t = true) (hi : i < 7) : msgOK (mD t i) = true := by
 obtain ⟨c1, c2, c3, c4, c5, c6, c7⟩ := chk ht (show i < 8 by omega)
 obtain ⟨b1, _⟩ := chk ht (show i + 1 < 8 by omega)
 have hn : nr t (ch t i) (ch t (i + 1)) = true := by rw [c7 (i + 1) (by omega)]; simp
 have a := KA.okN_b c1
 have b := KA.okN_b b1
 have e := ep_ok ht
 have tt := KA.inB_t ht
 have hne : ch t i ≠ ch t (i + 1) := fun e => by have := (KA.nr_t hn).2.2.2; rw [e] at this; omega
 rw [c6] at c5
 simp [msgOK, MA.okM, MA.knownB, MA.endsB, MA.bareB, MA.restM, MA.inB, c5]
 omega
theorem jn_deep {t d : Int} {i : Nat} (ht : okT t = true) (hd : 1 ≤ d ∧ d ≤ 8) (hi : i < 7) (hid : (i : Int) ≤ d) : jnP ⟨8, 4, 2, d, 8, 8, 16⟩ t (ch t i) (xD t i) (ch t (i + 1)) 2 0 =
  if ((i + 1 : Nat) : Int) > d then ((askY (xD t i) 0 [], [⟨5, 0, 0, ch t (i + 1), 0, t, 0, 0, 0, 0, 0, 0, 0, 0, [], []⟩]), 0) else ((askY (xD t i) 0 [⟨ch t (i + 1), 2, 0⟩], [⟨3, 0, 0, ch t (i + 1), 0, t, ep0 t, 5, ep0 t, 0, 0, 0, 0, 0, pthD t (i + 1), []⟩]), 0) := by
 obtain ⟨c1, c2, c3, c4, c5, c6, c7⟩ := chk ht (show i < 8 by omega)
 have hn : nr t (ch t i) (ch t (i + 1)) = true := by rw [c7 (i + 1) (by omega)]; simp
 have hg := xD_right ht hd (show i < 8 by omega) hid
 obtain ⟨f1, f2, f3, f4⟩ := xD_f t i
 have he := ep_ok ht
 have hh : hasN [⟨ch t (i + 1), 2, 0⟩] (ch t (i + 1)) = true := by simp [hasN]
 have hdr : drp [⟨ch t (i + 1), 2, 0⟩] (ch t (i + 1)) = [] := by simp [drp]
 unfold jnP
 rw [if_pos hg, if_pos (by decide)]
 unfold jnG
 rw [hn, show inB 2 1 1073741824 = true from by decide, if_pos (show (true && true) = true from rfl), f2]
 dsimp only
 rw [ask_nil]
 dsimp only
 rw [hh, xD_way ht (by omega), if_pos (show (true && true) = true from rfl), hdr, f3, c4, if_neg (show ¬ (0 : Int) > 0 by omega)]
 split
 ·rfl
 ·simp only [List.nil_append, ackM, askY, f1, f3, f4, c6]
  rw [if_neg (show ¬ 0 > ep0 t by omega)]
  rfl
theorem ack_deep {t d : Int} {i : Nat} (ht : okT t = true) (hd : 1 ≤ d ∧ d ≤ 8) (hi : i < 7) (hid : ((i + 1 : Nat) : Int) ≤ d) : ackP ⟨8, 4, 2, d, 8, 8, 16⟩ t (ch t (i + 1)) ⟨false, false, 0, 0, 0, ch t i + 1, 0, 0, [], [], s0, []⟩ (ch t i) ⟨3, ch t i, 1, ch t (i + 1), 2, t, ep0 t, 5, ep0 t, 0, 0, 0, 0, 0, pthD t (i + 1), []⟩ = (xD t (i + 1), 0) := by
 obtain ⟨c1, c2, c3, c4, c5, c6, c7⟩ := chk ht (show i < 8 by omega)
 obtain ⟨b1, b2, b3, b4, b5, b6, b7⟩ := chk ht (show i + 1 < 8 by omega)
 have hn : nr t (ch t i) (ch t (i + 1)) = true := by rw [c7 (i + 1) (by omega)]; simp
 have he := ep_ok ht
 have hcb := KA.okN_b c1
 have hm := mD_ok ht hi
 rw [show mD t i = ⟨3, ch t i, 1, ch t (i + 1), 2, t, ep0 t, 5, ep0 t, 0, 0, 0, 0, 0, pthD t (i + 1), []⟩ by rw [c6]] at hm
 have hw : IntKind.i64.wrap (ch t i + 1) = ch t i + 1 := IntWalk.i64_in _ (by omega)
 have hk : kOK t (ch t (i + 1)) 2 [] = true := by simp [kOK, ht, b1, inB, KA.chn]
 have hg : grC ⟨8, 4, 2, d, 8, 8, 16⟩ t (ch t (i + 1)) ⟨false, false, 0, 0, 0, ch t i + 1, 0, 0, [], [], s0, []⟩ = 0 :=
  gr_pl (by omega) hd ht b1 (by show (0 : Int) ≤ 0 ∧ (0 : Int) ≤ 1073741824; omega) rfl rfl (lnk_s hn) rfl (rtd_of (.inl rfl)) rfl (pth_of ht b1 hd rfl (by show (0 : Int) ≤ d; omega) rfl) hk (by simp [rightB, FA.zeroB]) rfl
 unfold ackP
 rw [if_pos hg, if_pos ⟨hm, rfl, rfl, rfl⟩]
 unfold ackG
 have hp : pthC t (ch t (i + 1)) (pthD t (i + 1)) d = 0 := pth_of ht b1 hd b3 (by rw [b4]; exact hid) b2
 rw [if_pos ⟨hw.symm, rfl, hp⟩, hw]
 dsimp only
 rw [he.1, if_pos rfl]
 have h1 : mx3 0 (ep0 t) (ep0 t) = ep0 t := by
  unfold mx3
  rw [if_pos (show ep0 t > 0 by omega), if_neg (by omega)]
 have h2 : toldS s0 (ep0 t) 5 = ⟨ep0 t, 5, 5, [], []⟩ := by
  unfold toldS
  rw [if_pos (show ep0 t > (0 : Int) by omega)]
 rw [h1, h2]
 rfl
theorem e8 (t0 d0 n0 : Int) : LJ.TT 4000 20 8 [iV t0, iV d0, iV n0] = some (bV true, []) := by
 rw [LJ.t8, F_ev rfl]
 obtain ⟨m1, m2⟩ := umodF t0 4 (by omega) (by omega)
 obtain ⟨m3, m4⟩ := umodF d0 8 (by omega) (by omega)
 obtain ⟨m5, m6⟩ := umodF n0 7 (by omega) (by omega)
 generalize hT : IntKind.i64.wrap ((IntKind.u64.wrap t0).tmod 4) = T at *
 generalize hD : IntKind.i64.wrap ((IntKind.u64.wrap d0).tmod 8) = D0 at *
 generalize hM : IntKind.i64.wrap ((IntKind.u64.wrap n0).tmod 7) = M0 at *
 have w1 : IntKind.i64.wrap (1 + D0) = 1 + D0 := IntWalk.i64_in _ (by omega)
 have w2 : IntKind.i64.wrap (1 + M0) = 1 + M0 := IntWalk.i64_in _ (by omega)
 have ht : okT T = true := by simp [okT, inB]; omega
 have hd : 1 ≤ 1 + D0 ∧ 1 + D0 ≤ 8 := by omega
 have hm : 1 ≤ 1 + M0 ∧ 1 + M0 ≤ 7 := by omega
 have he := ep_ok ht
 have hF := full4
 have hC := e35 ht
 have hL := chL_len T
 have h8 : decide ((8 : Int) = 8) = true := rfl
 have h9 : (chL T).length = 8 := hL
 have c0 := KA.okN_b (chk ht (show 0 < 8 by omega)).1
 have g0 := ch_get (t := T) (show 0 < 8 by omega)
 have w3 : IntKind.i64.wrap (16 + ch T 0) = ep0 T := IntWalk.i64_in _ (by omega)
 have hw := w19
 generalize hP : chL T = L0 at *
 simp only [hT, hD, hM, w1, w2, w3, hF, hC, h8, h9, g0, List.length_map, j8, b8, q8, ww, simprocAttr]
 generalize 1 + D0 = D at *
 generalize 1 + M0 = M at *
 refine loopI (K := fun o => fin _ (aft _ _ _ o)) (I := fun i st => st = ⟨[(0, iV T), (1, iV D), (2, iV M), (7, .one (.ref 448 0 0)), (8, .one (rI L0)), (9, iV (ep0 T)), (10, .one (.ref 640 0 0)), (11, iV i)], [(448, .box (eC ⟨8, 4, 2, D, 8, 8, 16⟩)), (640, .box (eX (xD T i)))]⟩ ∧ (i : Int) ≤ D) _ M.toNat ?hr M.toNat 0 4000 _ ⟨[(0, iV T), (1, iV D), (2, iV M), (7, .one (.ref 448 0 0)), (8, .one (rI L0)), (9, iV (ep0 T)), (10, .one (.ref 640 0 0)), (11, iV 0)], [(448, .box (eC ⟨8, 4, 2, D, 8, 8, 16⟩)), (640, .box (eX (xD T 0)))]⟩ (by omega) (by omega) ?hk ⟨rfl, by omega⟩
 case hk => simp only [kk, simprocAttr]; try rfl
 case hr =>
  rintro i n st hi ⟨rfl, hid⟩ ih
  (try dsimp only)
  by_cases hlt : (i : Int) < M
  ·have hi7 : i < 7 := by omega
   have y1 : decide ((i : Int) < M) = true := decide_eq_true hlt
   have y2 := ch_get (t := T) (show i < 8 by omega)
   have y3 := ch_get (t := T) (show i + 1 < 8 by omega)
   rw [hP] at y2 y3
   have b1 : 0 ≤ (i : Int) ∧ (i : Int) < 8 := by omega
   have b2' : 0 ≤ ((i + 1 : Nat) : Int) ∧ ((i + 1 : Nat) : Int) < 8 := by omega
   have hJ := fun d => e27 4000 d (by omega) ⟨8, 4, 2, D, 8, 8, 16⟩ T (ch T i) (xD T i) (ch T (i + 1)) 2 0 (xD_sm T (by omega) ht)
   rw [jn_deep ht hd hi7 hid] at hJ
   have u1 : ∀ z : Int, decide (z = z) = true := fun z => by simp
   have cb := KA.okN_b (chk ht (show i < 8 by omega)).1
   have w4 : IntKind.i64.wrap (ch T i + 1) = ch T i + 1 := IntWalk.i64_in _ (by omega)
   by_cases g1 : ((i + 1 : Nat) : Int) > D
   ·rw [if_pos g1] at hJ
    (try dsimp only at hJ)
    simp only [y1, y2, y3, b1.1, b1.2, b2'.1, b2'.2, h9, hJ, u1, hw, z00, decide_eq_true g1, wi i (by omega), List.length_map, j8, b8, q8, ww, simprocAttr]
   ·rw [if_neg g1] at hJ
    (try dsimp only at hJ)
    have hA : ∀ d, TT 4000 (d + 14) 33 [.agg (eC ⟨8, 4, 2, D, 8, 8, 16⟩), iV T, iV (ch T (i + 1)), .agg [.bool false, .bool false, .int .i64 0, .int .i64 0, .int .i64 0, .int .i64 (ch T i + 1), .int .i64 0, .int .i64 0, .row [], .row [], .int .i64 0, .int .i64 0, .int .i64 0, .row [], .row [], .row []], iV (ch T i), aM ⟨3, ch T i, 1, ch T (i + 1), 2, T, ep0 T, 5, ep0 T, 0, 0, 0, 0, 0, pthD T (i + 1), []⟩] = some (.tup [aX (xD T (i + 1)), iV 0], []) := fun d => by
     have := e33 1000 d (by omega) ⟨8, 4, 2, D, 8, 8, 16⟩ T (ch T (i + 1)) ⟨false, false, 0, 0, 0, ch T i + 1, 0, 0, [], [], s0, []⟩ (ch T i) ⟨3, ch T i, 1, ch T (i + 1), 2, T, ep0 T, 5, ep0 T, 0, 0, 0, 0, 0, pthD T (i + 1), []⟩ (by simp [smX, smL]) (by have := (chk ht (show i + 1 < 8 by omega)).2.2.2.1; show (pthD T (i + 1)).length < 1000; omega) (by simp)
     rw [ack_deep ht hd hi7 (by omega)] at this
     exact this
    have p1 : decide ((xD T (i + 1)).p = ch T i + 1) = true := decide_eq_true rfl
    have p2 : decide (((xD T (i + 1)).pa.length : Int) = ((i + 1 : Nat) : Int)) = true := decide_eq_true (by have := (chk ht (show i + 1 < 8 by omega)).2.2.2.1; show ((pthD T (i + 1)).length : Int) = _; omega)
    have p3 : decide ((xD T (i + 1)).s.e = ep0 T) = true := decide_eq_true rfl
    have p4 : decide ((xD T (i + 1)).s.w = 5) = true := decide_eq_true rfl
    have p5 : decide ((xD T (i + 1)).t = ep0 T) = true := decide_eq_true rfl
    simp only [y1, y2, y3, b1.1, b1.2, b2'.1, b2'.2, h9, hJ, hA, u1, w4, p1, p2, p3, p4, p5, z00, decide_eq_false g1, wi i (by omega), List.length_map, j8, b8, q8, ww, simprocAttr]
    exact ih (by omega) _ _ (by simp only [kk, simprocAttr]) ⟨rfl, by omega⟩
  ·clear ih
   have y1 : decide ((i : Int) < M) = false := decide_eq_false hlt
   simp only [y1, hw, j8, b8, q8, ww, simprocAttr]
end Go.Proofs.YtdflglehippoiaaGreatDoor.GA
