/- Texts joined: KA KB KC MA MB MC EC ED QA QB QC QD QE QF AA AB AC AD AE AF AG AH FA FB GA FC FD FE FF FG FH FI FJ FK FL GB GC GD FP FQ GE EE FT GO GH KD GI. -/
import Derived.Test.YtdflglehippoiaaGreatDoorZI2
import Derived.IntWalk
set_option linter.unusedVariables false
set_option linter.unusedSimpArgs false
namespace Go.Proofs.YtdflglehippoiaaGreatDoor.KA
open Go Go.Proofs.YtdflglehippoiaaGreatDoorR IG
set_option maxRecDepth 100000
set_option maxHeartbeats 4000000
def inB (n lo hi : Int) : Bool := decide (lo ≤ n) && decide (n ≤ hi)
theorem inB_t {n lo hi : Int} (h : inB n lo hi = true) : lo ≤ n ∧ n ≤ hi := by simpa [inB] using h
theorem wi (i : Nat) (h : i < 4611686018427387904) : IntKind.i64.wrap ((i : Int) + 1) = ((i + 1 : Nat) : Int) := by rw [IntWalk.i64_in _ (by omega)]; omega
theorem wm (i : Nat) (h : i < 4611686018427387904) (h0 : 0 < i) : IntKind.i64.wrap ((i : Int) - 1) = ((i - 1 : Nat) : Int) := by rw [IntWalk.i64_in _ (by omega)]; omega
theorem take_s {α : Type} {l : List α} {i : Nat} (h : i < l.length) : l.take (i + 1) = l.take i ++ [l[i]] := by simp
structure Kd where
  (n i a : Int)
  deriving DecidableEq
abbrev eK (x : Kd) : List V := [.int .i64 x.n, .int .i64 x.i, .int .i64 x.a]
abbrev aK (x : Kd) : S := .agg (eK x)
abbrev rK (l : List Kd) : V := .row (l.map eK)
theorem takeK (l : List Kd) : (l.map eK).take l.length = l.map eK := by rw [List.take_of_length_le (by simp)]
theorem all3 (l : List Kd) : (l.map eK).all (fun x => x.length == 3) = true := by simp
def tpL : List Int := [1462484242049070477, 1775212608919665246, 3535639072113518480, 3725500155902745375]
def ndL : List Int := [2342812313538366385, 1863050908023769503, 81111313352671826, 2434324899588211290, 2454816673080883147, 1342378062264523301, 820659310660760249, 2006264061484817761]
def tpK (t : Int) : Int := tpL.getD t.toNat 0
def ndK (n : Int) : Int := ndL.getD n.toNat 0
def okT (t : Int) : Bool := inB t 0 3
def okN (n : Int) : Bool := inB n 0 7
def gap (t n : Int) : Int := if ndK n - tpK t < 0 then ndK n - tpK t + 4611686018427387904 else ndK n - tpK t
def nr (t a b : Int) : Bool := okT t && okN a && okN b && decide (gap t a < gap t b)
theorem four {P : Int → Prop} (h0 : P 0) (h1 : P 1) (h2 : P 2) (h3 : P 3) {t : Int} (h : okT t = true) : P t := by
  have := inB_t h
  have : t = 0 ∨ t = 1 ∨ t = 2 ∨ t = 3 := by omega
  rcases this with rfl | rfl | rfl | rfl <;> assumption
theorem eight {P : Int → Prop} (h0 : P 0) (h1 : P 1) (h2 : P 2) (h3 : P 3) (h4 : P 4) (h5 : P 5) (h6 : P 6) (h7 : P 7) {t : Int} (h : okN t = true) : P t := by
  have := inB_t h
  have : t = 0 ∨ t = 1 ∨ t = 2 ∨ t = 3 ∨ t = 4 ∨ t = 5 ∨ t = 6 ∨ t = 7 := by omega
  rcases this with rfl | rfl | rfl | rfl | rfl | rfl | rfl | rfl <;> assumption
theorem tp_in {t : Int} (h : okT t = true) : 0 ≤ tpK t ∧ tpK t < 4611686018427387904 := four (P := fun t => 0 ≤ tpK t ∧ tpK t < 4611686018427387904) (by decide) (by decide) (by decide) (by decide) h
theorem nd_in {t : Int} (h : okN t = true) : 0 ≤ ndK t ∧ ndK t < 4611686018427387904 := eight (P := fun t => 0 ≤ ndK t ∧ ndK t < 4611686018427387904) (by decide) (by decide) (by decide) (by decide) (by decide) (by decide) (by decide) (by decide) h
theorem e123t (N d) {t : Int} (h : okT t = true) : TT N (d + 2) 123 [iV t] = some (.tup [iV (tpK t), iV 0], []) :=
  four (P := fun t => TT N (d + 2) 123 [iV t] = some (.tup [iV (tpK t), iV 0], [])) (by kernel_rfl) (by kernel_rfl) (by kernel_rfl) (by kernel_rfl) h
theorem e124t (N d) {t : Int} (h : okN t = true) : TT N (d + 3) 124 [iV t] = some (.tup [iV (ndK t), iV 0], []) :=
  eight (P := fun t => TT N (d + 3) 124 [iV t] = some (.tup [iV (ndK t), iV 0], [])) (by kernel_rfl) (by kernel_rfl) (by kernel_rfl) (by kernel_rfl) (by kernel_rfl) (by kernel_rfl) (by kernel_rfl) (by kernel_rfl) h
theorem e166 (N d) {t : Int} (h : okT t = true) : TT N (d + 1) 166 [iV t] = some (iV (tpK t), []) :=
  four (P := fun t => TT N (d + 1) 166 [iV t] = some (iV (tpK t), [])) (by kernel_rfl) (by kernel_rfl) (by kernel_rfl) (by kernel_rfl) h
theorem e167 (N d) {t : Int} (h : okN t = true) : TT N (d + 1) 167 [iV t] = some (iV (ndK t), []) :=
  eight (P := fun t => TT N (d + 1) 167 [iV t] = some (iV (ndK t), [])) (by kernel_rfl) (by kernel_rfl) (by kernel_rfl) (by kernel_rfl) (by kernel_rfl) (by kernel_rfl) (by kernel_rfl) (by kernel_rfl) h
theorem e131 (N d) (n b : Int) : TT N (d + 1) 131 [iV n, iV b] = some (bV (decide (n ≥ 0) && decide (n < b)), []) := by
  rw [t131, F_ev rfl]
  simp only [j131, b131, q131, qq, ww, List.replicate, simprocAttr, if_true, if_false]
  repeat' (refine fin_cases (fun h1 => ?_) (fun h1 => ?_) <;> simp only [h1, j131, b131, q131, qq, ww, List.replicate, simprocAttr, if_true, if_false])
  all_goals grind
theorem okT_is (t : Int) : (decide (t ≥ 0) && decide (t < 4)) = okT t := by simp only [okT, inB]; congr 1; simp; omega
theorem okN_is (t : Int) : (decide (t ≥ 0) && decide (t < 8)) = okN t := by simp only [okN, inB]; congr 1; simp; omega
theorem e85 (N d) (n : Int) : TT N (d + 2) 85 [iV n] = some (bV (okN n), []) := by
  rw [t85, F_ev rfl]
  simp only [e131, okN_is, j85, b85, q85, qq, ww, List.replicate, simprocAttr, if_true, if_false]
  repeat' (refine fin_cases (fun h1 => ?_) (fun h1 => ?_) <;> simp only [h1, e131, okN_is, j85, b85, q85, qq, ww, List.replicate, simprocAttr, if_true, if_false])
theorem e123f (N d) {t : Int} (h : okT t = false) : TT N (d + 2) 123 [iV t] = some (.tup [iV 0, iV 1], []) := by
  rw [t123, F_ev rfl]
  simp only [e131, okT_is, h, j123, b123, q123, qq, ww, List.replicate, simprocAttr, if_true, if_false]
theorem e124f (N d) {t : Int} (h : okN t = false) : TT N (d + 3) 124 [iV t] = some (.tup [iV 0, iV 1], []) := by
  rw [t124, F_ev rfl]
  simp only [e85, h, j124, b124, q124, qq, ww, List.replicate, simprocAttr, if_true, if_false]
theorem e125 (N d) {k m : Int} (hk : 0 ≤ k ∧ k < 4611686018427387904) (hm : 0 ≤ m ∧ m < 4611686018427387904) : TT N (d + 1) 125 [iV k, iV m] = some (iV (if m - k < 0 then m - k + 4611686018427387904 else m - k), []) := by
  have h1 : IntKind.i64.wrap (m - k) = m - k := IntWalk.i64_in _ (by omega)
  have h2 : m - k < 0 → IntKind.i64.wrap (m - k + 4611686018427387904) = m - k + 4611686018427387904 := fun h => IntWalk.i64_in _ (by omega)
  rw [t125, F_ev rfl]
  by_cases h : m - k < 0
  · have hd : decide (m - k < 0) = true := by simpa using h
    simp only [h1, h2 h, hd, h, j125, b125, q125, qq, ww, List.replicate, simprocAttr, if_true, if_false]
  · have hd : decide (m - k < 0) = false := by simpa using h
    simp only [h1, hd, h, j125, b125, q125, qq, ww, List.replicate, simprocAttr, if_true, if_false]
theorem e65t (N d) {t n : Int} (ht : okT t = true) (hn : okN n = true) : TT N (d + 4) 65 [iV t, iV n] = some (.tup [iV (gap t n), iV 0], []) := by
  rw [t65, F_ev rfl]
  simp only [e123t _ _ ht, e124t _ _ hn, e125 _ _ (tp_in ht) (nd_in hn), j65, b65, q65, qq, ww, List.replicate, simprocAttr, if_true, if_false]
  rfl
theorem e65f (N d) {t n : Int} (h : (okT t && okN n) = false) : TT N (d + 4) 65 [iV t, iV n] = some (.tup [iV 0, iV 1], []) := by
  rw [t65, F_ev rfl]
  cases ht : okT t with
  | false => simp only [e123f _ _ ht, j65, b65, q65, qq, ww, List.replicate, simprocAttr, if_true, if_false]
  | true =>
    rw [ht, Bool.true_and] at h
    simp only [e123t _ _ ht, e124f _ _ h, j65, b65, q65, qq, ww, List.replicate, simprocAttr, if_true, if_false]
theorem e28 (N d) (t a b : Int) : TT N (d + 5) 28 [iV t, iV a, iV b] = some (bV (nr t a b), []) := by
  rw [t28, F_ev rfl]
  cases h1 : (okT t && okN a) with
  | false =>
    have hn : nr t a b = false := by simp only [nr, h1, Bool.false_and]
    cases h2 : (okT t && okN b) with
    | false => simp only [e65f _ _ h1, e65f _ _ h2, hn, j28, b28, q28, qq, ww, List.replicate, simprocAttr, if_true, if_false]
    | true =>
      have h3 := Bool.and_eq_true_iff.1 h2
      simp only [e65f _ _ h1, e65t _ _ h3.1 h3.2, hn, j28, b28, q28, qq, ww, List.replicate, simprocAttr, if_true, if_false]
  | true =>
    have h4 := Bool.and_eq_true_iff.1 h1
    cases h2 : (okT t && okN b) with
    | false =>
      have hn : nr t a b = false := by rw [h4.1, Bool.true_and] at h2; simp [nr, h2]
      simp only [e65t _ _ h4.1 h4.2, e65f _ _ h2, hn, j28, b28, q28, qq, ww, List.replicate, simprocAttr, if_true, if_false]
    | true =>
      have h3 := Bool.and_eq_true_iff.1 h2
      have hn : nr t a b = decide (gap t a < gap t b) := by simp [nr, h4.1, h4.2, h3.2]
      simp only [e65t _ _ h4.1 h4.2, e65t _ _ h3.1 h3.2, hn, j28, b28, q28, qq, ww, List.replicate, simprocAttr, if_true, if_false]
theorem e60 (N d) (n lo hi) : TT N (d + 1) 60 [iV n, iV lo, iV hi] = some (bV (inB n lo hi), []) := by
  rw [t60, F_ev rfl]
  simp only [j60, b60, q60, qq, ww, List.replicate, simprocAttr, if_true, if_false]
  repeat' (refine fin_cases (fun h1 => ?_) (fun h1 => ?_) <;> simp only [h1, j60, b60, q60, qq, ww, List.replicate, simprocAttr, if_true, if_false])
  all_goals grind [inB]
theorem e87 (N d) (n lo hi) : TT N (d + 1) 87 [iV n, iV lo, iV hi] = some (bV (inB n lo hi), []) := by
  rw [t87, F_ev rfl]
  simp only [j87, b87, q87, qq, ww, List.replicate, simprocAttr, if_true, if_false]
  repeat' (refine fin_cases (fun h1 => ?_) (fun h1 => ?_) <;> simp only [h1, j87, b87, q87, qq, ww, List.replicate, simprocAttr, if_true, if_false])
  all_goals grind [inB]
theorem e110 (N d) (n lo hi) : TT N (d + 1) 110 [iV n, iV lo, iV hi] = some (bV (inB n lo hi), []) := by
  rw [t110, F_ev rfl]
  simp only [j110, b110, q110, qq, ww, List.replicate, simprocAttr, if_true, if_false]
  repeat' (refine fin_cases (fun h1 => ?_) (fun h1 => ?_) <;> simp only [h1, j110, b110, q110, qq, ww, List.replicate, simprocAttr, if_true, if_false])
  all_goals grind [inB]
theorem e116 (N d) (n) : TT N (d + 2) 116 [iV n] = some (bV (inB n 1 1073741824), []) := by
  rw [t116, F_ev rfl]
  simp only [e110, j116, b116, q116, qq, ww, List.replicate, simprocAttr, if_true, if_false]
  repeat' (refine fin_cases (fun h1 => ?_) (fun h1 => ?_) <;> simp only [h1, e110, j116, b116, q116, qq, ww, List.replicate, simprocAttr, if_true, if_false])
theorem e26 (N d) (n) : TT N (d + 2) 26 [iV n] = some (bV (okN n), []) := by
  rw [t26, F_ev rfl]
  simp only [e60, j26, b26, q26, qq, ww, List.replicate, simprocAttr, if_true, if_false]
  repeat' (refine fin_cases (fun h1 => ?_) (fun h1 => ?_) <;> simp only [h1, e60, j26, b26, q26, qq, ww, List.replicate, simprocAttr, if_true, if_false])
  all_goals rfl
theorem e73 (N d) (n) : TT N (d + 2) 73 [iV n] = some (bV (okT n), []) := by
  rw [t73, F_ev rfl]
  simp only [e60, j73, b73, q73, qq, ww, List.replicate, simprocAttr, if_true, if_false]
  repeat' (refine fin_cases (fun h1 => ?_) (fun h1 => ?_) <;> simp only [h1, e60, j73, b73, q73, qq, ww, List.replicate, simprocAttr, if_true, if_false])
  all_goals rfl
theorem e165 (N d) {k m : Int} (hk : 0 ≤ k ∧ k < 4611686018427387904) (hm : 0 ≤ m ∧ m < 4611686018427387904) : TT N (d + 1) 165 [iV k, iV m] = some (iV (if m - k < 0 then m - k + 4611686018427387904 else m - k), []) := by
  have h1 : IntKind.i64.wrap (m - k) = m - k := IntWalk.i64_in _ (by omega)
  have h2 : IntKind.i64.wrap (k - m) = k - m := IntWalk.i64_in _ (by omega)
  rw [t165, F_ev rfl]
  by_cases h : m - k < 0
  · have hd : decide (m ≥ k) = false := by simp; omega
    have h3 : IntKind.i64.wrap (4611686018427387904 - (k - m)) = m - k + 4611686018427387904 := by rw [IntWalk.i64_in _ (by omega)]; omega
    simp only [h1, h2, h3, hd, h, j165, b165, q165, qq, ww, List.replicate, simprocAttr, if_true, if_false]
  · have hd : decide (m ≥ k) = true := by simp; omega
    simp only [h1, hd, h, j165, b165, q165, qq, ww, List.replicate, simprocAttr, if_true, if_false]
theorem e136 (N d) {t n : Int} (ht : okT t = true) (hn : okN n = true) : TT N (d + 2) 136 [iV t, iV n] = some (iV (gap t n), []) := by
  rw [t136, F_ev rfl]
  simp only [e166 _ _ ht, e167 _ _ hn, e165 _ _ (tp_in ht) (nd_in hn), j136, b136, q136, qq, ww, List.replicate, simprocAttr, if_true, if_false]
  rfl
theorem e99 (N d) (t a b : Int) : TT N (d + 3) 99 [iV t, iV a, iV b] = some (bV (nr t a b), []) := by
  rw [t99, F_ev rfl]
  unfold nr
  cases h1 : okT t with
  | false => simp only [e73, h1, j99, b99, q99, qq, ww, List.replicate, simprocAttr, if_true, if_false]
  | true => cases h2 : okN a with
    | false => simp only [e73, e26, h1, h2, j99, b99, q99, qq, ww, List.replicate, simprocAttr, if_true, if_false]
    | true => cases h3 : okN b with
      | false => simp only [e73, e26, h1, h2, h3, j99, b99, q99, qq, ww, List.replicate, simprocAttr, if_true, if_false]
      | true => simp only [e73, e26, e136 _ _ h1 h2, e136 _ _ h1 h3, h1, h2, h3, j99, b99, q99, qq, ww, List.replicate, simprocAttr, if_true, if_false]
end Go.Proofs.YtdflglehippoiaaGreatDoor.KA
namespace Go.Proofs.YtdflglehippoiaaGreatDoor.KA
open Go Go.Proofs.YtdflglehippoiaaGreatDoorR IG
set_option maxRecDepth 100000
set_option maxHeartbeats 4000000
def ix {α : Type} (p : α → Bool) : List α → Int → Int
  | [], _ => -1
  | x :: r, i => if p x then i else ix p r (i + 1)
abbrev hR (el e : Nat) (xs : List (List V)) : S := .tup [.one (.ref el e 0), .one (.row xs)]
theorem ix_some {α : Type} {p : α → Bool} : ∀ {l : List α} {i : Int}, 0 ≤ i → l.any p = true → ∃ k : Nat, ix p l i = i + k ∧ ∃ (h : k < l.length), p l[k] = true ∧ ∀ j (hj : j < k), p (l[j]'(by omega)) = false
  | [], i, _, h => by cases h
  | x :: r, i, h, ha => by
    unfold ix
    by_cases hp : p x = true
    · exact ⟨0, by simp [hp], by simp, by simpa using hp, fun j hj => by omega⟩
    · rw [if_neg hp]
      have hp' : p x = false := by simpa using hp
      rw [List.any_cons, hp', Bool.false_or] at ha
      obtain ⟨k, h1, h2, h3, h4⟩ := ix_some (l := r) (i := i + 1) (by omega) ha
      refine ⟨k + 1, by rw [h1]; omega, by simp; omega, by simpa using h3, fun j hj => ?_⟩
      cases j with
      | zero => simpa using hp'
      | succ j => simpa using h4 j (by omega)
theorem e101 (N d : Nat) (l : List Kd) (hl : l.length < 1000000) : TT N (d + 1) 101 [.one (rK l)] = some (.one (.sl 0 0 l.length), [(0, .rows 51 3 (l.map eK))]) := by
  rw [t101]
  unfold cloneM
  simp only [List.length_map]
  rw [if_pos ⟨all3 l, by omega⟩]
theorem eq_it {a b : Kd} : decide (a = b) = (decide (a.n = b.n) && (decide (a.i = b.i) && decide (a.a = b.a))) := by cases a; cases b; simp
theorem dcons {α : Type} [DecidableEq α] {a b : α} {l r : List α} : decide (a :: l = b :: r) = (decide (a = b) && decide (l = r)) := by simp
theorem selfT (l : List Kd) : (l.map eK).all selfs = true := by simp [selfs, V.self]
end Go.Proofs.YtdflglehippoiaaGreatDoor.KA
namespace Go.Proofs.YtdflglehippoiaaGreatDoor.KA
open Go Go.Proofs.YtdflglehippoiaaGreatDoorR IG
set_option maxRecDepth 100000
set_option maxHeartbeats 4000000
def inc2 (x : Kd) : Bool := inB x.i 1 1073741824 && inB x.a 0 6
theorem e100 (N d) (t self : Int) (x : Kd) : TT N (d + 6) 100 [iV t, iV self, aK x] = some (bV (nr t self x.n && inc2 x), []) := by
  rw [t100, F_ev rfl]
  simp only [e28, e116, j100, b100, q100, qq, ww, List.replicate, simprocAttr, if_true, if_false]
  repeat' (refine fin_cases (fun h1 => ?_) (fun h1 => ?_) <;> simp only [h1, e28, e116, j100, b100, q100, qq, ww, List.replicate, simprocAttr, if_true, if_false])
  all_goals grind [inc2, inB]
def chn (t : Int) : Int → List Kd → Bool
  | _, [] => true
  | p, x :: r => nr t p x.n && inc2 x && chn t x.n r
def rgt (t self : Int) : Option Int → List Kd → Bool
  | _, [] => true
  | p, x :: r => nr t self x.n && inc2 x && (match p with
    | some q => nr t q x.n
    | none => true) && rgt t self (some x.n) r
theorem nr_t {t a b : Int} (h : nr t a b = true) : okT t = true ∧ okN a = true ∧ okN b = true ∧ gap t a < gap t b := by
  simp only [nr, Bool.and_eq_true, decide_eq_true_eq] at h
  exact ⟨h.1.1.1, h.1.1.2, h.1.2, h.2⟩
theorem nr_of {t a b : Int} (h1 : okT t = true) (h2 : okN a = true) (h3 : okN b = true) (h4 : gap t a < gap t b) : nr t a b = true := by simp [nr, h1, h2, h3, h4]
theorem nr_trans {t a b c : Int} (h1 : nr t a b = true) (h2 : nr t b c = true) : nr t a c = true := by
  have a1 := nr_t h1
  have a2 := nr_t h2
  exact nr_of a1.1 a1.2.1 a2.2.2.1 (by omega)
theorem rgt_chn {t self : Int} : ∀ {l : List Kd} {p : Int}, (nr t self p = true) → rgt t self (some p) l = chn t p l
  | [], p, _ => rfl
  | x :: r, p, hp => by
    cases h1 : nr t p x.n with
    | false => simp only [rgt, chn, h1, Bool.false_and, Bool.and_false]
    | true =>
      have h2 := nr_trans hp h1
      simp only [rgt, chn, h1, h2, rgt_chn h2, Bool.true_and, Bool.and_true]
theorem rgt_chn0 {t self : Int} {l : List Kd} : rgt t self none l = chn t self l := by
  cases l with
  | nil => rfl
  | cons x r =>
    cases h1 : nr t self x.n with
    | false => simp only [rgt, chn, h1, Bool.false_and]
    | true => simp only [rgt, chn, h1, rgt_chn h1, Bool.true_and, Bool.and_true]
def kOK (t self limit : Int) (l : List Kd) : Bool := okT t && okN self && inB limit 1 4 && decide ((l.length : Int) ≤ limit) && chn t self l
def prv (l : List Kd) (i : Nat) : Option Int := if i = 0 then none else (l[i - 1]?).map Kd.n
theorem prv_s {l : List Kd} {i : Nat} (h : i < l.length) : prv l (i + 1) = some l[i].n := by
  unfold prv
  rw [if_neg (by omega), Nat.add_sub_cancel, List.getElem?_eq_getElem h]
  rfl
theorem e48 (N d : Nat) (t self limit : Int) (l : List Kd) (hN : l.length < N) (hl : l.length < 1000000) : TT N (d + 7) 48 [iV t, iV self, iV limit, .one (rK l)] = some (iV (if kOK t self limit l then 0 else 1), []) := by
  rw [t48, F_ev rfl]
  cases h0 : (okT t && okN self) with
  | false =>
    have : kOK t self limit l = false := by simp [kOK, h0]
    simp only [e65f _ _ h0, this, List.length_map, j48, b48, q48, qq, ww, List.replicate, simprocAttr, if_true, if_false]
  | true =>
  have h4 := Bool.and_eq_true_iff.1 h0
  simp only [e65t _ _ h4.1 h4.2, List.length_map, j48, b48, q48, qq, ww, List.replicate, simprocAttr, if_true, if_false]
  refine fin_cases (fun h1 => ?_) (fun h1 => ?_) <;> simp only [h1, List.length_map, j48, b48, q48, qq, ww, List.replicate, simprocAttr, if_true, if_false]
  · have : kOK t self limit l = false := by simp [kOK, inB, h4] at h1 ⊢; intros; omega
    simp [this]
  refine fin_cases (fun h2 => ?_) (fun h2 => ?_) <;> simp only [h1, h2, List.length_map, j48, b48, q48, qq, ww, List.replicate, simprocAttr, if_true, if_false]
  · have : kOK t self limit l = false := by simp [kOK, inB, h4] at h2 ⊢; intros; omega
    simp [this]
  refine fin_cases (fun h3 => ?_) (fun h3 => ?_) <;> simp only [h1, h2, h3, List.length_map, j48, b48, q48, qq, ww, List.replicate, simprocAttr, if_true, if_false]
  · have : kOK t self limit l = false := by simp [kOK, inB, h4] at h3 ⊢; intros; omega
    simp [this]
  have ho : kOK t self limit l = rgt t self none l := by
    have a1 : inB limit 1 4 = true := by simp [inB] at h1 h2 ⊢; omega
    have a2 : decide ((l.length : Int) ≤ limit) = true := by simp at h3 ⊢; omega
    simp [kOK, h4.1, h4.2, a1, a2, rgt_chn0]
  rw [ho]
  refine (loopK (K := fun o => fin _ (aft _ _ _ o)) (fun i => ⟨[(0, iV t), (1, iV self), (3, .one (rK l)), (35, .one (rK l)), (36, iV l.length), (37, iV i)], []⟩) (fun i => some (iV (if rgt t self (prv l i) (l.drop i) then 0 else 1), [])) l.length ?hr l.length 0 N _ (by omega) hN ?hk).trans ?_
  case hk => simp only [kk, simprocAttr, if_true, if_false]; try rfl
  case hr =>
    intro i n hi ih
    (try dsimp only)
    by_cases hlt : i < l.length
    · have h1 : decide ((i : Int) < (l.length : Int)) = true := by simp; omega
      have hg1 : (l.map eK)[i]? = some (eK l[i]) := by simp [hlt]
      have hd1 : l.drop i = l[i] :: l.drop (i + 1) := by simp
      have hb : 0 ≤ (i : Int) ∧ (i : Int) < (l.length : Int) := by omega
      by_cases h0 : i = 0
      · have hpos : decide ((i : Int) > 0) = false := by simp; omega
        have hpv : prv l i = none := by unfold prv; rw [if_pos h0]
        cases hB : (nr t self l[i].n && inc2 l[i]) with
        | false =>
          simp only [h1, hb.1, hb.2, hpos, hg1, e100, hB, List.length_map, Int.toNat_natCast, j48, b48, q48, qq, ww, List.replicate, simprocAttr, if_true, if_false]
          rw [hd1, hpv, rgt, hB]; rfl
        | true =>
          simp only [h1, hb.1, hb.2, hpos, hg1, e100, hB, wi i (by omega), List.length_map, Int.toNat_natCast, j48, b48, q48, qq, ww, List.replicate, simprocAttr, if_true, if_false]
          rw [hd1, hpv, rgt, ← prv_s hlt, hB]
          exact ih hlt _ (by simp only [kk, simprocAttr, if_true, if_false])
      · obtain ⟨q, hq⟩ : ∃ q, q = l[i - 1]'(by omega) := ⟨_, rfl⟩
        have hg2 : (l.map eK)[i - 1]? = some (eK q) := by rw [List.getElem?_map, List.getElem?_eq_getElem (by omega), hq]; rfl
        have hb2 : 0 ≤ ((i - 1 : Nat) : Int) ∧ ((i - 1 : Nat) : Int) < (l.length : Int) := by omega
        have hpos : decide ((i : Int) > 0) = true := by simp; omega
        have hpv : prv l i = some q.n := by unfold prv; rw [if_neg h0, hq, List.getElem?_eq_getElem (by omega)]; rfl
        cases hB : (nr t self l[i].n && inc2 l[i]) with
        | false =>
          simp only [h1, hb.1, hb.2, hg1, hg2, hb2.1, hb2.2, hpos, hB, wm i (by omega) (by omega), e100, e28, List.length_map, Int.toNat_natCast, j48, b48, q48, qq, ww, List.replicate, simprocAttr, if_true, if_false]
          rw [hd1, hpv, rgt, hB]; rfl
        | true =>
          cases hQ : nr t q.n l[i].n with
          | false =>
            simp only [h1, hb.1, hb.2, hg1, hg2, hb2.1, hb2.2, hpos, hB, hQ, wm i (by omega) (by omega), e100, e28, List.length_map, Int.toNat_natCast, j48, b48, q48, qq, ww, List.replicate, simprocAttr, if_true, if_false]
            rw [hd1, hpv, rgt, hB]
            simp only [hQ]
            rfl
          | true =>
            simp only [h1, hb.1, hb.2, hg1, hg2, hb2.1, hb2.2, hpos, hB, hQ, wi i (by omega), wm i (by omega) (by omega), e100, e28, List.length_map, Int.toNat_natCast, j48, b48, q48, qq, ww, List.replicate, simprocAttr, if_true, if_false]
            rw [hd1, hpv, rgt, ← prv_s hlt, hB]
            simp only [hQ]
            exact ih hlt _ (by simp only [kk, simprocAttr, if_true, if_false])
    · have h1 : decide ((i : Int) < (l.length : Int)) = false := by simp; omega
      simp only [h1, List.length_map, j48, b48, q48, qq, ww, List.replicate, simprocAttr, if_true, if_false]
      rw [List.drop_of_length_le (by omega)]
      rfl
  rfl
end Go.Proofs.YtdflglehippoiaaGreatDoor.KA
namespace Go.Proofs.YtdflglehippoiaaGreatDoor.MA
open Go Go.Proofs.YtdflglehippoiaaGreatDoorR IG
set_option maxRecDepth 100000
def inB (n lo hi : Int) : Bool := decide (lo ≤ n) && decide (n ≤ hi)
theorem wi (i : Nat) (h : i < 4611686018427387904) : IntKind.i64.wrap ((i : Int) + 1) = ((i + 1 : Nat) : Int) := by rw [IntWalk.i64_in _ (by omega)]; omega
theorem e110 (N d) (n lo hi) : TT N (d + 1) 110 [iV n, iV lo, iV hi] = some (bV (inB n lo hi), []) := by
  rw [t110, F_ev rfl]
  simp only [j110, b110, q110, qq, ww, List.replicate, simprocAttr, if_true, if_false]
  repeat' (refine fin_cases (fun h1 => ?_) (fun h1 => ?_) <;> simp only [h1, j110, b110, q110, qq, ww, List.replicate, simprocAttr, if_true, if_false])
  all_goals grind [inB]
theorem e60 (N d) (n lo hi) : TT N (d + 1) 60 [iV n, iV lo, iV hi] = some (bV (inB n lo hi), []) := by
  rw [t60, F_ev rfl]
  simp only [j60, b60, q60, qq, ww, List.replicate, simprocAttr, if_true, if_false]
  repeat' (refine fin_cases (fun h1 => ?_) (fun h1 => ?_) <;> simp only [h1, j60, b60, q60, qq, ww, List.replicate, simprocAttr, if_true, if_false])
  all_goals grind [inB]
theorem e116 (N d) (n) : TT N (d + 2) 116 [iV n] = some (bV (inB n 1 1073741824), []) := by
  rw [t116, F_ev rfl]
  simp only [e110, j116, b116, q116, qq, ww, List.replicate, simprocAttr, if_true, if_false]
  repeat' (refine fin_cases (fun h1 => ?_) (fun h1 => ?_) <;> simp only [h1, e110, j116, b116, q116, qq, ww, List.replicate, simprocAttr, if_true, if_false])
theorem e56 (N d) (n) : TT N (d + 2) 56 [iV n] = some (bV (inB n 0 2147483647), []) := by
  rw [t56, F_ev rfl]
  simp only [e110, j56, b56, q56, qq, ww, List.replicate, simprocAttr, if_true, if_false]
  repeat' (refine fin_cases (fun h1 => ?_) (fun h1 => ?_) <;> simp only [h1, e110, j56, b56, q56, qq, ww, List.replicate, simprocAttr, if_true, if_false])
theorem e76 (N d) (n) : TT N (d + 2) 76 [iV n] = some (bV (inB n 0 2147483647), []) := by
  rw [t76, F_ev rfl]
  simp only [e60, j76, b76, q76, qq, ww, List.replicate, simprocAttr, if_true, if_false]
  repeat' (refine fin_cases (fun h1 => ?_) (fun h1 => ?_) <;> simp only [h1, e60, j76, b76, q76, qq, ww, List.replicate, simprocAttr, if_true, if_false])
theorem e26 (N d) (n) : TT N (d + 2) 26 [iV n] = some (bV (inB n 0 7), []) := by
  rw [t26, F_ev rfl]
  simp only [e60, j26, b26, q26, qq, ww, List.replicate, simprocAttr, if_true, if_false]
  repeat' (refine fin_cases (fun h1 => ?_) (fun h1 => ?_) <;> simp only [h1, e60, j26, b26, q26, qq, ww, List.replicate, simprocAttr, if_true, if_false])
theorem e73 (N d) (n) : TT N (d + 2) 73 [iV n] = some (bV (inB n 0 3), []) := by
  rw [t73, F_ev rfl]
  simp only [e60, j73, b73, q73, qq, ww, List.replicate, simprocAttr, if_true, if_false]
  repeat' (refine fin_cases (fun h1 => ?_) (fun h1 => ?_) <;> simp only [h1, e60, j73, b73, q73, qq, ww, List.replicate, simprocAttr, if_true, if_false])
theorem e131 (N d) (n lo) : TT N (d + 1) 131 [iV n, iV lo] = some (bV (inB n 0 (lo - 1)), []) := by
  rw [t131, F_ev rfl]
  simp only [j131, b131, q131, qq, ww, List.replicate, simprocAttr, if_true, if_false]
  repeat' (refine fin_cases (fun h1 => ?_) (fun h1 => ?_) <;> simp only [h1, j131, b131, q131, qq, ww, List.replicate, simprocAttr, if_true, if_false])
  all_goals grind [inB]
theorem e85 (N d) (n) : TT N (d + 2) 85 [iV n] = some (bV (inB n 0 7), []) := by
  rw [t85, F_ev rfl]
  simp only [e131, j85, b85, q85, qq, ww, List.replicate, simprocAttr, if_true, if_false]
  repeat' (refine fin_cases (fun h1 => ?_) (fun h1 => ?_) <;> simp only [h1, e131, j85, b85, q85, qq, ww, List.replicate, simprocAttr, if_true, if_false])
theorem e127 (N d) (n) : TT N (d + 3) 127 [iV n] = some (bV (!inB n 0 7), []) := by
  rw [t127, F_ev rfl]
  simp only [e85, j127, b127, q127, qq, ww, List.replicate, simprocAttr, if_true, if_false]
  repeat' (refine fin_cases (fun h1 => ?_) (fun h1 => ?_) <;> simp only [h1, e85, j127, b127, q127, qq, ww, List.replicate, simprocAttr, if_true, if_false])
def ix {α : Type} (p : α → Bool) : List α → Int → Int
  | [], _ => -1
  | x :: r, i => if p x then i else ix p r (i + 1)
theorem ix_any {α : Type} (p : α → Bool) : ∀ (l : List α) (i : Int), 0 ≤ i → decide (ix p l i ≥ 0) = l.any p
  | [], i, h => by simp [ix]
  | x :: r, i, h => by
    have := ix_any p r (i + 1) (by omega)
    cases hp : p x <;> simp_all [ix]
theorem e155 (N d f : Nat) (p : Int → Bool) (hf : ∀ x, TT N d f [iV x] = some (bV (p x), [])) (l : List Int) (hN : l.length < N) (hl : l.length < 1000000) : TT N (d + 1) 155 [.one (rI l), .one (.fn f [])] = some (iV (ix p l 0), []) := by
  rw [t155, F_ev rfl]
  simp only [List.length_map, j155, b155, q155, qq, ww, List.replicate, simprocAttr, if_true, if_false]
  refine (loopK (K := fun o => fin _ (aft _ _ _ o)) (fun i => ⟨[(0, .one (rI l)), (1, .one (.fn f [])), (7, iV l.length), (8, iV i)], []⟩) (fun i => some (iV (ix p (l.drop i) i), [])) l.length ?hr l.length 0 N _ (by omega) hN ?hk).trans ?_
  case hk => simp only [kk, simprocAttr, if_true, if_false]; try rfl
  case hr =>
    intro i n hi ih
    (try dsimp only)
    by_cases hlt : i < l.length
    · have h1 : decide ((i : Int) < (l.length : Int)) = true := by simp; omega
      have hget : (l.map eI)[i]? = some (eI l[i]) := by simp [hlt]
      have hd : l.drop i = l[i] :: l.drop (i + 1) := by simp
      have hb : 0 ≤ (i : Int) ∧ (i : Int) < (l.length : Int) := by omega
      simp only [h1, hb.1, hb.2, List.length_map, hget, hf, wi i (by omega), j155, b155, q155, qq, ww, List.replicate, simprocAttr, if_true, if_false]
      refine fin_cases2 (fun hp => ?_) (fun hp => ?_) <;> simp only [wi i (by omega), j155, b155, q155, qq, ww, List.replicate, simprocAttr, if_true, if_false]
      · rw [hd, ix, hp, if_pos rfl]
      · rw [hd, ix, hp, if_neg (by decide)]
        exact ih hlt _ (by simp only [kk, simprocAttr, if_true, if_false])
    · have h1 : decide ((i : Int) < (l.length : Int)) = false := by simp; omega
      simp only [h1, j155, b155, q155, qq, ww, List.replicate, simprocAttr, if_true, if_false]
      rw [List.drop_of_length_le (by omega)]
      rfl
  rfl
theorem e126 (N d f : Nat) (p : Int → Bool) (hf : ∀ x, TT N d f [iV x] = some (bV (p x), [])) (l : List Int) (hN : l.length < N) (hl : l.length < 1000000) : TT N (d + 2) 126 [.one (rI l), .one (.fn f [])] = some (bV (l.any p), []) := by
  rw [t126, F_ev rfl]
  simp only [e155 N d f p hf l hN hl, j126, b126, q126, qq, ww, List.replicate, simprocAttr, if_true, if_false]
  simp [ix_any]
theorem any_not {α : Type} (p : α → Bool) (l : List α) : l.any (fun x => !p x) = !l.all p := by
  induction l with
  | nil => rfl
  | cons a r ih => simp only [List.any_cons, List.all_cons, ih]; cases p a <;> simp
theorem e70 (N d : Nat) (l : List Int) (hN : l.length < N) (hl : l.length < 1000000) : TT N (d + 6) 70 [.one (rI l)] = some (bV (l.all fun n => inB n 0 7), []) := by
  have h89 := fun d => e126 N (d + 3) 127 (fun x => !inB x 0 7) (fun x => e127 N d x) l hN hl
  rw [t70, F_ev rfl]
  simp only [h89, any_not, Bool.not_not, j70, b70, q70, qq, ww, List.replicate, simprocAttr, if_true, if_false]
end Go.Proofs.YtdflglehippoiaaGreatDoor.MA
namespace Go.Proofs.YtdflglehippoiaaGreatDoor.MA
open Go Go.Proofs.YtdflglehippoiaaGreatDoorR IG
set_option maxRecDepth 100000
theorem take_s {α : Type} {l : List α} {i : Nat} (h : i < l.length) : l.take (i + 1) = l.take i ++ [l[i]] := by simp
end Go.Proofs.YtdflglehippoiaaGreatDoor.MA
namespace Go.Proofs.YtdflglehippoiaaGreatDoor.MA
open Go Go.Proofs.YtdflglehippoiaaGreatDoorR IG
set_option maxRecDepth 100000
theorem dcons {α : Type} [DecidableEq α] {x y : α} {r q : List α} : decide (x :: r = y :: q) = (decide (x = y) && decide (r = q)) := by simp
end Go.Proofs.YtdflglehippoiaaGreatDoor.MA
namespace Go.Proofs.YtdflglehippoiaaGreatDoor.EC
open Go Go.Proofs.YtdflglehippoiaaGreatDoorR IG EA
set_option maxRecDepth 100000
set_option maxHeartbeats 4000000
theorem e141 (N d : Nat) (s : ByteArray) (n lo hi e : Int) : TT N (d + 1) 141 [.one (.k (.string s)), iV n, iV lo, iV hi, iV e] = some (.one (oV (if lo ≤ n ∧ n ≤ hi then none else some (s, e))), []) := by
  rw [t141, F_ev rfl]
  simp only [j141, b141, q141, qq, ww, List.replicate, simprocAttr, if_true, if_false]
  refine fin_cases (fun h1 => ?_) (fun h1 => ?_) <;> simp only [h1, blkMents, Blk.mentB, j141, b141, q141, qq, ww, List.replicate, simprocAttr, if_true, if_false]
  · have h1 : n < lo := by simpa using h1
    rw [if_neg (by omega)]
    rfl
  · have h1 : ¬ n < lo := by simpa using h1
    refine fin_cases (fun h2 => ?_) (fun h2 => ?_) <;> simp only [h2, blkMents, Blk.mentB, j141, b141, q141, qq, ww, List.replicate, simprocAttr, if_true, if_false]
    · have h2 : hi < n := by simpa using h2
      rw [if_neg (by omega)]
      rfl
    · have h2 : ¬ hi < n := by simpa using h2
      rw [if_pos (by omega)]
      rfl
theorem e140 (N d : Nat) (os : List Ow) (hN : os.length < N) (hl : os.length < 1000000) : TT N (d + 1) 140 [.one (.row (oR os))] = some (.one (joinV os), []) := by
  have hol : (oR os).length = os.length := by simp [oR]
  have hget : ∀ {i : Nat} (h : i < os.length), (oR os)[i]? = some [oV os[i]] := fun h => by simp [oR, h]
  have hle := oks_le os
  rw [t140, F_ev rfl]
  simp only [j140, b140, q140, qq, ww, List.replicate, simprocAttr, if_true, if_false]
  refine loopK (K := fun o => fin _ (aft _ _ _ o)) (fun i => ⟨[(0, .one (.row (oR os))), (3, iV (oks (os.take i)).length), (9, .one (.row (oR os))), (10, iV (oR os).length), (11, iV i)], []⟩) (fun i => some (.one (joinV os), [])) os.length ?hr os.length 0 N _ (by omega) hN ?hk
  case hk => simp only [kk, simprocAttr, if_true, if_false]; try rfl
  case hr =>
    intro i q hi ih
    (try dsimp only)
    by_cases hlt : i < os.length
    · have g1 : decide ((i : Int) < ((oR os).length : Int)) = true := by rw [hol]; simp; omega
      have hb : 0 ≤ (i : Int) ∧ (i : Int) < ((oR os).length : Int) := by rw [hol]; omega
      have hs := hget hlt
      have hst := oks_s hlt
      have hti := oks_le (os.take i)
      rw [List.length_take] at hti
      cases ho : os[i] with
      | none =>
        rw [ho] at hs hst
        simp only [oV] at hs
        simp only [g1, hb.1, hb.2, hs, wi i (by omega), Int.toNat_natCast, j140, b140, q140, qq, ww, List.replicate, simprocAttr, if_true, if_false]
        exact ih hlt _ (by simp only [hst, List.append_nil, kk, simprocAttr, if_true, if_false])
      | some p =>
        rw [ho] at hs hst
        simp only [oV] at hs
        simp only [g1, hb.1, hb.2, hs, wi i (by omega), wi (oks (os.take i)).length (by omega), Int.toNat_natCast, j140, b140, q140, qq, ww, List.replicate, simprocAttr, if_true, if_false]
        exact ih hlt _ (by simp only [hst, List.length_append, List.length_cons, List.length_nil, Nat.zero_add, kk, simprocAttr, if_true, if_false])
    · clear ih
      obtain rfl : i = os.length := by omega
      have g1 : decide ((os.length : Int) < ((oR os).length : Int)) = false := by rw [hol]; simp
      rw [List.take_length]
      by_cases h0 : (oks os).length = 0
      · have g2 : decide (((oks os).length : Int) = 0) = true := decide_eq_true (by omega)
        rw [joinV, if_pos h0]
        simp only [g1, g2, j140, b140, q140, qq, ww, List.replicate, simprocAttr, if_true, if_false]
      · have g2 : decide (((oks os).length : Int) = 0) = false := decide_eq_false (by omega)
        have hby : ((oks os).length : Int) * 16 ≤ 140737488355328 := by omega
        have hz : (0 : Int) ≤ ((oks os).length : Int) := by omega
        rw [joinV, if_neg h0]
        simp only [g1, g2, hby, hz, blkMents, Blk.mentB, j140, b140, q140, qq, ww, List.replicate, simprocAttr, if_true, if_false]
        refine loopK (K := fun o => fin _ (aft _ _ _ o)) (fun i => ⟨[(6, .one (.ref 1600 0 0)), (26, .one (.row (oR os))), (27, iV (oR os).length), (28, iV i)], [(1600, .box [.sl 1472 0 (oks (os.take i)).length]), (1472, .rows 119 1 (wR (oks (os.take i))))]⟩) (fun i => some (.one (jV (wR (oks os))), [])) os.length ?hr2 os.length 0 N _ (by omega) hN ?hk2
        case hk2 => simp only [kk, simprocAttr, if_true, if_false]; try rfl
        case hr2 =>
          intro j q2 hj ih
          (try dsimp only)
          have htj := oks_le (os.take j)
          rw [List.length_take] at htj
          have hwl : (wR (oks (os.take j))).length = (oks (os.take j)).length := by simp [wR]
          have htk : List.take (oks (os.take j)).length (wR (oks (os.take j))) = wR (oks (os.take j)) := List.take_of_length_le (by omega)
          by_cases hlt : j < os.length
          · have g1 : decide ((j : Int) < ((oR os).length : Int)) = true := by rw [hol]; simp; omega
            have hb : 0 ≤ (j : Int) ∧ (j : Int) < ((oR os).length : Int) := by rw [hol]; omega
            have hs := hget hlt
            have hst := oks_s hlt
            cases ho : os[j] with
            | none =>
              rw [ho] at hs hst
              simp only [oV] at hs
              simp only [g1, hb.1, hb.2, hs, wi j (by omega), Int.toNat_natCast, j140, b140, q140, qq, ww, List.replicate, simprocAttr, if_true, if_false]
              exact ih hlt _ (by simp only [hst, List.append_nil, kk, simprocAttr, if_true, if_false])
            | some p =>
              rw [ho] at hs hst
              simp only [oV] at hs
              have hby2 : ((oks (os.take j)).length + 1) * 16 ≤ 140737488355328 := by omega
              have hwa : wR (oks (os.take j) ++ [p]) = wR (oks (os.take j)) ++ [[wV p.1 p.2]] := by simp [wR]
              simp only [g1, hb.1, hb.2, hs, hwl, htk, hby2, wi j (by omega), Int.toNat_natCast, Nat.le_refl, BEq.rfl, j140, b140, q140, qq, ww, List.replicate, simprocAttr, if_true, if_false]
              exact ih hlt _ (by simp only [hst, hwa, List.length_append, List.length_cons, List.length_nil, Nat.zero_add, kk, simprocAttr, if_true, if_false])
          · obtain rfl : j = os.length := by omega
            have g1 : decide ((os.length : Int) < ((oR os).length : Int)) = false := by rw [hol]; simp
            rw [List.take_length] at hwl htk ⊢
            simp only [g1, blkMents, Blk.mentB, j140, b140, q140, qq, ww, List.replicate, simprocAttr, if_true, if_false]
            simp only [hwl, htk, Nat.le_refl, j140, b140, q140, qq, ww, List.replicate, simprocAttr, if_true, if_false]
end Go.Proofs.YtdflglehippoiaaGreatDoor.EC
namespace Go.Proofs.YtdflglehippoiaaGreatDoor.EC
open Go Go.Proofs.YtdflglehippoiaaGreatDoorR IG EA
set_option maxRecDepth 100000
set_option maxHeartbeats 4000000
structure Cf where
  (n t k d p w q : Int)
structure Sp where
  (k n t v m : Int)
abbrev eC (c : Cf) : List V := [.int .i64 c.n, .int .i64 c.t, .int .i64 c.k, .int .i64 c.d, .int .i64 c.p, .int .i64 c.w, .int .i64 c.q]
theorem oV_live (o : Ow) : V.live (oV o) = true := by rcases o with _ | ⟨s, e⟩ <;> rfl
theorem oV_ment (o : Ow) : V.ment (oV o) = none := by rcases o with _ | ⟨s, e⟩ <;> rfl
theorem jo_ment (os : List Ow) : V.ment (joinV os) = none := by
  unfold joinV
  split <;> rfl
theorem oV_pur (o : Ow) (h : Nat → Option Blk) : V.pur h (oV o) = some (oV o) := by rcases o with _ | ⟨s, e⟩ <;> rfl
theorem oV_pur1 (o : Ow) (h : Nat → Option Blk) : V.pur1 h (oV o) = some (oV o) := by rcases o with _ | ⟨s, e⟩ <;> rfl
theorem jo_pur (os : List Ow) (h : Nat → Option Blk) : V.pur h (joinV os) = some (joinV os) := by
  unfold joinV
  split <;> rfl
theorem jo_hand (os : List Ow) (h : Nat → Option Blk) (m k : Nat) (u : List Nat) : handS h m u k (.one (joinV os)) = some (.one (joinV os), u, k + 1, []) := by
  unfold joinV
  split
  · rfl
  · cases u <;> rfl
theorem oV_hand (o : Ow) (h : Nat → Option Blk) (m k : Nat) (u : List Nat) : handS h m u k (.one (oV o)) = some (.one (oV o), u, k + 1, []) := by rcases o with _ | ⟨s, e⟩ <;> rfl
theorem jo_live (os : List Ow) : V.live (joinV os) = true := by
  unfold joinV
  split <;> rfl
theorem whys_w : ∀ ws : List (ByteArray × Int), whys (wR ws) = some (ws.map (·.2))
  | [] => rfl
  | p :: r => by
    have := whys_w r
    simp only [wR] at this
    simp [wR, whys, why1, this]
def errW : List (ByteArray × Int) → Int
  | [] => 0
  | p :: r => if ((p :: r).map (·.2)).any (fun x => decide (x = 9)) then 9 else p.2
theorem errno_j (os : List Ow) (h : os.length < 1000) : XE.errnoM [.one (joinV os)] = some (iV (errW (oks os)), []) := by
  have hle := oks_le os
  unfold joinV
  by_cases h0 : (oks os).length = 0
  · rw [if_pos h0, List.eq_nil_of_length_eq_zero h0]; rfl
  · rw [if_neg h0]
    cases hq : oks os with
    | nil => rw [hq] at h0; exact absurd rfl h0
    | cons p r =>
      rw [hq] at hle
      simp only [List.length_cons] at hle
      have hw := whys_w (p :: r)
      rw [List.map_cons] at hw
      simp only [XE.errnoM, hw, List.length_map]
      rw [if_pos (by omega)]
      rfl
abbrev fl (s : ByteArray) (n lo hi e : Int) : Ow := if lo ≤ n ∧ n ≤ hi then none else some (s, e)
abbrev cfl (c : Cf) : List Ow := [fl ⟨#[110, 111, 100, 101, 115]⟩ c.n 1 8 13, fl ⟨#[116, 111, 112, 105, 99, 115]⟩ c.t 1 4 13, fl ⟨#[107, 105, 100, 115]⟩ c.k 1 4 13, fl ⟨#[100, 101, 112, 116, 104]⟩ c.d 1 8 13, fl ⟨#[107, 101, 101, 112]⟩ c.p 1 16 13, fl ⟨#[119, 105, 110, 100, 111, 119]⟩ c.w 1 16 13, fl ⟨#[113, 117, 101, 117, 101]⟩ c.q 2 32 13]
theorem e105 (N d : Nat) (c : Cf) (hN : 7 < N) : TT N (d + 2) 105 [.agg (eC c)] = some (.one (joinV (cfl c)), []) := by
  have h30 := fun d s n lo hi e => e141 N d s n lo hi e
  have h29 : ∀ d, TT N (d + 1) 140 [.one (.row [[oV (fl ⟨#[110, 111, 100, 101, 115]⟩ c.n 1 8 13)], [oV (fl ⟨#[116, 111, 112, 105, 99, 115]⟩ c.t 1 4 13)], [oV (fl ⟨#[107, 105, 100, 115]⟩ c.k 1 4 13)], [oV (fl ⟨#[100, 101, 112, 116, 104]⟩ c.d 1 8 13)], [oV (fl ⟨#[107, 101, 101, 112]⟩ c.p 1 16 13)], [oV (fl ⟨#[119, 105, 110, 100, 111, 119]⟩ c.w 1 16 13)], [oV (fl ⟨#[113, 117, 101, 117, 101]⟩ c.q 2 32 13)]])] = some (.one (joinV (cfl c)), []) := fun d => e140 N d (cfl c) (by simpa using hN) (by simp)
  rw [t105, F_ev rfl]
  simp only [h30, h29, ↓oV_pur, ↓oV_pur1, ↓jo_pur, ↓oV_live, ↓oV_ment, ↓jo_hand, ↓oV_hand, ↓jo_live, ↓jo_ment, j105, b105, q105, qq, ww, List.replicate, simprocAttr, if_true, if_false]
def okC (c : Cf) : Bool := decide ((1 ≤ c.n ∧ c.n ≤ 8) ∧ (1 ≤ c.t ∧ c.t ≤ 4) ∧ (1 ≤ c.k ∧ c.k ≤ 4) ∧ (1 ≤ c.d ∧ c.d ≤ 8) ∧ (1 ≤ c.p ∧ c.p ≤ 16) ∧ (1 ≤ c.w ∧ c.w ≤ 16) ∧ (2 ≤ c.q ∧ c.q ≤ 32))
theorem errW_13 : ∀ ws : List (ByteArray × Int), (∀ p ∈ ws, p.2 = 13) → errW ws = if ws = [] then 0 else 13
  | [], _ => rfl
  | p :: r, h => by
    have h1 : ((p :: r).map (·.2)).any (fun x => decide (x = 9)) = false := by
      rw [List.any_eq_false]
      intro x hx
      obtain ⟨q, hq, rfl⟩ := List.mem_map.1 hx
      simp [h q hq]
    rw [errW, h1, if_neg (by decide), if_neg (by simp)]
    exact h p (by simp)
theorem errW_c (c : Cf) : errW (oks (cfl c)) = if okC c then 0 else 13 := by
  rw [errW_13]
  · congr 1
    apply propext
    simp only [okC, oks, decide_eq_true_eq, List.filterMap_eq_nil_iff]
    constructor
    · intro h
      refine ⟨?_, ?_, ?_, ?_, ?_, ?_, ?_⟩
      all_goals (apply Decidable.byContradiction; intro hc)
      · have := h (fl ⟨#[110, 111, 100, 101, 115]⟩ c.n 1 8 13) (by simp); rw [fl, if_neg hc] at this; cases this
      · have := h (fl ⟨#[116, 111, 112, 105, 99, 115]⟩ c.t 1 4 13) (by simp); rw [fl, if_neg hc] at this; cases this
      · have := h (fl ⟨#[107, 105, 100, 115]⟩ c.k 1 4 13) (by simp); rw [fl, if_neg hc] at this; cases this
      · have := h (fl ⟨#[100, 101, 112, 116, 104]⟩ c.d 1 8 13) (by simp); rw [fl, if_neg hc] at this; cases this
      · have := h (fl ⟨#[107, 101, 101, 112]⟩ c.p 1 16 13) (by simp); rw [fl, if_neg hc] at this; cases this
      · have := h (fl ⟨#[119, 105, 110, 100, 111, 119]⟩ c.w 1 16 13) (by simp); rw [fl, if_neg hc] at this; cases this
      · have := h (fl ⟨#[113, 117, 101, 117, 101]⟩ c.q 2 32 13) (by simp); rw [fl, if_neg hc] at this; cases this
    · rintro ⟨h1, h2, h3, h4, h5, h6, h7⟩ o ho
      simp only [fl, if_pos h1, if_pos h2, if_pos h3, if_pos h4, if_pos h5, if_pos h6, if_pos h7, List.mem_cons, List.not_mem_nil, or_false, or_self] at ho
      subst ho
      rfl
  · intro p hp
    simp only [oks, List.mem_filterMap, id] at hp
    obtain ⟨o, ho, rfl⟩ := hp
    simp only [List.mem_cons, List.not_mem_nil, or_false, fl] at ho
    rcases ho with h | h | h | h | h | h | h <;> split at h <;> first | (cases h; rfl) | cases h
theorem e54 (N d : Nat) (c : Cf) (hN : 7 < N) : TT N (d + 3) 54 [.agg (eC c)] = some (iV (if okC c then 0 else 13), []) := by
  have h24 := fun d => e105 N d c hN
  have h23 : ∀ d, TT N (d + 1) 104 [.one (joinV (cfl c))] = some (iV (if okC c then 0 else 13), []) := fun d => by
    rw [t104, errno_j _ (by simp), errW_c]
  rw [t54, F_ev rfl]
  simp only [h24, h23, ↓jo_pur, ↓jo_hand, ↓oV_hand, ↓jo_live, ↓jo_ment, j54, b54, q54, qq, ww, List.replicate, simprocAttr, if_true, if_false]
end Go.Proofs.YtdflglehippoiaaGreatDoor.EC
namespace Go.Proofs.YtdflglehippoiaaGreatDoor.QA
open Go Go.Proofs.YtdflglehippoiaaGreatDoorR IG
set_option maxRecDepth 100000
structure Ev where
  (k e s l v c : Int)
  deriving DecidableEq
abbrev eE (x : Ev) : List V := [.int .i64 x.k, .int .i64 x.e, .int .i64 x.s, .int .i64 x.l, .int .i64 x.v, .int .i64 x.c]
abbrev aE (x : Ev) : S := .agg (eE x)
abbrev rE (l : List Ev) : V := .row (l.map eE)
def inB (n lo hi : Int) : Bool := decide (lo ≤ n) && decide (n ≤ hi)
def epOK (n : Int) : Bool := inB n 1 1073741824 && decide (n.tmod 16 < 8)
abbrev pl (x : Ev) : Bool := epOK x.e && inB x.s 1 1073741824
def evOK (x : Ev) : Bool :=
  if x.k = 1 then pl x && inB x.v 0 2147483647 && decide (x.l = 0) && decide (x.c = 0)
  else if x.k = 2 then pl x && inB x.l x.s 1073741824 && decide (x.v = 0) && decide (x.c = 0)
  else if x.k = 3 then inB x.c 1 40 && inB x.v 0 7 && decide (x.e = 0) && decide (x.s = 0) && decide (x.l = 0)
  else if x.k = 4 then inB x.c 1 40 && decide (x.v = 0) && decide (x.e = 0) && decide (x.s = 0) && decide (x.l = 0)
  else if x.k = 5 then decide (x.c = 0) && decide (x.v = 0) && decide (x.e = 0) && decide (x.s = 0) && decide (x.l = 0)
  else false
theorem e110 (N d) (n lo hi) : TT N (d + 1) 110 [iV n, iV lo, iV hi] = some (bV (inB n lo hi), []) := by
  rw [t110, F_ev rfl]
  simp only [j110, b110, q110, qq, ww, List.replicate, simprocAttr, if_true, if_false]
  repeat' (refine fin_cases (fun h1 => ?_) (fun h1 => ?_) <;> simp only [h1, j110, b110, q110, qq, ww, List.replicate, simprocAttr, if_true, if_false])
  all_goals grind [inB]
theorem e87 (N d) (n lo hi) : TT N (d + 1) 87 [iV n, iV lo, iV hi] = some (bV (inB n lo hi), []) := by
  rw [t87, F_ev rfl]
  simp only [j87, b87, q87, qq, ww, List.replicate, simprocAttr, if_true, if_false]
  repeat' (refine fin_cases (fun h1 => ?_) (fun h1 => ?_) <;> simp only [h1, j87, b87, q87, qq, ww, List.replicate, simprocAttr, if_true, if_false])
  all_goals grind [inB]
theorem e60 (N d) (n lo hi) : TT N (d + 1) 60 [iV n, iV lo, iV hi] = some (bV (inB n lo hi), []) := by
  rw [t60, F_ev rfl]
  simp only [j60, b60, q60, qq, ww, List.replicate, simprocAttr, if_true, if_false]
  repeat' (refine fin_cases (fun h1 => ?_) (fun h1 => ?_) <;> simp only [h1, j60, b60, q60, qq, ww, List.replicate, simprocAttr, if_true, if_false])
  all_goals grind [inB]
theorem e116 (N d) (n) : TT N (d + 2) 116 [iV n] = some (bV (inB n 1 1073741824), []) := by
  rw [t116, F_ev rfl]
  simp only [e110, j116, b116, q116, qq, ww, List.replicate, simprocAttr, if_true, if_false]
  repeat' (refine fin_cases (fun h1 => ?_) (fun h1 => ?_) <;> simp only [h1, e110, j116, b116, q116, qq, ww, List.replicate, simprocAttr, if_true, if_false])
theorem e56 (N d) (n) : TT N (d + 2) 56 [iV n] = some (bV (inB n 0 2147483647), []) := by
  rw [t56, F_ev rfl]
  simp only [e110, j56, b56, q56, qq, ww, List.replicate, simprocAttr, if_true, if_false]
  repeat' (refine fin_cases (fun h1 => ?_) (fun h1 => ?_) <;> simp only [h1, e110, j56, b56, q56, qq, ww, List.replicate, simprocAttr, if_true, if_false])
theorem e76 (N d) (n) : TT N (d + 2) 76 [iV n] = some (bV (inB n 0 2147483647), []) := by
  rw [t76, F_ev rfl]
  simp only [e60, j76, b76, q76, qq, ww, List.replicate, simprocAttr, if_true, if_false]
  repeat' (refine fin_cases (fun h1 => ?_) (fun h1 => ?_) <;> simp only [h1, e60, j76, b76, q76, qq, ww, List.replicate, simprocAttr, if_true, if_false])
theorem e88 (N d) (n) : TT N (d + 2) 88 [iV n] = some (bV (epOK n), []) := by
  rw [t88, F_ev rfl]
  simp only [e87, j88, b88, q88, qq, ww, List.replicate, simprocAttr, if_true, if_false]
  repeat' (refine fin_cases (fun h1 => ?_) (fun h1 => ?_) <;> simp only [h1, e87, j88, b88, q88, qq, ww, List.replicate, simprocAttr, if_true, if_false])
  all_goals (first | (simp_all [epOK, inB]; done) | (simp_all [epOK, inB]; omega) | grind [inB, epOK])
theorem e161 (N d) (n) : TT N (d + 2) 161 [iV n] = some (bV (inB n 1 1073741824), []) := by
  rw [t161, F_ev rfl]
  simp only [e87, j161, b161, q161, qq, ww, List.replicate, simprocAttr, if_true, if_false]
  repeat' (refine fin_cases (fun h1 => ?_) (fun h1 => ?_) <;> simp only [h1, e87, j161, b161, q161, qq, ww, List.replicate, simprocAttr, if_true, if_false])
theorem e26 (N d) (n) : TT N (d + 2) 26 [iV n] = some (bV (inB n 0 7), []) := by
  rw [t26, F_ev rfl]
  simp only [e60, j26, b26, q26, qq, ww, List.replicate, simprocAttr, if_true, if_false]
  repeat' (refine fin_cases (fun h1 => ?_) (fun h1 => ?_) <;> simp only [h1, e60, j26, b26, q26, qq, ww, List.replicate, simprocAttr, if_true, if_false])
theorem e131 (N d) (n lo) : TT N (d + 1) 131 [iV n, iV lo] = some (bV (inB n 0 (lo - 1)), []) := by
  rw [t131, F_ev rfl]
  simp only [j131, b131, q131, qq, ww, List.replicate, simprocAttr, if_true, if_false]
  repeat' (refine fin_cases (fun h1 => ?_) (fun h1 => ?_) <;> simp only [h1, j131, b131, q131, qq, ww, List.replicate, simprocAttr, if_true, if_false])
  all_goals grind [inB]
theorem e85 (N d) (n) : TT N (d + 2) 85 [iV n] = some (bV (inB n 0 7), []) := by
  rw [t85, F_ev rfl]
  simp only [e131, j85, b85, q85, qq, ww, List.replicate, simprocAttr, if_true, if_false]
  repeat' (refine fin_cases (fun h1 => ?_) (fun h1 => ?_) <;> simp only [h1, e131, j85, b85, q85, qq, ww, List.replicate, simprocAttr, if_true, if_false])
theorem e53 (N d) (n) : TT N (d + 3) 53 [iV n] = some (iV (if epOK n then 0 else 1), []) := by
  rw [t53, F_ev rfl]
  simp only [e85, j53, b53, q53, qq, ww, List.replicate, simprocAttr, if_true, if_false]
  repeat' (refine fin_cases (fun h1 => ?_) (fun h1 => ?_) <;> simp only [h1, e85, j53, b53, q53, qq, ww, List.replicate, simprocAttr, if_true, if_false])
  all_goals (first | (simp_all [epOK, inB]; done) | (simp_all [epOK, inB]; omega) | grind [inB, epOK])
theorem e198 (N d) (n) : TT N (d + 1) 198 [iV n] = some (bV (inB n 1 40), []) := by
  rw [t198, F_ev rfl]
  simp only [j198, b198, q198, qq, ww, List.replicate, simprocAttr, if_true, if_false]
  repeat' (refine fin_cases (fun h1 => ?_) (fun h1 => ?_) <;> simp only [h1, j198, b198, q198, qq, ww, List.replicate, simprocAttr, if_true, if_false])
  all_goals grind [inB]
theorem e197 (N d) (x) : TT N (d + 4) 197 [aE x] = some (bV (pl x), []) := by
  rw [t197, F_ev rfl]
  simp only [e53, e116, j197, b197, q197, qq, ww, List.replicate, simprocAttr, if_true, if_false]
  repeat' (refine fin_cases (fun h1 => ?_) (fun h1 => ?_) <;> simp only [h1, e53, e116, j197, b197, q197, qq, ww, List.replicate, simprocAttr, if_true, if_false])
  all_goals (first | (simp_all [epOK, inB]; done) | (simp_all [epOK, inB]; omega) | grind [inB, epOK])
theorem e164 (N d) (x) : TT N (d + 3) 164 [aE x] = some (bV (evOK x), []) := by
  rw [t164, F_ev rfl]
  simp only [e76, e88, e161, e87, e26, e60, j164, b164, q164, qq, ww, List.replicate, simprocAttr, if_true, if_false]
  repeat' (refine fin_cases (fun h1 => ?_) (fun h1 => ?_) <;> simp only [h1, e76, e88, e161, e87, e26, e60, j164, b164, q164, qq, ww, List.replicate, simprocAttr, if_true, if_false])
  all_goals (first | (simp_all [epOK, inB, evOK]; done) | (simp_all [epOK, inB, evOK]; omega) | grind [inB, epOK, evOK])
end Go.Proofs.YtdflglehippoiaaGreatDoor.QA
namespace Go.Proofs.YtdflglehippoiaaGreatDoor.QA
open Go Go.Proofs.YtdflglehippoiaaGreatDoorR IG
set_option maxRecDepth 100000
def bareE (x : Ev) : Ev × Bool :=
  if x.k = 1 then (⟨1, 0, 0, x.l, 0, x.c⟩, pl x && inB x.v 0 2147483647)
  else if x.k = 2 then (⟨2, 0, 0, 0, x.v, x.c⟩, pl x && decide (x.s ≤ x.l) && decide (x.l ≤ 1073741824))
  else if x.k = 3 then (⟨3, x.e, x.s, x.l, 0, 0⟩, inB x.c 1 40 && inB x.v 0 7)
  else if x.k = 4 then (⟨4, x.e, x.s, x.l, x.v, 0⟩, inB x.c 1 40)
  else (x, decide (x.k = 5))
theorem e192 (N d) (x) : TT N (d + 5) 192 [aE x] = some (.tup [aE (bareE x).1, bV (bareE x).2], []) := by
  rw [t192, F_ev rfl]
  simp only [e197, e198, e85, e56, j192, b192, q192, qq, ww, List.replicate, simprocAttr, if_true, if_false]
  repeat' (refine fin_cases (fun h1 => ?_) (fun h1 => ?_) <;> simp only [h1, e197, e198, e85, e56, j192, b192, q192, qq, ww, List.replicate, simprocAttr, if_true, if_false])
  all_goals (first | (simp_all [bareE]; done) | (simp_all [bareE]; omega) | grind [bareE])
theorem e178 (N d) (x) : TT N (d + 6) 178 [aE x] = some (iV (if evOK x then 0 else 1), []) := by
  rw [t178, F_ev rfl]
  simp only [e192, j178, b178, q178, qq, ww, List.replicate, simprocAttr, if_true, if_false]
  repeat' (refine fin_cases (fun h1 => ?_) (fun h1 => ?_) <;> simp only [h1, e192, j178, b178, q178, qq, ww, List.replicate, simprocAttr, if_true, if_false])
  all_goals grind [bareE, evOK, inB]

def gapE (x : Ev) : Option Ev := if x.k = 1 then some ⟨2, x.e, x.s, x.s, 0, 0⟩ else if x.k = 2 then some x else none
theorem e199 (N d) (x) : TT N (d + 1) 199 [aE x] = some (.tup [aE ((gapE x).getD ⟨0, 0, 0, 0, 0, 0⟩), bV (gapE x).isSome], []) := by
  rw [t199, F_ev rfl]
  simp only [j199, b199, q199, qq, ww, List.replicate, simprocAttr, if_true, if_false]
  repeat' (refine fin_cases (fun h1 => ?_) (fun h1 => ?_) <;> simp only [h1, j199, b199, q199, qq, ww, List.replicate, simprocAttr, if_true, if_false])
  all_goals grind [gapE]
theorem n01 {b : Bool} : decide ((if b = true then (0 : Int) else 1) = 0) = b := by cases b <;> rfl
theorem e177 (N d) (x) : TT N (d + 7) 177 [aE x] = some (bV (!evOK x), []) := by
  rw [t177, F_ev rfl]
  simp only [e178, n01, j177, b177, q177, qq, ww, List.replicate, simprocAttr, if_true, if_false]
  repeat' (refine fin_cases (fun h1 => ?_) (fun h1 => ?_) <;> simp only [h1, e178, n01, j177, b177, q177, qq, ww, List.replicate, simprocAttr, if_true, if_false])
def ix {α : Type} (p : α → Bool) : List α → Int → Int
  | [], _ => -1
  | x :: r, i => if p x then i else ix p r (i + 1)
theorem wi (i : Nat) (h : i < 4611686018427387904) : IntKind.i64.wrap ((i : Int) + 1) = ((i + 1 : Nat) : Int) := by rw [IntWalk.i64_in _ (by omega)]; omega
theorem e191 (N d f : Nat) (p : Ev → Bool) (hf : ∀ x, TT N d f [aE x] = some (bV (p x), [])) (l : List Ev) (hN : l.length < N) (hl : l.length < 1000000) : TT N (d + 1) 191 [.one (rE l), .one (.fn f [])] = some (iV (ix p l 0), []) := by
  rw [t191, F_ev rfl]
  simp only [j191, b191, q191, qq, ww, List.replicate, simprocAttr, if_true, if_false, List.length_map]
  refine (loopK (K := fun o => fin _ (aft _ _ _ o)) (fun i => ⟨[(0, .one (rE l)), (1, .one (.fn f [])), (7, iV l.length), (8, iV i)], []⟩) (fun i => some (iV (ix p (l.drop i) i), [])) l.length ?hr l.length 0 N _ (by omega) hN ?hk).trans ?_
  case hk => simp only [kk, simprocAttr, if_true, if_false]; try rfl
  case hr =>
    intro i n hi ih
    (try dsimp only)
    by_cases hlt : i < l.length
    · have h1 : decide ((i : Int) < (l.length : Int)) = true := by simp; omega
      have hget : (l.map eE)[i]? = some (eE l[i]) := by simp [hlt]
      have hd : l.drop i = l[i] :: l.drop (i + 1) := by simp
      have hb : 0 ≤ (i : Int) ∧ (i : Int) < (l.length : Int) := by omega
      simp only [qq, ww, List.replicate, simprocAttr, if_true, if_false, h1, hb.1, hb.2, List.length_map, Int.toNat_natCast, hget, hf, wi i (by omega)]
      refine fin_cases2 (fun hp => ?_) (fun hp => ?_) <;> simp only [j191, b191, q191, qq, ww, List.replicate, simprocAttr, if_true, if_false, wi i (by omega)]
      · rw [hd, ix, hp, if_pos rfl]
      · rw [hd, ix, hp, if_neg (by decide)]
        exact ih hlt _ (by simp only [kk, simprocAttr, if_true, if_false])
    · have h1 : decide ((i : Int) < (l.length : Int)) = false := by simp; omega
      simp only [j191, b191, q191, qq, ww, List.replicate, simprocAttr, if_true, if_false, h1]
      rw [List.drop_of_length_le (by omega)]
      rfl
  rfl

theorem ix_any {α : Type} (p : α → Bool) : ∀ (l : List α) (i : Int), 0 ≤ i → decide (ix p l i ≥ 0) = l.any p
  | [], i, h => by simp [ix]
  | x :: r, i, h => by
    have := ix_any p r (i + 1) (by omega)
    cases hp : p x <;> simp_all [ix]
theorem e176 (N d f : Nat) (p : Ev → Bool) (hf : ∀ x, TT N d f [aE x] = some (bV (p x), [])) (l : List Ev) (hN : l.length < N) (hl : l.length < 1000000) : TT N (d + 2) 176 [.one (rE l), .one (.fn f [])] = some (bV (l.any p), []) := by
  rw [t176, F_ev rfl]
  simp only [e191 N d f p hf l hN hl, j176, b176, q176, qq, ww, List.replicate, simprocAttr, if_true, if_false]
  simp [ix_any]
end Go.Proofs.YtdflglehippoiaaGreatDoor.QA
namespace Go.Proofs.YtdflglehippoiaaGreatDoor.QA
open Go Go.Proofs.YtdflglehippoiaaGreatDoorR IG
set_option maxRecDepth 100000
def lastK (l : List Ev) : Int := match l.getLast? with
  | some y => y.k
  | none => 0
def qOK (l : List Ev) (limit : Int) : Bool := decide (2 ≤ limit) && decide (limit ≤ 32) && decide ((l.length : Int) ≤ limit) && l.all evOK && (!decide ((l.length : Int) = limit) || decide (lastK l = 2))
theorem any_not {α : Type} (p : α → Bool) (l : List α) : l.any (fun x => !p x) = !l.all p := by
  induction l with
  | nil => rfl
  | cons a r ih => simp only [List.any_cons, List.all_cons, ih]; cases p a <;> simp
theorem last_of {l : List Ev} (h : 0 < l.length) : ∃ y, l[l.length - 1]? = some y ∧ lastK l = y.k := by
  refine ⟨l[l.length - 1], by simp, ?_⟩
  simp [lastK, List.getLast?_eq_getElem?, List.getElem?_eq_getElem (show l.length - 1 < l.length by omega)]
theorem e143 (N d : Nat) (l : List Ev) (limit : Int) (hN : l.length < N) (hl : l.length < 1000000) : TT N (d + 10) 143 [.one (rE l), iV limit] = some (iV (if qOK l limit then 0 else 1), []) := by
  have h53 := fun d => e176 N (d + 7) 177 (fun x => !evOK x) (fun x => e177 N d x) l hN hl
  rw [t143, F_ev rfl]
  by_cases hc : 2 ≤ limit ∧ limit ≤ 32 ∧ (l.length : Int) = limit
  · obtain ⟨h1, h2, h3⟩ := hc
    obtain ⟨y, hy, hk⟩ := last_of (l := l) (by omega)
    have hw : IntKind.i64.wrap (limit - 1) = limit - 1 := IntWalk.i64_in _ (by omega)
    have hg : (l.map eE)[(limit - 1).toNat]? = some (eE y) := by rw [show (limit - 1).toNat = l.length - 1 by omega]; exact get_map hy
    have hb : 0 ≤ limit - 1 ∧ limit - 1 < (l.length : Int) := by omega
    simp only [h53, hw, hg, hb.1, hb.2, List.length_map, j143, b143, q143, qq, ww, List.replicate, simprocAttr, if_true, if_false]
    repeat' (refine fin_cases (fun h1 => ?_) (fun h1 => ?_) <;> simp only [h1, h53, hw, hg, hb.1, hb.2, List.length_map, j143, b143, q143, qq, ww, List.replicate, simprocAttr, if_true, if_false])
    all_goals clear h53; simp_all [qOK, any_not]
    all_goals (intros; first | omega | grind)
  · simp only [h53, List.length_map, j143, b143, q143, qq, ww, List.replicate, simprocAttr, if_true, if_false]
    repeat' (refine fin_cases (fun h1 => ?_) (fun h1 => ?_) <;> simp only [h1, h53, List.length_map, j143, b143, q143, qq, ww, List.replicate, simprocAttr, if_true, if_false])
    all_goals clear h53; simp_all [qOK, any_not]
    all_goals (intros; first | omega | grind)
end Go.Proofs.YtdflglehippoiaaGreatDoor.QA
namespace Go.Proofs.YtdflglehippoiaaGreatDoor.QA
open Go Go.Proofs.YtdflglehippoiaaGreatDoorR IG
set_option maxRecDepth 100000
theorem dcons {α : Type} [DecidableEq α] {x y : α} {r q : List α} : decide (x :: r = y :: q) = (decide (x = y) && decide (r = q)) := by simp
theorem e133 (N d : Nat) (l : List Ev) (limit : Int) (hN : l.length < N) (hl : l.length < 1000000) : TT N (d + 4) 133 [.one (rE l), iV limit] = some (bV (qOK l limit), []) := by
  rw [t133, F_ev rfl]
  simp only [e87, List.length_map, j133, b133, q133, qq, ww, List.replicate, simprocAttr, if_true, if_false]
  refine fin_cases (fun h1 => ?_) (fun h1 => ?_) <;> simp only [h1, e87, List.length_map, j133, b133, q133, qq, ww, List.replicate, simprocAttr, if_true, if_false]
  · simp_all [inB, qOK]
    intros; omega
  refine fin_cases (fun h2 => ?_) (fun h2 => ?_) <;> simp only [h2, e87, List.length_map, j133, b133, q133, qq, ww, List.replicate, simprocAttr, if_true, if_false]
  · simp_all [inB, qOK]
    intros; omega
  have hc : 2 ≤ limit ∧ limit ≤ 32 ∧ (l.length : Int) ≤ limit := by simp [inB] at h1 h2; omega
  refine (loopK (K := fun o => fin _ (aft _ _ _ o)) (fun i => ⟨[(0, .one (rE l)), (1, iV limit), (5, iV i)], []⟩) (fun i => some (bV ((l.drop i).all evOK && (!decide ((l.length : Int) = limit) || decide (lastK l = 2))), [])) l.length ?hr l.length 0 N _ (by omega) hN ?hk).trans ?_
  case hk => simp only [kk, simprocAttr, if_true, if_false]; try rfl
  case hr =>
    intro i n hi ih
    (try dsimp only)
    by_cases hlt : i < l.length
    · have h1 : decide ((i : Int) < (l.length : Int)) = true := by simp; omega
      have hg1 : (l.map eE)[i]? = some (eE l[i]) := by simp [hlt]
      have hd1 : l.drop i = l[i] :: l.drop (i + 1) := by simp
      have hb : 0 ≤ (i : Int) ∧ (i : Int) < (l.length : Int) := by omega
      simp only [h1, hb.1, hb.2, e164, List.length_map, Int.toNat_natCast, hg1, wi i (by omega), j133, b133, q133, qq, ww, List.replicate, simprocAttr, if_true, if_false]
      refine fin_cases2 (fun hp => ?_) (fun hp => ?_) <;> simp only [wi i (by omega), j133, b133, q133, qq, ww, List.replicate, simprocAttr, if_true, if_false]
      · rw [hd1, List.all_cons, show evOK l[i] = false by simpa only [Bool.not_eq_true'] using hp]; rfl
      · rw [hd1, List.all_cons, show evOK l[i] = true by simpa only [Bool.not_eq_false'] using hp, Bool.true_and]
        exact ih hlt _ (by simp only [kk, simprocAttr, if_true, if_false])
    · have h1 : decide ((i : Int) < (l.length : Int)) = false := by simp; omega
      simp only [h1, List.length_map, j133, b133, q133, qq, ww, List.replicate, simprocAttr, if_true, if_false]
      rw [List.drop_of_length_le (by omega)]
      refine fin_cases (fun h3 => ?_) (fun h3 => ?_) <;> simp only [h3, List.length_map, j133, b133, q133, qq, ww, List.replicate, simprocAttr, if_true, if_false]
      · have : ¬ (l.length : Int) = limit := by simp at h3; omega
        simp [this]
      · have h4 : (l.length : Int) = limit := by simp at h3; omega
        obtain ⟨y, hy, hk⟩ := last_of (l := l) (by omega)
        have hw : IntKind.i64.wrap ((l.length : Int) - 1) = (l.length : Int) - 1 := IntWalk.i64_in _ (by omega)
        have hg : (l.map eE)[((l.length : Int) - 1).toNat]? = some (eE y) := by rw [show ((l.length : Int) - 1).toNat = l.length - 1 by omega]; exact get_map hy
        have hb : 0 ≤ (l.length : Int) - 1 ∧ (l.length : Int) - 1 < (l.length : Int) := by omega
        simp only [hw, hg, hb.1, hb.2, List.length_map, j133, b133, q133, qq, ww, List.replicate, simprocAttr, if_true, if_false]
        simp [h4, hk]
  · simp [qOK, hc]
theorem e102 (N d : Nat) (l : List Ev) (hl : l.length < 1000000) : TT N (d + 1) 102 [.one (rE l)] = some (.one (.sl 0 0 l.length), [(0, .rows 84 6 (l.map eE))]) := by
  show cloneM 84 6 48 [.one (rE l)] = _
  simp only [cloneM]
  rw [if_pos ⟨by simp, by rw [List.length_map]; omega⟩, List.length_map]
theorem all6 (l : List Ev) : (l.map eE).all (fun x => x.length == 6) = true := by simp
end Go.Proofs.YtdflglehippoiaaGreatDoor.QA
namespace Go.Proofs.YtdflglehippoiaaGreatDoor.QA
open Go Go.Proofs.YtdflglehippoiaaGreatDoorR IG
set_option maxRecDepth 100000
theorem tk (l : List Ev) : (l.map eE).take l.length = l.map eE := List.take_of_length_le (by simp)
theorem tk1 (l : List Ev) (y : List V) : (l.map eE ++ [y]).take (l.length + 1) = l.map eE ++ [y] := List.take_of_length_le (by simp)
def putE (l : List Ev) (limit : Int) (x : Ev) : Int × List Ev :=
  if qOK l limit && evOK x then
    if (l.length : Int) < limit - 1 then (0, l ++ [x])
    else match gapE x with
      | none => (6, [])
      | some g =>
        if (l.length : Int) < limit then (0, l ++ [g])
        else match l.getLast? with
          | none => (6, [])
          | some y => if g.e = y.e ∧ g.s = y.l + 1 then (0, l.dropLast ++ [{ y with l := g.l }]) else (6, [])
  else (1, [])
theorem e193 (N d : Nat) (l : List Ev) (limit : Int) (x : Ev) (hN : l.length < N) (hl : l.length < 999999) : ans (TT N (d + 11) 193 [.one (rE l), iV limit, aE x]) = some (.tup [.one (rE (putE l limit x).2), iV (putE l limit x).1]) := by
  have h19 := fun d => e143 N d l limit hN (by omega)
  have h46 := fun d => e102 N d l (by omega)
  rw [t193, F_ev rfl]
  simp only [h19, h46, e178, e199, n01, List.length_map, j193, b193, q193, qq, ww, List.replicate, simprocAttr, if_true, if_false]
  by_cases hq : qOK l limit = true
  · simp only [hq, h19, h46, e178, e199, n01, List.length_map, j193, b193, q193, qq, ww, List.replicate, simprocAttr, if_true, if_false]
    refine an_cases (fun h1 => ?_) (fun h1 => ?_) <;> simp only [h1, h19, h46, e178, e199, n01, List.length_map, j193, b193, q193, qq, ww, List.replicate, simprocAttr, if_true, if_false]
    · simp only [putE, hq, show evOK x = false by simpa using h1]; rfl
    · have hx : evOK x = true := by simpa using h1
      have h2 : 2 ≤ limit ∧ limit ≤ 32 ∧ (l.length : Int) ≤ limit := by simp [qOK] at hq; omega
      have hw : IntKind.i64.wrap (limit - 1) = limit - 1 := IntWalk.i64_in _ (by omega)
      have hb : (l.length + 1) * 48 ≤ 140737488355328 := by omega
      have h6 := all6 l
      simp only [hw]
      refine an_cases (fun h3 => ?_) (fun h3 => ?_)
      · simp only [h3, h6, tk, tk1, hw, hb, h19, h46, e178, e199, n01, List.length_map, j193, b193, q193, qq, ww, List.replicate, simprocAttr, if_true, if_false]
        simp only [putE, hq, hx, Bool.and_true, if_true, if_pos (of_decide_eq_true h3)]
        simp
      · have h3' : ¬ (l.length : Int) < limit - 1 := of_decide_eq_false h3
        cases hg : gapE x with
        | none =>
          simp only [hg, h3, h6, tk, tk1, hw, hb, h19, h46, e178, e199, n01, Option.isSome_none, List.length_map, j193, b193, q193, qq, ww, List.replicate, simprocAttr, if_true, if_false]
          simp only [putE, hq, hx, Bool.and_true, if_true, if_neg h3', hg]; rfl
        | some g =>
          simp only [hg, h3, h6, tk, tk1, hw, hb, h19, h46, e178, e199, n01, Option.isSome_some, List.length_map, j193, b193, q193, qq, ww, List.replicate, simprocAttr, if_true, if_false]
          refine an_cases (fun h4 => ?_) (fun h4 => ?_)
          · simp only [h4, h6, tk, tk1, hw, hb, h19, h46, e178, e199, n01, List.length_map, j193, b193, q193, qq, ww, List.replicate, simprocAttr, if_true, if_false]
            simp only [putE, hq, hx, Bool.and_true, if_true, if_neg h3', hg, if_pos (of_decide_eq_true h4)]
            simp
          · have h4' : ¬ (l.length : Int) < limit := of_decide_eq_false h4
            rcases List.eq_nil_or_concat l with rfl | ⟨q, y, rfl⟩
            · simp at h4'; omega
            · simp only [List.concat_eq_append] at *
              have hi : (limit - 1).toNat = q.length := by simp at h4' h2; omega
              have hgt : (q.map eE ++ [eE y])[q.length]? = some (eE y) := by simp
              have hset : ∀ v, (q.map eE ++ [eE y]).set q.length v = q.map eE ++ [v] := by intro v; simp
              have htk : ∀ v, (q.map eE ++ [v]).take (q.length + 1) = q.map eE ++ [v] := fun v => List.take_of_length_le (by simp)
              have hb0 : limit - 1 < ((q.length + 1 : Nat) : Int) := by simp at h4' h2 ⊢; omega
              have hb1 : 0 ≤ limit - 1 := by omega
              have hy : y.k = 2 ∧ evOK y = true := by
                simp [qOK, lastK] at hq
                refine ⟨hq.2.resolve_left ?_, hq.1.2.2⟩
                simp at h4' h2; omega
              have hyl : IntKind.i64.wrap (y.l + 1) = y.l + 1 := IntWalk.i64_in _ (by have := hy.2; simp [evOK, hy.1, inB] at this; omega)
              simp only [h4, h6, tk, tk1, hw, hb, hi, hb0, hb1, hgt, hset, htk, hyl, h19, h46, e178, e199, n01, List.length_map, j193, b193, q193, qq, ww, List.replicate, simprocAttr, if_true, if_false]
              have hp : putE (q ++ [y]) limit x = if g.e = y.e ∧ g.s = y.l + 1 then (0, q ++ [{ y with l := g.l }]) else (6, []) := by
                simp only [putE, hq, hx, Bool.and_true, if_true, if_neg h3', hg, if_neg h4']
                simp
              rw [hp]
              repeat' (refine an_cases (fun h7 => ?_) (fun h7 => ?_) <;> simp only [h7, h4, h6, tk, tk1, hw, hb, hi, hb0, hb1, hgt, hset, htk, hyl, h19, h46, e178, e199, n01, List.length_map, j193, b193, q193, qq, ww, List.replicate, simprocAttr, if_true, if_false])
              all_goals clear h19 h46 htk hset hgt hp hq h6 hy hyl
              all_goals simp_all
  · simp only [hq, h19, h46, e178, e199, n01, List.length_map, j193, b193, q193, qq, ww, List.replicate, simprocAttr, if_true, if_false]
    simp only [putE, show qOK l limit = false by simpa using hq]; rfl
end Go.Proofs.YtdflglehippoiaaGreatDoor.QA
namespace Go.Proofs.YtdflglehippoiaaGreatDoor.QA
open Go Go.Proofs.YtdflglehippoiaaGreatDoorR IG
set_option maxRecDepth 100000
end Go.Proofs.YtdflglehippoiaaGreatDoor.QA
namespace Go.Proofs.YtdflglehippoiaaGreatDoor.AA
open Go Go.Proofs.YtdflglehippoiaaGreatDoorR IG
set_option maxRecDepth 100000
set_option maxHeartbeats 4000000
def inB (n lo hi : Int) : Bool := decide (lo ≤ n) && decide (n ≤ hi)
theorem wi (i : Nat) (h : i < 4611686018427387904) : IntKind.i64.wrap ((i : Int) + 1) = ((i + 1 : Nat) : Int) := by rw [IntWalk.i64_in _ (by omega)]; omega
structure It where
  (s v : Int)
  deriving DecidableEq
abbrev eT (x : It) : List V := [.int .i64 x.s, .int .i64 x.v]
abbrev aT (x : It) : S := .agg (eT x)
abbrev rT (l : List It) : V := .row (l.map eT)
theorem takeT (l : List It) : (l.map eT).take l.length = l.map eT := by rw [List.take_of_length_le (by simp)]
theorem allT (l : List It) : (l.map eT).all (fun x => x.length == 2) = true := by simp
theorem take_s {α : Type} {l : List α} {i : Nat} (h : i < l.length) : l.take (i + 1) = l.take i ++ [l[i]] := by simp
theorem e110 (N d) (n lo hi) : TT N (d + 1) 110 [iV n, iV lo, iV hi] = some (bV (inB n lo hi), []) := by
  rw [t110, F_ev rfl]
  simp only [j110, b110, q110, qq, ww, List.replicate, simprocAttr, if_true, if_false]
  repeat' (refine fin_cases (fun h1 => ?_) (fun h1 => ?_) <;> simp only [h1, j110, b110, q110, qq, ww, List.replicate, simprocAttr, if_true, if_false])
  all_goals grind [inB]
theorem e60 (N d) (n lo hi) : TT N (d + 1) 60 [iV n, iV lo, iV hi] = some (bV (inB n lo hi), []) := by
  rw [t60, F_ev rfl]
  simp only [j60, b60, q60, qq, ww, List.replicate, simprocAttr, if_true, if_false]
  repeat' (refine fin_cases (fun h1 => ?_) (fun h1 => ?_) <;> simp only [h1, j60, b60, q60, qq, ww, List.replicate, simprocAttr, if_true, if_false])
  all_goals grind [inB]
theorem e87 (N d) (n lo hi) : TT N (d + 1) 87 [iV n, iV lo, iV hi] = some (bV (inB n lo hi), []) := by
  rw [t87, F_ev rfl]
  simp only [j87, b87, q87, qq, ww, List.replicate, simprocAttr, if_true, if_false]
  repeat' (refine fin_cases (fun h1 => ?_) (fun h1 => ?_) <;> simp only [h1, j87, b87, q87, qq, ww, List.replicate, simprocAttr, if_true, if_false])
  all_goals grind [inB]
theorem e116 (N d) (n) : TT N (d + 2) 116 [iV n] = some (bV (inB n 1 1073741824), []) := by
  rw [t116, F_ev rfl]
  simp only [e110, j116, b116, q116, qq, ww, List.replicate, simprocAttr, if_true, if_false]
  repeat' (refine fin_cases (fun h1 => ?_) (fun h1 => ?_) <;> simp only [h1, e110, j116, b116, q116, qq, ww, List.replicate, simprocAttr, if_true, if_false])
theorem e56 (N d) (n) : TT N (d + 2) 56 [iV n] = some (bV (inB n 0 2147483647), []) := by
  rw [t56, F_ev rfl]
  simp only [e110, j56, b56, q56, qq, ww, List.replicate, simprocAttr, if_true, if_false]
  repeat' (refine fin_cases (fun h1 => ?_) (fun h1 => ?_) <;> simp only [h1, e110, j56, b56, q56, qq, ww, List.replicate, simprocAttr, if_true, if_false])
theorem e76 (N d) (n) : TT N (d + 2) 76 [iV n] = some (bV (inB n 0 2147483647), []) := by
  rw [t76, F_ev rfl]
  simp only [e60, j76, b76, q76, qq, ww, List.replicate, simprocAttr, if_true, if_false]
  repeat' (refine fin_cases (fun h1 => ?_) (fun h1 => ?_) <;> simp only [h1, e60, j76, b76, q76, qq, ww, List.replicate, simprocAttr, if_true, if_false])
def fitsB (s want win : Int) : Bool := decide (want < s) && decide (s < want + win) && decide (s < 1073741824)
theorem e150 (N d) (s want win : Int) (h : IntKind.i64.wrap (want + win) = want + win) : TT N (d + 1) 150 [iV s, iV want, iV win] = some (bV (fitsB s want win), []) := by
  rw [t150, F_ev rfl]
  simp only [h, j150, b150, q150, qq, ww, List.replicate, simprocAttr, if_true, if_false]
  repeat' (refine fin_cases (fun h1 => ?_) (fun h1 => ?_) <;> simp only [h1, h, j150, b150, q150, qq, ww, List.replicate, simprocAttr, if_true, if_false])
  all_goals grind [fitsB]
theorem e137 (N d : Nat) (l : List It) (hl : l.length < 1000000) : TT N (d + 1) 137 [.one (rT l)] = some (.one (.sl 0 0 l.length), [(0, .rows 88 2 (l.map eT))]) := by
  rw [t137]
  unfold cloneM
  simp only [List.length_map]
  rw [if_pos ⟨allT l, by omega⟩]
theorem eq_it {a b : It} : decide (a = b) = (decide (a.s = b.s) && decide (a.v = b.v)) := by cases a; cases b; simp
theorem dcons {α : Type} [DecidableEq α] {a b : α} {l r : List α} : decide (a :: l = b :: r) = (decide (a = b) && decide (l = r)) := by simp
theorem e59 (N d : Nat) (a b : List It) (hN : a.length < N) (hl : a.length < 1000000) : TT N (d + 1) 59 [.one (rT a), .one (rT b)] = some (bV (decide (a = b)), []) := by
  rw [t59, F_ev rfl]
  simp only [List.length_map, j59, b59, q59, qq, ww, List.replicate, simprocAttr, if_true, if_false]
  refine fin_cases (fun h => ?_) (fun h => ?_) <;> simp only [h, List.length_map, j59, b59, q59, qq, ww, List.replicate, simprocAttr, if_true, if_false]
  · have : ¬ a = b := fun e => by subst e; simp at h
    simp [this]
  have hab : a.length = b.length := by simp at h; omega
  refine (loopK (K := fun o => fin _ (aft _ _ _ o)) (fun i => ⟨[(0, .one (rT a)), (1, .one (rT b)), (5, iV i)], []⟩) (fun i => some (bV (decide (a.drop i = b.drop i)), [])) a.length ?hr a.length 0 N _ (by omega) hN ?hk).trans ?_
  case hk => simp only [kk, simprocAttr, if_true, if_false]; try rfl
  case hr =>
    intro i n hi ih
    (try dsimp only)
    by_cases hlt : i < a.length
    · have h1 : decide ((i : Int) < (a.length : Int)) = true := by simp; omega
      have hg1 : (a.map eT)[i]? = some (eT a[i]) := by simp [hlt]
      have hg2 : (b.map eT)[i]? = some (eT (b[i]'(by omega))) := by simp [hab ▸ hlt]
      have hd1 : a.drop i = a[i] :: a.drop (i + 1) := by simp
      have hd2 : b.drop i = b[i]'(by omega) :: b.drop (i + 1) := by simp
      have hb : 0 ≤ (i : Int) ∧ (i : Int) < (a.length : Int) ∧ (i : Int) < (b.length : Int) := by omega
      simp only [h1, hb.1, hb.2.1, hb.2.2, List.length_map, Int.toNat_natCast, hg1, hg2, wi i (by omega), j59, b59, q59, qq, ww, List.replicate, simprocAttr, if_true, if_false]
      refine fin_cases2 (fun hp => ?_) (fun hp => ?_) <;> simp only [wi i (by omega), j59, b59, q59, qq, ww, List.replicate, simprocAttr, if_true, if_false]
      · have hx : decide (a[i] = b[i]'(by omega)) = false := by rw [eq_it]; simpa only [Bool.not_eq_true'] using hp
        rw [hd1, hd2, dcons, hx]; rfl
      · have hx : decide (a[i] = b[i]'(by omega)) = true := by rw [eq_it]; simpa only [Bool.not_eq_false'] using hp
        rw [hd1, hd2, dcons, hx, Bool.true_and]
        exact ih hlt _ (by simp only [kk, simprocAttr, if_true, if_false])
    · have h1 : decide ((i : Int) < (a.length : Int)) = false := by simp; omega
      simp only [h1, List.length_map, j59, b59, q59, qq, ww, List.replicate, simprocAttr, if_true, if_false]
      rw [List.drop_of_length_le (by omega), List.drop_of_length_le (by omega)]
      rfl
  rfl
def risB (want win : Int) : Option Int → List It → Bool
  | _, [] => true
  | p, x :: r => fitsB x.s want win && inB x.v 0 2147483647 && (match p with
    | some q => decide (q < x.s)
    | none => true) && risB want win (some x.s) r
def ahOK (l : List It) (want win : Int) : Bool := inB want 1 1073741824 && inB win 1 16 && risB want win none l
def prv (l : List It) (i : Nat) : Option Int := if i = 0 then none else (l[i - 1]?).map It.s
theorem prv_s {l : List It} {i : Nat} (h : i < l.length) : prv l (i + 1) = some l[i].s := by
  unfold prv
  rw [if_neg (by omega), Nat.add_sub_cancel, List.getElem?_eq_getElem h]
  rfl
theorem wm (i : Nat) (h : i < 4611686018427387904) (h0 : 0 < i) : IntKind.i64.wrap ((i : Int) - 1) = ((i - 1 : Nat) : Int) := by rw [IntWalk.i64_in _ (by omega)]; omega
theorem e147 (N d : Nat) (l : List It) (want win : Int) (hN : l.length < N) (hl : l.length < 1000000) : TT N (d + 3) 147 [.one (rT l), iV want, iV win] = some (iV (if ahOK l want win then 0 else 1), []) := by
  rw [t147, F_ev rfl]
  simp only [e116, List.length_map, j147, b147, q147, qq, ww, List.replicate, simprocAttr, if_true, if_false]
  refine fin_cases (fun h1 => ?_) (fun h1 => ?_) <;> simp only [h1, e116, List.length_map, j147, b147, q147, qq, ww, List.replicate, simprocAttr, if_true, if_false]
  · simp_all [ahOK]
  refine fin_cases (fun h2 => ?_) (fun h2 => ?_) <;> simp only [h2, e116, List.length_map, j147, b147, q147, qq, ww, List.replicate, simprocAttr, if_true, if_false]
  · simp_all [ahOK, inB]
    intros; omega
  refine fin_cases (fun h3 => ?_) (fun h3 => ?_) <;> simp only [h3, e116, List.length_map, j147, b147, q147, qq, ww, List.replicate, simprocAttr, if_true, if_false]
  · simp_all [ahOK, inB]
    intros; omega
  have hw : 1 ≤ want ∧ want ≤ 1073741824 ∧ 1 ≤ win ∧ win ≤ 16 := by simp [inB] at h1 h2 h3; omega
  have hww : IntKind.i64.wrap (want + win) = want + win := IntWalk.i64_in _ (by omega)
  have h68 := fun d s => e150 N d s want win hww
  have ho : ahOK l want win = risB want win none l := by
    have : inB want 1 1073741824 = true ∧ inB win 1 16 = true := by simp [inB]; omega
    simp [ahOK, this.1, this.2]
  rw [ho]
  refine (loopK (K := fun o => fin _ (aft _ _ _ o)) (fun i => ⟨[(0, .one (rT l)), (1, iV want), (2, iV win), (20, .one (rT l)), (21, iV l.length), (22, iV i)], []⟩) (fun i => some (iV (if risB want win (prv l i) (l.drop i) then 0 else 1), [])) l.length ?hr l.length 0 N _ (by omega) hN ?hk).trans ?_
  case hk => simp only [kk, simprocAttr, if_true, if_false]; try rfl
  case hr =>
    intro i n hi ih
    (try dsimp only)
    by_cases hlt : i < l.length
    · have h1 : decide ((i : Int) < (l.length : Int)) = true := by simp; omega
      have hg1 : (l.map eT)[i]? = some (eT l[i]) := by simp [hlt]
      have hd1 : l.drop i = l[i] :: l.drop (i + 1) := by simp
      have hb : 0 ≤ (i : Int) ∧ (i : Int) < (l.length : Int) := by omega
      by_cases h0 : i = 0
      · have hpos : decide ((i : Int) > 0) = false := by simp; omega
        have hpv : prv l i = none := by unfold prv; rw [if_pos h0]
        simp only [h1, hb.1, hb.2, hpos, hg1, h68, e56, List.length_map, Int.toNat_natCast, j147, b147, q147, qq, ww, List.replicate, simprocAttr, if_true, if_false]
        repeat' (refine fin_cases2 (fun hp => ?_) (fun hp => ?_) <;> simp only [hp, hpos, e56, wi i (by omega), j147, b147, q147, qq, ww, List.replicate, simprocAttr, if_true, if_false])
        · rw [hd1, hpv]; clear ih hd1; simp_all [risB]
        · rw [hd1, hpv]; clear ih hd1; simp_all [risB]
        · rw [hd1, hpv, risB, ← prv_s hlt]
          refine (ih hlt _ (by simp only [kk, simprocAttr, if_true, if_false])).trans ?_
          clear ih hd1
          simp_all
      · obtain ⟨q, hq⟩ : ∃ q, q = l[i - 1]'(by omega) := ⟨_, rfl⟩
        have hg2 : (l.map eT)[i - 1]? = some (eT q) := by rw [List.getElem?_map, List.getElem?_eq_getElem (by omega), hq]; rfl
        have hb2 : 0 ≤ ((i - 1 : Nat) : Int) ∧ ((i - 1 : Nat) : Int) < (l.length : Int) := by omega
        have hpos : decide ((i : Int) > 0) = true := by simp; omega
        have hpv : prv l i = some q.s := by unfold prv; rw [if_neg h0, hq, List.getElem?_eq_getElem (by omega)]; rfl
        simp only [h1, hb.1, hb.2, hg1, hg2, hb2.1, hb2.2, hpos, wm i (by omega) (by omega), h68, e56, List.length_map, Int.toNat_natCast, j147, b147, q147, qq, ww, List.replicate, simprocAttr, if_true, if_false]
        repeat' (refine fin_cases2 (fun hp => ?_) (fun hp => ?_) <;> simp only [hp, hg2, hb2.1, hb2.2, hpos, wm i (by omega) (by omega), e56, List.length_map, Int.toNat_natCast, wi i (by omega), j147, b147, q147, qq, ww, List.replicate, simprocAttr, if_true, if_false])
        · rw [hd1, hpv]; clear ih hd1; simp_all [risB]
        · rw [hd1, hpv]; clear ih hd1; simp_all [risB]
        · have h5 : decide (q.s < l[i].s) = false := by simp at hp ⊢; omega
          rw [hd1, hpv, risB]
          simp only [h5, Bool.and_false, Bool.false_and]
          rfl
        · have h5 : decide (q.s < l[i].s) = true := by simp at hp ⊢; omega
          rw [hd1, hpv, risB, ← prv_s hlt]
          refine (ih hlt _ (by simp only [kk, simprocAttr, if_true, if_false])).trans ?_
          clear ih hd1
          simp_all
    · have h1 : decide ((i : Int) < (l.length : Int)) = false := by simp; omega
      simp only [h1, List.length_map, j147, b147, q147, qq, ww, List.replicate, simprocAttr, if_true, if_false]
      rw [List.drop_of_length_le (by omega)]
      rfl
  rfl
end Go.Proofs.YtdflglehippoiaaGreatDoor.AA
namespace Go.Proofs.YtdflglehippoiaaGreatDoor.AA
open Go Go.Proofs.YtdflglehippoiaaGreatDoorR IG
set_option maxRecDepth 100000
set_option maxHeartbeats 4000000
def ix {α : Type} (p : α → Bool) : List α → Int → Int
  | [], _ => -1
  | x :: r, i => if p x then i else ix p r (i + 1)
theorem e148 (N d f : Nat) (ps : List V) (p : It → Bool) (hf : ∀ x, TT N d f [aT x, .one (.ptr ps)] = some (bV (p x), [])) (l : List It) (hN : l.length < N) (hl : l.length < 1000000) : TT N (d + 1) 148 [.one (rT l), .one (.fn f [.ptr ps])] = some (iV (ix p l 0), []) := by
  rw [t148, F_ev rfl]
  simp only [List.length_map, j148, b148, q148, qq, ww, List.replicate, simprocAttr, if_true, if_false]
  refine (loopK (K := fun o => fin _ (aft _ _ _ o)) (fun i => ⟨[(0, .one (rT l)), (1, .one (.fn f [.ptr ps])), (7, iV l.length), (8, iV i)], []⟩) (fun i => some (iV (ix p (l.drop i) i), [])) l.length ?hr l.length 0 N _ (by omega) hN ?hk).trans ?_
  case hk => simp only [kk, simprocAttr, if_true, if_false]; try rfl
  case hr =>
    intro i n hi ih
    (try dsimp only)
    by_cases hlt : i < l.length
    · have h1 : decide ((i : Int) < (l.length : Int)) = true := by simp; omega
      have hget : (l.map eT)[i]? = some (eT l[i]) := by simp [hlt]
      have hd : l.drop i = l[i] :: l.drop (i + 1) := by simp
      have hb : 0 ≤ (i : Int) ∧ (i : Int) < (l.length : Int) := by omega
      simp only [h1, hb.1, hb.2, List.length_map, Int.toNat_natCast, hget, hf, wi i (by omega), j148, b148, q148, qq, ww, List.replicate, simprocAttr, if_true, if_false]
      refine fin_cases2 (fun hp => ?_) (fun hp => ?_) <;> simp only [wi i (by omega), j148, b148, q148, qq, ww, List.replicate, simprocAttr, if_true, if_false]
      · rw [hd, ix, hp, if_pos rfl]
      · rw [hd, ix, hp, if_neg (by decide)]
        exact ih hlt _ (by simp only [kk, simprocAttr, if_true, if_false])
    · have h1 : decide ((i : Int) < (l.length : Int)) = false := by simp; omega
      simp only [h1, j148, b148, q148, qq, ww, List.replicate, simprocAttr, if_true, if_false]
      rw [List.drop_of_length_le (by omega)]
      rfl
  rfl
theorem e149 (N d : Nat) (y x : It) : TT N (d + 1) 149 [aT y, .one (.ptr (eT x))] = some (bV (decide (x.s ≤ y.s)), []) := by
  rw [t149, F_ev rfl]
  simp only [j149, b149, q149, qq, ww, List.replicate, simprocAttr, if_true, if_false]
  repeat' (refine fin_cases (fun h1 => ?_) (fun h1 => ?_) <;> simp only [h1, j149, b149, q149, qq, ww, List.replicate, simprocAttr, if_true, if_false])
theorem e181 (N d : Nat) (y : It) (want : Int) : TT N (d + 1) 181 [aT y, .one (.ptr [.int .i64 want])] = some (bV (decide (y.s < want)), []) := by
  rw [t181, F_ev rfl]
  simp only [j181, b181, q181, qq, ww, List.replicate, simprocAttr, if_true, if_false]
  repeat' (refine fin_cases (fun h1 => ?_) (fun h1 => ?_) <;> simp only [h1, j181, b181, q181, qq, ww, List.replicate, simprocAttr, if_true, if_false])
abbrev hR (el e : Nat) (xs : List (List V)) : S := .tup [.one (.ref el e 0), .one (.row xs)]
theorem ix_some {α : Type} {p : α → Bool} : ∀ {l : List α} {i : Int}, 0 ≤ i → l.any p = true → ∃ k : Nat, ix p l i = i + k ∧ ∃ (h : k < l.length), p l[k] = true ∧ ∀ j (hj : j < k), p (l[j]'(by omega)) = false
  | [], i, _, h => by cases h
  | x :: r, i, h, ha => by
    unfold ix
    by_cases hp : p x = true
    · exact ⟨0, by simp [hp], by simp, by simpa using hp, fun j hj => by omega⟩
    · rw [if_neg hp]
      have hp' : p x = false := by simpa using hp
      rw [List.any_cons, hp', Bool.false_or] at ha
      obtain ⟨k, h1, h2, h3, h4⟩ := ix_some (l := r) (i := i + 1) (by omega) ha
      refine ⟨k + 1, by rw [h1]; omega, by simp; omega, by simpa using h3, fun j hj => ?_⟩
      cases j with
      | zero => simpa using hp'
      | succ j => simpa using h4 j (by omega)
theorem e180 (N d f : Nat) (ps : List V) (p : It → Bool) (hf : ∀ d x, TT N (d + 1) f [aT x, .one (.ptr ps)] = some (bV (p x), [])) (l : List It) (hN : l.length < N) (hl : l.length < 1000000) :
    TT N (d + 3) 180 [.one (.sl 0 0 l.length), .one (.fn f [.ptr ps]), .tup [hR 88 2 (l.map eT)]] =
      some (.one (if (l.filter fun x => !p x).length = 0 ∧ l ≠ [] then .row [] else .sl 0 0 (l.filter fun x => !p x).length), [(0, .rows 88 2 ((l.filter fun x => !p x).map eT))]) := by
  have h65 := e148 N (d + 1) f ps p (hf d) l hN hl
  rw [t180, F_evo rfl rfl (by simp)]
  cases ha : l.any p with
  | false =>
    have hix : ix p l 0 = -1 := by
      have h9 : ∀ (l : List It) (i : Int), l.any p = false → ix p l i = -1 := by
        intro l
        induction l with
        | nil => intro i _; rfl
        | cons x r ih =>
          intro i h
          rw [List.any_cons, Bool.or_eq_false_iff] at h
          rw [ix, h.1, if_neg (by decide)]
          exact ih _ h.2
      exact h9 l 0 ha
    have hfil : l.filter (fun x => !p x) = l := by
      rw [List.filter_eq_self]
      intro x hx
      have := List.any_eq_false.1 ha x hx
      simpa using this
    simp only [h65, hix, takeT, List.length_map, j180, b180, q180, qq, ww, List.replicate, simprocAttr, if_true, if_false]
    rw [hfil]
    cases l with
    | nil => rfl
    | cons x r => simp
  | true =>
    obtain ⟨k, hix, hk, hpk, hbef⟩ := ix_some (Int.le_refl 0) ha
    rw [Int.zero_add] at hix
    have hne : ((k : Int) = -1) = False := eq_false (by omega)
    have hfk : (l.take (k + 1)).filter (fun x => !p x) = l.take k := by
      rw [take_s hk, List.filter_append]
      have h1 : (l.take k).filter (fun x => !p x) = l.take k := by
        rw [List.filter_eq_self]
        intro x hx
        obtain ⟨j, hj⟩ := List.getElem?_of_mem hx
        rw [List.getElem?_take] at hj
        split at hj
        · rename_i hjk
          rw [List.getElem?_eq_getElem (by omega)] at hj
          cases hj
          have := hbef j hjk
          simpa using this
        · cases hj
      rw [h1]
      simp [hpk]
    simp only [h65, hix, hne, takeT, wi k (by omega), List.length_map, j180, b180, q180, qq, ww, List.replicate, simprocAttr, if_true, if_false]
    refine loopI (K := fun o => finG _ _ (aft _ _ _ o)) (I := fun q s => ∃ (c : List It) (i : Nat), s = ⟨[(0, .one (.sl 0 0 l.length)), (1, .one (.fn f [.ptr ps])), (5, iV i), (6, iV ((k + 1 + q : Nat) : Int))], [(0, .rows 88 2 (c.map eT))]⟩ ∧ c.length = l.length ∧ i ≤ k + q ∧ c.take i = (l.take (k + 1 + q)).filter (fun x => !p x) ∧ ∀ j, k + 1 + q ≤ j → c[j]? = l[j]?) _ (l.length - (k + 1)) ?hr (l.length - (k + 1)) 0 N _ ⟨[(0, .one (.sl 0 0 l.length)), (1, .one (.fn f [.ptr ps])), (5, iV k), (6, iV ((k + 1 : Nat) : Int))], [(0, .rows 88 2 (l.map eT))]⟩ (by omega) (by omega) ?hk ⟨l, k, rfl, rfl, by omega, by rw [Nat.add_zero]; exact hfk.symm, fun j _ => rfl⟩
    case hk => simp only [kk, simprocAttr, if_true, if_false]
    case hr =>
      rintro q n s hq ⟨c, i, rfl, hcl, hi, hct, hcj⟩ ih
      (try dsimp only)
      by_cases hlt : k + 1 + q < l.length
      · have h1 : decide (((k + 1 + q : Nat) : Int) < (l.length : Int)) = true := by simp; omega
        have hg1 : (c.map eT)[k + 1 + q]? = some (eT l[k + 1 + q]) := by rw [List.getElem?_map, hcj _ (Nat.le_refl _), List.getElem?_eq_getElem hlt]; rfl
        have hb : 0 ≤ ((k + 1 + q : Nat) : Int) ∧ ((k + 1 + q : Nat) : Int) < (l.length : Int) := by omega
        simp only [h1, hb.1, hb.2, hg1, hf, Nat.zero_add, List.length_map, Int.toNat_natCast, wi (k + 1 + q) (by omega), j180, b180, q180, qq, ww, List.replicate, simprocAttr, if_true, if_false]
        have hil : i < c.length := by omega
        have hg2 : (c.map eT)[i]? = some (eT c[i]) := by rw [List.getElem?_map, List.getElem?_eq_getElem hil]; rfl
        have hbi : 0 ≤ (i : Int) ∧ (i : Int) < (l.length : Int) := by omega
        have htk : (l.take (k + 1 + q + 1)).filter (fun x => !p x) = (l.take (k + 1 + q)).filter (fun x => !p x) ++ (if p l[k + 1 + q] then [] else [l[k + 1 + q]]) := by
          rw [take_s hlt, List.filter_append]
          congr 1
          cases hp : p l[k + 1 + q] <;> simp [hp]
        refine fin_cases2 (fun hp => ?_) (fun hp => ?_) <;> simp only [hbi.1, hbi.2, hg2, Nat.zero_add, List.length_map, Int.toNat_natCast, wi i (by omega), wi (k + 1 + q) (by omega), j180, b180, q180, qq, ww, List.replicate, simprocAttr, if_true, if_false]
        · have hp' : p l[k + 1 + q] = false := by simpa using hp
          refine ih (by omega) _ ⟨[(0, .one (.sl 0 0 l.length)), (1, .one (.fn f [.ptr ps])), (5, iV ((i + 1 : Nat) : Int)), (6, iV ((k + 1 + (q + 1) : Nat) : Int))], [(0, .rows 88 2 ((c.set i l[k + 1 + q]).map eT))]⟩ (by simp only [kk, simprocAttr, if_true, if_false, List.map_set]; try rfl) ⟨c.set i l[k + 1 + q], i + 1, rfl, by rw [List.length_set]; exact hcl, by omega, ?_, fun j hj => ?_⟩
          · rw [show k + 1 + (q + 1) = k + 1 + q + 1 by omega, htk, hp', if_neg (by decide), ← hct, take_s (by rw [List.length_set]; exact hil), List.getElem_set_self, List.take_set_of_le (Nat.le_refl i)]
          · rw [List.getElem?_set_ne (by omega)]
            exact hcj j (by omega)
        · have hp' : p l[k + 1 + q] = true := by simpa using hp
          refine ih (by omega) _ ⟨[(0, .one (.sl 0 0 l.length)), (1, .one (.fn f [.ptr ps])), (5, iV i), (6, iV ((k + 1 + (q + 1) : Nat) : Int))], [(0, .rows 88 2 (c.map eT))]⟩ (by simp only [kk, simprocAttr, if_true, if_false]; try rfl) ⟨c, i, rfl, hcl, by omega, ?_, fun j hj => hcj j (by omega)⟩
          rw [show k + 1 + (q + 1) = k + 1 + q + 1 by omega, htk, hp', if_pos rfl, List.append_nil]
          exact hct
      · have h1 : decide (((k + 1 + q : Nat) : Int) < (l.length : Int)) = false := by simp; omega
        have hq' : k + 1 + q = l.length := by omega
        have hil : i < l.length := by omega
        have hbi : 0 ≤ (i : Int) ∧ (i : Int) ≤ (l.length : Int) := by omega
        have hne2 : ((i : Int) = (l.length : Int)) = False := eq_false (by omega)
        have hsum : i + (l.length - i) = l.length := by omega
        have hcm : (c.map eT).take i = ((l.filter fun x => !p x)).map eT := by rw [← List.map_take, hct, hq', List.take_length]
        have hfl : (l.filter fun x => !p x).length = i := by
          have := congrArg List.length hcm
          simp only [List.length_take, List.length_map] at this
          omega
        have hlne : l ≠ [] := fun e => by rw [e] at hil; simp at hil
        simp only [h1, hbi.1, hbi.2, hne2, hcl, hsum, hcm, Nat.zero_add, Int.toNat_natCast, List.length_map, j180, b180, q180, qq, ww, List.replicate, simprocAttr, if_true, if_false]
        by_cases h0 : i = 0
        · have hz : ((0 : Int) = (i : Int)) = True := eq_true (by omega)
          have hfl' : (l.filter fun x => !p x).length = 0 := by omega
          have hnil : l.filter (fun x => !p x) = [] := List.eq_nil_of_length_eq_zero hfl'
          simp only [hz, hnil, j180, b180, q180, qq, ww, List.replicate, simprocAttr, if_true, if_false]
          simp [hlne]
        · have hz : ((0 : Int) = (i : Int)) = False := eq_false (by omega)
          simp only [hz, j180, b180, q180, qq, ww, List.replicate, simprocAttr, if_true, if_false]
          rw [if_neg (fun h => h0 (by omega)), hfl]
          simp
end Go.Proofs.YtdflglehippoiaaGreatDoor.AA
namespace Go.Proofs.YtdflglehippoiaaGreatDoor.AA
open Go Go.Proofs.YtdflglehippoiaaGreatDoorR IG
set_option maxRecDepth 100000
set_option maxHeartbeats 4000000
def pre (c : It → Int → Bool) : List It → Nat → Nat
  | [], _ => 0
  | y :: r, k => if c y k then pre c r (k + 1) + 1 else 0
theorem pre_le (c : It → Int → Bool) : ∀ (l : List It) (k : Nat), pre c l k ≤ l.length
  | [], k => Nat.le_refl _
  | y :: r, k => by
    have := pre_le c r (k + 1)
    unfold pre
    split <;> simp <;> omega
def cP (want : Int) (y : It) (k : Int) : Bool := decide (IntKind.i64.wrap (y.s - want) = k)
def leftL (want : Int) (l : List It) : List It := l.filter fun x => decide (want ≤ x.s)
theorem e137f (N d : Nat) (xs : List (List V)) (h : xs.all (fun x => x.length == 2) = true) (hl : xs.length < 1000000) : TT N (d + 1) 137 [.one (.row xs)] = some (.one (.sl 0 0 xs.length), [(0, .rows 88 2 xs)]) := by
  have hb : xs.length * 16 ≤ 140737488355328 := by omega
  rw [t137]
  simp only [cloneM, h, hb, qq, ww, List.replicate, simprocAttr, if_true, if_false]
theorem selfT (l : List It) : (l.map eT).all selfs = true := by simp [selfs, V.self]
theorem e146 (N d : Nat) (l : List It) (want : Int) (hN : l.length < N) (hl : l.length < 1000000) : ans (TT N (d + 4) 146 [.one (rT l), iV want]) =
    some (.tup [.one (rT ((leftL want l).take (pre (cP want) (leftL want l) 0))), .one (rT ((leftL want l).drop (pre (cP want) (leftL want l) 0)))]) := by
  have h69 := fun d => e137 N d l hl
  have hleft : (l.filter fun x => !decide (x.s < want)) = leftL want l := by
    unfold leftL
    congr 1
    funext x
    by_cases h : x.s < want
    · have h2 : ¬ want ≤ x.s := by omega
      simp [h, h2]
    · have h2 : want ≤ x.s := by omega
      simp [h, h2]
  have h71 := e180 N d 181 [.int .i64 want] (fun x => decide (x.s < want)) (fun d x => e181 N d x want) l hN hl
  rw [hleft] at h71
  have hlen : (leftL want l).length ≤ l.length := List.length_filter_le _ _
  generalize hL : leftL want l = L at *
  rw [t146, F_ev rfl]
  by_cases hc : L.length = 0 ∧ l ≠ []
  · rw [if_pos hc] at h71
    have hnil : L = [] := List.eq_nil_of_length_eq_zero hc.1
    subst hnil
    simp only [h69, h71, List.length_map, j146, b146, q146, qq, ww, List.replicate, simprocAttr, if_true, if_false]
    refine (loopK (K := fun o => ans (fin _ (aft _ _ _ o))) (fun i => ⟨[(0, .one (.row [])), (3, .one (.ptr [.int .i64 want])), (6, iV i)], []⟩) (fun i => some (.tup [.one (.row []), .one (.row [])])) 0 ?hr 0 0 N _ (by omega) (by omega) ?hk).trans ?_
    case hk => simp only [kk, simprocAttr, if_true, if_false]; try rfl
    case hr =>
      intro i n hi ih
      obtain rfl : i = 0 := by omega
      have h1 : decide ((0 : Int) < 0) = false := rfl
      have h69b := fun d => e137f N d [] rfl (by simp)
      simp only [h1, h69b, j146, b146, q146, qq, ww, List.replicate, simprocAttr, if_true, if_false]
    simp
  · rw [if_neg hc] at h71
    simp only [h69, h71, List.length_map, j146, b146, q146, qq, ww, List.replicate, simprocAttr, if_true, if_false]
    refine (loopK (K := fun o => ans (fin _ (aft _ _ _ o))) (fun i => ⟨[(0, .one (.sl 512 0 L.length)), (3, .one (.ptr [.int .i64 want])), (6, iV i)], [(512, .rows 88 2 (L.map eT))]⟩) (fun i => some (.tup [.one (rT (L.take (i + pre (cP want) (L.drop i) i))), .one (rT (L.drop (i + pre (cP want) (L.drop i) i)))])) L.length ?hr L.length 0 N _ (by omega) (by omega) ?hk).trans ?_
    case hk => simp only [kk, simprocAttr, if_true, if_false]; try rfl
    case hr =>
      intro i n hi ih
      (try dsimp only)
      have hli : i < 1000000 := by omega
      have hexit : TT N (d + 3) 137 [.one (.row ((L.map eT).take i))] = some (.one (.sl 0 0 ((L.map eT).take i).length), [(0, .rows 88 2 ((L.map eT).take i))]) ∧ TT N (d + 3) 137 [.one (.row ((L.map eT).drop i))] = some (.one (.sl 0 0 ((L.map eT).drop i).length), [(0, .rows 88 2 ((L.map eT).drop i))]) :=
        ⟨e137f N (d + 2) _ (by rw [← List.map_take]; exact allT _) (by rw [← List.map_take, List.length_map, List.length_take]; omega), e137f N (d + 2) _ (by rw [← List.map_drop]; exact allT _) (by rw [← List.map_drop, List.length_map, List.length_drop]; omega)⟩
      have hs1 : ((L.map eT).take i).all selfs = true := by rw [← List.map_take]; exact selfT _
      have hs2 : ((L.map eT).drop i).all selfs = true := by rw [← List.map_drop]; exact selfT _
      by_cases hlt : i < L.length
      · have h1 : decide ((i : Int) < (L.length : Int)) = true := by simp; omega
        have hget : (L.map eT)[i]? = some (eT L[i]) := by simp [hlt]
        have hd : L.drop i = L[i] :: L.drop (i + 1) := by simp
        have hb : 0 ≤ (i : Int) ∧ (i : Int) < (L.length : Int) := by omega
        simp only [h1, hb.1, hb.2, hget, Nat.zero_add, List.length_map, Int.toNat_natCast, j146, b146, q146, qq, ww, List.replicate, simprocAttr, if_true, if_false]
        refine an_cases2 (fun hp => ?_) (fun hp => ?_)
        · have hpre : i + pre (cP want) (L.drop i) i = (i + 1) + pre (cP want) (L.drop (i + 1)) (i + 1) := by
            rw [hd, pre, if_pos (show cP want L[i] i = true from hp)]
            omega
          rw [hpre]
          simp only [wi i (by omega), j146, b146, q146, qq, ww, List.replicate, simprocAttr, if_true, if_false]
          exact ih hlt _ (by simp only [kk, simprocAttr, if_true, if_false])
        · have hpre : i + pre (cP want) (L.drop i) i = i := by
            rw [hd, pre, if_neg (by rw [show cP want L[i] i = false from hp]; decide)]
            rfl
          rw [hpre]
          have hc1 : 0 ≤ (i : Int) := by omega
          have hc2 : (i : Int) ≤ (L.length : Int) := by omega
          have hle : i ≤ L.length := hi
          have hlen2 : i + (L.length - i) = L.length := by omega
          have hsum : i + (L.length - i) ≤ L.length := by omega
          have h69b := fun d => e137f N d [] rfl (by simp)
          have htd : ((L.map eT).drop i).take (L.length - i) = (L.map eT).drop i := by rw [List.take_of_length_le (by simp)]
          by_cases h0 : i = 0
          · have hz : ((0 : Int) = (i : Int)) = True := eq_true (by omega)
            by_cases hL0 : i = L.length
            · have hw : ((i : Int) = (L.length : Int)) = True := eq_true (by omega)
              simp only [hc1, hc2, hz, hw, hle, hlen2, hsum, hexit.1, hexit.2, hs1, hs2, h69b, List.take_length, Nat.sub_zero, Nat.zero_add, List.length_map, Int.toNat_natCast, htd, j146, b146, q146, qq, ww, List.replicate, simprocAttr, if_true, if_false]
              (try simp [h0, hL0, List.map_take, List.map_drop]); all_goals (first | exact List.eq_nil_of_length_eq_zero (by omega) | exact takeT L)
            · have hw : ((i : Int) = (L.length : Int)) = False := eq_false (by omega)
              simp only [hc1, hc2, hz, hw, hle, hlen2, hsum, hexit.1, hexit.2, hs1, hs2, h69b, List.take_length, Nat.sub_zero, Nat.zero_add, List.length_map, Int.toNat_natCast, htd, j146, b146, q146, qq, ww, List.replicate, simprocAttr, if_true, if_false]
              (try simp [h0, hL0, List.map_take, List.map_drop]); all_goals (first | exact List.eq_nil_of_length_eq_zero (by omega) | exact takeT L)
          · have hz : ((0 : Int) = (i : Int)) = False := eq_false (by omega)
            by_cases hL0 : i = L.length
            · have hw : ((i : Int) = (L.length : Int)) = True := eq_true (by omega)
              simp only [hc1, hc2, hz, hw, hle, hlen2, hsum, hexit.1, hexit.2, hs1, hs2, h69b, List.take_length, Nat.sub_zero, Nat.zero_add, List.length_map, Int.toNat_natCast, htd, j146, b146, q146, qq, ww, List.replicate, simprocAttr, if_true, if_false]
              (try simp [h0, hL0, List.map_take, List.map_drop]); all_goals (first | exact List.eq_nil_of_length_eq_zero (by omega) | exact takeT L)
            · have hw : ((i : Int) = (L.length : Int)) = False := eq_false (by omega)
              simp only [hc1, hc2, hz, hw, hle, hlen2, hsum, hexit.1, hexit.2, hs1, hs2, h69b, List.take_length, Nat.sub_zero, Nat.zero_add, List.length_map, Int.toNat_natCast, htd, j146, b146, q146, qq, ww, List.replicate, simprocAttr, if_true, if_false]
              (try simp [h0, hL0, List.map_take, List.map_drop]); all_goals (first | exact List.eq_nil_of_length_eq_zero (by omega) | exact takeT L)
      · have h1 : decide ((i : Int) < (L.length : Int)) = false := by simp; omega
        have hpre : i + pre (cP want) (L.drop i) i = i := by rw [List.drop_of_length_le (by omega)]; rfl
        rw [hpre]
        have hc1 : 0 ≤ (i : Int) := by omega
        have hc2 : (i : Int) ≤ (L.length : Int) := by omega
        have hle : i ≤ L.length := hi
        have hlen2 : i + (L.length - i) = L.length := by omega
        have hsum : i + (L.length - i) ≤ L.length := by omega
        have h69b := fun d => e137f N d [] rfl (by simp)
        have htd : ((L.map eT).drop i).take (L.length - i) = (L.map eT).drop i := by rw [List.take_of_length_le (by simp)]
        by_cases h0 : i = 0
        · have hz : ((0 : Int) = (i : Int)) = True := eq_true (by omega)
          by_cases hL0 : i = L.length
          · have hw : ((i : Int) = (L.length : Int)) = True := eq_true (by omega)
            simp only [h1, hc1, hc2, hz, hw, hle, hlen2, hsum, hexit.1, hexit.2, hs1, hs2, h69b, List.take_length, Nat.sub_zero, Nat.zero_add, List.length_map, Int.toNat_natCast, htd, j146, b146, q146, qq, ww, List.replicate, simprocAttr, if_true, if_false]
            (try simp [h0, hL0, List.map_take, List.map_drop]); all_goals (first | exact List.eq_nil_of_length_eq_zero (by omega) | exact takeT L)
          · have hw : ((i : Int) = (L.length : Int)) = False := eq_false (by omega)
            simp only [h1, hc1, hc2, hz, hw, hle, hlen2, hsum, hexit.1, hexit.2, hs1, hs2, h69b, List.take_length, Nat.sub_zero, Nat.zero_add, List.length_map, Int.toNat_natCast, htd, j146, b146, q146, qq, ww, List.replicate, simprocAttr, if_true, if_false]
            (try simp [h0, hL0, List.map_take, List.map_drop]); all_goals (first | exact List.eq_nil_of_length_eq_zero (by omega) | exact takeT L)
        · have hz : ((0 : Int) = (i : Int)) = False := eq_false (by omega)
          by_cases hL0 : i = L.length
          · have hw : ((i : Int) = (L.length : Int)) = True := eq_true (by omega)
            simp only [h1, hc1, hc2, hz, hw, hle, hlen2, hsum, hexit.1, hexit.2, hs1, hs2, h69b, List.take_length, Nat.sub_zero, Nat.zero_add, List.length_map, Int.toNat_natCast, htd, j146, b146, q146, qq, ww, List.replicate, simprocAttr, if_true, if_false]
            (try simp [h0, hL0, List.map_take, List.map_drop]); all_goals (first | exact List.eq_nil_of_length_eq_zero (by omega) | exact takeT L)
          · have hw : ((i : Int) = (L.length : Int)) = False := eq_false (by omega)
            simp only [h1, hc1, hc2, hz, hw, hle, hlen2, hsum, hexit.1, hexit.2, hs1, hs2, h69b, List.take_length, Nat.sub_zero, Nat.zero_add, List.length_map, Int.toNat_natCast, htd, j146, b146, q146, qq, ww, List.replicate, simprocAttr, if_true, if_false]
            (try simp [h0, hL0, List.map_take, List.map_drop]); all_goals (first | exact List.eq_nil_of_length_eq_zero (by omega) | exact takeT L)
    simp
end Go.Proofs.YtdflglehippoiaaGreatDoor.AA
namespace Go.Proofs.YtdflglehippoiaaGreatDoor.AA
open Go Go.Proofs.YtdflglehippoiaaGreatDoorR IG
set_option maxRecDepth 100000
set_option maxHeartbeats 4000000
theorem all2 (l : List It) : (l.map eT).all (fun x => x.length == 2) = true := by simp
theorem left_s {want : Int} {l : List It} {i : Nat} (h : i < l.length) : leftL want (l.take (i + 1)) = leftL want (l.take i) ++ (if want ≤ l[i].s then [l[i]] else []) := by
  unfold leftL
  rw [take_s h, List.filter_append]
  congr 1
  by_cases hw : want ≤ l[i].s <;> simp [hw]
end Go.Proofs.YtdflglehippoiaaGreatDoor.AA
namespace Go.Proofs.YtdflglehippoiaaGreatDoor.AA
open Go Go.Proofs.YtdflglehippoiaaGreatDoorR IG
set_option maxRecDepth 100000
set_option maxHeartbeats 4000000
theorem e163 (N d : Nat) (l : List It) (want win : Int) (hN : l.length < N) (hl : l.length < 1000000) : TT N (d + 3) 163 [.one (rT l), iV want, iV win] = some (bV (ahOK l want win), []) := by
  rw [t163, F_ev rfl]
  simp only [e87, List.length_map, j163, b163, q163, qq, ww, List.replicate, simprocAttr, if_true, if_false]
  refine fin_cases (fun h1 => ?_) (fun h1 => ?_) <;> simp only [h1, e87, List.length_map, j163, b163, q163, qq, ww, List.replicate, simprocAttr, if_true, if_false]
  · simp_all [ahOK]
  refine fin_cases (fun h2 => ?_) (fun h2 => ?_) <;> simp only [h2, e87, List.length_map, j163, b163, q163, qq, ww, List.replicate, simprocAttr, if_true, if_false]
  · simp_all [ahOK]
  have hw : 1 ≤ want ∧ want ≤ 1073741824 ∧ 1 ≤ win ∧ win ≤ 16 := by simp [inB] at h1 h2; omega
  have hww : IntKind.i64.wrap (want + win) = want + win := IntWalk.i64_in _ (by omega)
  have ho : ahOK l want win = risB want win none l := by
    have : inB want 1 1073741824 = true ∧ inB win 1 16 = true := by simp [inB]; omega
    simp [ahOK, this.1, this.2]
  rw [ho]
  refine (loopK (K := fun o => fin _ (aft _ _ _ o)) (fun i => ⟨[(0, .one (rT l)), (1, iV want), (2, iV win), (7, iV i)], []⟩) (fun i => some (bV (risB want win (prv l i) (l.drop i)), [])) l.length ?hr l.length 0 N _ (by omega) hN ?hk).trans ?_
  case hk => simp only [kk, simprocAttr, if_true, if_false]; try rfl
  case hr =>
    intro i n hi ih
    (try dsimp only)
    by_cases hlt : i < l.length
    · have h1 : decide ((i : Int) < (l.length : Int)) = true := by simp; omega
      have hg1 : (l.map eT)[i]? = some (eT l[i]) := by simp [hlt]
      have hd1 : l.drop i = l[i] :: l.drop (i + 1) := by simp
      have hb : 0 ≤ (i : Int) ∧ (i : Int) < (l.length : Int) := by omega
      have hfit : fitsB l[i].s want win = (!decide (l[i].s ≤ want) && !decide (want + win ≤ l[i].s) && !decide (1073741824 ≤ l[i].s)) := by
        simp only [fitsB]
        have e1 : decide (want < l[i].s) = !decide (l[i].s ≤ want) := by rw [← decide_not]; congr 1; simp
        have e2 : decide (l[i].s < want + win) = !decide (want + win ≤ l[i].s) := by rw [← decide_not]; congr 1; simp
        have e3 : decide (l[i].s < 1073741824) = !decide (1073741824 ≤ l[i].s) := by rw [← decide_not]; congr 1; simp
        rw [e1, e2, e3]
      by_cases h0 : i = 0
      · have hpos : decide ((i : Int) > 0) = false := by simp; omega
        have hpv : prv l i = none := by unfold prv; rw [if_pos h0]
        simp only [h1, hb.1, hb.2, hpos, hg1, hww, e76, List.length_map, Int.toNat_natCast, j163, b163, q163, qq, ww, List.replicate, simprocAttr, if_true, if_false]
        repeat' (refine fin_cases2 (fun hp => ?_) (fun hp => ?_) <;> simp only [hp, h1, hb.1, hb.2, hpos, hg1, hww, e76, List.length_map, Int.toNat_natCast, wi i (by omega), j163, b163, q163, qq, ww, List.replicate, simprocAttr, if_true, if_false])
        all_goals (rw [hd1, hpv, risB, hfit])
        all_goals (first
          | (refine (ih hlt _ (by simp only [kk, simprocAttr, if_true, if_false])).trans ?_
             rw [prv_s hlt]
             clear ih hd1
             simp_all)
          | (clear ih hd1; simp_all))
      · obtain ⟨q, hq⟩ : ∃ q, q = l[i - 1]'(by omega) := ⟨_, rfl⟩
        have hg2 : (l.map eT)[i - 1]? = some (eT q) := by rw [List.getElem?_map, List.getElem?_eq_getElem (by omega), hq]; rfl
        have hb2 : 0 ≤ ((i - 1 : Nat) : Int) ∧ ((i - 1 : Nat) : Int) < (l.length : Int) := by omega
        have hpos : decide ((i : Int) > 0) = true := by simp; omega
        have hpv : prv l i = some q.s := by unfold prv; rw [if_neg h0, hq, List.getElem?_eq_getElem (by omega)]; rfl
        have e5 : decide (q.s < l[i].s) = !decide (l[i].s ≤ q.s) := by rw [← decide_not]; congr 1; simp
        simp only [h1, hb.1, hb.2, hg1, hg2, hb2.1, hb2.2, hpos, hww, wm i (by omega) (by omega), e76, List.length_map, Int.toNat_natCast, j163, b163, q163, qq, ww, List.replicate, simprocAttr, if_true, if_false]
        repeat' (refine fin_cases2 (fun hp => ?_) (fun hp => ?_) <;> simp only [hp, h1, hb.1, hb.2, hg1, hg2, hb2.1, hb2.2, hpos, hww, wm i (by omega) (by omega), e76, List.length_map, Int.toNat_natCast, wi i (by omega), j163, b163, q163, qq, ww, List.replicate, simprocAttr, if_true, if_false])
        all_goals (rw [hd1, hpv, risB, hfit])
        all_goals (simp only [e5])
        all_goals (first
          | (refine (ih hlt _ (by simp only [kk, simprocAttr, if_true, if_false])).trans ?_
             rw [prv_s hlt]
             clear ih hd1
             simp_all)
          | (clear ih hd1; simp_all))
    · have h1 : decide ((i : Int) < (l.length : Int)) = false := by simp; omega
      simp only [h1, List.length_map, j163, b163, q163, qq, ww, List.replicate, simprocAttr, if_true, if_false]
      rw [List.drop_of_length_le (by omega)]
      rfl
  rfl
end Go.Proofs.YtdflglehippoiaaGreatDoor.AA
namespace Go.Proofs.YtdflglehippoiaaGreatDoor.AA
open Go Go.Proofs.YtdflglehippoiaaGreatDoorR IG
set_option maxRecDepth 100000
set_option maxHeartbeats 4000000
theorem e151 (N d : Nat) (l : List It) (x : It) (k : Nat) (hk : k ≤ l.length) (hl : l.length < 1000000) : TT N (d + 1) 151 [.one (.sl 0 0 l.length), iV k, .one (.sl 1 0 1), .tup [hR 88 2 (l.map eT), hR 88 2 [eT x]]] =
    some (.one (.sl 0 0 (l.length + 1)), [(0, .rows 88 2 ((l.take k ++ [x] ++ l.drop k).map eT)), (1, .rows 88 2 [eT x])]) := by
  rw [t151]
  show (if _ then _ else _) = _
  rw [if_pos ⟨⟨rfl, rfl, rfl, rfl⟩, by simp, by omega, by omega, all2 l, rfl, by omega⟩]
  simp [List.map_take, List.map_drop]
def ins (x : It) : List It → Option (List It)
  | [] => some [x]
  | y :: r => if x.s ≤ y.s then (if y.s = x.s then none else some (x :: y :: r)) else (ins x r).map (y :: ·)
def addA (l : List It) (want win : Int) (x : It) : List It × Int :=
  if !(ahOK l want win && inB x.v 0 2147483647) then ([], 1) else if !fitsB x.s want win then ([], 6) else match ins x l with
  | none => ([], 8)
  | some m => (m, 0)
theorem ins_ix {x : It} : ∀ {l : List It} {k : Nat}, k < l.length → (∀ j (hj : j < l.length), j < k → ¬ x.s ≤ l[j].s) → (h : k < l.length) → x.s ≤ l[k].s → ins x l = if l[k].s = x.s then none else some (l.take k ++ [x] ++ l.drop k)
  | [], k, hk, _, _, _ => by simp at hk
  | y :: r, 0, _, _, _, h => by
    simp at h
    simp [ins, h]
  | y :: r, k + 1, hk, hb, h1, h => by
    have h0 := hb 0 (by simp) (by omega)
    simp at h0
    unfold ins
    rw [if_neg (by omega), ins_ix (l := r) (k := k) (by simpa using hk) (fun j hj hjk => hb (j + 1) (by simp; omega) (by omega)) (by simpa using hk) (by simpa using h)]
    simp only [List.getElem_cons_succ]
    split <;> simp
theorem ins_end {x : It} : ∀ {l : List It}, (l.any fun y => decide (x.s ≤ y.s)) = false → ins x l = some (l ++ [x])
  | [], _ => rfl
  | y :: r, h => by
    rw [List.any_cons, Bool.or_eq_false_iff] at h
    have h1 : ¬ x.s ≤ y.s := by simpa using h.1
    unfold ins
    rw [if_neg h1, ins_end h.2]
    rfl
theorem e115 (N d : Nat) (l : List It) (want win : Int) (x : It) (hN : l.length < N) (hl : l.length < 100000) : ans (TT N (d + 4) 115 [.one (rT l), iV want, iV win, aT x]) = some (.tup [.one (rT (addA l want win x).1), iV (addA l want win x).2]) := by
  have h42 := e147 N d l want win hN (by omega)
  have h65 := e148 N (d + 2) 149 (eT x) (fun y => decide (x.s ≤ y.s)) (fun y => e149 N (d + 1) y x) l hN (by omega)
  have h69 := fun d => e137 N d l (by omega)
  have hb8 : (l.length + 1) * 16 ≤ 140737488355328 := by omega
  rw [t115, F_ev rfl]
  cases hA : ahOK l want win with
  | false =>
    rw [hA] at h42
    simp only [h42, h65, h69, e56, List.length_map, j115, b115, q115, qq, ww, List.replicate, simprocAttr, if_true, if_false]
    simp [addA, hA]
  | true =>
  rw [hA] at h42
  have hw : 1 ≤ want ∧ want ≤ 1073741824 ∧ 1 ≤ win ∧ win ≤ 16 := by simp [ahOK, inB] at hA; omega
  have hww : IntKind.i64.wrap (want + win) = want + win := IntWalk.i64_in _ (by omega)
  have h68 := fun d s => e150 N d s want win hww
  cases hV : inB x.v 0 2147483647 with
  | false =>
    simp only [h42, h65, h69, e56, hV, List.length_map, j115, b115, q115, qq, ww, List.replicate, simprocAttr, if_true, if_false]
    simp [addA, hA, hV]
  | true =>
  cases hF : fitsB x.s want win with
  | false =>
    simp only [h42, h65, h69, e56, hV, h68, hF, List.length_map, j115, b115, q115, qq, ww, List.replicate, simprocAttr, if_true, if_false]
    simp [addA, hA, hV, hF]
  | true =>
  have hadd : addA l want win x = match ins x l with | none => ([], 8) | some m => (m, 0) := by simp [addA, hA, hV, hF]
  rw [hadd]
  cases hany : (l.any fun y => decide (x.s ≤ y.s)) with
  | false =>
    have hix : ix (fun y => decide (x.s ≤ y.s)) l 0 = -1 := by
      have h9 : ∀ (l : List It) (i : Int), (l.any fun y => decide (x.s ≤ y.s)) = false → ix (fun y => decide (x.s ≤ y.s)) l i = -1 := by
        intro l
        induction l with
        | nil => intro i _; rfl
        | cons y r ih =>
          intro i h
          rw [List.any_cons, Bool.or_eq_false_iff] at h
          rw [ix, h.1, if_neg (by decide)]
          exact ih _ h.2
      exact h9 l 0 hany
    have hneg : decide ((-1 : Int) < 0) = true := rfl
    rw [ins_end hany]
    rw [hix] at h65
    simp only [h42, h65, h69, e56, hV, h68, hF, hneg, hb8, takeT, all2, List.length_map, j115, b115, q115, qq, ww, List.replicate, simprocAttr, if_true, if_false]
    simp
    rw [List.take_of_length_le (by simp), List.take_of_length_le (by simp)]
  | true =>
    obtain ⟨k, hix, hk, hpk, hbef⟩ := ix_some (Int.le_refl 0) hany
    rw [Int.zero_add] at hix
    rw [hix] at h65
    have hneg : decide ((k : Int) < 0) = false := by simp
    have hb : 0 ≤ (k : Int) ∧ (k : Int) < (l.length : Int) := by omega
    have hg : (l.map eT)[k]? = some (eT l[k]) := by simp [hk]
    have hxk : x.s ≤ l[k].s := by simpa using hpk
    rw [ins_ix hk (fun j hj hjk => by simpa using hbef j hjk) hk hxk]
    have h70 := fun d => e151 N d l x k (by omega) (by omega)
    cases hq : decide (l[k].s = x.s) with
    | true =>
      have hq' : l[k].s = x.s := by simpa using hq
      rw [if_pos hq']
      simp only [h42, h65, h69, e56, hV, h68, hF, hneg, hb.1, hb.2, hg, hq, List.length_map, Int.toNat_natCast, j115, b115, q115, qq, ww, List.replicate, simprocAttr, if_true, if_false]
      rfl
    | false =>
      have hq' : ¬ l[k].s = x.s := by simpa using hq
      rw [if_neg hq']
      have hlk : (List.take k l).length + 1 + (List.drop k l).length = l.length + 1 := by rw [List.length_take, List.length_drop]; omega
      have htk : List.take (l.length + 1) (List.map eT (List.take k l) ++ [eT x] ++ List.map eT (List.drop k l)) = List.map eT (List.take k l) ++ [eT x] ++ List.map eT (List.drop k l) := List.take_of_length_le (by simp; omega)
      simp only [h42, h65, h69, e56, hV, h68, hF, hneg, hb.1, hb.2, hg, hq, h70, hlk, htk, List.length_map, Int.toNat_natCast, j115, b115, q115, qq, ww, List.replicate, simprocAttr, if_true, if_false]
      simp
end Go.Proofs.YtdflglehippoiaaGreatDoor.AA
namespace Go.Proofs.YtdflglehippoiaaGreatDoor.AA
open Go Go.Proofs.YtdflglehippoiaaGreatDoorR IG
set_option maxRecDepth 100000
set_option maxHeartbeats 4000000
def stp (x : It) (o : List It × Bool) (y : It) : List It × Bool := if (!o.2 && decide (x.s < y.s)) = true then (o.1 ++ [x] ++ [y], true) else (o.1 ++ [y], o.2)
def fnl (x : It) (o : List It × Bool) : List It := if o.2 then o.1 else o.1 ++ [x]
def addR (l : List It) (x : It) : List It × Int := if l.any (fun y => decide (y.s = x.s)) then ([], 8) else (fnl x (l.foldl (stp x) ([], false)), 0)
end Go.Proofs.YtdflglehippoiaaGreatDoor.AA
namespace Go.Proofs.YtdflglehippoiaaGreatDoor.AA
open Go Go.Proofs.YtdflglehippoiaaGreatDoorR IG
set_option maxRecDepth 100000
set_option maxHeartbeats 4000000
abbrev wf8 (n : Int) : Prop := (Lit.int .i64 n).wf = true
theorem wf8_b {n : Int} (h : wf8 n) : -9223372036854775808 ≤ n ∧ n ≤ 9223372036854775807 := by
  simp only [wf8, Lit.wf] at h
  simp [IntKind.min, IntKind.max, IntKind.signed, IntKind.bits] at h
  omega
theorem ins_len {x : It} : ∀ {l m : List It}, ins x l = some m → m.length = l.length + 1
  | [], m, h => by simp [ins] at h; subst h; rfl
  | y :: r, m, h => by
    unfold ins at h
    split at h
    · split at h
      · simp at h
      · simp at h; subst h; rfl
    · cases hi : ins x r with
      | none => rw [hi] at h; simp at h
      | some q => rw [hi] at h; simp at h; subst h; simp [ins_len hi]
theorem addA_len (l : List It) (want win : Int) (x : It) : (addA l want win x).1.length ≤ l.length + 1 := by
  unfold addA
  split
  · simp
  · split
    · simp
    · split
      · simp
      · rename_i h
        simp [ins_len h]
end Go.Proofs.YtdflglehippoiaaGreatDoor.AA
namespace Go.Proofs.YtdflglehippoiaaGreatDoor.FA
open Go Go.Proofs.YtdflglehippoiaaGreatDoorR IG
open QA (Ev eE aE rE inB epOK evOK qOK putE)
open AA (It eT aT rT ahOK addA leftL wi wm takeT allT take_s)
open EC (Cf eC okC)
set_option maxRecDepth 100000
set_option maxHeartbeats 4000000
def kRow : Int → List It → Bool
  | _, [] => true
  | s, x :: r => decide (1 ≤ x.s) && decide (x.s = s) && inB x.v 0 2147483647 && kRow (s + 1) r
theorem e190 (N d : Nat) (l : List It) (want : Int) (hw : 0 ≤ want ∧ want ≤ 1073741824) (hN : l.length < N) (hl : l.length < 1000000) : TT N (d + 3) 190 [.one (rT l), iV want] = some (bV (kRow (want - l.length) l), []) := by
  have hwl : IntKind.i64.wrap (want - (l.length : Int)) = want - l.length := IntWalk.i64_in _ (by omega)
  have hv := fun d n => AA.e56 N d n
  rw [t190, F_ev rfl]
  simp only [List.length_map, j190, b190, q190, qq, ww, List.replicate, simprocAttr, if_true, if_false]
  refine (loopK (K := fun o => fin _ (aft _ _ _ o)) (fun i => ⟨[(0, .one (rT l)), (1, iV want), (7, .one (rT l)), (8, iV l.length), (9, iV i)], []⟩) (fun i => some (bV (kRow (want - l.length + i) (l.drop i)), [])) l.length ?hr l.length 0 N _ (by omega) hN ?hk).trans ?_
  case hk => simp only [kk, simprocAttr, if_true, if_false]; try rfl
  case hr =>
    intro i n hi ih
    (try dsimp only)
    by_cases hlt : i < l.length
    · have h1 : decide ((i : Int) < (l.length : Int)) = true := by simp; omega
      have hg1 : (l.map eT)[i]? = some (eT l[i]) := by simp [hlt]
      have hd1 : l.drop i = l[i] :: l.drop (i + 1) := by simp
      have hb : 0 ≤ (i : Int) ∧ (i : Int) < (l.length : Int) := by omega
      have hwi : IntKind.i64.wrap (want - (l.length : Int) + i) = want - l.length + i := IntWalk.i64_in _ (by omega)
      have hnx : want - (l.length : Int) + ((i + 1 : Nat) : Int) = want - (l.length : Int) + i + 1 := by omega
      rw [hd1, kRow]
      rw [hnx] at ih
      simp only [h1, hb.1, hb.2, hg1, hwl, hwi, hv, wi i (by omega), List.length_map, Int.toNat_natCast, j190, b190, q190, qq, ww, List.replicate, simprocAttr, if_true, if_false]
      repeat' (refine fin_cases2 (fun hp => ?_) (fun hp => ?_) <;> simp only [hp, hwl, hwi, hv, wi i (by omega), List.length_map, Int.toNat_natCast, j190, b190, q190, qq, ww, List.replicate, simprocAttr, if_true, if_false])
      · have : decide (1 ≤ l[i].s) = false := by simp at hp ⊢; omega
        simp [this]
      · have : decide (l[i].s = want - (l.length : Int) + i) = false := by simp at hp ⊢; omega
        simp [this]
      · have : inB l[i].v 0 2147483647 = false := by simp [inB]; simp [AA.inB] at hp; omega
        simp [this]
      · refine (ih hlt _ (by simp only [kk, simprocAttr, if_true, if_false])).trans ?_
        clear ih
        rename_i g1 g2
        have a1 : decide (1 ≤ l[i].s) = true := by simp at g1 ⊢; omega
        have a2 : decide (l[i].s = want - (l.length : Int) + i) = true := by simp at g2 ⊢; omega
        have a3 : inB l[i].v 0 2147483647 = true := by simp [inB]; simp [AA.inB] at hp; omega
        simp [a1, a2, a3]
    · have h1 : decide ((i : Int) < (l.length : Int)) = false := by simp; omega
      simp only [h1, List.length_map, j190, b190, q190, qq, ww, List.replicate, simprocAttr, if_true, if_false]
      rw [List.drop_of_length_le (by omega)]
      rfl
  simp
def kpOK (l : List It) (want lim : Int) : Bool := inB want 1 1073741824 && inB lim 1 16 && decide ((l.length : Int) ≤ lim) && kRow (want - l.length) l
theorem e175 (N d : Nat) (l : List It) (want lim : Int) (hN : l.length < N) (hl : l.length < 1000000) : TT N (d + 4) 175 [.one (rT l), iV want, iV lim] = some (iV (if kpOK l want lim then 0 else 1), []) := by
  have hc := fun d n => AA.e116 N d n
  rw [t175, F_ev rfl]
  simp only [hc, List.length_map, j175, b175, q175, qq, ww, List.replicate, simprocAttr, if_true, if_false]
  cases h0 : AA.inB want 1 1073741824 with
  | false =>
    have : kpOK l want lim = false := by rw [kpOK, show inB want 1 1073741824 = false from h0]; rfl
    rw [this]
    simp only [h0, j175, b175, q175, qq, ww, List.replicate, simprocAttr, if_true, if_false]
  | true =>
    have hk := fun d => e190 N d l want (by simp [AA.inB] at h0; omega) hN hl
    have : kpOK l want lim = (inB lim 1 16 && decide ((l.length : Int) ≤ lim) && kRow (want - l.length) l) := by rw [kpOK, show inB want 1 1073741824 = true from h0]; simp
    rw [this]
    have hw : 1 ≤ want ∧ want ≤ 1073741824 := by simpa [AA.inB] using h0
    by_cases h1 : 1 ≤ lim ∧ lim ≤ 16 ∧ (l.length : Int) ≤ lim
    · have g1 : decide (lim < 1) = false := by simp; omega
      have g2 : decide (lim > 16) = false := by simp; omega
      have g3 : decide ((l.length : Int) > lim) = false := by simp; omega
      rw [show inB lim 1 16 = true by simp [inB]; omega, show decide ((l.length : Int) ≤ lim) = true by simp; omega]
      cases h2 : kRow (want - l.length) l <;> simp only [h0, hk, h2, g1, g2, g3, List.length_map, Bool.not_true, Bool.not_false, j175, b175, q175, qq, ww, List.replicate, simprocAttr, if_true, if_false] <;> rfl
    · have hf : (inB lim 1 16 && decide ((l.length : Int) ≤ lim)) = false := by
        cases h : (inB lim 1 16 && decide ((l.length : Int) ≤ lim)) with
        | false => rfl
        | true => exfalso; simp [inB] at h; omega
      rw [hf]
      by_cases g1 : lim < 1
      · simp only [h0, decide_eq_true g1, List.length_map, j175, b175, q175, qq, ww, List.replicate, simprocAttr, if_true, if_false]; try rfl
      · by_cases g2 : lim > 16
        · simp only [h0, decide_eq_false g1, decide_eq_true g2, List.length_map, j175, b175, q175, qq, ww, List.replicate, simprocAttr, if_true, if_false]; try rfl
        · have g3 : (l.length : Int) > lim := by omega
          simp only [h0, decide_eq_false g1, decide_eq_false g2, decide_eq_true g3, List.length_map, j175, b175, q175, qq, ww, List.replicate, simprocAttr, if_true, if_false]; try rfl
def pushL (l : List It) (want lim v : Int) : List It := (l ++ [(⟨want, v⟩ : It)]).drop (l.length + 1 - lim.toNat)
def pushP (l : List It) (want lim v : Int) : List It × Int :=
  if (kpOK l want lim && inB v 0 2147483647) = false then ([], 1) else if 1073741824 ≤ want then ([], 11) else (pushL l want lim v, 0)
theorem e144 (N d : Nat) (l : List It) (want lim v : Int) (hN : l.length < N) (hl : l.length < 1000) : TT N (d + 5) 144 [.one (rT l), iV want, iV lim, iV v] = some (.tup [.one (rT (pushP l want lim v).1), iV (pushP l want lim v).2], []) := by
  have hv := fun d n => AA.e56 N d n
  have hk := fun d => e175 N d l want lim hN (by omega)
  have hcl := fun d => AA.e137 N d l (by omega)
  unfold pushP
  rw [t144, F_ev rfl]
  cases h0 : kpOK l want lim with
  | false =>
    rw [h0] at hk
    simp only [hk, hv, List.length_map, j144, b144, q144, qq, ww, List.replicate, simprocAttr, if_true, if_false]
    rfl
  | true =>
  rw [h0] at hk
  have hlim : 1 ≤ lim ∧ lim ≤ 16 ∧ (l.length : Int) ≤ lim := by simp [kpOK, inB] at h0; omega
  cases h1 : inB v 0 2147483647 with
  | false =>
    simp only [hk, hv, show AA.inB v 0 2147483647 = false from h1, List.length_map, j144, b144, q144, qq, ww, List.replicate, simprocAttr, if_true, if_false]
    rfl
  | true =>
  by_cases h2 : 1073741824 ≤ want
  · have hd : decide (1073741824 ≤ want) = true := decide_eq_true h2
    rw [if_neg (by decide), if_pos h2]
    simp only [hk, hv, hd, show AA.inB v 0 2147483647 = true from h1, List.length_map, j144, b144, q144, qq, ww, List.replicate, simprocAttr, if_true, if_false]
    rfl
  · have hd : decide (1073741824 ≤ want) = false := decide_eq_false h2
    rw [if_neg (by decide), if_neg h2]
    have hby : (l.length + 1) * 16 ≤ 140737488355328 := by omega
    have hws : IntKind.i64.wrap (((l.length + 1 : Nat) : Int) - lim) = ((l.length + 1 : Nat) : Int) - lim := IntWalk.i64_in _ (by omega)
    have hmx : (if (0 : Int) > ((l.length + 1 : Nat) : Int) - lim then 0 else ((l.length + 1 : Nat) : Int) - lim) = ((l.length + 1 - lim.toNat : Nat) : Int) := by split <;> omega
    have hle : l.length + 1 - lim.toNat ≤ l.length + 1 := by omega
    have hb1 : 0 ≤ ((l.length + 1 - lim.toNat : Nat) : Int) ∧ ((l.length + 1 - lim.toNat : Nat) : Int) ≤ ((l.length + 1 : Nat) : Int) := by omega
    have hsum : l.length + 1 - lim.toNat + (l.length + 1 - (l.length + 1 - lim.toNat)) = l.length + 1 := by omega
    generalize hK : l.length + 1 - lim.toNat = k at *
    have hdrop : ((l.map eT ++ [eT (⟨want, v⟩ : It)]).drop k) = (pushL l want lim v).map eT := by
      rw [pushL, hK, ← List.map_singleton, ← List.map_append, List.map_drop]
    have hpl : (pushL l want lim v).length = l.length + 1 - k := by simp [pushL, hK]
    have htk : List.take (l.length + 1 - k) ((pushL l want lim v).map eT) = (pushL l want lim v).map eT := List.take_of_length_le (by rw [List.length_map]; omega)
    have hcut := fun d => AA.e137f N d ((pushL l want lim v).map eT) (allT _) (by rw [List.length_map]; omega)
    have hne : ((k : Int) = ((l.length + 1 : Nat) : Int)) = False := eq_false (by omega)
    have hself := AA.selfT (pushL l want lim v)
    simp only [hk, hv, hd, hcl, hby, hws, hmx, hle, hb1.1, hb1.2, hsum, hdrop, htk, hcut, hself, hne, hpl, takeT, allT, show AA.inB v 0 2147483647 = true from h1, List.length_map, Int.toNat_natCast, Nat.zero_add, List.take_length, j144, b144, q144, qq, ww, List.replicate, simprocAttr, if_true, if_false]
def fitE (l : List Ev) (lim : Int) (x : Ev) : List Ev := if (putE l lim x).1 = 0 then (putE l lim x).2 else l
theorem putE_len (l : List Ev) (lim : Int) (x : Ev) : (putE l lim x).2.length ≤ l.length + 1 := by
  unfold putE
  repeat' split
  all_goals simp
  all_goals omega
theorem fitE_len (l : List Ev) (lim : Int) (x : Ev) : (fitE l lim x).length ≤ l.length + 1 := by
  have := putE_len l lim x
  unfold fitE
  split <;> omega
theorem e179 (N d : Nat) (l : List Ev) (lim : Int) (x : Ev) (hN : l.length < N) (hl : l.length < 999999) : TT N (d + 12) 179 [.one (rE l), iV lim, aE x] = some (.one (rE (fitE l lim x)), []) := by
  have hp := fun d => QA.e193 N d l lim x hN hl
  have hc := fun d => QA.e102 N d l (by omega)
  unfold fitE
  generalize hG : putE l lim x = G at *
  obtain ⟨c, m⟩ := G
  rw [t179, F_ev rfl]
  by_cases h0 : c = 0
  · have hd : decide (c = 0) = true := decide_eq_true h0
    simp only [hp, hc, hd, h0, List.length_map, j179, b179, q179, qq, ww, List.replicate, simprocAttr, if_true, if_false]
  · have hd : decide (c = 0) = false := decide_eq_false h0
    simp only [hp, hc, hd, h0, QA.tk, List.length_map, j179, b179, q179, qq, ww, List.replicate, simprocAttr, if_true, if_false]
end Go.Proofs.YtdflglehippoiaaGreatDoor.FA
namespace Go.Proofs.YtdflglehippoiaaGreatDoor.FA
open Go Go.Proofs.YtdflglehippoiaaGreatDoorR IG
open QA (Ev eE aE rE inB epOK evOK qOK putE n01)
open AA (It eT aT rT ahOK addA leftL wi wm takeT allT take_s)
open EC (Cf eC okC)
set_option maxRecDepth 100000
set_option maxHeartbeats 4000000
structure Sm where
  (e w kn : Int)
  (kp ah : List It)
  deriving DecidableEq
abbrev eS (s : Sm) : List V := [.int .i64 s.e, .int .i64 s.w, .int .i64 s.kn, rT s.kp, rT s.ah]
abbrev aS (s : Sm) : S := .agg (eS s)
abbrev s0 : Sm := ⟨0, 0, 0, [], []⟩
abbrev smL (s : Sm) : Prop := s.kp.length < 900 ∧ s.ah.length < 900
def zeroB (s : Sm) : Bool := decide (s.e = 0) && decide (s.w = 0) && decide (s.kn = 0) && decide ((s.kp.length : Int) = 0) && decide ((s.ah.length : Int) = 0)
theorem zeroB_iff {s : Sm} : zeroB s = true ↔ s = s0 := by
  obtain ⟨e, w, k, kp, ah⟩ := s
  simp [zeroB, and_assoc, List.length_eq_zero_iff]
theorem e174 (N d : Nat) (s : Sm) : TT N (d + 1) 174 [aS s] = some (bV (zeroB s), []) := by
  rw [t174, F_ev rfl]
  simp only [List.length_map, j174, b174, q174, qq, ww, List.replicate, simprocAttr, if_true, if_false]
  repeat' (refine fin_cases (fun h1 => ?_) (fun h1 => ?_) <;> simp only [h1, List.length_map, j174, b174, q174, qq, ww, List.replicate, simprocAttr, if_true, if_false])
  all_goals simp_all [zeroB]
def rightB (c : Cf) (s : Sm) : Bool := zeroB s || (epOK s.e && inB s.w 1 1073741824 && decide (s.w ≤ s.kn) && decide (s.kn ≤ 1073741824) && kpOK s.kp s.w c.p && ahOK s.ah s.w c.w)
theorem e142 (N d : Nat) (hN : 1000 ≤ N) (c : Cf) (s : Sm) (hs : smL s) : TT N (d + 5) 142 [.agg (eC c), aS s] = some (bV (rightB c s), []) := by
  have hz := fun d => e174 N d s
  have he := fun d => QA.e53 N d s.e
  have hc := fun d => QA.e116 N d s.w
  have hk := fun d => e175 N d s.kp s.w c.p (by omega) (by omega)
  have ha := fun d => AA.e147 N d s.ah s.w c.w (by omega) (by omega)
  rw [t142, F_ev rfl]
  simp only [hz, he, hc, hk, ha, n01, j142, b142, q142, qq, ww, List.replicate, simprocAttr, if_true, if_false]
  repeat' (refine fin_cases (fun h1 => ?_) (fun h1 => ?_) <;> simp only [h1, hz, he, hc, hk, ha, n01, j142, b142, q142, qq, ww, List.replicate, simprocAttr, if_true, if_false])
  all_goals first
    | (simp_all [rightB]; done)
    | (simp_all [rightB]; intros; omega)
def flowC (c : Cf) (s : Sm) (q : List Ev) : Int := if okC c then (if rightB c s && qOK q c.q then 0 else 1) else 13
theorem e109 (N d : Nat) (hN : 1000 ≤ N) (c : Cf) (s : Sm) (q : List Ev) (hs : smL s) (hq : q.length < 900) : TT N (d + 11) 109 [.agg (eC c), aS s, .one (rE q)] = some (iV (flowC c s q), []) := by
  have h1 := fun d => EC.e54 N d c (by omega)
  have h2 := fun d => e142 N d hN c s hs
  have h3 := fun d => QA.e143 N d q c.q (by omega) (by omega)
  rw [t109, F_ev rfl]
  cases hc : okC c with
  | false =>
    rw [hc] at h1
    simp only [flowC, hc, h1, j109, b109, q109, qq, ww, List.replicate, simprocAttr, if_true, if_false]
  | true =>
  rw [hc] at h1
  cases hr : rightB c s with
  | false =>
    rw [hr] at h2
    simp only [flowC, hc, hr, h1, h2, j109, b109, q109, qq, ww, List.replicate, simprocAttr, if_true, if_false]
    try rfl
  | true =>
  rw [hr] at h2
  cases hq : qOK q c.q <;> rw [hq] at h3 <;> simp only [flowC, hc, hr, hq, h1, h2, h3, j109, b109, q109, qq, ww, List.replicate, simprocAttr, if_true, if_false] <;> try rfl
theorem e52 (N d : Nat) (at_ next : Int) : TT N (d + 1) 52 [iV at_, iV next] = some (aS ⟨at_, next, next, [], []⟩, []) := by
  rw [t52, F_ev rfl]
  simp only [j52, b52, q52, qq, ww, List.replicate, simprocAttr, if_true, if_false]
  repeat' (refine fin_cases (fun h1 => ?_) (fun h1 => ?_) <;> simp only [h1, j52, b52, q52, qq, ww, List.replicate, simprocAttr, if_true, if_false])
  all_goals rfl
theorem e103 (N d : Nat) (s : Sm) (hs : smL s) : TT N (d + 2) 103 [aS s] = some (aS s, []) := by
  have h1 := fun d => AA.e137 N d s.kp (by omega)
  have h2 := fun d => AA.e137 N d s.ah (by omega)
  rw [t103, F_ev rfl]
  simp only [h1, h2, takeT, List.length_map, j103, b103, q103, qq, ww, List.replicate, simprocAttr, if_true, if_false]
theorem eq_sm {a b : Sm} : decide (a = b) = (decide (a.e = b.e) && (decide (a.w = b.w) && (decide (a.kn = b.kn) && (decide (a.kp = b.kp) && decide (a.ah = b.ah))))) := by
  obtain ⟨a1, a2, a3, a4, a5⟩ := a
  obtain ⟨b1, b2, b3, b4, b5⟩ := b
  simp
theorem e25 (N d : Nat) (hN : 1000 ≤ N) (a b : Sm) (ha : smL a) : TT N (d + 2) 25 [aS a, aS b] = some (bV (decide (a = b)), []) := by
  have h1 := fun d => AA.e59 N d a.kp b.kp (by omega) (by omega)
  have h2 := fun d => AA.e59 N d a.ah b.ah (by omega) (by omega)
  rw [t25, F_ev rfl]
  simp only [h1, h2, j25, b25, q25, qq, ww, List.replicate, simprocAttr, if_true, if_false]
  repeat' (refine fin_cases (fun g => ?_) (fun g => ?_) <;> simp only [g, h1, h2, j25, b25, q25, qq, ww, List.replicate, simprocAttr, if_true, if_false])
  all_goals (rw [eq_sm]; simp_all)
theorem kept_lt {l : List It} {s : Int} (h : kRow s l = true) (hl : 0 < l.length) : 1 ≤ s := by
  cases l with
  | nil => simp at hl
  | cons x r =>
    simp only [kRow, Bool.and_eq_true, decide_eq_true_eq] at h
    omega
def kRow2 : Int → List It → Bool
  | _, [] => true
  | s, x :: r => decide (x.s = s) && inB x.v 0 2147483647 && kRow2 (s + 1) r
theorem kRow_eq : ∀ {l : List It} {s : Int}, 1 ≤ s → kRow s l = kRow2 s l
  | [], s, h => rfl
  | x :: r, s, h => by
    rw [kRow, kRow2, kRow_eq (by omega)]
    by_cases h1 : x.s = s
    · have : decide (1 ≤ x.s) = true := by simp; omega
      simp [this]
    · simp [h1]
theorem e162 (N d : Nat) (l : List It) (want lim : Int) (hN : l.length < N) (hl : l.length < 1000000) : TT N (d + 3) 162 [.one (rT l), iV want, iV lim] = some (bV (kpOK l want lim), []) := by
  have hi := fun d n lo hi => AA.e87 N d n lo hi
  have hv := fun d n => AA.e76 N d n
  rw [t162, F_ev rfl]
  simp only [hi, List.length_map, j162, b162, q162, qq, ww, List.replicate, simprocAttr, if_true, if_false]
  cases h0 : AA.inB want 1 1073741824 with
  | false =>
    have : kpOK l want lim = false := by rw [kpOK, show inB want 1 1073741824 = false from h0]; rfl
    rw [this]
    simp only [h0, j162, b162, q162, qq, ww, List.replicate, simprocAttr, if_true, if_false]
  | true =>
  cases h1 : AA.inB lim 1 16 with
  | false =>
    have : kpOK l want lim = false := by rw [kpOK, show inB lim 1 16 = false from h1]; simp
    rw [this]
    simp only [h0, h1, hi, j162, b162, q162, qq, ww, List.replicate, simprocAttr, if_true, if_false]
  | true =>
  have hw : 1 ≤ want ∧ want ≤ 1073741824 := by simpa [AA.inB] using h0
  have hlm : 1 ≤ lim ∧ lim ≤ 16 := by simpa [AA.inB] using h1
  have hk : kpOK l want lim = (decide ((l.length : Int) ≤ lim) && kRow (want - l.length) l) := by rw [kpOK, show inB want 1 1073741824 = true from h0, show inB lim 1 16 = true from h1]; simp
  rw [hk]
  by_cases h2 : (l.length : Int) > lim
  · rw [show decide ((l.length : Int) ≤ lim) = false by simp; omega]
    simp only [h0, h1, decide_eq_true h2, hi, List.length_map, j162, b162, q162, qq, ww, List.replicate, simprocAttr, if_true, if_false]
    try rfl
  rw [show decide ((l.length : Int) ≤ lim) = true by simp; omega, Bool.true_and]
  by_cases h3 : (l.length : Int) ≥ want
  · have : kRow (want - l.length) l = false := by
      cases h : kRow (want - l.length) l with
      | false => rfl
      | true => have := kept_lt h (by omega); omega
    rw [this]
    simp only [h0, h1, decide_eq_false h2, decide_eq_true h3, hi, List.length_map, j162, b162, q162, qq, ww, List.replicate, simprocAttr, if_true, if_false]
  rw [kRow_eq (by omega)]
  have hwl : IntKind.i64.wrap (want - (l.length : Int)) = want - l.length := IntWalk.i64_in _ (by omega)
  simp only [h0, h1, decide_eq_false h2, decide_eq_false h3, hi, List.length_map, j162, b162, q162, qq, ww, List.replicate, simprocAttr, if_true, if_false]
  refine (loopK (K := fun o => fin _ (aft _ _ _ o)) (fun i => ⟨[(0, .one (rT l)), (1, iV want), (7, iV i)], []⟩) (fun i => some (bV (kRow2 (want - l.length + i) (l.drop i)), [])) l.length ?hr l.length 0 N _ (by omega) hN ?hk).trans ?_
  case hk => simp only [kk, simprocAttr, if_true, if_false]; try rfl
  case hr =>
    intro i n hi2 ih
    (try dsimp only)
    by_cases hlt : i < l.length
    · have h1 : decide ((i : Int) < (l.length : Int)) = true := by simp; omega
      have hg1 : (l.map eT)[i]? = some (eT l[i]) := by simp [hlt]
      have hd1 : l.drop i = l[i] :: l.drop (i + 1) := by simp
      have hb : 0 ≤ (i : Int) ∧ (i : Int) < (l.length : Int) := by omega
      have hwi : IntKind.i64.wrap (want - (l.length : Int) + i) = want - l.length + i := IntWalk.i64_in _ (by omega)
      have hnx : want - (l.length : Int) + ((i + 1 : Nat) : Int) = want - (l.length : Int) + i + 1 := by omega
      rw [hd1, kRow2]
      rw [hnx] at ih
      by_cases g1 : l[i].s = want - (l.length : Int) + i
      · cases g2 : AA.inB l[i].v 0 2147483647 with
        | false =>
          rw [show inB l[i].v 0 2147483647 = false from g2]
          simp only [h1, hb.1, hb.2, hg1, g1, g2, hwl, hwi, hv, wi i (by omega), List.length_map, Int.toNat_natCast, decide_true, j162, b162, q162, qq, ww, List.replicate, simprocAttr, if_true, if_false]
          try rfl
        | true =>
          rw [show inB l[i].v 0 2147483647 = true from g2]
          simp only [h1, hb.1, hb.2, hg1, g1, g2, hwl, hwi, hv, wi i (by omega), List.length_map, Int.toNat_natCast, decide_true, j162, b162, q162, qq, ww, List.replicate, simprocAttr, if_true, if_false]
          refine (ih hlt _ (by simp only [kk, simprocAttr, if_true, if_false])).trans ?_
          simp
      · rw [decide_eq_false g1]
        simp only [h1, hb.1, hb.2, hg1, decide_eq_false g1, hwl, hwi, hv, wi i (by omega), List.length_map, Int.toNat_natCast, j162, b162, q162, qq, ww, List.replicate, simprocAttr, if_true, if_false]
        try rfl
    · have h1 : decide ((i : Int) < (l.length : Int)) = false := by simp; omega
      simp only [h1, List.length_map, j162, b162, q162, qq, ww, List.replicate, simprocAttr, if_true, if_false]
      rw [List.drop_of_length_le (by omega)]
      rfl
  simp
end Go.Proofs.YtdflglehippoiaaGreatDoor.FA
namespace Go.Proofs.YtdflglehippoiaaGreatDoor.GA
open Go Go.Proofs.YtdflglehippoiaaGreatDoorR IG
open QA (Ev eE aE rE epOK evOK qOK putE n01)
open AA (It eT aT rT wi takeT allT)
open EC (Cf eC okC)
open FA (Sm eS aS s0 smL flowC rightB)
open KA (Kd eK aK rK nr okT okN kOK inB gap takeK all3)
set_option maxRecDepth 100000
set_option maxHeartbeats 4000000
def risP (t : Int) : Int → List Int → Bool
  | _, [] => true
  | p, x :: r => nr t x p && risP t x r
theorem e71 (N d : Nat) (t self : Int) (l : List Int) (hN : l.length < N) (hl : l.length < 1000000) : TT N (d + 6) 71 [iV t, iV self, .one (rI l)] = some (bV (risP t self l), []) := by
  have hn := fun d a b => KA.e28 N d t a b
  rw [t71, F_ev rfl]
  simp only [List.length_map, j71, b71, q71, qq, ww, List.replicate, simprocAttr, if_true, if_false]
  refine loopI (K := fun o => fin _ (aft _ _ _ o)) (I := fun i st => ∃ p, st = ⟨[(0, iV t), (1, iV p), (9, .one (rI l)), (10, iV l.length), (11, iV i)], []⟩ ∧ risP t self l = risP t p (l.drop i)) _ l.length ?hr l.length 0 N _ ⟨[(0, iV t), (1, iV self), (9, .one (rI l)), (10, iV l.length), (11, iV 0)], []⟩ (by omega) (by omega) ?hk ⟨self, rfl, rfl⟩
  case hk => simp only [kk, simprocAttr, if_true, if_false]; try rfl
  case hr =>
    rintro i n st hi ⟨p, rfl, hp⟩ ih
    (try dsimp only)
    by_cases hlt : i < l.length
    · have h1 : decide ((i : Int) < (l.length : Int)) = true := by simp; omega
      have hget : (l.map eI)[i]? = some (eI l[i]) := by simp [hlt]
      have hd : l.drop i = l[i] :: l.drop (i + 1) := by simp
      have hb : 0 ≤ (i : Int) ∧ (i : Int) < (l.length : Int) := by omega
      rw [hd, risP] at hp
      cases h2 : nr t l[i] p with
      | false =>
        rw [h2, Bool.false_and] at hp
        simp only [h1, hb.1, hb.2, List.length_map, Int.toNat_natCast, hget, hn, h2, hp, j71, b71, q71, qq, ww, List.replicate, simprocAttr, if_true, if_false]
      | true =>
        rw [h2, Bool.true_and] at hp
        simp only [h1, hb.1, hb.2, List.length_map, Int.toNat_natCast, hget, hn, h2, wi i (by omega), j71, b71, q71, qq, ww, List.replicate, simprocAttr, if_true, if_false]
        exact ih hlt _ _ (by simp only [kk, simprocAttr, if_true, if_false]) ⟨_, rfl, hp⟩
    · have h1 : decide ((i : Int) < (l.length : Int)) = false := by simp; omega
      rw [List.drop_of_length_le (by omega), risP] at hp
      simp only [h1, hp, j71, b71, q71, qq, ww, List.replicate, simprocAttr, if_true, if_false]
def pthC (t self : Int) (l : List Int) (depth : Int) : Int := if okT t && okN self && inB depth 1 8 && l.all okN then (if (l.length : Int) > depth then 12 else if risP t self l then 0 else 1) else 1
theorem e31 (N d : Nat) (t self : Int) (l : List Int) (depth : Int) (hN : l.length < N) (hl : l.length < 1000000) : TT N (d + 7) 31 [iV t, iV self, .one (rI l), iV depth] = some (iV (pthC t self l depth), []) := by
  have ha : ∀ d, TT N (d + 6) 70 [.one (rI l)] = some (bV (l.all okN), []) := fun d => MA.e70 N d l hN hl
  have hr := fun d => e71 N d t self l hN hl
  rw [t31, F_ev rfl]
  unfold pthC
  cases h0 : (okT t && okN self) with
  | false =>
    simp only [KA.e65f _ _ h0, h0, Bool.false_and, List.length_map, j31, b31, q31, qq, ww, List.replicate, simprocAttr, if_true, if_false]
    try rfl
  | true =>
  have h4 := Bool.and_eq_true_iff.1 h0
  simp only [KA.e65t _ _ h4.1 h4.2, ha, hr, List.length_map, j31, b31, q31, qq, ww, List.replicate, simprocAttr, if_true, if_false]
  by_cases g1 : depth < 1
  · have : inB depth 1 8 = false := by simp [inB]; omega
    simp only [decide_eq_true g1, this, Bool.and_false, Bool.false_and, j31, b31, q31, qq, ww, List.replicate, simprocAttr, if_true, if_false]
    try rfl
  by_cases g2 : depth > 8
  · have : inB depth 1 8 = false := by simp [inB]; omega
    simp only [decide_eq_false g1, decide_eq_true g2, this, Bool.and_false, Bool.false_and, j31, b31, q31, qq, ww, List.replicate, simprocAttr, if_true, if_false]
    try rfl
  have h5 : inB depth 1 8 = true := by simp [inB]; omega
  cases g3 : l.all okN with
  | false =>
    simp only [decide_eq_false g1, decide_eq_false g2, ha, g3, h5, Bool.and_false, Bool.true_and, j31, b31, q31, qq, ww, List.replicate, simprocAttr, if_true, if_false]
    try rfl
  | true =>
  by_cases g4 : (l.length : Int) > depth
  · simp only [decide_eq_false g1, decide_eq_false g2, ha, g3, h5, g4, decide_eq_true g4, Bool.true_and, if_true, List.length_map, j31, b31, q31, qq, ww, List.replicate, simprocAttr, if_true, if_false]
  cases g5 : risP t self l with
  | false =>
    simp only [decide_eq_false g1, decide_eq_false g2, ha, hr, g3, h5, g4, g5, decide_eq_false g4, Bool.true_and, if_true, if_false, List.length_map, j31, b31, q31, qq, ww, List.replicate, simprocAttr, if_true, if_false]
    try rfl
  | true =>
    simp only [decide_eq_false g1, decide_eq_false g2, ha, hr, g3, h5, g4, g5, decide_eq_false g4, Bool.true_and, if_true, if_false, List.length_map, j31, b31, q31, qq, ww, List.replicate, simprocAttr, if_true, if_false]
end Go.Proofs.YtdflglehippoiaaGreatDoor.GA
namespace Go.Proofs.YtdflglehippoiaaGreatDoor.FA
open Go Go.Proofs.YtdflglehippoiaaGreatDoorR IG
open QA (Ev eE aE rE inB epOK evOK qOK putE n01)
open AA (It eT aT rT ahOK addA leftL wi wm takeT allT take_s hR pre cP)
open EC (Cf eC okC)
set_option maxRecDepth 100000
set_option maxHeartbeats 4000000
theorem e132 (N d : Nat) (hN : 1000 ≤ N) (c : Cf) (s : Sm) (hs : smL s) : TT N (d + 4) 132 [.agg (eC c), aS s] = some (bV (rightB c s), []) := by
  have h0 : ∀ d, TT N (d + 2) 25 [aS s, .agg [.int .i64 0, .int .i64 0, .int .i64 0, .row [], .row []]] = some (bV (decide (s = s0)), []) := fun d => e25 N d hN s s0 hs
  have he := fun d => QA.e88 N d s.e
  have hc := fun d => QA.e161 N d s.w
  have hi := fun d lo hi => QA.e87 N d s.kn lo hi
  have hk := fun d => e162 N d s.kp s.w c.p (by omega) (by omega)
  have ha := fun d => AA.e163 N d s.ah s.w c.w (by omega) (by omega)
  rw [t132, F_ev rfl]
  have hz : decide (s = s0) = zeroB s := by
    cases h : zeroB s with
    | true => rw [zeroB_iff] at h; simp [h]
    | false => simp only [decide_eq_false_iff_not]; intro h1; rw [← zeroB_iff] at h1; rw [h] at h1; cases h1
  rw [hz] at h0
  have hre : rightB c s = (zeroB s || (epOK s.e && (inB s.w 1 1073741824 && (inB s.kn s.w 1073741824 && (kpOK s.kp s.w c.p && ahOK s.ah s.w c.w))))) := by
    simp [rightB, inB, Bool.and_assoc]
  rw [hre]
  cases g0 : zeroB s with
  | true =>
    rw [g0] at h0
    simp only [h0, List.map_nil, j132, b132, q132, qq, ww, List.replicate, simprocAttr, if_true, if_false]
    try rfl
  | false =>
  rw [g0] at h0
  cases g1 : epOK s.e with
  | false => rw [g1] at he; simp only [h0, he, j132, b132, q132, qq, ww, List.replicate, simprocAttr, if_true, if_false]; try rfl
  | true =>
  rw [g1] at he
  cases g2 : inB s.w 1 1073741824 with
  | false => rw [g2] at hc; simp only [h0, he, hc, j132, b132, q132, qq, ww, List.replicate, simprocAttr, if_true, if_false]; try rfl
  | true =>
  rw [g2] at hc
  cases g3 : inB s.kn s.w 1073741824 with
  | false => simp only [h0, he, hc, hi, g3, j132, b132, q132, qq, ww, List.replicate, simprocAttr, if_true, if_false]; try rfl
  | true =>
  cases g4 : kpOK s.kp s.w c.p with
  | false => rw [g4] at hk; simp only [h0, he, hc, hi, g3, hk, j132, b132, q132, qq, ww, List.replicate, simprocAttr, if_true, if_false]; try rfl
  | true =>
  rw [g4] at hk
  simp only [h0, he, hc, hi, g3, hk, ha, j132, b132, q132, qq, ww, List.replicate, simprocAttr, if_true, if_false]
  try rfl
theorem e92 (N d : Nat) (hN : 1000 ≤ N) (c : Cf) (s : Sm) (q : List Ev) (hs : smL s) (hq : q.length < 900) : TT N (d + 5) 92 [.agg (eC c), aS s, .one (rE q)] = some (bV (rightB c s && qOK q c.q), []) := by
  have h2 := fun d => e132 N d hN c s hs
  have h3 := fun d => QA.e133 N d q c.q (by omega) (by omega)
  rw [t92, F_ev rfl]
  cases hr : rightB c s <;> rw [hr] at h2 <;> simp only [h2, h3, j92, b92, q92, qq, ww, List.replicate, simprocAttr, if_true, if_false] <;> try rfl
abbrev kV (c : Cf) (s : Sm) (sub : Bool) (q : List Ev) (z : V) : List V := [.int .i64 c.n, .int .i64 c.t, .int .i64 c.k, .int .i64 c.d, .int .i64 c.p, .int .i64 c.w, .int .i64 c.q, .int .i64 s.e, .int .i64 s.w, .int .i64 s.kn, rT s.kp, rT s.ah, .bool sub, rE q, z]
theorem begin_ok (N d : Nat) (hN : 1000 ≤ N) (c : Cf) (s : Sm) (sub : Bool) (q : List Ev) (hs : smL s) (hq : q.length < 900) (h : flowC c s q = 0) :
    TT N (d + 12) 111 [.agg (eC c), aS s, bV sub, .one (rE q)] = some (.tup [.one (.ref 15 0 0), iV 0], [(14, .rows 88 2 []), (15, .box (kV c s sub q (.sl 14 0 0)))]) := by
  have h0 := fun d => e109 N d hN c s q hs hq
  have h1 := fun d => e103 N d s hs
  have h2 := fun d => QA.e102 N d q (by omega)
  rw [h] at h0
  rw [t111, F_ev rfl]
  simp only [h0, h1, h2, QA.tk, List.length_map, j111, b111, q111, qq, ww, List.replicate, simprocAttr, if_true, if_false]
theorem begin_no (N d : Nat) (hN : 1000 ≤ N) (c : Cf) (s : Sm) (sub : Bool) (q : List Ev) (hs : smL s) (hq : q.length < 900) (h : flowC c s q ≠ 0) :
    TT N (d + 12) 111 [.agg (eC c), aS s, bV sub, .one (rE q)] = some (.tup [.one (.k (.pointer none)), iV (flowC c s q)], []) := by
  have h0 := fun d => e109 N d hN c s q hs hq
  rw [t111, F_ev rfl]
  simp only [h0, decide_eq_false h, j111, b111, q111, qq, ww, List.replicate, simprocAttr, if_true, if_false]
  try rfl
theorem e112 (N d : Nat) (n : Int) : TT N (d + 1) 112 [iV n] = some (bV (inB n 1 1073741823), []) := by
  rw [t112, F_ev rfl]
  simp only [j112, b112, q112, qq, ww, List.replicate, simprocAttr, if_true, if_false]
  repeat' (refine fin_cases (fun h1 => ?_) (fun h1 => ?_) <;> simp only [h1, j112, b112, q112, qq, ww, List.replicate, simprocAttr, if_true, if_false])
  all_goals grind [inB]
end Go.Proofs.YtdflglehippoiaaGreatDoor.FA
namespace Go.Proofs.YtdflglehippoiaaGreatDoor.FA
open Go Go.Proofs.YtdflglehippoiaaGreatDoorR IG
open QA (Ev eE aE rE inB epOK evOK qOK putE n01)
open AA (It eT aT rT ahOK addA leftL wi wm takeT allT take_s hR pre cP)
open EC (Cf eC okC)
set_option maxRecDepth 100000
set_option maxHeartbeats 4000000
abbrev kT (c : Cf) (s : Sm) (sub : Bool) (q : List Ev) (on : List It) : S := .tup [.agg (kV c s sub q (.sl 1 0 on.length)), hR 88 2 (on.map eT)]
abbrev kH (c : Cf) (s : Sm) (sub : Bool) (q : List Ev) (on : List It) : Hp := [(0, .box (kV c s sub q (.sl 1 0 on.length))), (1, .rows 88 2 (on.map eT))]
theorem e145 (N d : Nat) (hN : 1000 ≤ N) (c : Cf) (s : Sm) (sub : Bool) (q : List Ev) (on : List It) (x : Ev) (hq : q.length < 900) :
    TT N (d + 13) 145 [.one (.ref 0 0 0), aE x, kT c s sub q on] = some (.tup [], kH c s sub (if sub then fitE q c.q x else q) on) := by
  have h1 := fun d => e179 N d q c.q x (by omega) (by omega)
  rw [t145, F_evo rfl rfl (by simp)]
  cases sub <;> simp only [h1, List.length_map, j145, b145, q145, qq, ww, List.replicate, simprocAttr, if_true, if_false]
def oneS (c : Cf) (s : Sm) (v : Int) : Sm := ⟨s.e, s.w + 1, if s.w + 1 > s.kn then s.w + 1 else s.kn, (pushP s.kp s.w c.p v).1, s.ah⟩
def oneQ (c : Cf) (s : Sm) (sub : Bool) (q : List Ev) (v : Int) : List Ev := if sub then fitE q c.q ⟨1, s.e, s.w, 0, v, 0⟩ else q
theorem e113 (N d : Nat) (hN : 1000 ≤ N) (c : Cf) (s : Sm) (sub : Bool) (q : List Ev) (on : List It) (v : Int) (hs : smL s) (hq : q.length < 900) (hon : on.length < 900) (hw : 0 ≤ s.w ∧ s.w ≤ 1073741824) :
    TT N (d + 14) 113 [.one (.ref 0 0 0), iV v, kT c s sub q on] = some (.tup [], kH c (oneS c s v) sub (oneQ c s sub q v) (on ++ [⟨s.w, v⟩])) := by
  have h1 := fun d => e144 N d s.kp s.w c.p v (by omega) (by omega)
  have h2 := fun d => e145 N d hN c ⟨s.e, s.w, s.kn, (pushP s.kp s.w c.p v).1, s.ah⟩ sub q on ⟨1, s.e, s.w, 0, v, 0⟩ hq
  dsimp only [kT, kH, kV] at h2
  have hq2 : oneQ c s sub q v = (if sub = true then fitE q c.q ⟨1, s.e, s.w, 0, v, 0⟩ else q) := rfl
  rw [hq2]
  generalize hG : (if sub = true then fitE q c.q ⟨1, s.e, s.w, 0, v, 0⟩ else q) = q' at *
  have htk : List.take (on.length + 1) (on.map eT ++ [eT (⟨s.w, v⟩ : It)]) = on.map eT ++ [eT (⟨s.w, v⟩ : It)] := List.take_of_length_le (by simp)
  have hwi : IntKind.i64.wrap (s.w + 1) = s.w + 1 := IntWalk.i64_in _ (by omega)
  have hby : (on.length + 1) * 16 ≤ 140737488355328 := by omega
  rw [t113, F_evo rfl rfl (by simp)]
  simp only [h1, h2, hwi, hby, htk, oneS, kH, kV, takeT, List.length_map, j113, b113, q113, qq, ww, List.replicate, simprocAttr, if_true, if_false]
end Go.Proofs.YtdflglehippoiaaGreatDoor.FA
namespace Go.Proofs.YtdflglehippoiaaGreatDoor.FA
open Go Go.Proofs.YtdflglehippoiaaGreatDoorR IG
open QA (Ev eE aE rE inB epOK evOK qOK putE n01)
open AA (It eT aT rT ahOK addA leftL wi wm takeT allT take_s hR pre cP)
open EC (Cf eC okC)
set_option maxRecDepth 100000
set_option maxHeartbeats 4000000
def foldK (c : Cf) (sub : Bool) : List It → Sm → List Ev → List It → Sm × List Ev × List It
  | [], s, q, on => (s, q, on)
  | x :: r, s, q, on => foldK c sub r (oneS c s x.v) (oneQ c s sub q x.v) (on ++ [⟨s.w, x.v⟩])
theorem pushP_len (l : List It) (want lim v : Int) : (pushP l want lim v).1.length ≤ 16 := by
  unfold pushP
  split
  · simp
  · split
    · simp
    · rename_i h _
      have h : kpOK l want lim = true ∧ inB v 0 2147483647 = true := by simpa using h
      have : 1 ≤ lim ∧ lim ≤ 16 ∧ (l.length : Int) ≤ lim := by have := h.1; simp [kpOK, inB] at this; omega
      simp [pushL]
      omega
theorem oneS_len {c : Cf} {s : Sm} {v : Int} (hs : smL s) : smL (oneS c s v) := by
  have := pushP_len s.kp s.w c.p v
  exact ⟨by show (pushP s.kp s.w c.p v).1.length < 900; omega, hs.2⟩
theorem oneQ_len (c : Cf) (s : Sm) (sub : Bool) (q : List Ev) (v : Int) : (oneQ c s sub q v).length ≤ q.length + 1 := by
  unfold oneQ
  split
  · exact fitE_len _ _ _
  · omega
abbrev cut (s : Sm) : Nat := pre (cP s.w) (leftL s.w s.ah) 0
def moreK (c : Cf) (sub : Bool) (s : Sm) (q : List Ev) (on : List It) : Sm × List Ev × List It :=
  let r := foldK c sub ((leftL s.w s.ah).take (cut s)) s q on
  (⟨r.1.e, r.1.w, r.1.kn, r.1.kp, (leftL s.w s.ah).drop (cut s)⟩, r.2.1, r.2.2)
theorem e114 (N d : Nat) (hN : 1000 ≤ N) (c : Cf) (s : Sm) (sub : Bool) (q : List Ev) (on : List It) (hs : smL s) (hq : q.length + s.ah.length < 900) (hon : on.length + s.ah.length < 900) (hw : 0 ≤ s.w ∧ s.w + cut s ≤ 1073741825) :
    TT N (d + 15) 114 [.one (.ref 0 0 0), kT c s sub q on] = some (.tup [], kH c (moreK c sub s q on).1 sub (moreK c sub s q on).2.1 (moreK c sub s q on).2.2) := by
  have h1 := fun d => AA.e146 N d s.ah s.w (by omega) (by omega)
  have hll : (leftL s.w s.ah).length ≤ s.ah.length := List.length_filter_le _ _
  have hcut := AA.pre_le (cP s.w) (leftL s.w s.ah) 0
  unfold moreK
  dsimp only
  generalize hrest : (leftL s.w s.ah).drop (cut s) = rest at *
  generalize hL : (leftL s.w s.ah).take (cut s) = L at *
  have hLl : L.length ≤ s.ah.length := by rw [← hL, List.length_take]; omega
  have hLc : L.length ≤ cut s := by rw [← hL, List.length_take]; omega
  rw [t114, F_evo rfl rfl (by simp)]
  simp only [h1, hrest, hL, List.length_map, j114, b114, q114, qq, ww, List.replicate, simprocAttr, if_true, if_false]
  refine loopI (K := fun o => finG _ _ (aft _ _ _ o)) (I := fun i st => ∃ s' q' on', st = ⟨[(0, .one (.ref 0 0 0)), (3, .one (rT rest)), (20, .one (rT L)), (21, iV L.length), (22, iV i)], [(0, .box (kV c s' sub q' (.sl 1 0 on'.length))), (0, .box (kV c s' sub q' (.sl 1 0 on'.length))), (1, .rows 88 2 (on'.map eT)), (1, .rows 88 2 (on'.map eT))]⟩ ∧ foldK c sub (L.drop i) s' q' on' = foldK c sub L s q on ∧ smL s' ∧ q'.length ≤ q.length + i ∧ on'.length ≤ on.length + i ∧ s'.w = s.w + i) _ L.length ?hr L.length 0 N _ ⟨[(0, .one (.ref 0 0 0)), (3, .one (rT rest)), (20, .one (rT L)), (21, iV L.length), (22, iV 0)], [(0, .box (kV c s sub q (.sl 1 0 on.length))), (0, .box (kV c s sub q (.sl 1 0 on.length))), (1, .rows 88 2 (on.map eT)), (1, .rows 88 2 (on.map eT))]⟩ (by omega) (by omega) ?hk ⟨s, q, on, rfl, rfl, hs, by omega, by omega, by omega⟩
  case hk => simp only [kk, simprocAttr, if_true, if_false]
  case hr =>
    rintro i n st hi ⟨s', q', on', rfl, hf, hs', hq', hon', hw'⟩ ih
    (try dsimp only)
    by_cases hlt : i < L.length
    · have h1 : decide ((i : Int) < (L.length : Int)) = true := by simp; omega
      have hg1 : (L.map eT)[i]? = some (eT L[i]) := by simp [hlt]
      have hd1 : L.drop i = L[i] :: L.drop (i + 1) := by simp
      have hb : 0 ≤ (i : Int) ∧ (i : Int) < (L.length : Int) := by omega
      have ho := fun d => e113 N d hN c s' sub q' on' L[i].v hs' (by omega) (by omega) (by omega)
      dsimp only [kT, kH, kV] at ho
      rw [hd1, foldK] at hf
      simp only [h1, hb.1, hb.2, hg1, ho, wi i (by omega), kV, List.length_map, Int.toNat_natCast, j114, b114, q114, qq, ww, List.replicate, simprocAttr, if_true, if_false]
      have := oneQ_len c s' sub q' L[i].v
      refine ih hlt _ _ ?_ ⟨_, _, _, rfl, hf, oneS_len hs', by omega, by simp; omega, by show s'.w + 1 = _; omega⟩
      simp only [kk, simprocAttr, if_true, if_false, kV, List.map_append, List.map_cons, List.map_nil, List.length_append, List.length_cons, List.length_nil, Nat.zero_add]
    · have h1 : decide ((i : Int) < (L.length : Int)) = false := by simp; omega
      rw [List.drop_of_length_le (by omega), foldK] at hf
      rw [← hf]
      simp only [h1, kH, kV, List.length_map, j114, b114, q114, qq, ww, List.replicate, simprocAttr, if_true, if_false]
end Go.Proofs.YtdflglehippoiaaGreatDoor.FA
namespace Go.Proofs.YtdflglehippoiaaGreatDoor.FA
open Go Go.Proofs.YtdflglehippoiaaGreatDoorR IG
open QA (Ev eE aE rE inB epOK evOK qOK putE n01)
open AA (It eT aT rT ahOK addA leftL wi wm takeT allT take_s hR pre cP risB fitsB)
open EC (Cf eC okC)
set_option maxRecDepth 100000
set_option maxHeartbeats 4000000
theorem ris_len {want win : Int} : ∀ {l : List It} {p : Int}, risB want win (some p) l = true → l ≠ [] → p + l.length < want + win ∧ p + l.length < 1073741824
  | [], p, _, h => absurd rfl h
  | [x], p, h, _ => by
    simp only [risB, fitsB, Bool.and_eq_true, decide_eq_true_eq] at h
    simp only [List.length_cons, List.length_nil]
    omega
  | x :: y :: r, p, h, _ => by
    rw [risB] at h
    simp only [fitsB, Bool.and_eq_true, decide_eq_true_eq] at h
    have := ris_len h.2 (by simp)
    simp only [List.length_cons] at this ⊢
    omega
theorem ris_none {want win : Int} {l : List It} (h : risB want win none l = true) : risB want win (some want) l = true := by
  cases l with
  | nil => rfl
  | cons x r =>
    simp only [risB, fitsB, Bool.and_eq_true, decide_eq_true_eq, and_true] at h ⊢
    simp_all
theorem ah_len {l : List It} {want win : Int} (h : ahOK l want win = true) : l.length ≤ 15 ∧ (l ≠ [] → want + l.length < 1073741824) := by
  simp only [ahOK, AA.inB, Bool.and_eq_true, decide_eq_true_eq] at h
  by_cases hl : l = []
  · subst hl; simp
  · have := ris_len (ris_none h.2) hl
    exact ⟨by omega, fun _ => this.2⟩
theorem flow_t {c : Cf} {s : Sm} {q : List Ev} (h : flowC c s q = 0) : okC c = true ∧ rightB c s = true ∧ qOK q c.q = true := by
  unfold flowC at h
  split at h
  · split at h
    · rename_i h1 h2
      simp only [Bool.and_eq_true] at h2
      exact ⟨h1, h2.1, h2.2⟩
    · cases h
  · cases h
theorem flow_of {c : Cf} {s : Sm} {q : List Ev} (h1 : okC c = true) (h2 : rightB c s = true) (h3 : qOK q c.q = true) : flowC c s q = 0 := by
  unfold flowC
  rw [if_pos h1, h2, h3]; rfl
theorem right_t {c : Cf} {s : Sm} (h : rightB c s = true) : s.kp.length ≤ 16 ∧ s.ah.length ≤ 15 ∧ 0 ≤ s.w ∧ s.w ≤ 1073741824 ∧ s.w ≤ s.kn ∧ s.kn ≤ 1073741824 ∧ (s.ah ≠ [] → s.w + s.ah.length < 1073741824) ∧ 0 ≤ s.e ∧ s.e ≤ 1073741824 := by
  unfold rightB at h
  rw [Bool.or_eq_true] at h
  rcases h with h | h
  · rw [zeroB_iff] at h; subst h; simp
  · simp only [Bool.and_eq_true, decide_eq_true_eq] at h
    obtain ⟨⟨⟨⟨⟨h1, h2⟩, h3⟩, h4⟩, h5⟩, h6⟩ := h
    have ha := ah_len h6
    simp only [kpOK, inB, Bool.and_eq_true, decide_eq_true_eq] at h2 h5
    simp only [epOK, inB, Bool.and_eq_true, decide_eq_true_eq] at h1
    exact ⟨by omega, ha.1, by omega, by omega, h3, h4, ha.2, by omega, by omega⟩
theorem q_t {q : List Ev} {n : Int} (h : qOK q n = true) : q.length ≤ 32 ∧ 2 ≤ n ∧ n ≤ 32 ∧ (q.length : Int) ≤ n := by
  simp [qOK] at h; omega
def itemG (c : Cf) (s1 : Sm) (sub : Bool) (q : List Ev) (old : Bool) (x : It) : Sm × List Ev × List It :=
  if (old || decide (x.s < s1.w)) = true then (s1, q, [])
  else if x.s = s1.w then moreK c sub (oneS c s1 x.v) (oneQ c s1 sub q x.v) [⟨s1.w, x.v⟩]
  else (⟨s1.e, s1.w, if x.s + 1 > s1.kn then x.s + 1 else s1.kn, s1.kp, if (addA s1.ah s1.w c.w x).2 = 0 then (addA s1.ah s1.w c.w x).1 else s1.ah⟩, q, [])
def itemP (c : Cf) (s : Sm) (sub : Bool) (q : List Ev) (at_ : Int) (x : It) : (Sm × List Ev × List It) × Int :=
  if flowC c s q = 0 then
    if (epOK at_ && inB x.s 1 1073741823 && inB x.v 0 2147483647) = true then
      (itemG c (if at_ > s.e then ⟨at_, x.s, x.s, [], []⟩ else s) sub q (decide (at_ < s.e)) x, 0)
    else ((s0, [], []), 1)
  else ((s0, [], []), flowC c s q)
abbrev fA (r : (Sm × List Ev × List It) × Int) : S := .tup [aS r.1.1, .one (rE r.1.2.1), .one (rT r.1.2.2), iV r.2]
theorem e57 (N d : Nat) (hN : 1000 ≤ N) (c : Cf) (s : Sm) (sub : Bool) (q : List Ev) (at_ : Int) (x : It) (hs : smL s) (hq : q.length < 900) :
    ans (TT N (d + 16) 57 [.agg (eC c), aS s, bV sub, .one (rE q), iV at_, aT x]) = some (fA (itemP c s sub q at_ x)) := by
  have h3 := fun d => QA.e53 N d at_
  have h4 := fun d => e112 N d x.s
  have h5 := fun d => QA.e56 N d x.v
  rw [t57, F_ev rfl]
  unfold itemP
  by_cases g0 : flowC c s q = 0
  case neg =>
    rw [if_neg g0]
    have hb := fun d => begin_no N d hN c s sub q hs hq g0
    simp only [hb, decide_eq_false g0, j57, b57, q57, qq, ww, List.replicate, simprocAttr, if_true, if_false]
    try rfl
  rw [if_pos g0]
  have hb := fun d => begin_ok N d hN c s sub q hs hq g0
  dsimp only [kV] at hb
  cases g3 : epOK at_ with
  | false =>
    rw [g3] at h3
    rw [if_neg (by simp)]
    simp only [hb, h3, List.map_nil, j57, b57, q57, qq, ww, List.replicate, simprocAttr, if_true, if_false]
    try rfl
  | true =>
  rw [g3] at h3
  cases g4 : inB x.s 1 1073741823 with
  | false =>
    rw [g4] at h4
    rw [if_neg (by simp)]
    simp only [hb, h3, h4, List.map_nil, j57, b57, q57, qq, ww, List.replicate, simprocAttr, if_true, if_false]
    try rfl
  | true =>
  rw [g4] at h4
  cases g5 : inB x.v 0 2147483647 with
  | false =>
    rw [g5] at h5
    rw [if_neg (by simp)]
    simp only [hb, h3, h4, h5, List.map_nil, j57, b57, q57, qq, ww, List.replicate, simprocAttr, if_true, if_false]
    try rfl
  | true =>
  rw [g5] at h5
  rw [if_pos (by decide)]
  obtain ⟨k1, k2, k3⟩ := flow_t g0
  have k4 := right_t k2
  have k5 := q_t k3
  have k6 : 1 ≤ x.s ∧ x.s ≤ 1073741823 := by simpa [inB] using g4
  have hone := fun (s1 : Sm) (h : smL s1) (hw : 0 ≤ s1.w ∧ s1.w ≤ 1073741824) d => e113 N d hN c s1 sub q [] x.v h (by omega) (by simp) hw
  have hmore := fun (s1 : Sm) (h : smL s1) (ha : s1.ah.length ≤ 15) (hw : 0 ≤ s1.w ∧ s1.w + 1 + s1.ah.length ≤ 1073741824) d =>
    e114 N d hN c (oneS c s1 x.v) sub (oneQ c s1 sub q x.v) [⟨s1.w, x.v⟩] (oneS_len h) (by have := oneQ_len c s1 sub q x.v; show _ + s1.ah.length < 900; omega) (by show 1 + s1.ah.length < 900; omega) (by have h1 := AA.pre_le (cP (s1.w + 1)) (leftL (s1.w + 1) s1.ah) 0; have h2 : (leftL (s1.w + 1) s1.ah).length ≤ s1.ah.length := List.length_filter_le _ _; show 0 ≤ s1.w + 1 ∧ s1.w + 1 + (pre (cP (s1.w + 1)) (leftL (s1.w + 1) s1.ah) 0 : Int) ≤ _; omega)
  by_cases g1 : at_ > s.e
  · rw [if_pos g1]
    have n1 : decide (at_ < s.e) = false := by simp; omega
    have ho := hone ⟨at_, x.s, x.s, [], []⟩ (by simp) (by simp; omega)
    have hm := hmore ⟨at_, x.s, x.s, [], []⟩ (by simp) (by simp) (by simp; omega)
    simp only [kT, kH, kV, List.length_nil, List.map_nil, List.nil_append, List.length_cons, List.map_cons, Nat.zero_add] at ho hm
    unfold itemG
    rw [if_neg (by simp; omega), if_pos rfl]
    have n2 : decide (x.s < x.s) = false := by simp
    have hbg := fun d => e52 N d at_ x.s
    dsimp only at hbg ho hm ⊢
    generalize moreK c sub (oneS c ⟨at_, x.s, x.s, [], []⟩ x.v) (oneQ c ⟨at_, x.s, x.s, [], []⟩ sub q x.v) [⟨x.s, x.v⟩] = r at *
    simp only [hb, h3, h4, h5, hbg, ho, hm, n1, n2, decide_eq_true g1, decide_true, takeT, fA, List.map_nil, List.length_map, j57, b57, q57, qq, ww, List.replicate, simprocAttr, if_true, if_false]
  rw [if_neg g1]
  by_cases g2 : at_ < s.e
  · unfold itemG
    rw [if_pos (by simp [g2])]
    simp only [hb, h3, h4, h5, decide_eq_false g1, decide_eq_true g2, takeT, fA, List.map_nil, List.length_map, j57, b57, q57, qq, ww, List.replicate, simprocAttr, if_true, if_false]
    try rfl
  by_cases g6 : x.s < s.w
  · unfold itemG
    rw [if_pos (by simp [g6])]
    simp only [hb, h3, h4, h5, decide_eq_false g1, decide_eq_false g2, decide_eq_true g6, takeT, fA, List.map_nil, List.length_map, j57, b57, q57, qq, ww, List.replicate, simprocAttr, if_true, if_false]
    try rfl
  by_cases g7 : x.s = s.w
  · have ho := hone s hs (by omega)
    have hm := hmore s hs k4.2.1 (by
      by_cases h : s.ah = []
      · rw [h]; simp; omega
      · have := k4.2.2.2.2.2.2.1 h; omega)
    simp only [kT, kH, kV, List.length_nil, List.map_nil, List.nil_append, List.length_cons, List.map_cons, Nat.zero_add] at ho hm
    unfold itemG
    rw [if_neg (by simp; omega), if_pos g7]
    generalize moreK c sub (oneS c s x.v) (oneQ c s sub q x.v) [⟨s.w, x.v⟩] = r at *
    simp only [hb, h3, h4, h5, ho, hm, decide_eq_false g1, decide_eq_false g2, decide_eq_false g6, decide_eq_true g7, takeT, fA, List.map_nil, List.length_map, j57, b57, q57, qq, ww, List.replicate, simprocAttr, if_true, if_false]
  · have ha := fun d => AA.e115 N d s.ah s.w c.w x (by omega) (by omega)
    have hwx : IntKind.i64.wrap (x.s + 1) = x.s + 1 := IntWalk.i64_in _ (by omega)
    unfold itemG
    rw [if_neg (by simp; omega), if_neg g7]
    generalize addA s.ah s.w c.w x = a at *
    obtain ⟨m, e⟩ := a
    dsimp only at ha ⊢
    by_cases g8 : e = 0
    · rw [if_pos g8]
      simp only [hb, h3, h4, h5, ha, hwx, decide_eq_false g1, decide_eq_false g2, decide_eq_false g6, decide_eq_false g7, decide_eq_true g8, takeT, fA, List.map_nil, List.length_map, j57, b57, q57, qq, ww, List.replicate, simprocAttr, if_true, if_false]
      try rfl
    · rw [if_neg g8]
      simp only [hb, h3, h4, h5, ha, hwx, decide_eq_false g1, decide_eq_false g2, decide_eq_false g6, decide_eq_false g7, decide_eq_false g8, takeT, fA, List.map_nil, List.length_map, j57, b57, q57, qq, ww, List.replicate, simprocAttr, if_true, if_false]
      try rfl
end Go.Proofs.YtdflglehippoiaaGreatDoor.FA
namespace Go.Proofs.YtdflglehippoiaaGreatDoor.FA
open Go Go.Proofs.YtdflglehippoiaaGreatDoorR IG
open QA (Ev eE aE rE inB epOK evOK qOK putE n01 gapE lastK)
open AA (It eT aT rT ahOK addA leftL wi wm takeT allT take_s hR pre cP risB fitsB)
open EC (Cf eC okC)
set_option maxRecDepth 100000
set_option maxHeartbeats 4000000
theorem ris_mem {want win : Int} : ∀ {l : List It} {p : Option Int}, risB want win p l = true → ∀ y ∈ l, want < y.s ∧ y.s < 1073741824 ∧ inB y.v 0 2147483647 = true
  | [], _, _, y, hy => by cases hy
  | x :: r, p, h, y, hy => by
    have h : fitsB x.s want win = true ∧ inB x.v 0 2147483647 = true ∧ risB want win (some x.s) r = true := by
      cases p <;> simp only [risB, Bool.and_eq_true] at h
      · exact ⟨h.1.1.1, h.1.1.2, h.2⟩
      · exact ⟨h.1.1.1, h.1.1.2, h.2⟩
    simp only [fitsB, Bool.and_eq_true, decide_eq_true_eq] at h
    rcases List.mem_cons.1 hy with rfl | hy
    · exact ⟨h.1.1.1, h.1.2, h.2.1⟩
    · exact ris_mem h.2.2 y hy
theorem right_ah {c : Cf} {s : Sm} (h : rightB c s = true) : ∀ y ∈ s.ah, s.w < y.s ∧ y.s < 1073741824 ∧ inB y.v 0 2147483647 = true := by
  unfold rightB at h
  rw [Bool.or_eq_true] at h
  rcases h with h | h
  · rw [zeroB_iff] at h; subst h; simp
  · simp only [Bool.and_eq_true, decide_eq_true_eq, ahOK] at h
    exact ris_mem h.2.2
end Go.Proofs.YtdflglehippoiaaGreatDoor.FA
namespace Go.Proofs.YtdflglehippoiaaGreatDoor.FA
open Go Go.Proofs.YtdflglehippoiaaGreatDoorR IG
open QA (Ev eE aE rE inB epOK evOK qOK putE n01 gapE lastK)
open AA (It eT aT rT ahOK addA leftL wi wm takeT allT take_s hR pre cP risB fitsB)
open EC (Cf eC okC)
set_option maxRecDepth 100000
set_option maxHeartbeats 4000000
theorem evOK_data {e s v : Int} (he : epOK e = true) (hs : 1 ≤ s ∧ s ≤ 1073741824) (hv : inB v 0 2147483647 = true) : evOK ⟨1, e, s, 0, v, 0⟩ = true := by
  have : inB s 1 1073741824 = true := by simp [inB]; omega
  simp [evOK, he, this, hv]
theorem evOK_gap {e s l : Int} (he : epOK e = true) (hs : 1 ≤ s) (hl : s ≤ l ∧ l ≤ 1073741824) : evOK ⟨2, e, s, l, 0, 0⟩ = true := by
  have h1 : inB s 1 1073741824 = true := by simp [inB]; omega
  have h2 : inB l s 1073741824 = true := by simp [inB]; omega
  simp [evOK, he, h1, h2]
theorem evOK_2 {x : Ev} (h : evOK x = true) (hk : x.k = 2) : epOK x.e = true ∧ 1 ≤ x.s ∧ x.s ≤ x.l ∧ x.l ≤ 1073741824 ∧ x.v = 0 ∧ x.c = 0 := by
  simp [evOK, hk, inB] at h
  simp [h]
theorem gap_ok {x g : Ev} (hx : evOK x = true) (hg : gapE x = some g) : g.k = 2 ∧ evOK g = true := by
  unfold gapE at hg
  split at hg
  · rename_i hk
    cases hg
    simp [evOK, hk, inB] at hx
    exact ⟨rfl, evOK_gap (by simp [hx]) (by omega) (by omega)⟩
  · split at hg
    · rename_i hk
      cases hg
      exact ⟨hk, hx⟩
    · cases hg
theorem lastK_app (l : List Ev) (y : Ev) : lastK (l ++ [y]) = y.k := by simp [lastK]
theorem q_fit {l : List Ev} {n : Int} {x : Ev} (hq : qOK l n = true) (hx : evOK x = true) : qOK (fitE l n x) n = true := by
  have hq0 := hq
  simp only [qOK, Bool.and_eq_true, Bool.or_eq_true, Bool.not_eq_true', decide_eq_true_eq, decide_eq_false_iff_not] at hq
  obtain ⟨⟨⟨⟨h1, h2⟩, h3⟩, h4⟩, h5⟩ := hq
  unfold fitE
  by_cases g1 : (l.length : Int) < n - 1
  · rw [show putE l n x = (0, l ++ [x]) by simp only [putE, hq0, hx, Bool.and_self, if_true, if_pos g1]]
    simp only [if_true, qOK, List.length_append, List.length_cons, List.length_nil, List.all_append, List.all_cons, List.all_nil, h4, hx, Bool.and_true, Bool.and_eq_true, Bool.or_eq_true, Bool.not_eq_true', decide_eq_true_eq, decide_eq_false_iff_not]
    exact ⟨⟨⟨h1, h2⟩, by omega⟩, .inl (by omega)⟩
  cases hg : gapE x with
  | none => rw [show putE l n x = (6, []) by simp only [putE, hq0, hx, hg, Bool.and_self, if_true, if_neg g1]]; exact hq0
  | some g =>
    obtain ⟨k1, k2⟩ := gap_ok hx hg
    by_cases g2 : (l.length : Int) < n
    · rw [show putE l n x = (0, l ++ [g]) by simp only [putE, hq0, hx, hg, Bool.and_self, if_true, if_neg g1, if_pos g2]]
      simp only [if_true, qOK, List.length_append, List.length_cons, List.length_nil, List.all_append, List.all_cons, List.all_nil, h4, k2, lastK_app, k1, Bool.and_true, Bool.and_eq_true, Bool.or_eq_true, Bool.not_eq_true', decide_eq_true_eq, decide_eq_false_iff_not]
      first | exact ⟨⟨⟨h1, h2⟩, by omega⟩, .inr rfl⟩ | exact ⟨⟨h1, h2⟩, by omega⟩ | (simp; omega)
    · have hlen : (l.length : Int) = n := by omega
      have hne : l ≠ [] := fun e => by subst e; simp at hlen; omega
      obtain ⟨m, y, rfl⟩ : ∃ m y, l = m ++ [y] := ⟨l.dropLast, l.getLast hne, (List.dropLast_concat_getLast hne).symm⟩
      have g1' : ¬ ((m.length : Int) + 1 < n - 1) := by simp at hlen; omega
      have g2' : ¬ ((m.length : Int) + 1 < n) := by simp at hlen; omega
      by_cases g3 : g.e = y.e ∧ g.s = y.l + 1
      · rw [show putE (m ++ [y]) n x = (0, (m ++ [y]).dropLast ++ [{ y with l := g.l }]) by simp [putE, hq0, hx, hg, g1', g2', g3]]
        have hy : y.k = 2 := by
          rcases h5 with h | h
          · exact absurd hlen h
          · rwa [lastK_app] at h
        have hyok : evOK y = true := by simp [List.all_append] at h4; exact h4.2
        have hm : m.all evOK = true := by simp [List.all_append] at h4 ⊢; exact h4.1
        obtain ⟨a1, a2, a3, a4, a5, a6⟩ := evOK_2 hyok hy
        obtain ⟨b1, b2, b3, b4, b5, b6⟩ := evOK_2 k2 k1
        have hnew : evOK { y with l := g.l } = true := by
          have : ({ y with l := g.l } : Ev) = ⟨2, y.e, y.s, g.l, 0, 0⟩ := by
            obtain ⟨k, e, s, l, v, c⟩ := y
            simp at hy a5 a6 ⊢
            exact ⟨hy, a5, a6⟩
          rw [this]
          exact evOK_gap a1 a2 ⟨by omega, b4⟩
        simp only [List.dropLast_concat, if_true, qOK, List.length_append, List.length_cons, List.length_nil, List.all_append, List.all_cons, List.all_nil, hm, hnew, lastK_app, Bool.and_true, Bool.and_eq_true, Bool.or_eq_true, Bool.not_eq_true', decide_eq_true_eq, decide_eq_false_iff_not] at h3 hlen ⊢
        exact ⟨⟨⟨h1, h2⟩, by simpa using h3⟩, .inr hy⟩
      · rw [show putE (m ++ [y]) n x = (6, []) by simp [putE, hq0, hx, hg, g1', g2', g3]]
        exact hq0
def rQ (c : Cf) (s : Sm) (sub : Bool) (q : List Ev) (x : It) : List Ev := if sub then fitE q c.q ⟨1, s.e, x.s, 0, x.v, 0⟩ else q
def takeR (c : Cf) (sub : Bool) : List It → Sm → List Ev → List It → It → Sm × List Ev × List It
  | [], s, q, on, x => (⟨s.e, s.w + 1, if s.w + 1 > s.kn then s.w + 1 else s.kn, pushL s.kp s.w c.p x.v, []⟩, rQ c s sub q x, on ++ [x])
  | y :: r, s, q, on, x => if y.s = s.w + 1 then takeR c sub r ⟨s.e, s.w + 1, if s.w + 1 > s.kn then s.w + 1 else s.kn, pushL s.kp s.w c.p x.v, r⟩ (rQ c s sub q x) (on ++ [x]) y
    else (⟨s.e, s.w + 1, if s.w + 1 > s.kn then s.w + 1 else s.kn, pushL s.kp s.w c.p x.v, y :: r⟩, rQ c s sub q x, on ++ [x])
structure RI (c : Cf) (sub : Bool) (ah : List It) (s : Sm) (q : List Ev) (x : It) : Prop where
  cc : 1 ≤ c.p ∧ c.p ≤ 16
  qq : sub = true → qOK q c.q = true ∧ epOK s.e = true
  xs : x.s = s.w
  ws : 1 ≤ s.w ∧ s.w ≤ 1073741823
  xv : inB x.v 0 2147483647 = true
  ay : ∀ y ∈ ah, inB y.v 0 2147483647 = true ∧ y.s ≤ 1073741823
  kl : s.kp.length ≤ 16
  ql : q.length < 900
end Go.Proofs.YtdflglehippoiaaGreatDoor.FA
namespace Go.Proofs.YtdflglehippoiaaGreatDoor.FA
open Go Go.Proofs.YtdflglehippoiaaGreatDoorR IG
open QA (Ev eE aE rE inB epOK evOK qOK putE n01 gapE lastK)
open AA (It eT aT rT ahOK addA leftL wi wm takeT allT take_s hR pre cP risB fitsB)
open EC (Cf eC okC)
set_option maxRecDepth 100000
set_option maxHeartbeats 4000000
theorem kRow_app : ∀ {l : List It} {s : Int} {x : It}, kRow s (l ++ [x]) = (kRow s l && kRow (s + l.length) [x])
  | [], s, x => by simp [kRow]
  | y :: r, s, x => by
    have ih := kRow_app (l := r) (s := s + 1) (x := x)
    rw [show s + 1 + (r.length : Int) = s + ((y :: r).length : Int) by simp; omega] at ih
    rw [List.cons_append, kRow, ih, show kRow s (y :: r) = (decide (1 ≤ y.s) && decide (y.s = s) && inB y.v 0 2147483647 && kRow (s + 1) r) from rfl]
    simp only [Bool.and_assoc]
theorem kRow_drop : ∀ {d : Nat} {l : List It} {s : Int}, kRow s l = true → d ≤ l.length → kRow (s + d) (l.drop d) = true
  | 0, l, s, h, _ => by simpa using h
  | d + 1, [], s, h, hd => by simp at hd
  | d + 1, x :: r, s, h, hd => by
    rw [kRow, Bool.and_eq_true] at h
    have := kRow_drop (d := d) h.2 (by simpa using hd)
    rw [List.drop_succ_cons, show s + ((d + 1 : Nat) : Int) = s + 1 + d by omega]
    exact this
theorem push_ok {l : List It} {w lim v : Int} (h : kpOK l w lim = true) (hw : w ≤ 1073741823) (hv : inB v 0 2147483647 = true) : kpOK (pushL l w lim v) (w + 1) lim = true := by
  simp only [kpOK, inB, Bool.and_eq_true, decide_eq_true_eq] at h
  obtain ⟨⟨⟨h1, h2⟩, h3⟩, h4⟩ := h
  have hx : kRow w [(⟨w, v⟩ : It)] = true := by
    have : decide (1 ≤ w) = true := by simp; omega
    simp [kRow, hv, this]
  have ha : kRow (w - l.length) (l ++ [(⟨w, v⟩ : It)]) = true := by
    rw [kRow_app, h4, show w - (l.length : Int) + l.length = w by omega, hx]; rfl
  have hd : l.length + 1 - lim.toNat ≤ (l ++ [(⟨w, v⟩ : It)]).length := by simp
  have := kRow_drop ha hd
  have hlen : (pushL l w lim v).length = l.length + 1 - (l.length + 1 - lim.toNat) := by simp [pushL]
  simp only [kpOK, inB, Bool.and_eq_true, decide_eq_true_eq]
  refine ⟨⟨⟨by omega, h2⟩, by rw [hlen]; omega⟩, ?_⟩
  rw [hlen, show w + 1 - ((l.length + 1 - (l.length + 1 - lim.toNat) : Nat) : Int) = w - l.length + ((l.length + 1 - lim.toNat : Nat) : Int) by omega]
  exact this
theorem pushP_ok {l : List It} {w lim v : Int} (h : kpOK l w lim = true) (hw : w ≤ 1073741823) (hv : inB v 0 2147483647 = true) : pushP l w lim v = (pushL l w lim v, 0) := by
  unfold pushP
  rw [h, hv, if_neg (by decide), if_neg (by omega)]
theorem takeR_ah {c : Cf} {sub : Bool} {ah : List It} {e w kn : Int} {kp a b : List It} {q : List Ev} {on : List It} {x : It} : takeR c sub ah ⟨e, w, kn, kp, a⟩ q on x = takeR c sub ah ⟨e, w, kn, kp, b⟩ q on x := by
  cases ah <;> rfl
theorem take_fold {c : Cf} {sub : Bool} {want : Int} (hwant : 0 ≤ want ∧ want ≤ 1073741824) : ∀ {ah : List It} {s : Sm} {q : List Ev} {on : List It} {x : It} {k : Nat}, x.s = s.w → s.w + 1 = want + k → kpOK s.kp s.w c.p = true → inB x.v 0 2147483647 = true → s.w ≤ 1073741823 →
    (∀ y ∈ ah, inB y.v 0 2147483647 = true ∧ 0 ≤ y.s ∧ y.s ≤ 1073741823) →
    takeR c sub ah s q on x = (⟨(foldK c sub (ah.take (pre (cP want) ah k)) (oneS c s x.v) (oneQ c s sub q x.v) (on ++ [⟨s.w, x.v⟩])).1.e, (foldK c sub (ah.take (pre (cP want) ah k)) (oneS c s x.v) (oneQ c s sub q x.v) (on ++ [⟨s.w, x.v⟩])).1.w,
      (foldK c sub (ah.take (pre (cP want) ah k)) (oneS c s x.v) (oneQ c s sub q x.v) (on ++ [⟨s.w, x.v⟩])).1.kn, (foldK c sub (ah.take (pre (cP want) ah k)) (oneS c s x.v) (oneQ c s sub q x.v) (on ++ [⟨s.w, x.v⟩])).1.kp, ah.drop (pre (cP want) ah k)⟩,
      (foldK c sub (ah.take (pre (cP want) ah k)) (oneS c s x.v) (oneQ c s sub q x.v) (on ++ [⟨s.w, x.v⟩])).2)
  | [], s, q, on, x, k, hx, hk, hp, hv, hw, hah => by
    have e1 := pushP_ok (v := x.v) hp hw hv
    obtain ⟨xs, xv⟩ := x
    simp only at hx hv e1
    subst hx
    simp only [pre, List.take_zero, List.drop_zero, foldK, takeR, oneS, oneQ, rQ, e1]
  | y :: r, s, q, on, x, k, hx, hk, hp, hv, hw, hah => by
    have e1 := pushP_ok (v := x.v) hp hw hv
    have hy := hah y (by simp)
    have hcp : cP want y k = decide (y.s = s.w + 1) := by
      unfold cP
      rw [IntWalk.i64_in _ (by omega)]
      by_cases h : y.s = s.w + 1
      · rw [decide_eq_true h, decide_eq_true (by omega)]
      · rw [decide_eq_false h, decide_eq_false (by omega)]
    obtain ⟨xs, xv⟩ := x
    simp only at hx hv e1
    subst hx
    rw [takeR, pre, hcp]
    by_cases h : y.s = s.w + 1
    · rw [if_pos h, if_pos (decide_eq_true h)]
      have hs1 : takeR c sub r ⟨s.e, s.w + 1, if s.w + 1 > s.kn then s.w + 1 else s.kn, pushL s.kp s.w c.p xv, r⟩ (rQ c s sub q ⟨s.w, xv⟩) (on ++ [⟨s.w, xv⟩]) y =
          takeR c sub r (oneS c s xv) (oneQ c s sub q xv) (on ++ [⟨s.w, xv⟩]) y := by
        rw [oneS, e1]
        exact takeR_ah
      rw [hs1, take_fold hwant (s := oneS c s xv) (k := k + 1) h (by show s.w + 1 + 1 = _; omega) (by show kpOK (pushP s.kp s.w c.p xv).1 (s.w + 1) c.p = true; rw [e1]; exact push_ok hp hw hv) hy.1 (by show s.w + 1 ≤ _; omega) (fun z hz => hah z (by simp [hz]))]
      rfl
    · rw [if_neg h, show (if decide (y.s = s.w + 1) = true then pre (cP want) r (k + 1) + 1 else 0) = 0 from if_neg (by simp [h])]
      simp only [List.take_zero, List.drop_zero, foldK, oneS, oneQ, rQ, e1]
theorem left_all {w : Int} : ∀ {l : List It}, (∀ y ∈ l, w ≤ y.s) → leftL w l = l := fun {l} h => by
  unfold leftL
  rw [List.filter_eq_self]
  intro y hy
  simp [h y hy]
theorem one_more {c : Cf} {sub : Bool} {s : Sm} {q : List Ev} {v : Int} (hp : kpOK s.kp s.w c.p = true) (hv : inB v 0 2147483647 = true) (hw : 0 ≤ s.w ∧ s.w ≤ 1073741823) (hah : ∀ y ∈ s.ah, inB y.v 0 2147483647 = true ∧ s.w < y.s ∧ y.s ≤ 1073741823) :
    moreK c sub (oneS c s v) (oneQ c s sub q v) [⟨s.w, v⟩] = takeR c sub s.ah s q [] ⟨s.w, v⟩ := by
  have hl : leftL (s.w + 1) s.ah = s.ah := left_all fun y hy => by have := hah y hy; omega
  rw [take_fold (want := s.w + 1) (k := 0) (by omega) rfl (by simp) hp hv hw.2 fun y hy => ⟨(hah y hy).1, by have := hah y hy; omega, (hah y hy).2.2⟩]
  unfold moreK
  simp only [cut]
  rw [show (oneS c s v).w = s.w + 1 from rfl, show (oneS c s v).ah = s.ah from rfl, hl]
  rfl
end Go.Proofs.YtdflglehippoiaaGreatDoor.FA
namespace Go.Proofs.YtdflglehippoiaaGreatDoor.FA
open Go Go.Proofs.YtdflglehippoiaaGreatDoorR IG
open QA (Ev eE aE rE inB epOK evOK qOK putE n01 gapE lastK)
open AA (It eT aT rT ahOK addA addR leftL wi wm takeT allT take_s hR pre cP risB fitsB)
open EC (Cf eC okC)
set_option maxRecDepth 100000
set_option maxHeartbeats 4000000
abbrev gA (r : Sm × List Ev × List It) : S := .tup [aS r.1, .one (rE r.2.1), .one (rT r.2.2)]
theorem right_e {c : Cf} {s : Sm} (h : rightB c s = true) (he : epOK s.e = true) : kpOK s.kp s.w c.p = true ∧ ahOK s.ah s.w c.w = true ∧ 1 ≤ s.w := by
  unfold rightB at h
  rw [Bool.or_eq_true] at h
  rcases h with h | h
  · rw [zeroB_iff] at h; subst h; simp [epOK, inB] at he
  · simp only [Bool.and_eq_true, decide_eq_true_eq] at h
    exact ⟨h.1.2, h.2, by have := h.1.1.1.1.2; simp [inB] at this; omega⟩
theorem okC_t {c : Cf} (h : okC c = true) : (1 ≤ c.n ∧ c.n ≤ 8) ∧ (1 ≤ c.t ∧ c.t ≤ 4) ∧ (1 ≤ c.k ∧ c.k ≤ 4) ∧ (1 ≤ c.d ∧ c.d ≤ 8) ∧ (1 ≤ c.p ∧ c.p ≤ 16) ∧ (1 ≤ c.w ∧ c.w ≤ 16) ∧ (2 ≤ c.q ∧ c.q ≤ 32) := by simpa [okC] using h
end Go.Proofs.YtdflglehippoiaaGreatDoor.FA
namespace Go.Proofs.YtdflglehippoiaaGreatDoor.FA
open Go Go.Proofs.YtdflglehippoiaaGreatDoorR IG
open QA (Ev eE aE rE inB epOK evOK qOK putE n01 gapE lastK)
open AA (It eT aT rT ahOK addA addR leftL wi wm takeT allT take_s hR pre cP risB fitsB left_s)
open EC (Cf eC okC)
set_option maxRecDepth 100000
set_option maxHeartbeats 4000000
end Go.Proofs.YtdflglehippoiaaGreatDoor.FA
namespace Go.Proofs.YtdflglehippoiaaGreatDoor.FA
open Go Go.Proofs.YtdflglehippoiaaGreatDoorR IG
open QA (Ev eE aE rE inB epOK evOK qOK putE n01 gapE lastK)
open AA (It eT aT rT ahOK addA addR leftL wi wm takeT allT take_s hR pre cP risB fitsB left_s)
open EC (Cf eC okC)
set_option maxRecDepth 100000
set_option maxHeartbeats 4000000
theorem okC_b (c : Cf) : okC c = (inB c.n 1 8 && (inB c.t 1 4 && (inB c.k 1 4 && (inB c.d 1 8 && (inB c.p 1 16 && (inB c.w 1 16 && inB c.q 2 32)))))) := by
  simp only [okC, inB, ← Bool.decide_and]
theorem e40 (N d : Nat) (c : Cf) : TT N (d + 2) 40 [.agg (eC c)] = some (bV (okC c), []) := by
  have h16 := fun d n lo hi => QA.e60 N d n lo hi
  rw [t40, F_ev rfl, okC_b]
  cases h1 : inB c.n 1 8
  · simp only [h16, h1, Bool.and_self, Bool.and_false, Bool.false_and, Bool.true_and, j40, b40, q40, qq, ww, List.replicate, simprocAttr, if_true, if_false]
  cases h2 : inB c.t 1 4
  · simp only [h16, h1, h2, Bool.and_self, Bool.and_false, Bool.false_and, Bool.true_and, j40, b40, q40, qq, ww, List.replicate, simprocAttr, if_true, if_false]
  cases h3 : inB c.k 1 4
  · simp only [h16, h1, h2, h3, Bool.and_self, Bool.and_false, Bool.false_and, Bool.true_and, j40, b40, q40, qq, ww, List.replicate, simprocAttr, if_true, if_false]
  cases h4 : inB c.d 1 8
  · simp only [h16, h1, h2, h3, h4, Bool.and_self, Bool.and_false, Bool.false_and, Bool.true_and, j40, b40, q40, qq, ww, List.replicate, simprocAttr, if_true, if_false]
  cases h5 : inB c.p 1 16
  · simp only [h16, h1, h2, h3, h4, h5, Bool.and_self, Bool.and_false, Bool.false_and, Bool.true_and, j40, b40, q40, qq, ww, List.replicate, simprocAttr, if_true, if_false]
  cases h6 : inB c.w 1 16
  · simp only [h16, h1, h2, h3, h4, h5, h6, Bool.and_self, Bool.and_false, Bool.false_and, Bool.true_and, j40, b40, q40, qq, ww, List.replicate, simprocAttr, if_true, if_false]
  cases h7 : inB c.q 2 32
  · simp only [h16, h1, h2, h3, h4, h5, h6, h7, Bool.and_self, Bool.and_false, Bool.false_and, Bool.true_and, j40, b40, q40, qq, ww, List.replicate, simprocAttr, if_true, if_false]
  simp only [h16, h1, h2, h3, h4, h5, h6, h7, Bool.and_self, Bool.and_false, Bool.false_and, Bool.true_and, j40, b40, q40, qq, ww, List.replicate, simprocAttr, if_true, if_false]
def heavyB (s : Sm) (q : List Ev) : Bool := decide ((s.kp.length : Int) > 30) || decide ((s.ah.length : Int) > 30) || decide ((q.length : Int) > 50)
theorem e49 (N d : Nat) (s : Sm) (q : List Ev) : TT N (d + 1) 49 [aS s, .one (rE q)] = some (bV (heavyB s q), []) := by
  rw [t49, F_ev rfl]
  simp only [List.length_map, j49, b49, q49, qq, ww, List.replicate, simprocAttr, if_true, if_false]
  repeat' (refine fin_cases (fun h1 => ?_) (fun h1 => ?_) <;> simp only [h1, List.length_map, j49, b49, q49, qq, ww, List.replicate, simprocAttr, if_true, if_false])
  all_goals (first | (simp_all [heavyB]; done) | (simp_all [heavyB]; omega))
theorem heavy_t {s : Sm} {q : List Ev} (h : heavyB s q = false) : s.kp.length ≤ 30 ∧ s.ah.length ≤ 30 ∧ q.length ≤ 50 := by
  simp [heavyB] at h; omega
theorem foldK_len {c : Cf} {sub : Bool} : ∀ {l : List It} {s : Sm} {q : List Ev} {on : List It}, s.kp.length < 900 → (foldK c sub l s q on).1.kp.length < 900 ∧ (foldK c sub l s q on).1.ah = s.ah ∧ (foldK c sub l s q on).2.1.length ≤ q.length + l.length ∧ (foldK c sub l s q on).2.2.length = on.length + l.length
  | [], s, q, on, h => ⟨h, rfl, Nat.le_refl _, rfl⟩
  | x :: r, s, q, on, h => by
    have hp := pushP_len s.kp s.w c.p x.v
    have hq := oneQ_len c s sub q x.v
    obtain ⟨h1, h2, h3, h4⟩ := foldK_len (c := c) (sub := sub) (l := r) (s := oneS c s x.v) (q := oneQ c s sub q x.v) (on := on ++ [⟨s.w, x.v⟩]) (by show (pushP s.kp s.w c.p x.v).1.length < 900; omega)
    simp only [List.length_append, List.length_cons, List.length_nil] at h4
    simp only [foldK, List.length_cons]
    exact ⟨h1, h2, by omega, by omega⟩
theorem moreK_len {c : Cf} {sub : Bool} {s : Sm} {q : List Ev} {on : List It} (h : s.kp.length < 900) : (moreK c sub s q on).1.kp.length < 900 ∧ (moreK c sub s q on).1.ah.length ≤ s.ah.length ∧ (moreK c sub s q on).2.1.length ≤ q.length + s.ah.length ∧ (moreK c sub s q on).2.2.length ≤ on.length + s.ah.length := by
  have hl : (leftL s.w s.ah).length ≤ s.ah.length := List.length_filter_le _ _
  have ht : ((leftL s.w s.ah).take (cut s)).length ≤ s.ah.length := by rw [List.length_take]; omega
  obtain ⟨h1, h2, h3, h4⟩ := foldK_len (c := c) (sub := sub) (l := (leftL s.w s.ah).take (cut s)) (s := s) (q := q) (on := on) h
  unfold moreK
  exact ⟨h1, by show (List.drop _ _).length ≤ _; rw [List.length_drop]; omega, by show _ ≤ _; dsimp only; omega, by show _ ≤ _; dsimp only; omega⟩
theorem itemG_len {c : Cf} {s : Sm} {sub : Bool} {q : List Ev} {old : Bool} {x : It} (hs : s.kp.length ≤ 30 ∧ s.ah.length ≤ 30) (hq : q.length ≤ 50) : smL (itemG c s sub q old x).1 ∧ (itemG c s sub q old x).2.1.length < 900 ∧ (itemG c s sub q old x).2.2.length < 900 := by
  unfold itemG
  split
  · exact ⟨⟨by show s.kp.length < 900; omega, by show s.ah.length < 900; omega⟩, by show q.length < 900; omega, by simp⟩
  · split
    · have hp := pushP_len s.kp s.w c.p x.v
      have hq2 := oneQ_len c s sub q x.v
      obtain ⟨h1, h2, h3, h4⟩ := moreK_len (c := c) (sub := sub) (s := oneS c s x.v) (q := oneQ c s sub q x.v) (on := [⟨s.w, x.v⟩]) (by show (pushP s.kp s.w c.p x.v).1.length < 900; omega)
      have e1 : (oneS c s x.v).ah.length = s.ah.length := rfl
      simp only [List.length_cons, List.length_nil] at h4
      exact ⟨⟨h1, by omega⟩, by omega, by omega⟩
    · have ha := AA.addA_len s.ah s.w c.w x
      refine ⟨⟨by show s.kp.length < 900; omega, ?_⟩, by show q.length < 900; omega, by simp⟩
      show (if (addA s.ah s.w c.w x).2 = 0 then (addA s.ah s.w c.w x).1 else s.ah).length < 900
      split <;> omega
end Go.Proofs.YtdflglehippoiaaGreatDoor.FA
namespace Go.Proofs.YtdflglehippoiaaGreatDoor.GA
open Go Go.Proofs.YtdflglehippoiaaGreatDoorR IG
open QA (Ev eE aE rE epOK evOK qOK putE n01)
open AA (It eT aT rT wi takeT allT)
open EC (Cf eC okC)
open FA (Sm eS aS s0 smL flowC rightB heavyB heavy_t)
open KA (Kd eK aK rK nr okT okN kOK inB gap takeK all3)
set_option maxRecDepth 100000
set_option maxHeartbeats 4000000
structure Tp where
  (m b : Bool)
  (t r p a o g : Int)
  (pa : List Int)
  (ks : List Kd)
  (s : Sm)
  (q : List Ev)
  deriving DecidableEq
abbrev eX (x : Tp) : List V := [.bool x.m, .bool x.b, .int .i64 x.t, .int .i64 x.r, .int .i64 x.p, .int .i64 x.a, .int .i64 x.o, .int .i64 x.g, rI x.pa, rK x.ks, .int .i64 x.s.e, .int .i64 x.s.w, .int .i64 x.s.kn, rT x.s.kp, rT x.s.ah, rE x.q]
abbrev aX (x : Tp) : S := .agg (eX x)
abbrev x0 : Tp := ⟨false, false, 0, 0, 0, 0, 0, 0, [], [], s0, []⟩
abbrev smX (x : Tp) : Prop := x.pa.length < 900 ∧ x.ks.length < 900 ∧ smL x.s ∧ x.q.length < 900
def lnk (t self n : Int) : Bool := decide (n = 0) || (decide (n > 0) && nr t (IntKind.i64.wrap (n - 1)) self)
theorem e106 (N d : Nat) (t self n : Int) : TT N (d + 6) 106 [iV t, iV self, iV n] = some (bV (lnk t self n), []) := by
  have hn := fun d a b => KA.e28 N d t a b
  rw [t106, F_ev rfl]
  unfold lnk
  by_cases h1 : n = 0
  · simp only [hn, decide_eq_true h1, Bool.true_or, j106, b106, q106, qq, ww, List.replicate, simprocAttr, if_true, if_false]
  by_cases h2 : n > 0
  · simp only [hn, decide_eq_false h1, decide_eq_true h2, Bool.false_or, Bool.true_and, j106, b106, q106, qq, ww, List.replicate, simprocAttr, if_true, if_false]
  · simp only [hn, decide_eq_false h1, decide_eq_false h2, Bool.false_or, Bool.false_and, j106, b106, q106, qq, ww, List.replicate, simprocAttr, if_true, if_false]
theorem e17 (N d : Nat) (e : Int) : TT N (d + 4) 17 [iV e] = some (.tup [iV (if epOK e then e.tmod 16 else 0), iV (if epOK e then 0 else 1)], []) := by
  have h1 := fun d => QA.e53 N d e
  rw [t17, F_ev rfl]
  cases h : epOK e with
  | false =>
    rw [h] at h1
    simp only [h1, j17, b17, q17, qq, ww, List.replicate, simprocAttr, if_true, if_false]
    try rfl
  | true =>
    rw [h] at h1
    have hb : 1 ≤ e ∧ e ≤ 1073741824 := by simp [epOK, QA.inB] at h; omega
    have hm := Int.tmod_nonneg 16 (show 0 ≤ e by omega)
    have hm2 := Int.tmod_lt_of_pos e (show 0 < 16 by omega)
    have hw : IntKind.i64.wrap (e.tmod 16) = e.tmod 16 := IntWalk.i64_in _ (by omega)
    simp only [h1, hw, if_true, j17, b17, q17, qq, ww, List.replicate, simprocAttr, if_true, if_false]
    try rfl
def rtd (self : Int) (x : Tp) : Bool := decide (x.r = 0) || (epOK x.r && (decide (x.r.tmod 16 = self) && (decide (x.r ≤ x.t) && (decide (x.p = 0) && decide (x.s.e = x.r)))))
theorem e107 (N d : Nat) (self : Int) (x : Tp) : TT N (d + 5) 107 [iV self, aX x] = some (bV (rtd self x), []) := by
  have h1 := fun d => e17 N d x.r
  rw [t107, F_ev rfl]
  unfold rtd
  by_cases g : x.r = 0
  · simp only [h1, decide_eq_true g, Bool.true_or, j107, b107, q107, qq, ww, List.replicate, simprocAttr, if_true, if_false]
  cases h : epOK x.r with
  | false =>
    rw [h] at h1
    simp only [h1, decide_eq_false g, Bool.false_or, Bool.false_and, j107, b107, q107, qq, ww, List.replicate, simprocAttr, if_true, if_false]
    try rfl
  | true =>
    rw [h] at h1
    simp only [h1, decide_eq_false g, Bool.false_or, Bool.true_and, if_true, j107, b107, q107, qq, ww, List.replicate, simprocAttr, if_true, if_false]
    by_cases g1 : x.r.tmod 16 = self
    · by_cases g2 : x.r ≤ x.t
      · by_cases g3 : x.p = 0
        · simp only [decide_eq_true g1, decide_eq_true g2, decide_eq_true g3, Bool.true_and, j107, b107, q107, qq, ww, List.replicate, simprocAttr, if_true, if_false]
        · simp only [decide_eq_true g1, decide_eq_true g2, decide_eq_false g3, Bool.true_and, Bool.false_and, j107, b107, q107, qq, ww, List.replicate, simprocAttr, if_true, if_false]
      · simp only [decide_eq_true g1, decide_eq_false g2, Bool.true_and, Bool.false_and, j107, b107, q107, qq, ww, List.replicate, simprocAttr, if_true, if_false]
    · simp only [decide_eq_false g1, Bool.false_and, j107, b107, q107, qq, ww, List.replicate, simprocAttr, if_true, if_false]
def plc (x : Tp) : Bool := match x.pa with
  | [] => decide (x.p = 0)
  | y :: _ => decide (x.p = IntKind.i64.wrap (y + 1))
theorem e108 (N d : Nat) (x : Tp) : TT N (d + 1) 108 [aX x] = some (bV (plc x), []) := by
  rw [t108, F_ev rfl]
  unfold plc
  cases h : x.pa with
  | nil => simp only [h, List.map_nil, List.length_nil, j108, b108, q108, qq, ww, List.replicate, simprocAttr, if_true, if_false]; try rfl
  | cons y r =>
    have h1 : decide (((r.length + 1 : Nat) : Int) = 0) = false := by simp; omega
    have h2 : (0 : Int) ≤ 0 ∧ (0 : Int) < ((r.length + 1 : Nat) : Int) := by omega
    simp only [h, h1, h2.1, h2.2, List.map_cons, List.length_cons, List.length_map, j108, b108, q108, qq, ww, List.replicate, simprocAttr, if_true, if_false]
    try rfl
def rgtB (c : Cf) (t self : Int) (x : Tp) : Bool := decide (0 ≤ x.t) && (decide (x.t ≤ 1073741824) && (decide (0 ≤ x.g) && (decide (x.g ≤ 1000) && (lnk t self x.p && (lnk t self x.a && (lnk t self x.o && (rtd self x && (plc x && (decide (pthC t self x.pa c.d = 0) && (kOK t self c.k x.ks && decide (flowC c x.s x.q = 0)))))))))))
theorem e55 (N d : Nat) (hN : 1000 ≤ N) (c : Cf) (t self : Int) (x : Tp) (hx : smX x) : TT N (d + 12) 55 [.agg (eC c), iV t, iV self, aX x] = some (bV (rgtB c t self x), []) := by
  have k1 := fun d n => e106 N d t self n
  have k2 := fun d => e107 N d self x
  have k3 := fun d => e108 N d x
  have k4 := fun d => e31 N d t self x.pa c.d (by omega) (by omega)
  have k5 := fun d => KA.e48 N d t self c.k x.ks (by omega) (by omega)
  have k6 := fun d => FA.e109 N d hN c x.s x.q hx.2.2.1 hx.2.2.2
  rw [t55, F_ev rfl]
  unfold rgtB
  by_cases g1 : x.t < 0
  · simp only [decide_eq_true g1, decide_eq_false (show ¬ 0 ≤ x.t by omega), Bool.false_and, j55, b55, q55, qq, ww, List.replicate, simprocAttr, if_true, if_false]
  by_cases g2 : x.t > 1073741824
  · simp only [decide_eq_false g1, decide_eq_true g2, decide_eq_true (show 0 ≤ x.t by omega), decide_eq_false (show ¬ x.t ≤ 1073741824 by omega), Bool.false_and, Bool.true_and, j55, b55, q55, qq, ww, List.replicate, simprocAttr, if_true, if_false]
  by_cases g3 : x.g < 0
  · simp only [decide_eq_false g1, decide_eq_false g2, decide_eq_true g3, decide_eq_false (show ¬ 0 ≤ x.g by omega), Bool.false_and, Bool.and_false, j55, b55, q55, qq, ww, List.replicate, simprocAttr, if_true, if_false]
  by_cases g4 : x.g > 1000
  · simp only [decide_eq_false g1, decide_eq_false g2, decide_eq_false g3, decide_eq_true g4, decide_eq_false (show ¬ x.g ≤ 1000 by omega), Bool.false_and, Bool.and_false, j55, b55, q55, qq, ww, List.replicate, simprocAttr, if_true, if_false]
  simp only [decide_eq_true (show 0 ≤ x.t by omega), decide_eq_true (show x.t ≤ 1073741824 by omega), decide_eq_true (show 0 ≤ x.g by omega), decide_eq_true (show x.g ≤ 1000 by omega), Bool.true_and]
  cases g5 : lnk t self x.p with
  | false => simp only [decide_eq_false g1, decide_eq_false g2, decide_eq_false g3, decide_eq_false g4, k1, g5, Bool.false_and, j55, b55, q55, qq, ww, List.replicate, simprocAttr, if_true, if_false]
  | true =>
  cases g6 : lnk t self x.a with
  | false => simp only [decide_eq_false g1, decide_eq_false g2, decide_eq_false g3, decide_eq_false g4, k1, g5, g6, Bool.false_and, Bool.true_and, j55, b55, q55, qq, ww, List.replicate, simprocAttr, if_true, if_false]
  | true =>
  cases g7 : lnk t self x.o with
  | false => simp only [decide_eq_false g1, decide_eq_false g2, decide_eq_false g3, decide_eq_false g4, k1, g5, g6, g7, Bool.false_and, Bool.true_and, j55, b55, q55, qq, ww, List.replicate, simprocAttr, if_true, if_false]
  | true =>
  cases g8 : rtd self x with
  | false => simp only [decide_eq_false g1, decide_eq_false g2, decide_eq_false g3, decide_eq_false g4, k1, k2, g5, g6, g7, g8, Bool.false_and, Bool.true_and, j55, b55, q55, qq, ww, List.replicate, simprocAttr, if_true, if_false]
  | true =>
  cases g9 : plc x with
  | false => simp only [decide_eq_false g1, decide_eq_false g2, decide_eq_false g3, decide_eq_false g4, k1, k2, k3, g5, g6, g7, g8, g9, Bool.false_and, Bool.true_and, j55, b55, q55, qq, ww, List.replicate, simprocAttr, if_true, if_false]
  | true =>
  by_cases g10 : pthC t self x.pa c.d = 0
  · cases g11 : kOK t self c.k x.ks with
    | false =>
      rw [g11] at k5
      simp only [decide_eq_false g1, decide_eq_false g2, decide_eq_false g3, decide_eq_false g4, k1, k2, k3, k4, k5, g5, g6, g7, g8, g9, decide_eq_true g10, Bool.false_and, Bool.true_and, j55, b55, q55, qq, ww, List.replicate, simprocAttr, if_true, if_false]
      try rfl
    | true =>
      rw [g11] at k5
      simp only [decide_eq_false g1, decide_eq_false g2, decide_eq_false g3, decide_eq_false g4, k1, k2, k3, k4, k5, k6, g5, g6, g7, g8, g9, decide_eq_true g10, if_true, Bool.false_and, Bool.true_and, j55, b55, q55, qq, ww, List.replicate, simprocAttr, if_true, if_false]
      try rfl
  · simp only [decide_eq_false g1, decide_eq_false g2, decide_eq_false g3, decide_eq_false g4, k1, k2, k3, k4, g5, g6, g7, g8, g9, decide_eq_false g10, Bool.false_and, Bool.true_and, j55, b55, q55, qq, ww, List.replicate, simprocAttr, if_true, if_false]
def grC (c : Cf) (t self : Int) (x : Tp) : Int := if okC c then (if decide (0 ≤ t) && (decide (t < c.t) && (decide (0 ≤ self) && (decide (self < c.n) && rgtB c t self x))) then 0 else 1) else 13
theorem e18 (N d : Nat) (hN : 1000 ≤ N) (c : Cf) (t self : Int) (x : Tp) (hx : smX x) : TT N (d + 13) 18 [.agg (eC c), iV t, iV self, aX x] = some (iV (grC c t self x), []) := by
  have k1 := fun d => EC.e54 N d c (by omega)
  have k2 := fun d => e55 N d hN c t self x hx
  rw [t18, F_ev rfl]
  unfold grC
  cases g0 : okC c with
  | false =>
    rw [g0] at k1
    simp only [k1, j18, b18, q18, qq, ww, List.replicate, simprocAttr, if_true, if_false]
    try rfl
  | true =>
  rw [g0] at k1
  by_cases g1 : t < 0
  · simp only [k1, if_true, decide_eq_true g1, decide_eq_false (show ¬ 0 ≤ t by omega), Bool.false_and, j18, b18, q18, qq, ww, List.replicate, simprocAttr, if_true, if_false]
    try rfl
  by_cases g2 : t ≥ c.t
  · simp only [k1, if_true, decide_eq_false g1, decide_eq_true g2, decide_eq_false (show ¬ t < c.t by omega), Bool.false_and, Bool.and_false, j18, b18, q18, qq, ww, List.replicate, simprocAttr, if_true, if_false]
    try rfl
  by_cases g3 : self < 0
  · simp only [k1, if_true, decide_eq_false g1, decide_eq_false g2, decide_eq_true g3, decide_eq_false (show ¬ 0 ≤ self by omega), Bool.false_and, Bool.and_false, j18, b18, q18, qq, ww, List.replicate, simprocAttr, if_true, if_false]
    try rfl
  by_cases g4 : self ≥ c.n
  · simp only [k1, if_true, decide_eq_false g1, decide_eq_false g2, decide_eq_false g3, decide_eq_true g4, decide_eq_false (show ¬ self < c.n by omega), Bool.false_and, Bool.and_false, j18, b18, q18, qq, ww, List.replicate, simprocAttr, if_true, if_false]
    try rfl
  cases g5 : rgtB c t self x with
  | false =>
    simp only [k1, k2, if_true, decide_eq_false g1, decide_eq_false g2, decide_eq_false g3, decide_eq_false g4, g5, Bool.and_false, j18, b18, q18, qq, ww, List.replicate, simprocAttr, if_true, if_false]
    try rfl
  | true =>
    simp only [k1, k2, if_true, decide_eq_false g1, decide_eq_false g2, decide_eq_false g3, decide_eq_false g4, g5, decide_eq_true (show 0 ≤ t by omega), decide_eq_true (show t < c.t by omega), decide_eq_true (show 0 ≤ self by omega), decide_eq_true (show self < c.n by omega), Bool.and_self, j18, b18, q18, qq, ww, List.replicate, simprocAttr, if_true, if_false]
theorem all1' (l : List Int) : (l.map eI).all (fun x => x.length == 1) = true := by simp
theorem e80 (N d : Nat) (l : List Int) (hl : l.length < 1000000) : TT N (d + 1) 80 [.one (rI l)] = some (.one (.sl 0 0 l.length), [(0, .rows 3 1 (l.map eI))]) := by
  rw [t80]
  unfold cloneM
  simp only [List.length_map]
  rw [if_pos ⟨all1' l, by omega⟩]
theorem takeI (l : List Int) : (l.map eI).take l.length = l.map eI := by rw [List.take_of_length_le (by simp)]
theorem takeE (l : List Ev) : (l.map eE).take l.length = l.map eE := by rw [List.take_of_length_le (by simp)]
theorem e50 (N d : Nat) (x : Tp) (hx : smX x) : TT N (d + 3) 50 [aX x] = some (aX x, []) := by
  have h1 := fun d => e80 N d x.pa (by omega)
  have h2 := fun d => KA.e101 N d x.ks (by omega)
  have h3 := fun d => QA.e102 N d x.q (by omega)
  have h4 := fun d => FA.e103 N d x.s hx.2.2.1
  rw [t50, F_ev rfl]
  simp only [h1, h2, h3, h4, takeI, takeK, takeE, List.length_map, j50, b50, q50, qq, ww, List.replicate, simprocAttr, if_true, if_false]
end Go.Proofs.YtdflglehippoiaaGreatDoor.GA
namespace Go.Proofs.YtdflglehippoiaaGreatDoor.GA
open Go Go.Proofs.YtdflglehippoiaaGreatDoorR IG
open QA (Ev eE aE rE epOK evOK qOK putE n01)
open AA (It eT aT rT wi takeT allT)
open EC (Cf eC okC)
open FA (Sm eS aS s0 smL flowC rightB heavyB heavy_t)
open KA (Kd eK aK rK nr okT okN kOK inB gap takeK all3)
set_option maxRecDepth 100000
set_option maxHeartbeats 4000000
def nxE (n top : Int) : Int :=
  let e := top - top.tmod 16 + n
  let f := if e ≤ top then e + 16 else e
  if f > 1073741824 then 0 else f
theorem nx_b {n top : Int} (hn : okN n = true) (ht : 0 ≤ top ∧ top ≤ 1073741824) : nxE n top = 0 ∨ (top < nxE n top ∧ nxE n top ≤ 1073741824) := by
  unfold nxE
  dsimp only
  have := KA.inB_t hn
  have hm := Int.tmod_nonneg 16 ht.1
  have hm2 := Int.tmod_lt_of_pos top (show 0 < 16 by omega)
  split <;> split <;> omega
theorem e51 (N d : Nat) (n top : Int) (hn : okN n = true) (ht : 0 ≤ top ∧ top ≤ 1073741824) : TT N (d + 3) 51 [iV n, iV top] = some (.tup [iV (nxE n top), iV (if nxE n top = 0 then 11 else 0)], []) := by
  have h1 := fun d => KA.e85 N d n
  rw [hn] at h1
  have hb := KA.inB_t hn
  have hm := Int.tmod_nonneg 16 ht.1
  have hm2 := Int.tmod_lt_of_pos top (show 0 < 16 by omega)
  have w1 : IntKind.i64.wrap (top.tmod 16) = top.tmod 16 := IntWalk.i64_in _ (by omega)
  have w2 : IntKind.i64.wrap (top - top.tmod 16) = top - top.tmod 16 := IntWalk.i64_in _ (by omega)
  obtain ⟨e, he⟩ : ∃ e, e = top - top.tmod 16 + n := ⟨_, rfl⟩
  have w3 : IntKind.i64.wrap (top - top.tmod 16 + n) = e := by rw [he]; exact IntWalk.i64_in _ (by omega)
  have w4 : IntKind.i64.wrap (e + 16) = e + 16 := IntWalk.i64_in _ (by omega)
  have g1 : decide (top < 0) = false := by simp; omega
  have g2 : decide (top > 1073741824) = false := by simp; omega
  have key : nxE n top = if (if e ≤ top then e + 16 else e) > 1073741824 then 0 else (if e ≤ top then e + 16 else e) := by rw [he]; rfl
  rw [t51, F_ev rfl]
  by_cases g3 : e ≤ top
  · rw [if_pos g3] at key
    by_cases g4 : e + 16 > 1073741824
    · rw [if_pos g4] at key
      simp only [h1, w1, w2, w3, w4, g1, g2, decide_eq_true g3, decide_eq_true g4, key, if_true, j51, b51, q51, qq, ww, List.replicate, simprocAttr, if_true, if_false]
      try rfl
    · rw [if_neg g4] at key
      have g5 : ¬ e + 16 = 0 := by omega
      simp only [h1, w1, w2, w3, w4, g1, g2, decide_eq_true g3, decide_eq_false g4, key, if_neg g5, j51, b51, q51, qq, ww, List.replicate, simprocAttr, if_true, if_false]
      try rfl
  · rw [if_neg g3] at key
    by_cases g4 : e > 1073741824
    · rw [if_pos g4] at key
      simp only [h1, w1, w2, w3, w4, g1, g2, decide_eq_false g3, decide_eq_true g4, key, if_true, j51, b51, q51, qq, ww, List.replicate, simprocAttr, if_true, if_false]
      try rfl
    · rw [if_neg g4] at key
      have g5 : ¬ e = 0 := by omega
      simp only [h1, w1, w2, w3, w4, g1, g2, decide_eq_false g3, decide_eq_false g4, key, if_neg g5, j51, b51, q51, qq, ww, List.replicate, simprocAttr, if_true, if_false]
      try rfl
def bcG (self : Int) (x : Tp) : Tp × Int :=
  if x.r ≠ 0 ∧ x.t = x.r then (x, 0)
  else if nxE self x.t = 0 then (x0, 11)
  else (⟨x.m, x.b, nxE self x.t, nxE self x.t, 0, 0, 0, 0, [], x.ks, ⟨nxE self x.t, 1, 1, [], []⟩, x.q⟩, 0)
def bcP (c : Cf) (t self : Int) (x : Tp) : Tp × Int := if grC c t self x = 0 then bcG self x else (x0, grC c t self x)
theorem gr_t {c : Cf} {t self : Int} {x : Tp} (h : grC c t self x = 0) : okC c = true ∧ 0 ≤ t ∧ t < c.t ∧ 0 ≤ self ∧ self < c.n ∧ rgtB c t self x = true ∧ okN self = true ∧ okT t = true ∧ 0 ≤ x.t ∧ x.t ≤ 1073741824 ∧ flowC c x.s x.q = 0 := by
  unfold grC at h
  by_cases h0 : okC c = true
  · rw [if_pos h0] at h
    split at h
    · rename_i h1
      simp only [Bool.and_eq_true, decide_eq_true_eq] at h1
      have hc := FA.okC_t h0
      have h2 := h1.2.2.2.2
      unfold rgtB at h2
      simp only [Bool.and_eq_true, decide_eq_true_eq] at h2
      exact ⟨h0, h1.1, h1.2.1, h1.2.2.1, h1.2.2.2.1, h1.2.2.2.2, by simp [okN, inB]; omega, by simp [okT, inB]; omega, h2.1, h2.2.1, h2.2.2.2.2.2.2.2.2.2.2.2⟩
    · omega
  · rw [if_neg h0] at h; omega
theorem e15 (N d : Nat) (hN : 1000 ≤ N) (c : Cf) (t self : Int) (x : Tp) (hx : smX x) : TT N (d + 14) 15 [.agg (eC c), iV t, iV self, aX x] = some (.tup [aX (bcP c t self x).1, iV (bcP c t self x).2], []) := by
  have h1 := fun d => e18 N d hN c t self x hx
  have h2 := fun d => e50 N d x hx
  have h3 := fun d a b => FA.e52 N d a b
  rw [t15, F_ev rfl]
  unfold bcP
  by_cases g0 : grC c t self x = 0
  · rw [if_pos g0]
    obtain ⟨k1, k2, k3, k4, k5, k6, k7, k8, k9, k10, k11⟩ := gr_t g0
    have h4 := fun d => e51 N d self x.t k7 ⟨k9, k10⟩
    rw [g0] at h1
    unfold bcG
    by_cases g1 : x.r = 0
    · rw [if_neg (by simp [g1])]
      have g1' : decide (x.r = 0) = true := decide_eq_true g1
      by_cases g3 : nxE self x.t = 0
      · rw [if_pos g3] at h4 ⊢
        rw [g3] at h4
        simp only [h1, h2, h3, h4, g1', j15, b15, q15, qq, ww, List.replicate, simprocAttr, if_true, if_false]
        try rfl
      · rw [if_neg g3] at h4 ⊢
        simp only [h1, h2, h3, h4, g1', j15, b15, q15, qq, ww, List.replicate, simprocAttr, if_true, if_false]
        try rfl
    · have g1' : decide (x.r = 0) = false := decide_eq_false g1
      by_cases g2 : x.t = x.r
      · rw [if_pos ⟨g1, g2⟩]
        have g2' : decide (x.t = x.r) = true := decide_eq_true g2
        simp only [h1, h2, g1', g2', j15, b15, q15, qq, ww, List.replicate, simprocAttr, if_true, if_false]
      · rw [if_neg (fun h => g2 h.2)]
        have g2' : decide (x.t = x.r) = false := decide_eq_false g2
        by_cases g3 : nxE self x.t = 0
        · rw [if_pos g3] at h4 ⊢
          rw [g3] at h4
          simp only [h1, h2, h3, h4, g1', g2', j15, b15, q15, qq, ww, List.replicate, simprocAttr, if_true, if_false]
          try rfl
        · rw [if_neg g3] at h4 ⊢
          simp only [h1, h2, h3, h4, g1', g2', j15, b15, q15, qq, ww, List.replicate, simprocAttr, if_true, if_false]
          try rfl
  · rw [if_neg g0]
    have g0' : decide (grC c t self x = 0) = false := decide_eq_false g0
    simp only [h1, g0', j15, b15, q15, qq, ww, List.replicate, simprocAttr, if_true, if_false]
    try rfl
end Go.Proofs.YtdflglehippoiaaGreatDoor.GA
namespace Go.Proofs.YtdflglehippoiaaGreatDoor.GA
open Go Go.Proofs.YtdflglehippoiaaGreatDoorR IG
open QA (Ev eE aE rE epOK evOK qOK putE n01)
open AA (It eT aT rT wi takeT allT take_s)
open EC (Cf eC okC)
open FA (Sm eS aS s0 smL flowC rightB heavyB heavy_t)
open KA (Kd eK aK rK nr okT okN kOK inB gap takeK all3)
set_option maxRecDepth 100000
set_option maxHeartbeats 4000000
structure Dm where
  (n t e s v : Int)
abbrev eD (y : Dm) : List V := [.int .i64 7, .int .i64 0, .int .i64 0, .int .i64 y.n, .int .i64 0, .int .i64 y.t, .int .i64 y.e, .int .i64 y.s, .int .i64 0, .int .i64 y.v, .int .i64 0, .int .i64 0, .int .i64 0, .int .i64 0, .row [], .row []]
abbrev rD (l : List Dm) : V := .row (l.map eD)
def dmK (t e : Int) (x : It) (k : Kd) : Dm := ⟨k.n, t, e, x.s, x.v⟩
def dsL (t e : Int) (ks : List Kd) (on : List It) : List Dm := on.flatMap fun x => ks.map (dmK t e x)
theorem dsL_s {t e : Int} {ks : List Kd} {on : List It} {i : Nat} (h : i < on.length) : dsL t e ks (on.take (i + 1)) = dsL t e ks (on.take i) ++ ks.map (dmK t e on[i]) := by
  unfold dsL
  rw [take_s h, List.flatMap_append]
  simp only [List.flatMap_cons, List.flatMap_nil, List.append_nil]
theorem dsL_len {t e : Int} {ks : List Kd} : ∀ {on : List It}, (dsL t e ks on).length = on.length * ks.length
  | [] => by simp [dsL]
  | x :: r => by
    have := dsL_len (t := t) (e := e) (ks := ks) (on := r)
    simp only [dsL, List.flatMap_cons, List.length_append, List.length_map, List.length_cons] at this ⊢
    rw [this, Nat.succ_mul]
    omega
theorem dsL_le {t e : Int} {ks : List Kd} {on : List It} (h1 : ks.length < 900) (h2 : on.length < 900) : (dsL t e ks on).length < 900000 := by
  rw [dsL_len]
  have := Nat.mul_le_mul (show on.length ≤ 900 by omega) (show ks.length ≤ 900 by omega)
  omega
theorem takeD (l : List Dm) : (l.map eD).take l.length = l.map eD := by rw [List.take_of_length_le (by simp)]
theorem all16 (l : List Dm) : (l.map eD).all (fun x => x.length == 16) = true := by simp
theorem e58 (N d : Nat) (hN : 1000 ≤ N) (t : Int) (x : Tp) (on : List It) (hx : x.ks.length < 900) (ho : on.length < 900) : ans (TT N (d + 1) 58 [iV t, aX x, .one (rT on)]) = some (.one (rD (dsL t x.s.e x.ks on))) := by
  rw [t58, F_ev rfl]
  simp only [List.length_map, j58, b58, q58, qq, ww, List.replicate, simprocAttr, if_true, if_false]
  refine (loopK (K := fun o => ans (fin _ (aft _ _ _ o))) (fun i => ⟨[(0, iV t), (4, .one (.ref 256 0 0)), (7, .one (.sl 448 0 (dsL t x.s.e x.ks (on.take i)).length)), (12, .one (rT on)), (13, iV on.length), (14, iV i)], [(256, .box (eX x)), (448, .rows 49 16 ((dsL t x.s.e x.ks (on.take i)).map eD))]⟩) (fun _ => some (.one (rD (dsL t x.s.e x.ks on)))) on.length ?hr on.length 0 N _ (by omega) (by omega) ?hk)
  case hk => simp only [kk, simprocAttr, if_true, if_false]; try rfl
  case hr =>
    intro i m hi ih
    (try dsimp only)
    by_cases hlt : i < on.length
    · have h1 : decide ((i : Int) < (on.length : Int)) = true := by simp; omega
      have hg1 : (on.map eT)[i]? = some (eT on[i]) := by simp [hlt]
      have hb : 0 ≤ (i : Int) ∧ (i : Int) < (on.length : Int) := by omega
      have hs := dsL_s (t := t) (e := x.s.e) (ks := x.ks) hlt
      have hA : (dsL t x.s.e x.ks (on.take i)).length < 900000 := dsL_le hx (by rw [List.length_take]; omega)
      rw [hs] at ih
      generalize dsL t x.s.e x.ks (on.take i) = A at *
      simp only [h1, hb.1, hb.2, hg1, List.length_map, Int.toNat_natCast, j58, b58, q58, qq, ww, List.replicate, simprocAttr, if_true, if_false]
      refine loopK (K := fun o => ans (fin _ (aft _ _ _ (goL _ _ _ _ (aft _ _ _ o))))) (fun j => ⟨[(0, iV t), (4, .one (.ref 256 0 0)), (7, .one (.sl 448 0 (A ++ (x.ks.take j).map (dmK t x.s.e on[i])).length)), (9, .one (.ref 576 0 0)), (12, .one (rT on)), (13, iV on.length), (14, iV i), (19, .one (rK x.ks)), (20, iV x.ks.length), (21, iV j)], [(256, .box (eX x)), (448, .rows 49 16 ((A ++ (x.ks.take j).map (dmK t x.s.e on[i])).map eD)), (576, .box (eT on[i]))]⟩) (fun _ => some (.one (rD (dsL t x.s.e x.ks on)))) x.ks.length ?hr2 x.ks.length 0 N _ (by omega) (by omega) ?hk2
      case hk2 => simp only [kk, simprocAttr, if_true, if_false]; try (simp only [List.take_zero, List.map_nil, List.append_nil]; try rfl)
      case hr2 =>
        intro j m2 hj ih2
        (try dsimp only)
        by_cases hjl : j < x.ks.length
        · have y1 : decide ((j : Int) < (x.ks.length : Int)) = true := by simp; omega
          have y2 : (x.ks.map eK)[j]? = some (eK x.ks[j]) := by simp [hjl]
          have y3 : 0 ≤ (j : Int) ∧ (j : Int) < (x.ks.length : Int) := by omega
          have y4 : (x.ks.take (j + 1)).map (dmK t x.s.e on[i]) = (x.ks.take j).map (dmK t x.s.e on[i]) ++ [dmK t x.s.e on[i] x.ks[j]] := by rw [List.take_succ_eq_append_getElem hjl, List.map_append]; rfl
          rw [y4, ← List.append_assoc] at ih2
          have y5 : (A ++ (x.ks.take j).map (dmK t x.s.e on[i])).length < 910000 := by rw [List.length_append, List.length_map, List.length_take]; omega
          generalize A ++ (x.ks.take j).map (dmK t x.s.e on[i]) = B at *
          have y6 : (B.length + 1) * 160 ≤ 140737488355328 := by omega
          simp only [y1, y3.1, y3.2, y2, y6, takeD, all16, wi j (by omega), List.length_map, Int.toNat_natCast, j58, b58, q58, qq, ww, List.replicate, simprocAttr, if_true, if_false]
          exact ih2 hjl _ (by simp only [kk, simprocAttr, if_true, if_false, List.map_append, List.map_cons, List.map_nil, List.length_append, List.length_cons, List.length_nil]; try rfl)
        · obtain rfl : j = x.ks.length := by omega
          clear ih2
          have y1 : decide ((x.ks.length : Int) < (x.ks.length : Int)) = false := by simp
          rw [List.take_length]
          simp only [y1, wi i (by omega), List.length_map, j58, b58, q58, qq, ww, List.replicate, simprocAttr, if_true, if_false]
          exact ih hlt _ (by simp only [kk, simprocAttr, if_true, if_false, List.map_append, List.length_append, List.length_map])
    · have h1 : decide ((i : Int) < (on.length : Int)) = false := by simp; omega
      rw [List.take_of_length_le (by omega)] at *
      simp only [h1, takeD, List.length_map, j58, b58, q58, qq, ww, List.replicate, simprocAttr, if_true, if_false]
end Go.Proofs.YtdflglehippoiaaGreatDoor.GA
namespace Go.Proofs.YtdflglehippoiaaGreatDoor.FA
open Go Go.Proofs.YtdflglehippoiaaGreatDoorR IG
open QA (Ev eE aE rE inB epOK evOK qOK putE n01 gapE lastK)
open AA (It eT aT rT ahOK addA addR leftL wi wm takeT allT take_s hR pre cP risB fitsB left_s ins)
open EC (Cf eC okC)
set_option maxRecDepth 100000
theorem ris_up {w w' win : Int} (hw : w ≤ w') : ∀ {l : List It} {p : Option Int}, risB w win p l = true → (∀ y ∈ l, w' < y.s) → risB w' win p l = true
  | [], p, _, _ => by cases p <;> rfl
  | x :: r, p, h, hy => by
    have hx := hy x (by simp)
    have h2 : fitsB x.s w win = true ∧ risB w win (some x.s) r = true := by
      cases p <;> simp only [risB, Bool.and_eq_true] at h
      · exact ⟨h.1.1.1, h.2⟩
      · exact ⟨h.1.1.1, h.2⟩
    have h3 := ris_up hw h2.2 (fun y hy' => hy y (by simp [hy']))
    have h4 : fitsB x.s w' win = true := by
      have := h2.1
      simp only [fitsB, Bool.and_eq_true, decide_eq_true_eq] at this ⊢
      omega
    cases p <;> simp only [risB, Bool.and_eq_true] at h ⊢
    · exact ⟨⟨⟨h4, h.1.1.2⟩, h.1.2⟩, h3⟩
    · exact ⟨⟨⟨h4, h.1.1.2⟩, h.1.2⟩, h3⟩
theorem ris_p {w win p : Int} {x : It} {r : List It} (h : risB w win (some p) (x :: r) = true) : p < x.s ∧ x.s < 1073741824 ∧ inB x.v 0 2147483647 = true ∧ risB w win (some x.s) r = true := by
  simp only [risB, fitsB, Bool.and_eq_true, decide_eq_true_eq] at h
  exact ⟨h.1.2, h.1.1.1.2, h.1.1.2, h.2⟩
theorem ris_gt {w win : Int} : ∀ {l : List It} {p : Int}, risB w win (some p) l = true → ∀ y ∈ l, p < y.s
  | [], _, _, y, hy => by cases hy
  | x :: r, p, h, y, hy => by
    obtain ⟨h1, _, _, h2⟩ := ris_p h
    rcases List.mem_cons.1 hy with rfl | hy
    · exact h1
    · have := ris_gt h2 y hy; omega
theorem ris_weak {w win : Int} {l : List It} {p : Int} (h : risB w win (some p) l = true) : risB w win none l = true := by
  cases l with
  | nil => rfl
  | cons x r =>
    simp only [risB, Bool.and_eq_true] at h ⊢
    exact ⟨⟨h.1.1, trivial⟩, h.2⟩
theorem takeR_right {c : Cf} {sub : Bool} {W win : Int} : ∀ {ah : List It} {s : Sm} {q : List Ev} {on : List It} {x : It}, x.s = s.w → 1 ≤ s.w ∧ s.w ≤ 1073741823 → kpOK s.kp s.w c.p = true → inB x.v 0 2147483647 = true → s.kn ≤ 1073741824 → risB W win (some s.w) ah = true → W ≤ s.w →
    (takeR c sub ah s q on x).1.e = s.e ∧ s.w + 1 ≤ (takeR c sub ah s q on x).1.w ∧ (takeR c sub ah s q on x).1.w ≤ 1073741824 ∧ (takeR c sub ah s q on x).1.w ≤ (takeR c sub ah s q on x).1.kn ∧ (takeR c sub ah s q on x).1.kn ≤ 1073741824 ∧ s.kn ≤ (takeR c sub ah s q on x).1.kn ∧
      kpOK (takeR c sub ah s q on x).1.kp (takeR c sub ah s q on x).1.w c.p = true ∧ risB (takeR c sub ah s q on x).1.w win none (takeR c sub ah s q on x).1.ah = true ∧ (∀ y ∈ (takeR c sub ah s q on x).1.ah, y ∈ ah)
  | [], s, q, on, x, hx, hw, hp, hv, hk, hr, hW => by
    have := push_ok hp hw.2 hv
    refine ⟨rfl, Int.le_refl _, by show s.w + 1 ≤ _; omega, ?_, ?_, ?_, this, rfl, fun y h => h⟩
    · show s.w + 1 ≤ if s.w + 1 > s.kn then s.w + 1 else s.kn
      split <;> omega
    · show (if s.w + 1 > s.kn then s.w + 1 else s.kn) ≤ _
      split <;> omega
    · show s.kn ≤ if s.w + 1 > s.kn then s.w + 1 else s.kn
      split <;> omega
  | y :: r, s, q, on, x, hx, hw, hp, hv, hk, hr, hW => by
    have hpo := push_ok hp hw.2 hv
    obtain ⟨r1, r2, r3, r4⟩ := ris_p hr
    have hkn : (if s.w + 1 > s.kn then s.w + 1 else s.kn) ≤ 1073741824 := by split <;> omega
    have hkn2 : s.kn ≤ (if s.w + 1 > s.kn then s.w + 1 else s.kn) := by split <;> omega
    have hkn3 : s.w + 1 ≤ (if s.w + 1 > s.kn then s.w + 1 else s.kn) := by split <;> omega
    rw [takeR]
    by_cases h : y.s = s.w + 1
    · rw [if_pos h]
      rw [h] at r4
      obtain ⟨a1, a2, a3, a4, a5, a6, a7, a8, a9⟩ := takeR_right (c := c) (sub := sub) (W := W) (win := win) (ah := r) (s := ⟨s.e, s.w + 1, if s.w + 1 > s.kn then s.w + 1 else s.kn, pushL s.kp s.w c.p x.v, r⟩) (q := rQ c s sub q x) (on := on ++ [x]) (x := y) h (by show 1 ≤ s.w + 1 ∧ s.w + 1 ≤ _; omega) hpo r3 hkn r4 (by show W ≤ s.w + 1; omega)
      exact ⟨a1, by have : s.w + 1 + 1 ≤ _ := a2; omega, a3, a4, a5, by have : (if s.w + 1 > s.kn then s.w + 1 else s.kn) ≤ _ := a6; omega, a7, a8, fun z hz => List.mem_cons_of_mem _ (a9 z hz)⟩
    · rw [if_neg h]
      refine ⟨rfl, Int.le_refl _, by show s.w + 1 ≤ _; omega, hkn3, hkn, hkn2, hpo, ?_, fun z h => h⟩
      refine ris_up (w := W) (by show W ≤ s.w + 1; omega) (ris_weak hr) (fun z hz => ?_)
      show s.w + 1 < z.s
      rcases List.mem_cons.1 hz with rfl | hz
      · omega
      · have := ris_gt r4 z hz; omega
theorem takeR_q {c : Cf} {sub : Bool} {W win : Int} : ∀ {ah : List It} {s : Sm} {q : List Ev} {on : List It} {x : It}, x.s = s.w → 1 ≤ s.w ∧ s.w ≤ 1073741823 → inB x.v 0 2147483647 = true → risB W win (some s.w) ah = true → epOK s.e = true → qOK q c.q = true →
    qOK (takeR c sub ah s q on x).2.1 c.q = true
  | [], s, q, on, x, hx, hw, hv, hr, he, hq => by
    show qOK (rQ c s sub q x) c.q = true
    unfold rQ
    split
    · exact q_fit hq (evOK_data he (by omega) hv)
    · exact hq
  | y :: r, s, q, on, x, hx, hw, hv, hr, he, hq => by
    obtain ⟨r1, r2, r3, r4⟩ := ris_p hr
    have hq2 : qOK (rQ c s sub q x) c.q = true := by
      unfold rQ
      split
      · exact q_fit hq (evOK_data he (by omega) hv)
      · exact hq
    rw [takeR]
    by_cases h : y.s = s.w + 1
    · rw [if_pos h]
      rw [h] at r4
      exact takeR_q h (by show 1 ≤ s.w + 1 ∧ s.w + 1 ≤ _; omega) r3 r4 he hq2
    · rw [if_neg h]
      exact hq2
theorem takeR_quiet {c : Cf} : ∀ {ah : List It} {s : Sm} {q : List Ev} {on : List It} {x : It}, (takeR c false ah s q on x).2.1 = q
  | [], s, q, on, x => rfl
  | y :: r, s, q, on, x => by
    rw [takeR]
    split
    · exact takeR_quiet
    · rfl
def seqP (P : Int → Int → Prop) : Int → List It → Int → Prop
  | a, [], b => a = b
  | a, x :: r, b => x.s = a ∧ P a x.v ∧ seqP P (a + 1) r b
theorem takeR_on {c : Cf} {sub : Bool} {P : Int → Int → Prop} : ∀ {ah : List It} {s : Sm} {q : List Ev} {on : List It} {x : It}, x.s = s.w → P x.s x.v → (∀ y ∈ ah, P y.s y.v) →
    ∃ L, (takeR c sub ah s q on x).2.2 = on ++ L ∧ seqP P s.w L (takeR c sub ah s q on x).1.w
  | [], s, q, on, x, hx, hp, ha => ⟨[x], rfl, hx, by rw [← hx]; exact hp, rfl⟩
  | y :: r, s, q, on, x, hx, hp, ha => by
    rw [takeR]
    by_cases h : y.s = s.w + 1
    · rw [if_pos h]
      obtain ⟨L, h1, h2⟩ := takeR_on (c := c) (sub := sub) (P := P) (ah := r) (s := ⟨s.e, s.w + 1, if s.w + 1 > s.kn then s.w + 1 else s.kn, pushL s.kp s.w c.p x.v, r⟩) (q := rQ c s sub q x) (on := on ++ [x]) (x := y) h (ha y (by simp)) (fun z hz => ha z (by simp [hz]))
      exact ⟨x :: L, by rw [h1]; simp, hx, by rw [← hx]; exact hp, h2⟩
    · rw [if_neg h]
      exact ⟨[x], rfl, hx, by rw [← hx]; exact hp, rfl⟩
def qch (e : Int) (P : Int → Int → Prop) : Int → List Ev → Int → Prop
  | a, [], b => a = b
  | a, x :: r, b => x.e = e ∧ x.s = a ∧ ((x.k = 1 ∧ P a x.v ∧ qch e P (a + 1) r b) ∨ (x.k = 2 ∧ a ≤ x.l ∧ qch e P (x.l + 1) r b))
theorem qch_app {e : Int} {P : Int → Int → Prop} : ∀ {l m : List Ev} {a b d : Int}, qch e P a l b → qch e P b m d → qch e P a (l ++ m) d
  | [], m, a, b, d, h, h2 => by
    simp only [qch] at h
    subst h
    exact h2
  | x :: r, m, a, b, d, h, h2 => by
    obtain ⟨h3, h4, h5⟩ := h
    refine ⟨h3, h4, ?_⟩
    rcases h5 with ⟨k1, k2, k3⟩ | ⟨k1, k2, k3⟩
    · exact .inl ⟨k1, k2, qch_app k3 h2⟩
    · exact .inr ⟨k1, k2, qch_app k3 h2⟩
theorem qch_last {e : Int} {P : Int → Int → Prop} {y : Ev} (hy : y.k = 2) : ∀ {m : List Ev} {a b : Int}, qch e P a (m ++ [y]) b → y.e = e ∧ y.l + 1 = b ∧ ∀ l', y.l ≤ l' → qch e P a (m ++ [{ y with l := l' }]) (l' + 1)
  | [], a, b, h => by
    obtain ⟨h3, h4, h5⟩ := h
    rcases h5 with ⟨k1, k2, k3⟩ | ⟨k1, k2, k3⟩
    · omega
    · simp only [qch] at k3
      exact ⟨h3, k3, fun l' hl => ⟨h3, h4, .inr ⟨k1, by show a ≤ l'; omega, rfl⟩⟩⟩
  | x :: r, a, b, h => by
    obtain ⟨h3, h4, h5⟩ := h
    rcases h5 with ⟨k1, k2, k3⟩ | ⟨k1, k2, k3⟩
    · obtain ⟨g1, g2, g3⟩ := qch_last hy k3
      exact ⟨g1, g2, fun l' hl => ⟨h3, h4, .inl ⟨k1, k2, g3 l' hl⟩⟩⟩
    · obtain ⟨g1, g2, g3⟩ := qch_last hy k3
      exact ⟨g1, g2, fun l' hl => ⟨h3, h4, .inr ⟨k1, k2, g3 l' hl⟩⟩⟩
theorem fit_ch {e : Int} {P : Int → Int → Prop} {q : List Ev} {n a b b' : Int} {x : Ev} (hq : qOK q n = true) (hx : evOK x = true) (hc : qch e P a q b) (hxe : x.e = e) (hxs : x.s = b) (hk : (x.k = 1 ∧ P b x.v ∧ b' = b + 1) ∨ (x.k = 2 ∧ b ≤ x.l ∧ b' = x.l + 1)) : qch e P a (fitE q n x) b' := by
  have hq0 := hq
  simp only [qOK, Bool.and_eq_true, Bool.or_eq_true, Bool.not_eq_true', decide_eq_true_eq, decide_eq_false_iff_not] at hq
  obtain ⟨⟨⟨⟨h1, h2⟩, h3⟩, h4⟩, h5⟩ := hq
  have hg : ∃ g, gapE x = some g ∧ g.k = 2 ∧ g.e = e ∧ g.s = b ∧ b ≤ g.l ∧ b' = g.l + 1 := by
    rcases hk with ⟨k1, k2, k3⟩ | ⟨k1, k2, k3⟩
    · exact ⟨⟨2, x.e, x.s, x.s, 0, 0⟩, by simp [gapE, k1], rfl, hxe, hxs, by show b ≤ x.s; omega, by show b' = x.s + 1; omega⟩
    · exact ⟨x, by simp [gapE, k1], k1, hxe, hxs, k2, k3⟩
  obtain ⟨g, hg, g1, g2, g3, g4, g5⟩ := hg
  unfold fitE
  by_cases c1 : (q.length : Int) < n - 1
  · rw [show putE q n x = (0, q ++ [x]) by simp only [putE, hq0, hx, Bool.and_self, if_true, if_pos c1]]
    refine qch_app hc ⟨hxe, hxs, ?_⟩
    rcases hk with ⟨k1, k2, k3⟩ | ⟨k1, k2, k3⟩
    · exact .inl ⟨k1, k2, k3.symm⟩
    · exact .inr ⟨k1, k2, k3.symm⟩
  by_cases c2 : (q.length : Int) < n
  · rw [show putE q n x = (0, q ++ [g]) by simp only [putE, hq0, hx, hg, Bool.and_self, if_true, if_neg c1, if_pos c2]]
    exact qch_app hc ⟨g2, g3, .inr ⟨g1, g4, g5.symm⟩⟩
  · have hlen : (q.length : Int) = n := by omega
    have hne : q ≠ [] := fun e => by subst e; simp at hlen; omega
    obtain ⟨m, y, rfl⟩ : ∃ m y, q = m ++ [y] := ⟨q.dropLast, q.getLast hne, (List.dropLast_concat_getLast hne).symm⟩
    have c1' : ¬ ((m.length : Int) + 1 < n - 1) := by simp at hlen; omega
    have c2' : ¬ ((m.length : Int) + 1 < n) := by simp at hlen; omega
    have hy : y.k = 2 := by
      rcases h5 with h | h
      · exact absurd hlen h
      · rwa [lastK_app] at h
    obtain ⟨k1, k2, k3⟩ := qch_last hy hc
    have c3 : g.e = y.e ∧ g.s = y.l + 1 := ⟨by rw [g2, k1], by omega⟩
    rw [show putE (m ++ [y]) n x = (0, (m ++ [y]).dropLast ++ [{ y with l := g.l }]) by simp [putE, hq0, hx, hg, c1', c2', c3]]
    simp only [List.dropLast_concat, if_true]
    rw [g5]
    exact k3 g.l (by omega)
theorem takeR_ch {c : Cf} {e : Int} {P : Int → Int → Prop} {W win a : Int} : ∀ {ah : List It} {s : Sm} {q : List Ev} {on : List It} {x : It}, x.s = s.w → 1 ≤ s.w ∧ s.w ≤ 1073741823 → inB x.v 0 2147483647 = true → risB W win (some s.w) ah = true → epOK e = true → s.e = e → qOK q c.q = true → P x.s x.v → (∀ y ∈ ah, P y.s y.v) → qch e P a q s.w →
    qch e P a (takeR c true ah s q on x).2.1 (takeR c true ah s q on x).1.w
  | [], s, q, on, x, hx, hw, hv, hr, he, hse, hq, hp, ha, hc => by
    subst hse
    exact fit_ch hq (evOK_data he (by omega) hv) hc rfl hx (.inl ⟨rfl, by rw [← hx]; exact hp, rfl⟩)
  | y :: r, s, q, on, x, hx, hw, hv, hr, he, hse, hq, hp, ha, hc => by
    obtain ⟨r1, r2, r3, r4⟩ := ris_p hr
    have hse' := hse
    subst hse
    have hc2 : qch s.e P a (rQ c s true q x) (s.w + 1) := fit_ch hq (evOK_data he (by omega) hv) hc rfl hx (.inl ⟨rfl, by rw [← hx]; exact hp, rfl⟩)
    have hq2 : qOK (rQ c s true q x) c.q = true := q_fit hq (evOK_data he (by omega) hv)
    rw [takeR]
    by_cases h : y.s = s.w + 1
    · rw [if_pos h]
      rw [h] at r4
      exact takeR_ch h (by show 1 ≤ s.w + 1 ∧ s.w + 1 ≤ _; omega) r3 r4 he rfl hq2 (ha y (by simp)) (fun z hz => ha z (by simp [hz])) hc2
    · rw [if_neg h]
      exact hc2
end Go.Proofs.YtdflglehippoiaaGreatDoor.FA
namespace Go.Proofs.YtdflglehippoiaaGreatDoor.FA
open Go Go.Proofs.YtdflglehippoiaaGreatDoorR IG
open QA (Ev eE aE rE inB epOK evOK qOK putE n01 gapE lastK)
open AA (It eT aT rT ahOK addA addR leftL wi wm takeT allT take_s hR pre cP risB fitsB left_s ins)
open EC (Cf eC okC)
set_option maxRecDepth 100000
theorem ins_ris {w win : Int} {x : It} (hf : fitsB x.s w win = true) (hv : inB x.v 0 2147483647 = true) : ∀ {l m : List It} {p : Option Int}, risB w win p l = true → (∀ q, p = some q → q < x.s) → ins x l = some m → risB w win p m = true ∧ ∀ y ∈ m, y = x ∨ y ∈ l
  | [], m, p, h, hp, hi => by
    cases hi
    refine ⟨?_, fun y hy => .inl (by simpa using hy)⟩
    cases p with
    | none => simp [risB, hf]; exact hv
    | some q => simp [risB, hf, hp q rfl]; exact hv
  | y :: r, m, p, h, hp, hi => by
    unfold ins at hi
    split at hi
    · split at hi
      · cases hi
      · rename_i h1 h2
        cases hi
        have hy : risB w win (some x.s) (y :: r) = true := by
          have h3 : decide (x.s < y.s) = true := by simp; omega
          cases p <;> simp only [risB, Bool.and_eq_true] at h ⊢
          · exact ⟨⟨h.1.1, h3⟩, h.2⟩
          · exact ⟨⟨h.1.1, h3⟩, h.2⟩
        refine ⟨?_, fun z hz => by simpa using hz⟩
        cases p with
        | none => simp only [risB, hf, Bool.and_eq_true]; exact ⟨⟨⟨trivial, hv⟩, trivial⟩, by simpa [risB] using hy⟩
        | some q =>
          have := hp q rfl
          simp only [risB, hf, Bool.and_eq_true, decide_eq_true_eq]; exact ⟨⟨⟨trivial, hv⟩, this⟩, by simpa [risB] using hy⟩
    · rename_i h1
      rw [Option.map_eq_some_iff] at hi
      obtain ⟨m', h2, rfl⟩ := hi
      have hr : risB w win (some y.s) r = true := by cases p <;> simp only [risB, Bool.and_eq_true] at h <;> exact h.2
      obtain ⟨g1, g2⟩ := ins_ris hf hv hr (fun q hq => by cases hq; omega) h2
      refine ⟨?_, fun z hz => ?_⟩
      · cases p <;> simp only [risB, Bool.and_eq_true] at h ⊢
        · exact ⟨h.1, g1⟩
        · exact ⟨h.1, g1⟩
      · rcases List.mem_cons.1 hz with rfl | hz
        · exact .inr (by simp)
        · rcases g2 z hz with h | h
          · exact .inl h
          · exact .inr (by simp [h])
theorem addA_ok {l : List It} {w win : Int} {x : It} (h : ahOK l w win = true) : (addA l w win x).2 = 0 → ahOK (addA l w win x).1 w win = true ∧ ∀ y ∈ (addA l w win x).1, y = x ∨ y ∈ l := by
  unfold addA
  split
  · intro h; cases h
  · rename_i h1
    split
    · intro h; cases h
    · rename_i h2
      have h1 : ahOK l w win = true ∧ AA.inB x.v 0 2147483647 = true := by simpa using h1
      have h2 : fitsB x.s w win = true := by simpa using h2
      split
      · intro h; cases h
      · rename_i m hm
        intro _
        simp only [ahOK, Bool.and_eq_true] at h ⊢
        obtain ⟨g1, g2⟩ := ins_ris h2 h1.2 h.2 (fun q hq => by cases hq) hm
        exact ⟨⟨h.1, g1⟩, g2⟩
theorem right_of {c : Cf} {s : Sm} (h1 : epOK s.e = true) (h2 : 1 ≤ s.w ∧ s.w ≤ 1073741824) (h3 : s.w ≤ s.kn) (h4 : s.kn ≤ 1073741824) (h5 : kpOK s.kp s.w c.p = true) (h6 : ahOK s.ah s.w c.w = true) : rightB c s = true := by
  have : inB s.w 1 1073741824 = true := by simp [inB]; omega
  simp [rightB, h1, this, h3, h4, h5, h6]
theorem right_kn {c : Cf} {s : Sm} (h : rightB c s = true) (he : epOK s.e = true) : s.w ≤ s.kn ∧ s.kn ≤ 1073741824 ∧ 1 ≤ s.w ∧ s.w ≤ 1073741824 := by
  have h1 := right_t h
  have h2 := right_e h he
  exact ⟨h1.2.2.2.2.1, h1.2.2.2.2.2.1, h2.2.2, h1.2.2.2.1⟩
theorem item_same {c : Cf} {s : Sm} {sub : Bool} {q : List Ev} {x : It} {P : Int → Int → Prop} (h0 : flowC c s q = 0) (he : epOK s.e = true) (hx : inB x.s 1 1073741823 = true) (hv : inB x.v 0 2147483647 = true) (hP : P x.s x.v) (hA : ∀ y ∈ s.ah, P y.s y.v) :
    flowC c (itemG c s sub q false x).1 (itemG c s sub q false x).2.1 = 0 ∧ (itemG c s sub q false x).1.e = s.e ∧ s.w ≤ (itemG c s sub q false x).1.w ∧ s.kn ≤ (itemG c s sub q false x).1.kn ∧ (x.s ≥ (itemG c s sub q false x).1.w → (itemG c s sub q false x).1.kn > (itemG c s sub q false x).1.w) ∧
      seqP P s.w (itemG c s sub q false x).2.2 (itemG c s sub q false x).1.w ∧ (∀ y ∈ (itemG c s sub q false x).1.ah, P y.s y.v) ∧ (sub = false → (itemG c s sub q false x).2.1 = q) ∧ (sub = true → ∀ a, qch s.e P a q s.w → qch s.e P a (itemG c s sub q false x).2.1 (itemG c s sub q false x).1.w) ∧
      (x.s > s.w → (itemG c s sub q false x).1.w = s.w ∧ (itemG c s sub q false x).2.2 = []) ∧ (x.s = s.w → s.w + 1 ≤ (itemG c s sub q false x).1.w) := by
  obtain ⟨k1, k2, k3⟩ := flow_t h0
  have k6 : 1 ≤ x.s ∧ x.s ≤ 1073741823 := by simpa [inB] using hx
  obtain ⟨r1, r2, r3⟩ := right_e k2 he
  obtain ⟨n1, n2, n3, n4⟩ := right_kn k2 he
  have hah := right_ah k2
  have hris : risB s.w c.w none s.ah = true := by simp only [ahOK, Bool.and_eq_true] at r2; exact r2.2
  have hwin : AA.inB c.w 1 16 = true := by simp only [ahOK, Bool.and_eq_true] at r2; exact r2.1.2
  unfold itemG
  by_cases g1 : x.s < s.w
  · rw [if_pos (by simp [g1])]
    exact ⟨h0, rfl, Int.le_refl _, Int.le_refl _, fun h => by have : x.s ≥ s.w := h; omega, rfl, hA, fun _ => rfl, fun _ a h => h, fun h => by omega, fun h => by omega⟩
  rw [if_neg (by simpa using g1)]
  by_cases g2 : x.s = s.w
  · rw [if_pos g2]
    rw [one_more r1 hv (by omega) (fun y hy => by have := hah y hy; exact ⟨this.2.2, this.1, by omega⟩)]
    have hri := ris_none hris
    obtain ⟨a1, a2, a3, a4, a5, a6, a7, a8, a9⟩ := takeR_right (c := c) (sub := sub) (q := q) (on := []) (x := (⟨s.w, x.v⟩ : It)) rfl ⟨r3, by omega⟩ r1 hv n2 hri (Int.le_refl _)
    have b1 := takeR_q (c := c) (sub := sub) (q := q) (on := []) (x := (⟨s.w, x.v⟩ : It)) rfl ⟨r3, by omega⟩ hv hri he k3
    obtain ⟨L, b2, b3⟩ := takeR_on (c := c) (sub := sub) (P := P) (q := q) (on := []) (ah := s.ah) (s := s) (x := (⟨s.w, x.v⟩ : It)) rfl (by rw [g2] at hP; exact hP) hA
    have hre : rightB c (takeR c sub s.ah s q [] ⟨s.w, x.v⟩).1 = true := right_of (by rw [a1]; exact he) ⟨by omega, a3⟩ a4 a5 a7 (by
      simp only [ahOK, Bool.and_eq_true]
      exact ⟨⟨by simp [AA.inB]; omega, hwin⟩, a8⟩)
    refine ⟨flow_of k1 hre b1, a1, by omega, a6, fun h => by omega, by rw [b2, List.nil_append]; exact b3, fun y hy => hA y (a9 y hy), fun hsub => ?_, fun hsub a hc => ?_, fun h => by omega, fun _ => a2⟩
    · subst hsub; exact takeR_quiet
    · subst hsub
      exact takeR_ch rfl ⟨r3, by omega⟩ hv hri he rfl k3 (by rw [g2] at hP; exact hP) hA hc
  · rw [if_neg g2]
    have hkn : (if x.s + 1 > s.kn then x.s + 1 else s.kn) ≤ 1073741824 := by split <;> omega
    have hkn2 : s.kn ≤ (if x.s + 1 > s.kn then x.s + 1 else s.kn) := by split <;> omega
    have hkn3 : x.s + 1 ≤ (if x.s + 1 > s.kn then x.s + 1 else s.kn) := by split <;> omega
    have hadd := addA_ok (x := x) r2
    have ha : ahOK (if (addA s.ah s.w c.w x).2 = 0 then (addA s.ah s.w c.w x).1 else s.ah) s.w c.w = true ∧ ∀ y ∈ (if (addA s.ah s.w c.w x).2 = 0 then (addA s.ah s.w c.w x).1 else s.ah), P y.s y.v := by
      split
      · rename_i h
        refine ⟨(hadd h).1, fun y hy => ?_⟩
        rcases (hadd h).2 y hy with rfl | h
        · exact hP
        · exact hA y h
      · exact ⟨r2, hA⟩
    refine ⟨flow_of k1 (right_of he ⟨r3, n4⟩ (by show s.w ≤ (if x.s + 1 > s.kn then x.s + 1 else s.kn); omega) hkn r1 ha.1) k3, rfl, Int.le_refl _, hkn2, fun h => ?_, rfl, ha.2, fun _ => rfl, fun _ a h => h, fun _ => ⟨rfl, rfl⟩, fun h => absurd h g2⟩
    show (if x.s + 1 > s.kn then x.s + 1 else s.kn) > s.w
    omega
end Go.Proofs.YtdflglehippoiaaGreatDoor.FA
namespace Go.Proofs.YtdflglehippoiaaGreatDoor.GA
open Go Go.Proofs.YtdflglehippoiaaGreatDoorR IG
open QA (Ev eE aE rE epOK evOK qOK putE n01)
open AA (It eT aT rT wi takeT allT ahOK)
open EC (Cf eC okC)
open FA (Sm eS aS s0 smL flowC rightB heavyB heavy_t itemP itemG fA gA flow_t flow_of right_t q_t kpOK kRow)
open KA (Kd eK aK rK nr okT okN kOK inB gap takeK all3)
set_option maxRecDepth 100000
set_option maxHeartbeats 4000000
theorem item_at' {c : Cf} {s : Sm} {sub : Bool} {q : List Ev} {x : It} (h0 : flowC c s q = 0) (he : epOK s.e = true) (hx : QA.inB x.s 1 1073741823 = true) (hv : QA.inB x.v 0 2147483647 = true) : itemP c s sub q s.e x = (itemG c s sub q false x, 0) := by
  have h1 : ¬ s.e > s.e := by omega
  have h2 : decide (s.e < s.e) = false := by simp
  simp only [itemP, h0, he, hx, hv, if_neg h1, h2, Bool.and_self, if_true]
theorem nx_ep {n top : Int} (hn : okN n = true) (ht : 0 ≤ top ∧ top ≤ 1073741824) (h : nxE n top ≠ 0) : epOK (nxE n top) = true ∧ (nxE n top).tmod 16 = n := by
  have hb := KA.inB_t hn
  have hx := nx_b hn ht
  have h1 : top < nxE n top ∧ nxE n top ≤ 1073741824 := by omega
  have e1 : (nxE n top).tmod 16 = nxE n top % 16 := Int.tmod_eq_emod_of_nonneg (by omega)
  have e2 : top.tmod 16 = top % 16 := Int.tmod_eq_emod_of_nonneg ht.1
  have h2 : nxE n top % 16 = n := by
    unfold nxE at h ⊢
    dsimp only at h ⊢
    rw [e2] at h ⊢
    split
    · rename_i g; rw [if_pos g] at h; omega
    · split <;> omega
  refine ⟨?_, by omega⟩
  simp only [epOK, QA.inB, Bool.and_eq_true, decide_eq_true_eq]
  omega
theorem begun_flow {c : Cf} {s : Sm} {q : List Ev} {e : Int} (h : flowC c s q = 0) (he : epOK e = true) : flowC c ⟨e, 1, 1, [], []⟩ q = 0 := by
  obtain ⟨k1, k2, k3⟩ := flow_t h
  have kc := FA.okC_t k1
  refine flow_of k1 (FA.right_of he ⟨by show (1 : Int) ≤ 1; omega, by show (1 : Int) ≤ 1073741824; omega⟩ (Int.le_refl _) (by show (1 : Int) ≤ 1073741824; omega) ?_ ?_) k3
  · simp [kpOK, QA.inB, kRow]; omega
  · simp [ahOK, AA.inB, AA.risB]; omega
theorem bc_t {c : Cf} {t self : Int} {x : Tp} (h : grC c t self x = 0) (h2 : (bcG self x).2 = 0) : flowC c (bcG self x).1.s (bcG self x).1.q = 0 ∧ epOK (bcG self x).1.s.e = true ∧ (bcG self x).1.r = (bcG self x).1.s.e ∧ (bcG self x).1.ks = x.ks ∧ (bcG self x).1.b = x.b := by
  obtain ⟨k1, k2, k3, k4, k5, k6, k7, k8, k9, k10, k11⟩ := gr_t h
  unfold bcG at h2 ⊢
  by_cases g1 : x.r ≠ 0 ∧ x.t = x.r
  · rw [if_pos g1]
    unfold rgtB at k6
    simp only [Bool.and_eq_true] at k6
    have k12 := k6.2.2.2.2.2.2.2.1
    unfold rtd at k12
    simp only [Bool.or_eq_true, Bool.and_eq_true, decide_eq_true_eq] at k12
    rcases k12 with h3 | h3
    · exact absurd h3 g1.1
    · exact ⟨k11, by rw [h3.2.2.2.2]; exact h3.1, h3.2.2.2.2.symm, rfl, rfl⟩
  · rw [if_neg g1] at h2 ⊢
    by_cases g2 : nxE self x.t = 0
    · rw [if_pos g2] at h2
      exact absurd h2 (by decide)
    · rw [if_neg g2]
      have he := (nx_ep k7 ⟨k9, k10⟩ g2).1
      exact ⟨begun_flow k11 he, he, rfl, rfl, rfl⟩
def acG (c : Cf) (t self : Int) (x : Tp) (v : Int) : (Tp × List Dm) × Int :=
  if (bcG self x).2 = 0 then
    if (bcG self x).1.s.w ≥ 1073741823 then ((x0, []), 11)
    else
      (({ (bcG self x).1 with s := (itemG c (bcG self x).1.s (bcG self x).1.b (bcG self x).1.q false ⟨(bcG self x).1.s.w, v⟩).1, q := (itemG c (bcG self x).1.s (bcG self x).1.b (bcG self x).1.q false ⟨(bcG self x).1.s.w, v⟩).2.1 },
        dsL t (itemG c (bcG self x).1.s (bcG self x).1.b (bcG self x).1.q false ⟨(bcG self x).1.s.w, v⟩).1.e (bcG self x).1.ks (itemG c (bcG self x).1.s (bcG self x).1.b (bcG self x).1.q false ⟨(bcG self x).1.s.w, v⟩).2.2), 0)
  else ((x0, []), (bcG self x).2)
def acP (c : Cf) (t self : Int) (x : Tp) (v : Int) : (Tp × List Dm) × Int :=
  if grC c t self x = 0 then (if QA.inB v 0 2147483647 then acG c t self x v else ((x0, []), 1)) else ((x0, []), grC c t self x)
abbrev aA (r : (Tp × List Dm) × Int) : S := .tup [aX r.1.1, .one (rD r.1.2), iV r.2]
theorem e22 (N d : Nat) (hN : 1000 ≤ N) (c : Cf) (t self : Int) (x : Tp) (v : Int) (hx : smX x) : ans (TT N (d + 17) 22 [.agg (eC c), iV t, iV self, aX x, iV v]) = some (aA (acP c t self x v)) := by
  have h1 := fun d => e18 N d hN c t self x hx
  have h2 := fun d => e15 N d hN c t self x hx
  have h3 := fun d => QA.e56 N d v
  rw [t22, F_ev rfl]
  unfold acP
  by_cases g0 : grC c t self x = 0
  rotate_left
  · rw [if_neg g0]
    have g0' : decide (grC c t self x = 0) = false := decide_eq_false g0
    simp only [h1, g0', j22, b22, q22, qq, ww, List.replicate, simprocAttr, if_true, if_false]
    try rfl
  rw [if_pos g0]
  have hb : bcP c t self x = bcG self x := by unfold bcP; rw [if_pos g0]
  have hT := bc_t g0
  rw [g0] at h1
  rw [hb] at h2
  cases g1 : QA.inB v 0 2147483647 with
  | false =>
    rw [if_neg (by decide)]
    simp only [h1, h3, g1, j22, b22, q22, qq, ww, List.replicate, simprocAttr, if_true, if_false]
    try rfl
  | true =>
  rw [if_pos rfl]
  unfold acG
  by_cases g2 : (bcG self x).2 = 0
  rotate_left
  · rw [if_neg g2]
    have g2' : decide ((bcG self x).2 = 0) = false := decide_eq_false g2
    simp only [h1, h2, h3, g1, g2', j22, b22, q22, qq, ww, List.replicate, simprocAttr, if_true, if_false]
    try rfl
  rw [if_pos g2]
  obtain ⟨f1, f2, f3, f4, f5⟩ := hT g2
  rw [g2] at h2
  generalize (bcG self x).1 = y at *
  by_cases g3 : y.s.w ≥ 1073741823
  · rw [if_pos g3]
    simp only [h1, h2, h3, g1, decide_eq_true g3, j22, b22, q22, qq, ww, List.replicate, simprocAttr, if_true, if_false]
    try rfl
  rw [if_neg g3]
  obtain ⟨k1, k2, k3⟩ := flow_t f1
  have k4 := right_t k2
  have k5 := q_t k3
  have k6 := (FA.right_e k2 f2).2.2
  have hi := fun d => FA.e57 N d hN c y.s y.b y.q y.s.e ⟨y.s.w, v⟩ ⟨by omega, by omega⟩ (by omega)
  rw [item_at' f1 f2 (by simp [QA.inB]; omega) g1] at hi
  have hlen := FA.itemG_len (c := c) (s := y.s) (sub := y.b) (q := y.q) (old := false) (x := ⟨y.s.w, v⟩) ⟨by omega, by omega⟩ (by omega)
  generalize itemG c y.s y.b y.q false ⟨y.s.w, v⟩ = G at *
  obtain ⟨s', q', on⟩ := G
  dsimp only at hlen hi ⊢
  have hH := fun d => e58 N d hN t { y with s := s', q := q' } on (by show y.ks.length < 900; rw [f4]; exact hx.2.1) (by omega)
  dsimp only at hH
  simp only [f3] at hH
  simp only [h1, h2, h3, g1, decide_eq_false g3, f3, hi, fA, hH, j22, b22, q22, qq, ww, List.replicate, simprocAttr, if_true, if_false]
  try rfl
end Go.Proofs.YtdflglehippoiaaGreatDoor.GA
namespace Go.Proofs.YtdflglehippoiaaGreatDoor.EC
open Go Go.Proofs.YtdflglehippoiaaGreatDoorR IG EA
set_option maxRecDepth 100000
set_option maxHeartbeats 4000000
end Go.Proofs.YtdflglehippoiaaGreatDoor.EC
namespace Go.Proofs.YtdflglehippoiaaGreatDoor.FA
open Go Go.Proofs.YtdflglehippoiaaGreatDoorR IG
open QA (Ev eE aE rE inB epOK evOK qOK putE n01 gapE lastK)
open AA (It eT aT rT ahOK addA addR leftL wi wm takeT allT take_s hR pre cP risB fitsB left_s ins)
open EC (Cf eC okC)
set_option maxRecDepth 100000
theorem umodF (z m : Int) (hm : 0 < m) (hm2 : m ≤ 4611686018427387904) : 0 ≤ IntKind.i64.wrap ((IntKind.u64.wrap z).tmod m) ∧ IntKind.i64.wrap ((IntKind.u64.wrap z).tmod m) < m := by
  have h : 0 ≤ IntKind.u64.wrap z := by
    simp [IntKind.wrap, IntKind.signed, IntKind.bits]
    omega
  have h1 := Int.tmod_nonneg m h
  have h2 := Int.tmod_lt_of_pos (IntKind.u64.wrap z) hm
  rw [IntWalk.i64_in _ (by omega)]
  exact ⟨h1, h2⟩
theorem foldK_len' {c : Cf} {sub : Bool} : ∀ {l : List It} {s : Sm} {q : List Ev} {on : List It}, True ∧ True ∧ True ∧ (foldK c sub l s q on).2.2.length = on.length + l.length
  | [], s, q, on => ⟨trivial, trivial, trivial, rfl⟩
  | x :: r, s, q, on => by
    obtain ⟨_, _, _, h⟩ := foldK_len' (c := c) (sub := sub) (l := r) (s := oneS c s x.v) (q := oneQ c s sub q x.v) (on := on ++ [⟨s.w, x.v⟩])
    refine ⟨trivial, trivial, trivial, ?_⟩
    simp only [foldK, h, List.length_append, List.length_cons, List.length_nil]
    omega
theorem moreK_on {c : Cf} {s : Sm} {sub : Bool} {q : List Ev} {x : It} : (itemG c s sub q false x).2.2.length ≤ s.ah.length + 1 := by
  unfold itemG
  split
  · simp
  · split
    · have hl : (leftL (s.w + 1) s.ah).length ≤ s.ah.length := List.length_filter_le _ _
      obtain ⟨h1, h2, h3, h4⟩ := foldK_len' (c := c) (sub := sub) (l := (leftL (s.w + 1) s.ah).take (pre (cP (s.w + 1)) (leftL (s.w + 1) s.ah) 0)) (s := oneS c s x.v) (q := oneQ c s sub q x.v) (on := [⟨s.w, x.v⟩])
      rw [List.length_take] at h4
      simp only [List.length_cons, List.length_nil] at h4
      have h5 : (foldK c sub ((leftL (s.w + 1) s.ah).take (pre (cP (s.w + 1)) (leftL (s.w + 1) s.ah) 0)) (oneS c s x.v) (oneQ c s sub q x.v) [⟨s.w, x.v⟩]).2.2.length ≤ s.ah.length + 1 := by omega
      exact h5
    · simp
end Go.Proofs.YtdflglehippoiaaGreatDoor.FA
namespace Go.Proofs.YtdflglehippoiaaGreatDoor.GA
open Go Go.Proofs.YtdflglehippoiaaGreatDoorR IG
open QA (Ev eE aE rE epOK evOK qOK putE n01)
open AA (It eT aT rT wi takeT allT ahOK)
open EC (Cf eC okC)
open FA (Sm eS aS s0 smL flowC rightB heavyB heavy_t itemP itemG fA gA flow_t flow_of right_t q_t kpOK kRow)
open KA (Kd eK aK rK nr okT okN kOK inB gap takeK all3)
set_option maxRecDepth 100000
set_option maxHeartbeats 8000000
theorem w20 : TT 1000 19 16 [] = some (bV true, []) := by kernel_rfl
def hvX (x : Tp) : Bool := decide ((x.pa.length : Int) > 20) || (decide ((x.ks.length : Int) > 20) || heavyB x.s x.q)
theorem e13 (N d : Nat) (x : Tp) : TT N (d + 2) 13 [aX x] = some (bV (hvX x), []) := by
  have h1 := fun d => FA.e49 N d x.s x.q
  rw [t13, F_ev rfl]
  unfold hvX
  by_cases g1 : (x.pa.length : Int) > 20
  · simp only [decide_eq_true g1, h1, Bool.true_or, List.length_map, j13, b13, q13, qq, ww, List.replicate, simprocAttr, if_true, if_false]
  by_cases g2 : (x.ks.length : Int) > 20
  · simp only [decide_eq_false g1, decide_eq_true g2, h1, Bool.true_or, Bool.false_or, List.length_map, j13, b13, q13, qq, ww, List.replicate, simprocAttr, if_true, if_false]
  · simp only [decide_eq_false g1, decide_eq_false g2, h1, Bool.false_or, List.length_map, j13, b13, q13, qq, ww, List.replicate, simprocAttr, if_true, if_false]
theorem hv_t {x : Tp} (h : hvX x = false) : smX x ∧ x.pa.length ≤ 20 ∧ x.ks.length ≤ 20 ∧ x.s.kp.length ≤ 30 ∧ x.s.ah.length ≤ 30 ∧ x.q.length ≤ 50 := by
  unfold hvX at h
  simp only [Bool.or_eq_false_iff, decide_eq_false_iff_not] at h
  have := heavy_t h.2.2
  exact ⟨⟨by omega, by omega, ⟨by omega, by omega⟩, by omega⟩, by omega, by omega, by omega, by omega, by omega⟩
theorem bc_sm {self : Int} {x : Tp} (h : smX x) : smX (bcG self x).1 := by
  unfold bcG
  split
  · exact h
  · split
    · simp [smX, smL]
    · exact ⟨by simp, h.2.1, ⟨by simp, by simp⟩, h.2.2.2⟩
theorem ac_sm {c : Cf} {t self : Int} {x : Tp} {v : Int} (h : smX x) (g0 : grC c t self x = 0) : smX (acG c t self x v).1.1 ∧ (acG c t self x v).1.2.length < 900 := by
  have hb := bc_sm (self := self) h
  have hT := bc_t g0
  obtain ⟨k1, k2, k3, k4, k5, k6, k7, k8, k9, k10, k11⟩ := gr_t g0
  unfold acG
  split
  · rename_i g2
    obtain ⟨f1, f2, f3, f4, f5⟩ := hT g2
    generalize (bcG self x).1 = y at *
    split
    · simp [smX, smL]
    · obtain ⟨l1, l2, l3⟩ := flow_t f1
      have l4 := right_t l2
      have l5 := q_t l3
      have hlen := FA.itemG_len (c := c) (s := y.s) (sub := y.b) (q := y.q) (old := false) (x := ⟨y.s.w, v⟩) ⟨by omega, by omega⟩ (by omega)
      have hon := FA.moreK_on (c := c) (s := y.s) (sub := y.b) (q := y.q) (x := ⟨y.s.w, v⟩)
      have hk : x.ks.length ≤ 4 := by
        unfold rgtB at k6
        simp only [Bool.and_eq_true] at k6
        have h1 := k6.2.2.2.2.2.2.2.2.2.2.1
        simp only [kOK, Bool.and_eq_true, decide_eq_true_eq] at h1
        have := FA.okC_t k1
        omega
      refine ⟨⟨hb.1, hb.2.1, hlen.1, hlen.2.1⟩, ?_⟩
      show (dsL _ _ _ _).length < 900
      rw [dsL_len]
      have := Nat.mul_le_mul (show (itemG c y.s y.b y.q false ⟨y.s.w, v⟩).2.2.length ≤ 16 by omega) (show y.ks.length ≤ 4 by rw [f4]; exact hk)
      omega
  · simp [smX, smL]
end Go.Proofs.YtdflglehippoiaaGreatDoor.GA
namespace Go.Proofs.YtdflglehippoiaaGreatDoor.GA
open Go Go.Proofs.YtdflglehippoiaaGreatDoorR IG
open QA (Ev eE aE rE epOK evOK qOK putE n01)
open AA (It eT aT rT wi takeT allT ahOK)
open EC (Cf eC okC)
open FA (Sm eS aS s0 smL flowC rightB heavyB heavy_t)
open KA (Kd eK aK rK nr okT okN kOK inB gap takeK all3)
set_option maxRecDepth 100000
set_option maxHeartbeats 4000000
theorem e89 (N d : Nat) (t self n : Int) (hn : -9223372036854775808 ≤ n ∧ n ≤ 9223372036854775807) : TT N (d + 4) 89 [iV t, iV self, iV n] = some (bV (lnk t self n), []) := by
  have h1 := fun d a b => KA.e99 N d t a b
  have h2 := fun d n lo hi => KA.e87 N d n lo hi
  rw [t89, F_ev rfl]
  unfold lnk
  by_cases g1 : n = 0
  · simp only [h1, h2, decide_eq_true g1, Bool.true_or, j89, b89, q89, qq, ww, List.replicate, simprocAttr, if_true, if_false]
  have w1 : n > 0 → IntKind.i64.wrap (n - 1) = n - 1 := fun h => IntWalk.i64_in _ (by omega)
  by_cases g2 : n > 0
  · rw [w1 g2]
    cases g3 : inB n 1 8 with
    | false =>
      have : nr t (n - 1) self = false := by
        have : okN (n - 1) = false := by simp [okN, inB] at g3 ⊢; omega
        simp [nr, this]
      simp only [h1, h2, w1 g2, g3, this, decide_eq_false g1, decide_eq_true g2, Bool.false_or, Bool.true_and, j89, b89, q89, qq, ww, List.replicate, simprocAttr, if_true, if_false]
    | true =>
      simp only [h1, h2, w1 g2, g3, decide_eq_false g1, decide_eq_true g2, Bool.false_or, Bool.true_and, j89, b89, q89, qq, ww, List.replicate, simprocAttr, if_true, if_false]
  · have g3 : inB n 1 8 = false := by simp [inB]; omega
    simp only [h1, h2, g3, decide_eq_false g1, decide_eq_false g2, Bool.false_or, Bool.false_and, j89, b89, q89, qq, ww, List.replicate, simprocAttr, if_true, if_false]
theorem e41 (N d : Nat) (c : Cf) (t self : Int) (hc : okC c = true) : TT N (d + 2) 41 [.agg (eC c), iV t, iV self] = some (bV (inB t 0 (c.t - 1) && inB self 0 (c.n - 1)), []) := by
  have h2 := fun d n lo hi => KA.e87 N d n lo hi
  have k := FA.okC_t hc
  have w1 : IntKind.i64.wrap (c.t - 1) = c.t - 1 := IntWalk.i64_in _ (by omega)
  have w2 : IntKind.i64.wrap (c.n - 1) = c.n - 1 := IntWalk.i64_in _ (by omega)
  rw [t41, F_ev rfl]
  cases g1 : inB t 0 (c.t - 1) with
  | false => simp only [h2, w1, w2, g1, Bool.false_and, j41, b41, q41, qq, ww, List.replicate, simprocAttr, if_true, if_false]
  | true => simp only [h2, w1, w2, g1, Bool.true_and, j41, b41, q41, qq, ww, List.replicate, simprocAttr, if_true, if_false]
end Go.Proofs.YtdflglehippoiaaGreatDoor.GA
namespace Go.Proofs.YtdflglehippoiaaGreatDoor.KA
open Go Go.Proofs.YtdflglehippoiaaGreatDoorR IG
set_option maxRecDepth 100000
set_option maxHeartbeats 4000000
def prvS (self : Int) (l : List Kd) (i : Nat) : Int := (prv l i).getD self
theorem prvS_s {self : Int} {l : List Kd} {i : Nat} (h : i < l.length) : prvS self l (i + 1) = l[i].n := by unfold prvS; rw [prv_s h]; rfl
theorem e91 (N d : Nat) (t self limit : Int) (l : List Kd) (hN : l.length < N) (hl : l.length < 1000000) : TT N (d + 4) 91 [iV t, iV self, iV limit, .one (rK l)] = some (bV (kOK t self limit l), []) := by
  rw [t91, F_ev rfl]
  cases h1 : okT t with
  | false => simp only [e73, h1, List.length_map, j91, b91, q91, qq, ww, List.replicate, simprocAttr, if_true, if_false]; simp [kOK, h1]
  | true => cases h2 : okN self with
    | false => simp only [e73, e26, h1, h2, List.length_map, j91, b91, q91, qq, ww, List.replicate, simprocAttr, if_true, if_false]; simp [kOK, h2]
    | true => cases h3 : inB limit 1 4 with
      | false => simp only [e73, e26, e87, h1, h2, h3, List.length_map, j91, b91, q91, qq, ww, List.replicate, simprocAttr, if_true, if_false]; simp [kOK, h3]
      | true =>
        cases h4 : decide ((l.length : Int) > limit) with
        | true =>
          have : decide ((l.length : Int) ≤ limit) = false := by simp at h4 ⊢; omega
          simp only [e73, e26, e87, h1, h2, h3, h4, List.length_map, j91, b91, q91, qq, ww, List.replicate, simprocAttr, if_true, if_false]; simp only [kOK, this, Bool.and_false, Bool.false_and]
        | false =>
        have h5 : decide ((l.length : Int) ≤ limit) = true := by simp at h4 ⊢; omega
        have ho : kOK t self limit l = chn t self l := by simp only [kOK, h1, h2, h3, h5, Bool.true_and]
        rw [ho]
        simp only [e73, e26, e87, h1, h2, h3, h4, List.length_map, j91, b91, q91, qq, ww, List.replicate, simprocAttr, if_true, if_false]
        refine (loopK (K := fun o => fin _ (aft _ _ _ o)) (fun i => ⟨[(0, iV t), (3, .one (rK l)), (9, iV (prvS self l i)), (10, iV i)], []⟩) (fun i => some (bV (chn t (prvS self l i) (l.drop i)), [])) l.length ?hr l.length 0 N _ (by omega) hN ?hk).trans ?_
        case hk => simp only [kk, simprocAttr, if_true, if_false]; try rfl
        case hr =>
          intro i n hi ih
          (try dsimp only)
          by_cases hlt : i < l.length
          · have h1 : decide ((i : Int) < (l.length : Int)) = true := by simp; omega
            have hg1 : (l.map eK)[i]? = some (eK l[i]) := by simp [hlt]
            have hd1 : l.drop i = l[i] :: l.drop (i + 1) := by simp
            have hb : 0 ≤ (i : Int) ∧ (i : Int) < (l.length : Int) := by omega
            cases c2 : nr t (prvS self l i) l[i].n with
            | false =>
              cases c1 : okN l[i].n with
              | false =>
                simp only [h1, hb.1, hb.2, hg1, e26, e99, c1, c2, List.length_map, Int.toNat_natCast, j91, b91, q91, qq, ww, List.replicate, simprocAttr, if_true, if_false]
                rw [hd1, chn, c2]; rfl
              | true =>
                simp only [h1, hb.1, hb.2, hg1, e26, e99, c1, c2, List.length_map, Int.toNat_natCast, j91, b91, q91, qq, ww, List.replicate, simprocAttr, if_true, if_false]
                rw [hd1, chn, c2]; rfl
            | true =>
              have c1 := (nr_t c2).2.2.1
              cases c3 : inB l[i].i 1 1073741824 with
              | false =>
                simp only [h1, hb.1, hb.2, hg1, e26, e87, e99, c1, c2, c3, List.length_map, Int.toNat_natCast, j91, b91, q91, qq, ww, List.replicate, simprocAttr, if_true, if_false]
                rw [hd1, chn, c2, inc2, c3]; rfl
              | true => cases c4 : inB l[i].a 0 6 with
                | false =>
                  simp only [h1, hb.1, hb.2, hg1, e26, e87, e99, c1, c2, c3, c4, List.length_map, Int.toNat_natCast, j91, b91, q91, qq, ww, List.replicate, simprocAttr, if_true, if_false]
                  rw [hd1, chn, c2, inc2, c3, c4]; rfl
                | true =>
                  simp only [h1, hb.1, hb.2, hg1, e26, e87, e99, c1, c2, c3, c4, wi i (by omega), List.length_map, Int.toNat_natCast, j91, b91, q91, qq, ww, List.replicate, simprocAttr, if_true, if_false]
                  rw [hd1, chn, c2, inc2, c3, c4, ← prvS_s hlt (self := self)]
                  exact ih hlt _ (by simp only [kk, simprocAttr, if_true, if_false, prvS_s hlt])
          · have h1 : decide ((i : Int) < (l.length : Int)) = false := by simp; omega
            simp only [h1, List.length_map, j91, b91, q91, qq, ww, List.replicate, simprocAttr, if_true, if_false]
            rw [List.drop_of_length_le (by omega)]
            rfl
        rfl
end Go.Proofs.YtdflglehippoiaaGreatDoor.KA
namespace Go.Proofs.YtdflglehippoiaaGreatDoor.GA
open Go Go.Proofs.YtdflglehippoiaaGreatDoorR IG
open QA (Ev eE aE rE epOK evOK qOK putE n01)
open AA (It eT aT rT wi takeT allT ahOK)
open EC (Cf eC okC)
open FA (Sm eS aS s0 smL flowC rightB heavyB heavy_t)
open KA (Kd eK aK rK nr okT okN kOK inB gap takeK all3)
set_option maxRecDepth 100000
set_option maxHeartbeats 4000000
theorem e90 (N d : Nat) (t self : Int) (l : List Int) (depth : Int) (h0 : okT t = true) (h1 : okN self = true) (h2 : inB depth 1 8 = true) (hN : l.length < N) (hl : l.length < 1000000) : TT N (d + 4) 90 [iV t, iV self, .one (rI l), iV depth] = some (iV (pthC t self l depth), []) := by
  have hi := fun d n => KA.e26 N d n
  have hn := fun d a b => KA.e99 N d t a b
  have hp : pthC t self l depth = if l.all okN then (if (l.length : Int) > depth then 12 else if risP t self l then 0 else 1) else 1 := by
    unfold pthC
    simp only [h0, h1, h2, Bool.true_and]
  rw [hp]
  rw [t90, F_ev rfl]
  simp only [List.length_map, j90, b90, q90, qq, ww, List.replicate, simprocAttr, if_true, if_false]
  refine loopI (K := fun o => fin _ (aft _ _ _ o)) (I := fun i st => st = ⟨[(0, iV t), (1, iV self), (2, .one (rI l)), (3, iV depth), (9, iV i)], []⟩ ∧ l.all okN = (l.drop i).all okN) _ l.length ?hr l.length 0 N _ ⟨[(0, iV t), (1, iV self), (2, .one (rI l)), (3, iV depth), (9, iV 0)], []⟩ (by omega) (by omega) ?hk ⟨rfl, rfl⟩
  case hk => simp only [kk, simprocAttr, if_true, if_false]; try rfl
  case hr =>
    rintro i n st hi2 ⟨rfl, hp⟩ ih
    (try dsimp only)
    by_cases hlt : i < l.length
    · have g1 : decide ((i : Int) < (l.length : Int)) = true := by simp; omega
      have hget : (l.map eI)[i]? = some (eI l[i]) := by simp [hlt]
      have hd : l.drop i = l[i] :: l.drop (i + 1) := by simp
      have hb : 0 ≤ (i : Int) ∧ (i : Int) < (l.length : Int) := by omega
      rw [hd, List.all_cons] at hp
      cases g2 : okN l[i] with
      | false =>
        rw [g2, Bool.false_and] at hp
        rw [hp, if_neg (by decide)]
        simp only [g1, hb.1, hb.2, List.length_map, Int.toNat_natCast, hget, hi, g2, j90, b90, q90, qq, ww, List.replicate, simprocAttr, if_true, if_false]
      | true =>
        rw [g2, Bool.true_and] at hp
        simp only [g1, hb.1, hb.2, List.length_map, Int.toNat_natCast, hget, hi, g2, wi i (by omega), j90, b90, q90, qq, ww, List.replicate, simprocAttr, if_true, if_false]
        exact ih hlt _ _ (by simp only [kk, simprocAttr, if_true, if_false]) ⟨rfl, hp⟩
    · clear ih
      have g1 : decide ((i : Int) < (l.length : Int)) = false := by simp; omega
      rw [List.drop_of_length_le (by omega), List.all_nil] at hp
      rw [hp, if_pos rfl]
      by_cases g4 : (l.length : Int) > depth
      · rw [if_pos g4]
        simp only [g1, decide_eq_true g4, List.length_map, j90, b90, q90, qq, ww, List.replicate, simprocAttr, if_true, if_false]
      rw [if_neg g4]
      simp only [g1, decide_eq_false g4, List.length_map, j90, b90, q90, qq, ww, List.replicate, simprocAttr, if_true, if_false]
      refine loopI (K := fun o => fin _ (aft _ _ _ o)) (I := fun i st => ∃ p, st = ⟨[(0, iV t), (2, .one (rI l)), (10, iV p), (11, iV i)], []⟩ ∧ risP t self l = risP t p (l.drop i)) _ l.length ?hr2 l.length 0 N _ ⟨[(0, iV t), (2, .one (rI l)), (10, iV self), (11, iV 0)], []⟩ (by omega) (by omega) ?hk2 ⟨self, rfl, rfl⟩
      case hk2 => simp only [kk, simprocAttr, if_true, if_false]; try rfl
      case hr2 =>
        rintro j n2 st hj ⟨p, rfl, hq⟩ ih2
        (try dsimp only)
        by_cases hjl : j < l.length
        · have y1 : decide ((j : Int) < (l.length : Int)) = true := by simp; omega
          have hget : (l.map eI)[j]? = some (eI l[j]) := by simp [hjl]
          have hd : l.drop j = l[j] :: l.drop (j + 1) := by simp
          have hb : 0 ≤ (j : Int) ∧ (j : Int) < (l.length : Int) := by omega
          rw [hd, risP] at hq
          cases g5 : nr t l[j] p with
          | false =>
            rw [g5, Bool.false_and] at hq
            rw [hq, if_neg (by decide)]
            simp only [y1, hb.1, hb.2, List.length_map, Int.toNat_natCast, hget, hn, g5, j90, b90, q90, qq, ww, List.replicate, simprocAttr, if_true, if_false]
          | true =>
            rw [g5, Bool.true_and] at hq
            simp only [y1, hb.1, hb.2, List.length_map, Int.toNat_natCast, hget, hn, g5, wi j (by omega), j90, b90, q90, qq, ww, List.replicate, simprocAttr, if_true, if_false]
            exact ih2 hjl _ _ (by simp only [kk, simprocAttr, if_true, if_false]) ⟨_, rfl, hq⟩
        · have y1 : decide ((j : Int) < (l.length : Int)) = false := by simp; omega
          rw [List.drop_of_length_le (by omega), risP] at hq
          rw [hq, if_pos rfl]
          simp only [y1, List.length_map, j90, b90, q90, qq, ww, List.replicate, simprocAttr, if_true, if_false]
end Go.Proofs.YtdflglehippoiaaGreatDoor.GA
