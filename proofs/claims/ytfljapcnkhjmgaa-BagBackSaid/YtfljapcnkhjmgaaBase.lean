/- Small lemmas on numbers, lists and answers with rounds. -/
import Derived.Test.YtfljapcnkhjmgaaWMore
namespace Go.Proofs.YtfljapcnkhjmgaaB
open Go.RowKit Go.Proofs.YtfljapcnkhjmgaaW.PrintWords Go.Proofs.YtfljapcnkhjmgaaW.PrintLast Go.Proofs.YtfljapcnkhjmgaaW.PrintMore

theorem w64 (n : Int) (h1 : -9223372036854775808 ≤ n) (h2 : n ≤ 9223372036854775807) : wrap64 n = n := by unfold wrap64; omega
theorem i64b {n : Int} (h : (Lit.int .i64 n).wf = true) : -9223372036854775808 ≤ n ∧ n ≤ 9223372036854775807 := by
  simp [Lit.wf, IntKind.min, IntKind.max, IntKind.signed, IntKind.bits] at h
  omega
theorem u8b {n : Int} (h : (Lit.int .u8 n).wf = true) : 0 ≤ n ∧ n ≤ 255 := by
  simp [Lit.wf, IntKind.min, IntKind.max, IntKind.signed, IntKind.bits] at h
  omega
theorem u64w (n : Int) : IntKind.u64.wrap n = n % 18446744073709551616 := by
  simp [IntKind.wrap, IntKind.signed, IntKind.bits]
theorem tmodb (n m : Int) (hm : 0 < m) : 0 ≤ Int.tmod (IntKind.u64.wrap n) m ∧ Int.tmod (IntKind.u64.wrap n) m < m := by
  rw [u64w]
  have h0 : 0 ≤ n % 18446744073709551616 := Int.emod_nonneg _ (by decide)
  rw [Int.tmod_eq_emod_of_nonneg h0]
  exact ⟨Int.emod_nonneg _ (by omega), Int.emod_lt_of_pos _ hm⟩
theorem mx_eq (a b : Int) : mx a b = max a b := by unfold mx; omega
theorem mn_eq (a b : Int) : mn a b = min a b := by unfold mn; omega
theorem ite_some {α : Type} {c : Prop} [Decidable c] (a b : α) : (if c then some a else some b) = some (if c then a else b) := by split <;> rfl
theorem getD_eq {α : Type} (l : List α) (d : α) (j : Nat) (h : j < l.length) : l.getD j d = l[j] := by
  rw [List.getD_eq_getElem?_getD, List.getElem?_eq_getElem h]; rfl
section
open Classical
/-- A loop that asks each place in turn. -/
theorem all_from {l : Nat → Int → Option Bool} {n : Nat} {p : Nat → Prop} (hend : ∀ k, l (k + 1) (n : Int) = some true) (hstep : ∀ k (j : Nat), j < n → l (k + 1) (j : Int) = if p j then l k ((j + 1 : Nat) : Int) else some false) :
    ∀ (d k j : Nat), j + d = n → d < k → l k (j : Int) = some (decide (∀ i : Nat, j ≤ i → i < n → p i)) := by
  intro d
  induction d with
  | zero =>
    intro k j hj hk
    obtain ⟨k, rfl⟩ : ∃ m, k = m + 1 := ⟨k - 1, by omega⟩
    rw [show (j : Int) = (n : Int) from by omega, hend]
    congr 1
    exact (decide_eq_true (by intro i h1 h2; omega)).symm
  | succ d ih =>
    intro k j hj hk
    obtain ⟨k, rfl⟩ : ∃ m, k = m + 1 := ⟨k - 1, by omega⟩
    rw [hstep k j (by omega), ih k (j + 1) (by omega) (by omega)]
    by_cases hp : p j
    · rw [if_pos hp]
      congr 1
      refine decide_eq_decide.2 ⟨fun h i h1 h2 => ?_, fun h i h1 h2 => h i (by omega) h2⟩
      by_cases hi : i = j
      · subst hi; exact hp
      · exact h i (by omega) h2
    · rw [if_neg hp]
      congr 1
      exact (decide_eq_false (fun h => hp (h j (Nat.le_refl _) (by omega)))).symm
theorem all_loop {l : Nat → Int → Option Bool} {n : Nat} {p : Nat → Prop} (hend : ∀ k, l (k + 1) (n : Int) = some true) (hstep : ∀ k (j : Nat), j < n → l (k + 1) (j : Int) = if p j then l k ((j + 1 : Nat) : Int) else some false) (k : Nat) (hk : n < k) :
    l k 0 = some (decide (∀ i : Nat, i < n → p i)) := by
  have h := all_from hend hstep n k 0 (by omega) hk
  rw [show ((0 : Nat) : Int) = 0 from rfl] at h
  rw [h]
  congr 1
  exact decide_eq_decide.2 ⟨fun h j hj => h j (Nat.zero_le _) hj, fun h j _ hj => h j hj⟩
theorem ext_getD {α : Type} {a b : List α} (z : α) (h : a.length = b.length) : (∀ i : Nat, i < a.length → a.getD i z = b.getD i z) ↔ a = b := by
  constructor
  · intro hi
    refine List.ext_getElem h (fun i h1 h2 => ?_)
    have := hi i h1
    rwa [getD_eq a z i h1, getD_eq b z i h2] at this
  · rintro rfl i _; rfl
end
/-- A loop that looks for the first place. -/
theorem idx_from {l : Nat → Int → Option Int} {n : Nat} {p : Nat → Prop} (hend : ∀ k, l (k + 1) (n : Int) = some (-1)) (hstep : ∀ k (j : Nat), j < n → (p j → l (k + 1) (j : Int) = some (j : Int)) ∧ (¬ p j → l (k + 1) (j : Int) = l k ((j + 1 : Nat) : Int))) :
    ∀ (d k j : Nat), j + d = n → d < k → (l k (j : Int) = some (-1) ∧ ∀ i : Nat, j ≤ i → i < n → ¬ p i) ∨ ∃ m : Nat, l k (j : Int) = some (m : Int) ∧ j ≤ m ∧ m < n ∧ p m ∧ ∀ i : Nat, j ≤ i → i < m → ¬ p i := by
  intro d
  induction d with
  | zero =>
    intro k j hj hk
    obtain ⟨k, rfl⟩ : ∃ m, k = m + 1 := ⟨k - 1, by omega⟩
    left
    rw [show (j : Int) = (n : Int) from by omega, hend]
    exact ⟨rfl, fun i h1 h2 => by omega⟩
  | succ d ih =>
    intro k j hj hk
    obtain ⟨k, rfl⟩ : ∃ m, k = m + 1 := ⟨k - 1, by omega⟩
    rcases Classical.em (p j) with hp | hp
    · right
      exact ⟨j, (hstep k j (by omega)).1 hp, Nat.le_refl _, by omega, hp, fun i h1 h2 => by omega⟩
    · rw [(hstep k j (by omega)).2 hp]
      rcases ih k (j + 1) (by omega) (by omega) with ⟨h1, h2⟩ | ⟨m, h1, h2, h3, h4, h5⟩
      · left
        refine ⟨h1, fun i a b => ?_⟩
        by_cases hi : i = j
        · subst hi; exact hp
        · exact h2 i (by omega) b
      · right
        refine ⟨m, h1, by omega, h3, h4, fun i a b => ?_⟩
        by_cases hi : i = j
        · subst hi; exact hp
        · exact h5 i (by omega) b
/-- A loop that makes a list, place by place. -/
theorem map_from {β γ : Type} {l : Nat → List β → Int → Option γ} {n L : Nat} {f : Nat → β} {r : List β → γ} (hend : ∀ k out, l (k + 1) out (n : Int) = some (r out))
    (hstep : ∀ k out (j : Nat), j < n → out.length + (n - j) ≤ L → l (k + 1) out (j : Int) = l k (out ++ [f j]) ((j + 1 : Nat) : Int)) :
    ∀ (d k j : Nat) (out : List β), j + d = n → d < k → out.length + d ≤ L → l k out (j : Int) = some (r (out ++ (List.range' j d).map f)) := by
  intro d
  induction d with
  | zero =>
    intro k j out hj hk hL
    obtain ⟨k, rfl⟩ : ∃ m, k = m + 1 := ⟨k - 1, by omega⟩
    rw [show (j : Int) = (n : Int) from by omega, hend]
    simp
  | succ d ih =>
    intro k j out hj hk hL
    obtain ⟨k, rfl⟩ : ∃ m, k = m + 1 := ⟨k - 1, by omega⟩
    rw [hstep k out j (by omega) (by omega), ih k (j + 1) _ (by omega) (by omega) (by rw [List.length_append]; simp; omega), List.range'_succ]
    simp
/-- A loop that picks places. -/
theorem filter_from {β γ : Type} {l : Nat → List β → Int → Option γ} {n L : Nat} {f : Nat → β} {p : Nat → Bool} {r : List β → γ} (hend : ∀ k out, l (k + 1) out (n : Int) = some (r out))
    (hstep : ∀ k out (j : Nat), j < n → out.length + (n - j) ≤ L → l (k + 1) out (j : Int) = l k (if p j = true then out ++ [f j] else out) ((j + 1 : Nat) : Int)) :
    ∀ (d k j : Nat) (out : List β), j + d = n → d < k → out.length + d ≤ L → l k out (j : Int) = some (r (out ++ ((List.range' j d).filter p).map f)) := by
  intro d
  induction d with
  | zero =>
    intro k j out hj hk hL
    obtain ⟨k, rfl⟩ : ∃ m, k = m + 1 := ⟨k - 1, by omega⟩
    rw [show (j : Int) = (n : Int) from by omega, hend]
    simp
  | succ d ih =>
    intro k j out hj hk hL
    obtain ⟨k, rfl⟩ : ∃ m, k = m + 1 := ⟨k - 1, by omega⟩
    rw [hstep k out j (by omega) (by omega), List.range'_succ]
    by_cases hp : p j = true
    · rw [if_pos hp, ih k (j + 1) _ (by omega) (by omega) (by rw [List.length_append]; simp; omega)]
      simp [hp]
    · rw [if_neg hp, ih k (j + 1) _ (by omega) (by omega) (by omega)]
      simp [hp]
/-- A loop that changes each element of a list. -/
theorem set_from {β γ : Type} (z : β) {l : Nat → List β → Int → Option γ} {n : Nat} {g : β → β} {r : List β → γ} {xs0 : List β} (h0 : xs0.length = n) (hend : ∀ k xs, xs.length = n → l (k + 1) xs (n : Int) = some (r xs))
    (hstep : ∀ k xs (j : Nat), j < n → xs.length = n → xs.getD j z = xs0.getD j z → l (k + 1) xs (j : Int) = l k (xs.set j (g (xs0.getD j z))) ((j + 1 : Nat) : Int)) :
    ∀ (d k j : Nat) (xs : List β), j + d = n → d < k → xs.length = n → (∀ i, i < j → xs.getD i z = g (xs0.getD i z)) → (∀ i, j ≤ i → xs.getD i z = xs0.getD i z) → l k xs (j : Int) = some (r (xs0.map g)) := by
  intro d
  induction d with
  | zero =>
    intro k j xs hj hk hx h1 h2
    obtain ⟨k, rfl⟩ : ∃ m, k = m + 1 := ⟨k - 1, by omega⟩
    rw [show (j : Int) = (n : Int) from by omega, hend k xs hx]
    congr 2
    refine List.ext_getElem (by simp [hx, h0]) (fun i a b => ?_)
    have := h1 i (by omega)
    rw [getD_eq xs z i a, getD_eq xs0 z i (by omega)] at this
    rw [this]
    simp
  | succ d ih =>
    intro k j xs hj hk hx h1 h2
    obtain ⟨k, rfl⟩ : ∃ m, k = m + 1 := ⟨k - 1, by omega⟩
    rw [hstep k xs j (by omega) hx (h2 j (Nat.le_refl _))]
    refine ih k (j + 1) _ (by omega) (by omega) (by rw [List.length_set]; exact hx) (fun i hi => ?_) (fun i hi => ?_)
    · rw [List.getD_eq_getElem?_getD, List.getElem?_set]
      by_cases hji : j = i
      · subst hji
        rw [if_pos rfl, if_pos (by omega)]
        rfl
      · rw [if_neg hji, ← List.getD_eq_getElem?_getD]
        exact h1 i (by omega)
    · rw [List.getD_eq_getElem?_getD, List.getElem?_set, if_neg (by omega), ← List.getD_eq_getElem?_getD]
      exact h2 i (by omega)
theorem getD_set {α : Type} (l : List α) (z x : α) (i j : Nat) (hi : i < l.length) : (l.set i x).getD j z = if i = j then x else l.getD j z := by
  rw [List.getD_eq_getElem?_getD, List.getElem?_set]
  by_cases h : i = j
  · subst h
    rw [if_pos rfl, if_pos rfl, if_pos hi]
    rfl
  · rw [if_neg h, if_neg h, List.getD_eq_getElem?_getD]
theorem getD_map {α : Type} (l : List α) (z : α) (g : α → α) (j : Nat) (h : j < l.length) : (l.map g).getD j z = g (l.getD j z) := by
  rw [getD_eq _ z j (by simpa using h), getD_eq l z j h]
  simp
theorem rd_nat (l : List Int) (j : Nat) : rd l (j : Int) = l.getD j 0 := by unfold rd; rw [Int.toNat_natCast]
theorem range_get {α : Type} (l : List α) (z : α) : (List.range' 0 l.length).map (fun i => l.getD i z) = l := by
  refine List.ext_getElem (by simp) (fun i h1 h2 => ?_)
  simp at h1
  simp [List.getD_eq_getElem?_getD, h1]
theorem wnext (j : Nat) (h : j < 9223372036854775807) : wrap64 ((j : Int) + 1) = ((j + 1 : Nat) : Int) := by rw [w64 _ (by omega) (by omega)]; omega
end Go.Proofs.YtfljapcnkhjmgaaB
