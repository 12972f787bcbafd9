/- Values kept one by one: what is there. -/
import Derived.Test.YtmjfjjnoconmoaaKeepLib
namespace Go.Proofs.Ytmjfjjnoconmoaa.KeepLib
open Go.RowKit Go.Proofs.Ytmjfjjnoconmoaa.PK Go.Proofs.YtmjfjjnoconmoaaB Go.Proofs.YtmjfjjnoconmoaaW.PrintWords Go.Proofs.YtmjfjjnoconmoaaW.PrintLast Go.Proofs.YtmjfjjnoconmoaaW.PrintMore
open Classical
set_option linter.unusedVariables false

/-- The first n items, from a number on. -/
def its (first : Int) (f : Nat → Int) : Nat → List S51
  | 0 => []
  | n + 1 => its first f n ++ [⟨first + n, f n⟩]
theorem its_length (first : Int) (f : Nat → Int) : ∀ n, (its first f n).length = n
  | 0 => rfl
  | n + 1 => by simp [its, its_length first f n]
theorem its_get (first : Int) (f : Nat → Int) : ∀ (n j : Nat), j < n → (its first f n).getD j z51 = ⟨first + j, f j⟩
  | 0, j, h => by omega
  | n + 1, j, h => by
    have hl := its_length first f n
    by_cases hj : j < n
    · have := its_get first f n j hj
      rw [getD_eq _ _ _ (by rw [its_length]; exact h)]
      rw [getD_eq _ _ _ (by rw [hl]; exact hj)] at this
      simp only [its]
      rw [List.getElem_append_left (by rw [hl]; exact hj)]
      exact this
    · obtain rfl : j = n := by omega
      rw [getD_eq _ _ _ (by rw [its_length]; exact h)]
      simp only [its]
      rw [List.getElem_append_right (by rw [hl]; exact Nat.le_refl _)]
      simp
theorem last_length (l : List S51) (n : Int) : (last l n).length = l.length - ((l.length : Int) - n).toNat := by unfold last; rw [List.length_drop]
theorem last_get (l : List S51) (n : Int) (j : Nat) : (last l n).getD j z51 = l.getD (((l.length : Int) - n).toNat + j) z51 := by
  unfold last
  rw [List.getD_eq_getElem?_getD, List.getD_eq_getElem?_getD, List.getElem?_drop]
theorem last_snoc (l : List S51) (x : S51) (n : Int) (hn : 1 ≤ n) : last (last l n ++ [x]) n = last (l ++ [x]) n := by
  unfold last
  by_cases h : (l.length : Int) ≤ n
  · rw [show ((l.length : Int) - n).toNat = 0 from by omega, List.drop_zero]
  · have e1 : (l.drop ((l.length : Int) - n).toNat ++ [x]).length = n.toNat + 1 := by rw [List.length_append, List.length_drop]; simp; omega
    rw [e1, List.length_append]
    simp only [List.length_singleton]
    rw [show (((n.toNat + 1 : Nat) : Int) - n).toNat = 1 from by omega]
    rw [List.drop_append_of_le_length (by rw [List.length_drop]; omega), List.drop_append_of_le_length (by omega), List.drop_drop]
    congr 2
    omega
theorem last_nil (first : Int) (f : Nat → Int) (n : Int) : last (its first f 0) n = [] := by simp [last, its]
theorem ok_last (first : Int) (f : Nat → Int) (n : Nat) (lim : Int) (hf : ∀ j, 0 ≤ f j ∧ f j ≤ 2147483647) (h1 : 1 ≤ first) (h2 : first + n ≤ 1073741824) (hm : 1 ≤ lim ∧ lim ≤ 16) : Ok (last (its first f n) lim) (first + n) lim := by
  refine ⟨by omega, hm, by rw [last_length, its_length]; omega, fun j hj => ?_⟩
  have hl := last_length (its first f n) lim
  rw [its_length] at hl
  rw [last_get, its_length, its_get _ _ _ _ (by omega)]
  have := hf (((n : Int) - lim).toNat + j)
  unfold At
  simp only []
  rw [hl]
  omega
theorem push_its (first : Int) (f : Nat → Int) (n : Nat) (lim : Int) (hf : ∀ j, 0 ≤ f j ∧ f j ≤ 2147483647) (h1 : 1 ≤ first) (h2 : first + n < 1073741824) (hm : 1 ≤ lim ∧ lim ≤ 16) (k : Nat) (hk : 20 < k) :
    keep_Push.f k (last (its first f n) lim) (first + n) lim (f n) = some (last (its first f (n + 1)) lim, 0) := by
  rw [Push_f _ _ _ _ _ hk, if_pos (ok_last first f n lim hf h1 (by omega) hm), if_pos (hf n), if_neg (by omega), last_snoc _ _ _ hm.1]
  rfl
/-- A value out of a list, as the laws take it. -/
def val (l : List Int) (j : Nat) : Int := wrap64 (Int.tmod (IntKind.u64.wrap (l.getD j 0)) 1000)
theorem val_b (l : List Int) (j : Nat) : 0 ≤ val l j ∧ val l j ≤ 2147483647 := by
  unfold val
  have := tmodb (l.getD j 0) 1000 (by decide)
  rw [w64 _ (by omega) (by omega)]
  omega
theorem rd_list (l : List Int) (j : Nat) : rd l (j : Int) = l.getD j 0 := by unfold rd; rw [Int.toNat_natCast]
theorem capb (a : Int) : 1 ≤ wrap64 (1 + wrap64 (Int.tmod (IntKind.u64.wrap a) 16)) ∧ wrap64 (1 + wrap64 (Int.tmod (IntKind.u64.wrap a) 16)) ≤ 16 := by
  have := tmodb a 16 (by decide)
  rw [w64 (Int.tmod _ _) (by omega) (by omega), w64 _ (by omega) (by omega)]
  omega
theorem firstb (a : Int) : 1 ≤ wrap64 (1 + wrap64 (Int.tmod (IntKind.u64.wrap a) 1000)) ∧ wrap64 (1 + wrap64 (Int.tmod (IntKind.u64.wrap a) 1000)) ≤ 1000 := by
  have := tmodb a 1000 (by decide)
  rw [w64 (Int.tmod _ _) (by omega) (by omega), w64 _ (by omega) (by omega)]
  omega
end Go.Proofs.Ytmjfjjnoconmoaa.KeepLib
