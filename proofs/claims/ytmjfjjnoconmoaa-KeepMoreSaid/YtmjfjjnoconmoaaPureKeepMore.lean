/- What is kept with a greater cap ends with what is kept with a lesser one: over numbers and lists. At most 60 values; all else is any number. -/
import Derived.Test.YtmjfjjnoconmoaaPKx5
import Derived.Test.YtmjfjjnoconmoaaKeepLastLib
namespace Go.Proofs.Ytmjfjjnoconmoaa.Pure
open Go.RowKit Go.Proofs.Ytmjfjjnoconmoaa.PK Go.Proofs.Ytmjfjjnoconmoaa.KeepLib Go.Proofs.YtmjfjjnoconmoaaB Go.Proofs.YtmjfjjnoconmoaaW.PrintWords Go.Proofs.YtmjfjjnoconmoaaW.PrintLast Go.Proofs.YtmjfjjnoconmoaaW.PrintMore
open Classical
set_option linter.unusedVariables false

theorem more_l0 (l : List Int) (first a b : Int) (hl : l.length ≤ 60) (h1 : 1 ≤ first ∧ first ≤ 1000) (ha : 1 ≤ a ∧ a ≤ 16) (hb : 1 ≤ b ∧ b ≤ 16) : ∀ (d j k : Nat), j + d = l.length → d + 100 < k →
    bellwetherlaw15_KeepMore.l0 k l first a b (last (its first (val l) j) (mn a b)) (last (its first (val l) j) (mx a b)) j = some true := by
  have hmn : 1 ≤ mn a b ∧ mn a b ≤ 16 ∧ mn a b ≤ mx a b := by rw [mn_eq, mx_eq]; omega
  have hmx : 1 ≤ mx a b ∧ mx a b ≤ 16 := by rw [mx_eq]; omega
  intro d
  induction d with
  | zero =>
    intro j k hj hk
    obtain ⟨k, rfl⟩ : ∃ m, k = m + 1 := ⟨k - 1, by omega⟩
    simp only [bellwetherlaw15_KeepMore.l0]
    have la := last_length (its first (val l) j) (mn a b)
    have lb := last_length (its first (val l) j) (mx a b)
    rw [its_length] at la lb
    rw [if_neg (by omega), if_pos (by omega)]
    rw [if_pos (by rw [mn_eq (mn a b) l.length]; omega)]
    rw [w64 _ (by omega) (by omega), if_pos (by omega), if_pos (by omega)]
    rw [Items_f _ _ _ (by rw [List.length_drop]; omega) (by rw [List.length_drop]; omega)]
    simp only [Option.bind_some, decide_eq_true_eq]
    rw [if_pos, wakes_f _ (by omega)]
    · rfl
    · rw [la, lb]
      unfold last
      rw [List.drop_drop, its_length]
      congr 1
      omega
  | succ d ih =>
    intro j k hj hk
    obtain ⟨k, rfl⟩ : ∃ m, k = m + 1 := ⟨k - 1, by omega⟩
    simp only [bellwetherlaw15_KeepMore.l0]
    rw [if_pos (by omega), if_pos (by omega), w64 (first + j) (by omega) (by omega), rd_list]
    have e : wrap64 (Int.tmod (IntKind.u64.wrap (l.getD j 0)) 1000) = val l j := rfl
    rw [e, push_its first (val l) j _ (val_b l) h1.1 (by omega) ⟨hmn.1, hmn.2.1⟩ k (by omega), push_its first (val l) j _ (val_b l) h1.1 (by omega) hmx k (by omega)]
    simp only [Option.bind_some, if_true]
    rw [wnext j (by omega)]
    exact ih (j + 1) k (by omega) (by omega)
theorem KeepMore : bellwetherlaw15_KeepMore.Pure := by
  intro l first a b hl hf ha hb
  refine ⟨1000, ?_⟩
  unfold bellwetherlaw15_KeepMore.f
  by_cases h : (l.length : Int) > 60
  · rw [if_pos h]
  · rw [if_neg h]
    have h := more_l0 l _ _ _ (by omega) (firstb first) (capb a) (capb b) l.length 0 1000 (by omega) (by omega)
    simp only [last_nil] at h
    exact h
end Go.Proofs.Ytmjfjjnoconmoaa.Pure
