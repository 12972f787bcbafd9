/- Whether any peers are right, with any heard, a tick older, which are live, or why not, is the page's: over numbers and lists. At most 20 peers; all else is any number. -/
import Derived.Test.YtfljapcnkhjmgaaPVx5
import Derived.Test.YtfljapcnkhjmgaaViewLib
namespace Go.Proofs.Ytfljapcnkhjmgaa.Pure
open Go.RowKit Go.Proofs.Ytfljapcnkhjmgaa.PV Go.Proofs.Ytfljapcnkhjmgaa.ViewLib Go.Proofs.YtfljapcnkhjmgaaB Go.Proofs.YtfljapcnkhjmgaaW.PrintWords Go.Proofs.YtfljapcnkhjmgaaW.PrintLast Go.Proofs.YtfljapcnkhjmgaaW.PrintMore
open Classical
set_option linter.unusedVariables false
set_option linter.unusedSimpArgs false

theorem ex_j10 (l : List S42) (self : Int) (hO : Ok l) (k : Nat) (hk : 100 < k) : L10_ViewExact.j10 k l self (if Ok l then (if 0 ≤ self ∧ self < l.length then (live l self, (0 : Int)) else ([], 9)) else ([], 1)).1 (if Ok l then (if 0 ≤ self ∧ self < l.length then (live l self, (0 : Int)) else ([], 9)) else ([], 1)).2 = some true := by
  obtain ⟨k, rfl⟩ : ∃ m, k = m + 2 := ⟨k - 2, by omega⟩
  have hl := hO.1
  simp only [if_pos hO, L10_ViewExact.j10]
  have no : ¬ (0 ≤ self ∧ self < l.length) → L10_ViewExact.j11 (k + 1) l self [] 9 true = some true := by
    intro _
    simp only [L10_ViewExact.j11, if_true]
    rw [wakes_f _ (by omega)]
    simp
  by_cases h1 : self < 0
  · have h : ¬ (0 ≤ self ∧ self < l.length) := by omega
    rw [if_pos h1]
    simp only [if_neg h]
    exact no h
  · rw [if_neg h1]
    by_cases h2 : self ≥ (l.length : Int)
    · have h : ¬ (0 ≤ self ∧ self < l.length) := by omega
      rw [decide_eq_true h2]
      simp only [if_neg h]
      exact no h
    · have h : 0 ≤ self ∧ self < l.length := by omega
      rw [decide_eq_false h2]
      simp only [if_pos h, L10_ViewExact.j11]
      have ll := live_length l self
      rw [if_neg (by decide), if_pos trivial, rLive_f l self (by omega) _ (by omega)]
      simp only [Option.bind_some]
      rw [Ints_f _ _ _ (by omega) (by omega), wakes_f _ (by omega)]
      simp
theorem ViewExact : L10_ViewExact.Pure := by
  intro l fr inc self hl0 hf0 hi0 hs0
  refine ⟨1000, ?_⟩
  unfold L10_ViewExact.f
  rw [Heavy_f]
  simp only [Option.bind_some, decide_eq_true_eq]
  by_cases h20 : (l.length : Int) > 20
  · rw [if_pos h20]
  · rw [if_neg h20]
    simp only [L10_ViewExact.j0]
    rw [Twin_f l (by omega)]
    simp only [Option.bind_some]
    rw [Hear_f l fr inc _ (by omega), Older_f l _ (by omega), Live_f l self _ (by omega), Peers_f l l _ (by omega) (by omega)]
    simp only [Option.bind_some, decide_true, if_true, L10_ViewExact.j1]
    rw [rPeers_f l _ (by omega), Check_f l _ (by omega)]
    simp only [Option.bind_some, decide_eq_true_eq]
    by_cases hO : Ok l
    · have hl := hO.1
      rw [if_pos hO]
      have H10 := ex_j10 l self hO
      generalize (if Ok l then (if 0 ≤ self ∧ self < l.length then (live l self, (0 : Int)) else ([], 9)) else ([], 1)) = lv at H10 ⊢
      simp only [L10_ViewExact.j2]
      rw [Check_f l _ (by omega), if_pos hO]
      simp only [Option.bind_some, if_true]
      rw [if_pos hO]
      simp only [if_true]
      rw [rOlder_f l hO _ (by omega)]
      simp only [Option.bind_some]
      have ol := older_length l
      rw [Peers_f _ _ _ (by omega) (by omega)]
      simp only [Option.bind_some, decide_true, Bool.not_true, L10_ViewExact.j3, L10_ViewExact.j4]
      rw [if_neg (by decide)]
      have h6 : ∀ k, 200 < k → L10_ViewExact.j6 k l self lv.1 lv.2 false = some true := by
        intro k hk
        obtain ⟨k, rfl⟩ : ∃ m, k = m + 1 := ⟨k - 1, by omega⟩
        simp only [L10_ViewExact.j6]
        rw [if_neg (by decide)]
        exact H10 k (by omega)
      by_cases h : 0 ≤ fr ∧ fr < l.length
      · rw [if_neg (by omega), decide_eq_false (by omega)]
        simp only [if_pos hO, if_pos h, L10_ViewExact.j5]
        rw [if_neg (by decide)]
        by_cases hi : 1 ≤ inc ∧ inc ≤ 1073741824
        · rw [if_neg (by omega), decide_eq_false (by omega)]
          simp only [if_pos hi, L10_ViewExact.j7]
          rw [if_neg (by decide), if_pos trivial, rHear_f l fr inc (by omega) h]
          simp only [Option.bind_some]
          have hh := hear_length l fr inc
          rw [Peers_f _ _ _ (by omega) (by omega)]
          simp only [Option.bind_some, decide_true, Bool.not_true, L10_ViewExact.j9]
          rw [if_neg (by decide)]
          exact H10 _ (by omega)
        · have h7 : L10_ViewExact.j7 994 l fr inc self [] 1 lv.1 lv.2 true = some true := by
            simp only [L10_ViewExact.j7, if_true, L10_ViewExact.j8]
            rw [if_neg (by decide)]
            exact H10 _ (by omega)
          simp only [if_neg hi]
          by_cases hi1 : inc < 1
          · rw [if_pos hi1]; exact h7
          · rw [if_neg hi1, decide_eq_true (by omega)]; exact h7
      · have h5 : L10_ViewExact.j5 995 l fr inc self [] 9 lv.1 lv.2 true = some true := by
          simp only [L10_ViewExact.j5, if_true]
          exact h6 _ (by omega)
        simp only [if_pos hO, if_neg h]
        by_cases hf1 : fr < 0
        · rw [if_pos hf1]; exact h5
        · rw [if_neg hf1, decide_eq_true (by omega)]; exact h5
    · rw [if_neg hO]
      simp only [if_neg hO, if_true]
      rw [wakes_f _ (by omega)]
      simp [wrap64]
end Go.Proofs.Ytfljapcnkhjmgaa.Pure
