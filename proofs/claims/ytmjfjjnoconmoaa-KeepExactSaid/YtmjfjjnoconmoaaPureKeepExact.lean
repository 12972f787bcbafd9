/- Whether any items are right, with any pushed, what is there again, or why not, is the page's: over numbers and lists. At most 40 items; all else is any number. -/
import Derived.Test.YtmjfjjnoconmoaaPKx6
import Derived.Test.YtmjfjjnoconmoaaKeepLib
namespace Go.Proofs.Ytmjfjjnoconmoaa.Pure
open Go.RowKit Go.Proofs.Ytmjfjjnoconmoaa.PK Go.Proofs.Ytmjfjjnoconmoaa.KeepLib Go.Proofs.YtmjfjjnoconmoaaB Go.Proofs.YtmjfjjnoconmoaaW.PrintWords Go.Proofs.YtmjfjjnoconmoaaW.PrintLast Go.Proofs.YtmjfjjnoconmoaaW.PrintMore
open Classical
set_option linter.unusedVariables false

theorem KeepExact : bellwetherlaw15_KeepExact.Pure := by
  intro l want lim v fr hl hwant hlim hv hfr
  have bw := i64b hwant
  have bf := i64b hfr
  refine ⟨1000, ?_⟩
  unfold bellwetherlaw15_KeepExact.f
  by_cases h40 : (l.length : Int) > 40
  · rw [if_pos h40]
  · rw [if_neg h40, Twin_f _ (by omega)]
    simp only [Option.bind_some]
    rw [Push_f _ _ _ _ _ (by omega), Again_f _ _ _ _ _ (by omega) bf, Items_f _ _ _ (by omega) (by omega), Kept_f _ _ _ _ (by omega), Check_f _ _ _ _ (by omega), rValue_f, wakes_f _ (by omega)]
    simp only [Option.bind_some, decide_true, if_true, decide_eq_true_eq]
    by_cases hO : Ok l want lim
    · simp only [hO, if_true]
      have hj : bellwetherlaw15_KeepExact.j0 1000 l want fr (if fr < 1 then (0, ([] : List S51), (1 : Int)) else if fr ≥ want then (0, [], 0) else (if fr < want - l.length then want - l.length - 1 else 0, (l.drop (fr - (want - l.length)).toNat).take 8, 0)).1
          (if fr < 1 then (0, ([] : List S51), (1 : Int)) else if fr ≥ want then (0, [], 0) else (if fr < want - l.length then want - l.length - 1 else 0, (l.drop (fr - (want - l.length)).toNat).take 8, 0)).2.1
          (if fr < 1 then (0, ([] : List S51), (1 : Int)) else if fr ≥ want then (0, [], 0) else (if fr < want - l.length then want - l.length - 1 else 0, (l.drop (fr - (want - l.length)).toNat).take 8, 0)).2.2 = some true := by
        simp only [bellwetherlaw15_KeepExact.j0]
        by_cases h1 : fr < 1
        · simp only [h1, if_true]
          rw [wakes_f _ (by omega)]
          simp [wrap64]
        · simp only [h1, if_false]
          rw [rAgain_f l want lim fr _ (by omega) hO (by omega) (by omega)]
          by_cases h2 : fr ≥ want
          · simp only [h2, if_true, Option.bind_some]
            rw [Items_f _ _ _ (by simp) (by simp), wakes_f _ (by omega)]
            rfl
          · simp only [h2, if_false, Option.bind_some, if_true]
            rw [Items_f _ _ _ (by rw [List.length_take]; omega) (by rw [List.length_take]; omega), wakes_f _ (by omega)]
            simp
      by_cases hv' : 0 ≤ v ∧ v ≤ 2147483647
      · simp only [hv', and_self, if_true]
        by_cases hm : want ≥ 1073741824
        · simp only [hm, if_true, hj]
          rfl
        · simp only [hm, if_false, if_true]
          rw [rPush_f _ _ _ _ (by have := hO.2.2.1; have := hO.2.1; omega) hO.2.1]
          simp only [Option.bind_some]
          rw [Items_f _ _ _ (by unfold last; rw [List.length_drop, List.length_append]; simp; omega) (by unfold last; rw [List.length_drop, List.length_append]; simp; omega)]
          simp only [Option.bind_some, decide_true, if_true, hj]
      · simp only [hv', if_false, hj]
        rfl
    · simp [hO, wrap64]
end Go.Proofs.Ytmjfjjnoconmoaa.Pure
