/- What the functions of keep, and those of the reference, come to. -/
import Derived.Test.YtmjfjjnoconmoaaPKx6
import Derived.Test.YtmjfjjnoconmoaaBase
namespace Go.Proofs.Ytmjfjjnoconmoaa.KeepLib
open Go.RowKit Go.Proofs.Ytmjfjjnoconmoaa.PK Go.Proofs.YtmjfjjnoconmoaaB Go.Proofs.YtmjfjjnoconmoaaW.PrintWords Go.Proofs.YtmjfjjnoconmoaaW.PrintLast Go.Proofs.YtmjfjjnoconmoaaW.PrintMore
open Classical
set_option linter.unusedVariables false

theorem in_f (a b c : Int) : msg_in.f a b c = some (decide (b ≤ a ∧ a ≤ c)) := by
  unfold msg_in.f
  by_cases h : a ≥ b <;> simp [h, ge_iff_le] <;> omega
theorem Value_f (a : Int) : msg_Value.f a = some (decide (0 ≤ a ∧ a ≤ 2147483647)) := by
  unfold msg_Value.f; rw [in_f]; rfl
theorem Counted_f (a : Int) : msg_Counted.f a = some (decide (1 ≤ a ∧ a ≤ 1073741824)) := by
  unfold msg_Counted.f; rw [in_f]; rfl
theorem rIn_f (a b c : Int) : bellwetherref01_In.f a b c = some (decide (b ≤ a ∧ a ≤ c)) := by
  unfold bellwetherref01_In.f
  by_cases h : a ≥ b <;> simp [h, ge_iff_le] <;> omega
theorem rin_f (a b c : Int) : bellwetherref10_in.f a b c = some (decide (b ≤ a ∧ a ≤ c)) := by
  unfold bellwetherref10_in.f
  by_cases h : a ≥ b <;> simp [h, ge_iff_le] <;> omega
theorem rValue_f (a : Int) : bellwetherref01_Value.f a = some (decide (0 ≤ a ∧ a ≤ 2147483647)) := by
  unfold bellwetherref01_Value.f; rw [rIn_f]; rfl
theorem Clone_f (l : List S51) (h : l.length < 8796093022208) : slices_Clone_Item.f l = some l := by
  unfold slices_Clone_Item.f
  simp [h]
theorem Twin_f (l : List S51) (h : l.length < 8796093022208) : bellwetherkeep_TwinItems.f l = some l := by
  unfold bellwetherkeep_TwinItems.f
  simp [h]

/-- The item at a place, in a row of n up to want. -/
def At (want : Int) (n : Nat) (x : S51) (j : Nat) : Prop := 1 ≤ x.f0 ∧ x.f0 = want - n + j ∧ 0 ≤ x.f1 ∧ x.f1 ≤ 2147483647
def Row (l : List S51) (want : Int) : Prop := ∀ j : Nat, j < l.length → At want l.length (l.getD j z51) j

theorem right_l0 (l : List S51) (want : Int) (hw : 1 ≤ want ∧ want ≤ 1073741824) (hl : l.length ≤ 1000000) : ∀ (d k j : Nat), j + d = l.length → d < k →
    keep_right.l0 k l want l l.length j = some (decide (∀ i : Nat, j ≤ i → i < l.length → At want l.length (l.getD i z51) i)) := by
  intro d
  induction d with
  | zero =>
    intro k j hj hk
    obtain ⟨k, rfl⟩ : ∃ m, k = m + 1 := ⟨k - 1, by omega⟩
    simp only [keep_right.l0]
    rw [if_neg (by omega)]
    congr 1
    exact (decide_eq_true (by intro i h1 h2; omega)).symm
  | succ d ih =>
    intro k j hj hk
    obtain ⟨k, rfl⟩ : ∃ m, k = m + 1 := ⟨k - 1, by omega⟩
    simp only [keep_right.l0]
    rw [if_pos (by omega), if_pos (by omega), if_pos (by omega), w64 (want - _) (by omega) (by omega), w64 _ (by omega) (by omega), Value_f, w64 _ (by omega) (by omega)]
    have e : rd_T51 l (j : Int) = l.getD j z51 := by unfold rd_T51; rw [Int.toNat_natCast]
    rw [e]
    have ih' := ih k (j + 1) (by omega) (by omega)
    rw [show ((j + 1 : Nat) : Int) = (j : Int) + 1 from by omega] at ih'
    simp only [Option.bind_some, decide_eq_true_eq, ih']
    have key : (∀ i : Nat, j ≤ i → i < l.length → At want l.length (l.getD i z51) i) ↔ At want l.length (l.getD j z51) j ∧ (∀ i : Nat, j + 1 ≤ i → i < l.length → At want l.length (l.getD i z51) i) := by
      constructor
      · intro h; exact ⟨h j (Nat.le_refl _) (by omega), fun i h1 h2 => h i (by omega) h2⟩
      · rintro ⟨h0, h⟩ i h1 h2
        by_cases hi : i = j
        · subst hi; exact h0
        · exact h i (by omega) h2
    by_cases hA : At want l.length (l.getD j z51) j
    · have hA' := hA
      unfold At at hA'
      rw [if_neg (by omega), if_pos (by omega), if_pos (by omega)]
      congr 1
      exact decide_eq_decide.2 (by rw [key]; exact ⟨fun h => ⟨hA, h⟩, fun h => h.2⟩)
    · rw [decide_eq_false (fun h => hA (key.1 h).1)]
      unfold At at hA
      split
      · rfl
      · split
        · rw [if_neg (by omega)]
        · rfl
theorem right_f (l : List S51) (want : Int) (hw : 1 ≤ want ∧ want ≤ 1073741824) (hl : l.length ≤ 1000000) (k : Nat) (hk : l.length < k) : keep_right.f k l want = some (decide (Row l want)) := by
  unfold keep_right.f
  have := right_l0 l want hw hl l.length k 0 (by omega) hk
  rw [show ((0 : Nat) : Int) = 0 from rfl] at this
  rw [this]
  congr 1
  exact decide_eq_decide.2 ⟨fun h j hj => h j (Nat.zero_le _) hj, fun h j _ hj => h j hj⟩
/-- Right items, as the page has it. -/
def Ok (l : List S51) (want lim : Int) : Prop := (1 ≤ want ∧ want ≤ 1073741824) ∧ (1 ≤ lim ∧ lim ≤ 16) ∧ (l.length : Int) ≤ lim ∧ Row l want
theorem Check_f (l : List S51) (want lim : Int) (k : Nat) (hk : 20 < k) : keep_Check.f k l want lim = some (if Ok l want lim then 0 else 1) := by
  unfold keep_Check.f
  rw [Counted_f]
  simp only [Option.bind_some, decide_eq_true_eq]
  by_cases hw : 1 ≤ want ∧ want ≤ 1073741824
  · rw [if_pos hw]
    by_cases h1 : lim < 1
    · rw [if_pos h1, if_neg (by unfold Ok; omega)]
    · rw [if_neg h1]
      by_cases h2 : lim > 16
      · rw [if_pos h2, if_neg (by unfold Ok; omega)]
      · rw [if_neg h2]
        by_cases h3 : (l.length : Int) > lim
        · rw [if_pos h3, if_neg (by unfold Ok; omega)]
        · rw [if_neg h3, right_f l want hw (by omega) k (by omega)]
          simp only [Option.bind_some, decide_eq_true_eq]
          by_cases h4 : Row l want
          · rw [if_pos h4, if_pos ⟨hw, by omega, by omega, h4⟩]
          · rw [if_neg h4, if_neg (fun h => h4 h.2.2.2)]
  · rw [if_neg hw, if_neg (fun h => hw h.1)]
/-- The last so many. -/
def last (l : List S51) (n : Int) : List S51 := l.drop ((l.length : Int) - n).toNat
theorem Push_f (l : List S51) (want lim v : Int) (k : Nat) (hk : 20 < k) :
    keep_Push.f k l want lim v = some (if Ok l want lim then (if 0 ≤ v ∧ v ≤ 2147483647 then (if want ≥ 1073741824 then ([], 11) else (last (l ++ [⟨want, v⟩]) lim, 0)) else ([], 1)) else ([], 1)) := by
  unfold keep_Push.f
  rw [Check_f l want lim k hk]
  obtain ⟨k, rfl⟩ : ∃ m, k = m + 1 := ⟨k - 1, by omega⟩
  simp only [Option.bind_some]
  by_cases h : Ok l want lim
  · rw [if_pos h, if_pos rfl, if_pos h, Value_f]
    simp only [Option.bind_some, keep_Push.j0]
    have h' := h
    obtain ⟨h1, h2, h3, h4⟩ := h'
    by_cases hv : 0 ≤ v ∧ v ≤ 2147483647
    · rw [if_neg (by simp [hv]), if_pos hv]
      by_cases hc : want ≥ 1073741824
      · rw [if_pos hc, if_pos hc]
      · rw [if_neg hc, if_neg hc, Clone_f _ (by omega)]
        simp only [Option.bind_some]
        have hL : (l ++ [(⟨want, v⟩ : S51)]).length = l.length + 1 := by simp
        rw [if_pos (by omega), hL, w64 _ (by omega) (by omega)]
        rw [if_pos (by rw [mx_eq]; omega), if_pos (by rw [mx_eq]; omega), Clone_f _ (by rw [List.length_drop]; omega)]
        simp only [Option.bind_some]
        congr 3
        rw [mx_eq, hL]
        omega
    · rw [if_pos (by simp [hv]), if_neg hv]
  · rw [if_neg h, if_neg (by decide), if_neg h]
    simp only [keep_Push.j0, if_true]
theorem Again_f (l : List S51) (want lim fr : Int) (k : Nat) (hk : 20 < k) (hf : -9223372036854775808 ≤ fr ∧ fr ≤ 9223372036854775807) :
    keep_Again.f k l want lim fr = some (if Ok l want lim then (if fr < 1 then (0, [], 1) else if fr ≥ want then (0, [], 0) else (if fr < want - l.length then want - l.length - 1 else 0, (l.drop (fr - (want - l.length)).toNat).take 8, 0)) else (0, [], 1)) := by
  unfold keep_Again.f
  rw [Check_f l want lim k hk]
  obtain ⟨k, rfl⟩ : ∃ m, k = m + 1 := ⟨k - 1, by omega⟩
  simp only [Option.bind_some]
  by_cases h : Ok l want lim
  · rw [if_pos h, if_pos rfl, if_pos h]
    simp only [keep_Again.j0, decide_eq_true_eq]
    obtain ⟨h1, h2, h3, h4⟩ := h
    by_cases ha : fr < 1
    · rw [if_pos ha, if_pos ha]
    · rw [if_neg ha, if_neg ha]
      by_cases hb : fr ≥ want
      · rw [if_pos hb, if_pos hb]
      · rw [if_neg hb, if_neg hb, w64 (want - _) (by omega) (by omega), w64 _ (by omega) (by omega), w64 _ (by omega) (by omega)]
        have ht : ∀ n : Nat, (mx (fr - (want - l.length)) 0).toNat = (fr - (want - l.length)).toNat := by intro _; rw [mx_eq]; omega
        have hm : 0 ≤ mx (fr - (want - l.length)) 0 ∧ mx (fr - (want - l.length)) 0 ≤ (l.length : Int) := by rw [mx_eq]; omega
        have hd : (l.drop (fr - (want - l.length)).toNat).length ≤ 16 := by rw [List.length_drop]; omega
        have h8 : 0 ≤ mn ((l.drop (fr - (want - l.length)).toNat).length : Int) 8 ∧ mn ((l.drop (fr - (want - l.length)).toNat).length : Int) 8 ≤ ((l.drop (fr - (want - l.length)).toNat).length : Int) := by rw [mn_eq]; omega
        have htk : (l.drop (fr - (want - l.length)).toNat).take (mn ((l.drop (fr - (want - l.length)).toNat).length : Int) 8).toNat = (l.drop (fr - (want - l.length)).toNat).take 8 := by
          rw [mn_eq]
          by_cases hq : (l.drop (fr - (want - l.length)).toNat).length ≤ 8
          · rw [List.take_of_length_le (by omega), List.take_of_length_le (by omega)]
          · congr 1
            omega
        by_cases hg : fr < want - l.length
        · rw [if_pos hg, if_pos hg, if_pos hm.1, if_pos hm.2, ht 0]
          simp only [Option.bind_some]
          rw [if_pos h8.1, if_pos h8.2, htk, Clone_f _ (by rw [List.length_take]; omega)]
          rfl
        · rw [if_neg hg, if_neg hg, if_pos hm.1, if_pos hm.2, ht 0]
          simp only [Option.bind_some]
          rw [if_pos h8.1, if_pos h8.2, htk, Clone_f _ (by rw [List.length_take]; omega)]
          rfl
  · rw [if_neg h, if_neg (by decide), if_neg h]
    simp only [keep_Again.j0, if_true]

theorem rd_nat (l : List S51) (j : Nat) : rd_T51 l (j : Int) = l.getD j z51 := by unfold rd_T51; rw [Int.toNat_natCast]
theorem s51_eq (x y : S51) : (x.f0 = y.f0 ∧ x.f1 = y.f1) ↔ x = y := by cases x; cases y; simp
theorem Items_f (a b : List S51) (k : Nat) (hk : a.length < k) (hl : a.length < 1000000) : bellwetherkeep_Items.f k a b = some (decide (a = b)) := by
  unfold bellwetherkeep_Items.f
  by_cases h : a.length = b.length
  · rw [if_pos (by omega)]
    have h := all_loop (l := fun k i => bellwetherkeep_Items.l0 k a b i) (n := a.length) (p := fun i => a.getD i z51 = b.getD i z51)
      (by intro k; simp only [bellwetherkeep_Items.l0]; rw [if_neg (by omega)])
      (by
        intro k j hj
        simp only [bellwetherkeep_Items.l0]
        rw [if_pos (by omega), if_pos (by omega), if_pos (by omega), rd_nat, rd_nat, wnext j (by omega)]
        by_cases e : a.getD j z51 = b.getD j z51
        · rw [if_pos e, e, if_neg (by simp)]
        · have e' := mt (s51_eq _ _).1 e
          rw [if_neg e, if_pos (by simp only [Bool.or_eq_true, Bool.not_eq_true', beq_eq_false_iff_ne]; omega)]) k hk
    rw [show bellwetherkeep_Items.l0 k a b 0 = _ from h]
    congr 1
    exact decide_eq_decide.2 (ext_getD z51 (by assumption))
  · rw [if_neg (by omega)]
    congr 1
    exact (decide_eq_false (fun e => h (by rw [e]))).symm
theorem wakes_f (k : Nat) (hk : 50 ≤ k) : bellwetherlaw15_wakes.f k = some true := at_rounds (fun k => bellwetherlaw15_wakes.mono k) hk (by decide +kernel)
/-- The reference's test is the page's, too. -/
theorem Kept_f (l : List S51) (want lim : Int) (k : Nat) (hk : 50 < k) : bellwetherref10_Kept.f k l want lim = some (decide (Ok l want lim)) := by
  obtain ⟨k, rfl⟩ : ∃ m, k = m + 1 := ⟨k - 1, by omega⟩
  unfold bellwetherref10_Kept.f
  rw [rin_f, rin_f]
  simp only [Option.bind_some, decide_eq_true_eq, bellwetherref10_Kept.j0, if_true]
  by_cases h1 : 1 ≤ want ∧ want ≤ 1073741824
  · rw [if_pos h1]
    by_cases h2 : 1 ≤ lim ∧ lim ≤ 16
    · rw [if_pos h2]
      by_cases h3 : (l.length : Int) > lim
      · rw [if_pos h3]
        congr 1
        exact (decide_eq_false (fun h => by have := h.2.2.1; omega)).symm
      · rw [if_neg h3]
        by_cases h4 : (l.length : Int) ≥ want
        · rw [if_pos h4]
          congr 1
          refine (decide_eq_false (fun h => ?_)).symm
          have h0 := h.2.2.2 0 (by omega)
          unfold At at h0
          omega
        · rw [if_neg h4]
          have h := all_loop (l := fun k i => bellwetherref10_Kept.l0 k l want i) (n := l.length) (p := fun i => (l.getD i z51).f0 = want - l.length + i ∧ 0 ≤ (l.getD i z51).f1 ∧ (l.getD i z51).f1 ≤ 2147483647)
            (by intro k; simp only [bellwetherref10_Kept.l0]; rw [if_neg (by omega)])
            (by
              intro k j hj
              simp only [bellwetherref10_Kept.l0]
              rw [if_pos (by omega), if_pos (by omega), rd_nat, wnext j (by omega), w64 (want - _) (by omega) (by omega), w64 _ (by omega) (by omega), rValue_f]
              simp only [Option.bind_some, decide_eq_true_eq]
              by_cases e : (l.getD j z51).f0 = want - l.length + j
              · rw [if_pos e]
                by_cases e2 : 0 ≤ (l.getD j z51).f1 ∧ (l.getD j z51).f1 ≤ 2147483647
                · rw [if_pos e2, if_pos ⟨e, e2⟩]
                · rw [if_neg e2, if_neg (fun h => e2 h.2)]
              · rw [if_neg e, if_neg (fun h => e h.1)]) k (by omega)
          rw [show bellwetherref10_Kept.l0 k l want 0 = _ from h]
          congr 1
          refine decide_eq_decide.2 ⟨fun h => ⟨h1, h2, by omega, fun j hj => ?_⟩, fun h j hj => ?_⟩
          · have := h j hj
            unfold At
            omega
          · have := h.2.2.2 j hj
            unfold At at this
            omega
    · rw [if_neg h2]
      congr 1
      exact (decide_eq_false (fun h => h2 h.2.1)).symm
  · rw [if_neg h1]
    congr 1
    exact (decide_eq_false (fun h => h1 h.1)).symm
theorem rPush_f (l : List S51) (want lim v : Int) (hl : l.length ≤ 16) (hm : 1 ≤ lim ∧ lim ≤ 16) : bellwetherref10_Push.f l want lim v = some (last (l ++ [⟨want, v⟩]) lim) := by
  unfold bellwetherref10_Push.f
  have hL : (l ++ [(⟨want, v⟩ : S51)]).length = l.length + 1 := by simp
  rw [if_pos (by simp; omega)]
  simp only [Option.bind_some, List.nil_append]
  rw [if_pos (by omega)]
  rw [hL, w64 _ (by omega) (by omega)]
  rw [if_pos (by rw [mx_eq]; omega), if_pos (by rw [mx_eq]; omega)]
  congr 2
  rw [mx_eq, hL]
  omega
/-- A row's items from a number on. -/
theorem rAgain_l0 (l : List S51) (want fr g : Int) (hR : Row l want) (hl : l.length ≤ 16) (hw : 1 ≤ want ∧ want ≤ 1073741824) (hf : 1 ≤ fr ∧ fr < want) : ∀ (d j : Nat) (out : List S51) (k : Nat), j + d = l.length → 2 * d + 3 < k → out.length ≤ 8 →
    (out.length < 8 → out = (l.take j).drop (fr - (want - l.length)).toNat) → (out.length = 8 → out = (l.drop (fr - (want - l.length)).toNat).take 8) →
    bellwetherref10_Again.l0 k l fr g out j = some (g, (l.drop (fr - (want - l.length)).toNat).take 8) := by
  intro d
  induction d with
  | zero =>
    intro j out k hj hk ho h1 h2
    obtain ⟨k, rfl⟩ : ∃ m, k = m + 2 := ⟨k - 2, by omega⟩
    simp only [bellwetherref10_Again.l0]
    rw [if_neg (by omega)]
    simp only [bellwetherref10_Again.j2]
    rw [if_neg (by decide)]
    by_cases h8 : out.length = 8
    · rw [← h2 h8]
    · have := h1 (by omega)
      rw [List.take_of_length_le (by omega)] at this
      rw [this, List.take_of_length_le]
      rw [← this]; omega
  | succ d ih =>
    intro j out k hj hk ho h1 h2
    obtain ⟨k, rfl⟩ : ∃ m, k = m + 2 := ⟨k - 2, by omega⟩
    simp only [bellwetherref10_Again.l0]
    rw [if_pos (by omega)]
    simp only [bellwetherref10_Again.j2, decide_eq_true_eq]
    by_cases h8 : out.length = 8
    · rw [if_neg (by omega), ← h2 h8]
    · rw [if_pos (by omega), if_pos (by omega), if_pos (by omega), rd_nat, wnext j (by omega)]
      have hA := hR j (by omega)
      unfold At at hA
      have hj' : j < l.length := by omega
      have e1 := h1 (by omega)
      by_cases hge : (l.getD j z51).f0 ≥ fr
      · rw [if_pos hge, if_pos (by omega)]
        have e2 : out ++ [(⟨(l.getD j z51).f0, (l.getD j z51).f1⟩ : S51)] = (l.take (j + 1)).drop (fr - (want - l.length)).toNat := by
          rw [getD_eq l z51 j hj'] at hA hge ⊢
          rw [List.take_succ_eq_append_getElem hj', List.drop_append_of_le_length (by rw [List.length_take]; omega), ← e1]
        have hlen := congrArg List.length e2
        rw [List.length_append, List.length_drop, List.length_take] at hlen
        simp only [List.length_singleton] at hlen
        refine ih (j + 1) _ k (by omega) (by omega) (by rw [List.length_append]; simp; omega) (fun _ => e2) (fun h => ?_)
        rw [e2]
        rw [e2, List.length_drop, List.length_take] at h
        rw [List.drop_take]
        congr 1
        omega
      · rw [if_neg hge]
        refine ih (j + 1) out k (by omega) (by omega) ho (fun _ => ?_) (fun h => absurd h h8)
        have hjs : j + 1 ≤ (fr - (want - l.length)).toNat := by omega
        rw [e1, List.drop_eq_nil_of_le (by rw [List.length_take]; omega), List.drop_eq_nil_of_le (by rw [List.length_take]; omega)]
theorem rAgain_f (l : List S51) (want lim fr : Int) (k : Nat) (hk : 60 < k) (hO : Ok l want lim) (h1 : 1 ≤ fr) (h2 : fr ≤ 9223372036854775807) :
    bellwetherref10_Again.f k l want fr = some (if fr ≥ want then (0, []) else (if fr < want - l.length then want - l.length - 1 else 0, (l.drop (fr - (want - l.length)).toNat).take 8)) := by
  obtain ⟨k, rfl⟩ : ∃ m, k = m + 1 := ⟨k - 1, by omega⟩
  obtain ⟨hw, hm, hl, hR⟩ := hO
  unfold bellwetherref10_Again.f
  by_cases hg : fr ≥ want
  · rw [if_pos hg, if_pos hg]
  · rw [if_neg hg, if_neg hg, w64 (want - _) (by omega) (by omega), w64 _ (by omega) (by omega)]
    simp only [bellwetherref10_Again.j0]
    have key := fun g => rAgain_l0 l want fr g hR (by omega) hw ⟨h1, by omega⟩ l.length 0 [] k (by omega) (by omega) (by simp) (by simp) (by simp)
    rw [show ((0 : Nat) : Int) = 0 from rfl] at key
    by_cases hq : fr < want - l.length
    · rw [if_pos hq, if_pos hq, key]
    · rw [if_neg hq, if_neg hq, key]
end Go.Proofs.Ytmjfjjnoconmoaa.KeepLib
