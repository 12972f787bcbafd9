/- Of values pushed one by one the last ones are there, as many as may be kept; those ahead of them are told as gone; asked again and again all that are kept come: over numbers and lists. At most 60 values; all else is any number. -/
import Derived.Test.YtmjfjjnoconmoaaPKx4
import Derived.Test.YtmjfjjnoconmoaaKeepLastLib
namespace Go.Proofs.Ytmjfjjnoconmoaa.Pure
open Go.RowKit Go.Proofs.Ytmjfjjnoconmoaa.PK Go.Proofs.Ytmjfjjnoconmoaa.KeepLib Go.Proofs.YtmjfjjnoconmoaaB Go.Proofs.YtmjfjjnoconmoaaW.PrintWords Go.Proofs.YtmjfjjnoconmoaaW.PrintLast Go.Proofs.YtmjfjjnoconmoaaW.PrintMore
open Classical
set_option linter.unusedVariables false

theorem last_end (l : List S51) (want lim n at_ : Int) (j k : Nat) (hO : Ok l want lim) (hn : n = l.length) (hk : 100 < k) (ha : want ≤ at_) : bellwetherlaw15_KeepLast.l2 k lim l want n at_ j = some true := by
  obtain ⟨k, rfl⟩ : ∃ m, k = m + 2 := ⟨k - 2, by omega⟩
  have hw := hO.1
  have e : bellwetherlaw15_KeepLast.j4 (k + 1) lim l want n at_ j false = some true := by
    simp only [bellwetherlaw15_KeepLast.j4]
    rw [if_neg (by decide), Again_f _ _ _ _ _ (by omega) (by omega), if_pos hO, if_neg (by omega), if_pos (by omega)]
    simp only [Option.bind_some, if_true, List.length_nil]
    rw [if_pos (by simp [wrap64]), if_pos (by omega), wakes_f _ (by omega)]
    rfl
  simp only [bellwetherlaw15_KeepLast.l2]
  rw [decide_eq_false (by omega)]
  split <;> exact e
theorem last_l3 (l : List S51) (want lim n : Int) (j K : Nat) (hO : Ok l want lim) (hn : n = l.length) (s : Nat) (r : Bool) (hs : s ≤ l.length)
    (hl2 : ∀ k, K ≤ k → bellwetherlaw15_KeepLast.l2 k lim l want n (want - n + s + ((l.drop s).take 8).length) (wrap64 (j + 1)) = some r) : ∀ (d i k : Nat), i + d = ((l.drop s).take 8).length → K + d < k →
    bellwetherlaw15_KeepLast.l3 k lim l want n (want - n + s + i) j ((l.drop s).take 8) i = some r := by
  obtain ⟨hw, hm, hle, hR⟩ := hO
  have hlen : ((l.drop s).take 8).length = min 8 (l.length - s) := by rw [List.length_take, List.length_drop]
  intro d
  induction d with
  | zero =>
    intro i k hi hk
    obtain ⟨k, rfl⟩ : ∃ m, k = m + 1 := ⟨k - 1, by omega⟩
    simp only [bellwetherlaw15_KeepLast.l3]
    rw [if_neg (by omega)]
    have := hl2 k (by omega)
    rw [show ((l.drop s).take 8).length = i from by omega] at this
    exact this
  | succ d ih =>
    intro i k hi hk
    obtain ⟨k, rfl⟩ : ∃ m, k = m + 1 := ⟨k - 1, by omega⟩
    simp only [bellwetherlaw15_KeepLast.l3]
    have e1 : rd_T51 ((l.drop s).take 8) (i : Int) = l.getD (s + i) z51 := by
      rw [rd_nat, List.getD_eq_getElem?_getD, List.getElem?_take_of_lt (by omega), List.getElem?_drop, ← List.getD_eq_getElem?_getD]
    have hA := hR (s + i) (by omega)
    unfold At at hA
    rw [if_pos (by omega), if_neg (by omega), w64 (want - n) (by omega) (by omega), if_neg (by omega), if_pos (by omega), e1, if_pos (by omega)]
    rw [w64 (want - n + s + i - want) (by omega) (by omega), w64 _ (by omega) (by omega), if_pos (by omega), if_pos (by omega)]
    have e2 : rd_T51 l (want - n + s + i - want + n) = l.getD (s + i) z51 := by rw [show want - n + (s : Int) + i - want + n = ((s + i : Nat) : Int) from by omega, rd_nat]
    rw [e2, if_neg (by simp), wnext i (by omega), w64 _ (by omega) (by omega)]
    have := ih (i + 1) k (by omega) (by omega)
    rw [show want - n + (s : Int) + ((i + 1 : Nat) : Int) = want - n + s + i + 1 from by omega] at this
    exact this
/-- One time more: where it goes on. -/
theorem last_round (l : List S51) (want lim n at_ : Int) (j K : Nat) (hj : j < 20) (hO : Ok l want lim) (hn : n = l.length) (h1 : 1 ≤ at_) (ha : at_ < want) (r : Bool)
    (hl2 : ∀ k, K ≤ k → bellwetherlaw15_KeepLast.l2 k lim l want n (min want (max at_ (want - n) + 8)) ((j + 1 : Nat) : Int) = some r) (k : Nat) (hk : K + 100 < k) : bellwetherlaw15_KeepLast.l2 k lim l want n at_ j = some r := by
  obtain ⟨k, rfl⟩ : ∃ m, k = m + 3 := ⟨k - 3, by omega⟩
  have hO' := hO
  obtain ⟨hw, hm, hle, hR⟩ := hO'
  simp only [bellwetherlaw15_KeepLast.l2]
  rw [if_pos (by omega), decide_eq_true (by omega)]
  simp only [bellwetherlaw15_KeepLast.j4, if_true]
  rw [Again_f _ _ _ _ _ (by omega) (by omega), if_pos hO, if_neg (by omega), if_neg (by omega)]
  simp only [Option.bind_some, if_true]
  have hlen : ((l.drop (at_ - (want - l.length)).toNat).take 8).length = min 8 (l.length - (at_ - (want - l.length)).toNat) := by rw [List.length_take, List.length_drop]
  have fin : ∀ g : Int, mx at_ (wrap64 (g + 1)) = want - n + ((at_ - (want - l.length)).toNat : Nat) → bellwetherlaw15_KeepLast.j5 (k + 1) lim l want n at_ j g ((l.drop (at_ - (want - l.length)).toNat).take 8) false = some r := by
    intro g hg
    simp only [bellwetherlaw15_KeepLast.j5]
    rw [if_neg (by decide), hg]
    have := last_l3 l want lim n j K hO hn (at_ - (want - l.length)).toNat r (by omega) (by
      intro k' hk'
      rw [wnext j (by omega)]
      have := hl2 k' hk'
      rw [show min want (max at_ (want - n) + 8) = want - n + ((at_ - (want - l.length)).toNat : Nat) + (((l.drop (at_ - (want - l.length)).toNat).take 8).length : Nat) from by rw [hlen]; omega] at this
      exact this) (((l.drop (at_ - (want - l.length)).toNat).take 8).length) 0 k (by omega) (by omega)
    rw [show want - n + (((at_ - (want - l.length)).toNat : Nat) : Int) + ((0 : Nat) : Int) = want - n + ((at_ - (want - l.length)).toNat : Nat) from by omega] at this
    exact this
  rw [if_neg (by omega), w64 (want - n) (by omega) (by omega)]
  by_cases hg : at_ < want - l.length
  · rw [if_pos hg, if_pos (by omega), if_pos (by omega), w64 _ (by omega) (by omega)]
    rw [show ((want - (l.length : Int) - 1) != (want - n - 1)) = false from by rw [hn]; simp]
    exact fin _ (by rw [w64 _ (by omega) (by omega), mx_eq]; omega)
  · rw [if_neg hg, if_neg (by omega), if_neg (by omega)]
    exact fin _ (by rw [w64 _ (by omega) (by omega), mx_eq]; omega)
theorem last_l2 (l : List S51) (want lim n at_ : Int) (hO : Ok l want lim) (hn : n = l.length) (h1 : 1 ≤ at_) (k : Nat) (hk : 400 < k) : bellwetherlaw15_KeepLast.l2 k lim l want n at_ 0 = some true := by
  have hw := hO.1
  have hle := hO.2.2.1
  have hm := hO.2.1
  by_cases ha : at_ < want
  · refine last_round l want lim n at_ 0 250 (by omega) hO hn h1 ha true (fun k hk => ?_) k (by omega)
    by_cases hb : min want (max at_ (want - n) + 8) < want
    · refine last_round l want lim n _ 1 110 (by omega) hO hn (by omega) hb true (fun k hk => ?_) k (by omega)
      exact last_end l want lim n _ 2 k hO hn (by omega) (by omega)
    · exact last_end l want lim n _ 1 k hO hn (by omega) (by omega)
  · exact last_end l want lim n at_ 0 k hO hn (by omega) (by omega)
theorem last_l1 (l : List Int) (first lim fr : Int) (hl : l.length ≤ 60) (h1 : 1 ≤ first ∧ first ≤ 1000) (hm : 1 ≤ lim ∧ lim ≤ 16) : ∀ (d i k : Nat), i + d = min lim.toNat l.length → d + 500 < k →
    bellwetherlaw15_KeepLast.l1 k l lim fr (last (its first (val l) l.length) lim) (first + l.length) (mn lim l.length) i = some true := by
  have hO := ok_last first (val l) l.length lim (val_b l) h1.1 (by omega) hm
  have la := last_length (its first (val l) l.length) lim
  rw [its_length] at la
  have hmn : mn lim l.length = min lim l.length := mn_eq _ _
  intro d
  induction d with
  | zero =>
    intro i k hi hk
    obtain ⟨k, rfl⟩ : ∃ m, k = m + 1 := ⟨k - 1, by omega⟩
    simp only [bellwetherlaw15_KeepLast.l1]
    rw [if_neg (by omega), w64 (first + l.length + 3) (by omega) (by omega)]
    have hu : IntKind.u64.wrap (first + l.length + 3) = first + l.length + 3 := by rw [u64w]; omega
    rw [hu, if_neg (by omega)]
    have := tmodb fr (first + l.length + 3) (by omega)
    rw [w64 (Int.tmod _ _) (by omega) (by omega), w64 _ (by omega) (by omega)]
    exact last_l2 _ _ _ _ _ hO (by omega) (by omega) k (by omega)
  | succ d ih =>
    intro i k hi hk
    obtain ⟨k, rfl⟩ : ∃ m, k = m + 1 := ⟨k - 1, by omega⟩
    simp only [bellwetherlaw15_KeepLast.l1]
    rw [if_pos (by omega), if_pos (by omega), if_pos (by omega), rd_nat, last_get, its_length, its_get _ _ _ _ (by omega)]
    simp only []
    rw [w64 (first + l.length - _) (by omega) (by omega), w64 _ (by omega) (by omega), if_pos (by omega)]
    rw [w64 ((l.length : Int) - _) (by omega) (by omega), w64 _ (by omega) (by omega), if_pos (by omega), if_pos (by omega)]
    rw [show (l.length : Int) - mn lim l.length + i = ((((l.length : Int) - lim).toNat + i : Nat) : Int) from by omega, rd_list]
    have e : wrap64 (Int.tmod (IntKind.u64.wrap (l.getD (((l.length : Int) - lim).toNat + i) 0)) 1000) = val l (((l.length : Int) - lim).toNat + i) := rfl
    rw [e, if_pos rfl, wnext i (by omega)]
    exact ih (i + 1) k (by omega) (by omega)
theorem last_l0 (l : List Int) (first lim fr : Int) (hl : l.length ≤ 60) (h1 : 1 ≤ first ∧ first ≤ 1000) (hm : 1 ≤ lim ∧ lim ≤ 16) : ∀ (d j k : Nat), j + d = l.length → d + 700 < k →
    bellwetherlaw15_KeepLast.l0 k l lim fr (last (its first (val l) j) lim) (first + j) j = some true := by
  intro d
  induction d with
  | zero =>
    intro j k hj hk
    obtain ⟨k, rfl⟩ : ∃ m, k = m + 2 := ⟨k - 2, by omega⟩
    obtain rfl : j = l.length := by omega
    have hO := ok_last first (val l) l.length lim (val_b l) h1.1 (by omega) hm
    have la := last_length (its first (val l) l.length) lim
    rw [its_length] at la
    have hmn : mn lim l.length = min lim l.length := mn_eq _ _
    simp only [bellwetherlaw15_KeepLast.l0]
    rw [if_neg (by omega), if_pos (by omega), Check_f _ _ _ _ (by omega), if_pos hO]
    simp only [Option.bind_some, bellwetherlaw15_KeepLast.j1]
    rw [if_neg (by decide)]
    exact last_l1 l first lim fr hl h1 hm (min lim.toNat l.length) 0 k (by omega) (by omega)
  | succ d ih =>
    intro j k hj hk
    obtain ⟨k, rfl⟩ : ∃ m, k = m + 1 := ⟨k - 1, by omega⟩
    simp only [bellwetherlaw15_KeepLast.l0]
    rw [if_pos (by omega), if_pos (by omega), rd_list]
    have e : wrap64 (Int.tmod (IntKind.u64.wrap (l.getD j 0)) 1000) = val l j := rfl
    rw [e, push_its first (val l) j _ (val_b l) h1.1 (by omega) hm k (by omega)]
    simp only [Option.bind_some, if_true]
    rw [wnext j (by omega), w64 (first + j + 1) (by omega) (by omega)]
    have := ih (j + 1) k (by omega) (by omega)
    rw [show first + ((j + 1 : Nat) : Int) = first + j + 1 from by omega] at this
    exact this
theorem KeepLast : bellwetherlaw15_KeepLast.Pure := by
  intro l first lim fr hl hf hm hr
  refine ⟨1000, ?_⟩
  unfold bellwetherlaw15_KeepLast.f
  by_cases h : (l.length : Int) > 60
  · rw [if_pos h]
  · rw [if_neg h]
    have := last_l0 l _ _ fr (by omega) (firstb first) (capb lim) l.length 0 1000 (by omega) (by omega)
    rw [show wrap64 (1 + wrap64 (Int.tmod (IntKind.u64.wrap first) 1000)) + ((0 : Nat) : Int) = wrap64 (1 + wrap64 (Int.tmod (IntKind.u64.wrap first) 1000)) from by omega] at this
    simp only [last_nil] at this
    exact this
end Go.Proofs.Ytmjfjjnoconmoaa.Pure
