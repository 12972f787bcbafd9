/- Any number put behind any bytes, any got from any place, any list put, got, or why not, are the page's: over numbers and lists. At most 600 bytes, at most 300 numbers in the list; all else is any number. -/
import Derived.Test.YtmjfjjnoconmoaaPDx5
import Derived.Test.YtmjfjjnoconmoaaCodecLib
namespace Go.Proofs.Ytmjfjjnoconmoaa.Pure
open Go.RowKit Go.Proofs.Ytmjfjjnoconmoaa.PD Go.Proofs.Ytmjfjjnoconmoaa.CodecLib Go.Proofs.YtmjfjjnoconmoaaB Go.Proofs.YtmjfjjnoconmoaaW.PrintWords Go.Proofs.YtmjfjjnoconmoaaW.PrintLast Go.Proofs.YtmjfjjnoconmoaaW.PrintMore
open Classical
set_option linter.unusedVariables false

/-- The end: a list that was got. -/
theorem ex_l1 (b : List Int) (at_ : Int) (hB : Bs b) (hb : b.length ≤ 600) (h : 0 ≤ at_ ∧ at_ < b.length ∧ at_ + 1 + b.getD at_.toNat 0 ≤ b.length) : ∀ (d j k : Nat), j + d = ((b.take (at_ + 1 + b.getD at_.toNat 0).toNat).drop (at_ + 1).toNat).length → d + 100 < k →
    L04_CodecExact.l1 k b at_ ((b.take (at_ + 1 + b.getD at_.toNat 0).toNat).drop (at_ + 1).toNat) j = some true := by
  have hc := Bs_get hB at_.toNat
  generalize b.getD at_.toNat 0 = c at *
  have hlen : ((b.take (at_ + 1 + c).toNat).drop (at_ + 1).toNat).length = c.toNat := by rw [List.length_drop, List.length_take]; omega
  intro d
  induction d with
  | zero =>
    intro j k hj hk
    obtain ⟨k, rfl⟩ : ∃ z, k = z + 1 := ⟨k - 1, by omega⟩
    simp only [L04_CodecExact.l1]
    rw [if_neg (by omega), wakes_f _ (by omega)]
    rfl
  | succ d ih =>
    intro j k hj hk
    obtain ⟨k, rfl⟩ : ∃ z, k = z + 1 := ⟨k - 1, by omega⟩
    simp only [L04_CodecExact.l1]
    rw [if_pos (by omega), if_pos (by omega), w64 (at_ + 1) (by omega) (by omega), w64 _ (by omega) (by omega), if_pos (by omega), if_pos (by omega)]
    have e : at_ + 1 + (j : Int) = (((at_ + 1).toNat + j : Nat) : Int) := by omega
    have hx := Bs_get hB ((at_ + 1).toNat + j)
    rw [e, rd_nat, rd_nat, w64 (b.getD _ 0) (by omega) (by omega)]
    have e2 : ((b.take (at_ + 1 + c).toNat).drop (at_ + 1).toNat).getD j 0 = b.getD ((at_ + 1).toNat + j) 0 := by
      rw [List.getD_eq_getElem?_getD, List.getElem?_drop, List.getElem?_take_of_lt (by omega), ← List.getD_eq_getElem?_getD]
    rw [e2, if_pos rfl, wnext j (by omega)]
    exact ih (j + 1) k (by omega) (by omega)
/-- The list's part. -/
theorem ex_j8 (b : List Int) (at_ : Int) (hB : Bs b) (hb : b.length ≤ 600) (ha : -9223372036854775808 ≤ at_ ∧ at_ ≤ 9223372036854775807) (k : Nat) (hk : 800 < k) :
    L04_CodecExact.j8 k b at_ (if 0 ≤ at_ ∧ at_ < b.length ∧ at_ + 1 + b.getD at_.toNat 0 ≤ b.length then ((b.take (at_ + 1 + b.getD at_.toNat 0).toNat).drop (at_ + 1).toNat, at_ + 1 + b.getD at_.toNat 0, (0 : Int)) else ([], 0, 2)).1
      (if 0 ≤ at_ ∧ at_ < b.length ∧ at_ + 1 + b.getD at_.toNat 0 ≤ b.length then ((b.take (at_ + 1 + b.getD at_.toNat 0).toNat).drop (at_ + 1).toNat, at_ + 1 + b.getD at_.toNat 0, (0 : Int)) else ([], 0, 2)).2.1
      (if 0 ≤ at_ ∧ at_ < b.length ∧ at_ + 1 + b.getD at_.toNat 0 ≤ b.length then ((b.take (at_ + 1 + b.getD at_.toNat 0).toNat).drop (at_ + 1).toNat, at_ + 1 + b.getD at_.toNat 0, (0 : Int)) else ([], 0, 2)).2.2 false = some true := by
  obtain ⟨k, rfl⟩ : ∃ z, k = z + 3 := ⟨k - 3, by omega⟩
  simp only [L04_CodecExact.j8]
  rw [if_neg (by decide)]
  have no : ¬ (0 ≤ at_ ∧ at_ < b.length ∧ at_ + 1 + b.getD at_.toNat 0 ≤ b.length) → L04_CodecExact.j9 (k + 2) b at_ [] 0 2 true = some true := by
    intro _
    simp only [L04_CodecExact.j9, if_true]
    rw [wakes_f _ (by omega)]
    simp [wrap64]
  by_cases h1 : at_ < 0
  · have h : ¬ (0 ≤ at_ ∧ at_ < b.length ∧ at_ + 1 + b.getD at_.toNat 0 ≤ b.length) := by omega
    rw [if_pos h1]
    simp only [if_neg h]
    exact no h
  · rw [if_neg h1]
    by_cases h2 : at_ ≥ (b.length : Int)
    · have h : ¬ (0 ≤ at_ ∧ at_ < b.length ∧ at_ + 1 + b.getD at_.toNat 0 ≤ b.length) := by omega
      rw [if_pos h2]
      simp only [if_neg h]
      exact no h
    · rw [if_neg h2, if_pos (by omega), if_pos (by omega)]
      have hc := Bs_get hB at_.toNat
      have er : rd b at_ = b.getD at_.toNat 0 := rfl
      rw [er, w64 (b.getD _ 0) (by omega) (by omega), w64 (at_ + 1) (by omega) (by omega), rHere_f _ _ _ (by omega)]
      simp only [Option.bind_some]
      by_cases h3 : at_ + 1 + b.getD at_.toNat 0 ≤ b.length
      · have h : 0 ≤ at_ ∧ at_ < b.length ∧ at_ + 1 + b.getD at_.toNat 0 ≤ b.length := ⟨by omega, by omega, h3⟩
        have hlen : ((b.take (at_ + 1 + b.getD at_.toNat 0).toNat).drop (at_ + 1).toNat).length = (b.getD at_.toNat 0).toNat := by rw [List.length_drop, List.length_take]; omega
        simp only [if_pos h]
        rw [decide_eq_true (by omega)]
        simp only [L04_CodecExact.j9]
        rw [if_neg (by decide), if_pos trivial, if_pos (by omega), if_pos (by omega), er, w64 (b.getD _ 0) (by omega) (by omega), w64 (at_ + 1) (by omega) (by omega), w64 _ (by omega) (by omega), if_pos rfl]
        rw [show ((((b.take (at_ + 1 + b.getD at_.toNat 0).toNat).drop (at_ + 1).toNat).length : Int) != b.getD at_.toNat 0) = false from by rw [bne_eq_false_iff_eq]; omega]
        simp only [L04_CodecExact.j10]
        rw [if_neg (by decide)]
        exact ex_l1 b at_ hB hb h (b.getD at_.toNat 0).toNat 0 k (by omega) (by omega)
      · have h : ¬ (0 ≤ at_ ∧ at_ < b.length ∧ at_ + 1 + b.getD at_.toNat 0 ≤ b.length) := by omega
        simp only [if_neg h]
        rw [decide_eq_false (by omega)]
        exact no h
theorem Bs_cons_take {l : List Int} (j : Nat) (hj : j < l.length) : Bs (l.take (j + 1)) ↔ Bs (l.take j) ∧ 0 ≤ l.getD j 0 ∧ l.getD j 0 ≤ 255 := by
  rw [List.take_succ_eq_append_getElem hj, getD_eq l 0 j hj]
  constructor
  · intro h; exact ⟨fun x hx => h x (List.mem_append_left _ hx), h _ (List.mem_append_right _ (List.mem_singleton.2 rfl))⟩
  · rintro ⟨h1, h2⟩; exact Bs_app h1 (by intro x hx; simp at hx; subst hx; exact h2)
theorem modmap {l : List Int} (h : Bs l) : l.map (· % 256) = l := by
  refine List.ext_getElem (by simp) (fun i h1 h2 => ?_)
  have := h _ (List.getElem_mem h2)
  simp
  omega
theorem ex_l0 (b l : List Int) (at_ : Int) (hB : Bs b) (hb : b.length ≤ 600) (hl : l.length ≤ 300) (z : List Int) (g : Int) (hz : (z, g) = (if l.length > 255 then ([], 2) else if Bs l then (b ++ [(l.length : Int)] ++ l, 0) else ([], 1)))
    (ha : -9223372036854775808 ≤ at_ ∧ at_ ≤ 9223372036854775807) : ∀ (d j k : Nat), j + d = l.length → d + 900 < k →
    L04_CodecExact.l0 k b at_ l z g (if 0 ≤ at_ ∧ at_ < b.length ∧ at_ + 1 + b.getD at_.toNat 0 ≤ b.length then ((b.take (at_ + 1 + b.getD at_.toNat 0).toNat).drop (at_ + 1).toNat, at_ + 1 + b.getD at_.toNat 0, (0 : Int)) else ([], 0, 2)).1
      (if 0 ≤ at_ ∧ at_ < b.length ∧ at_ + 1 + b.getD at_.toNat 0 ≤ b.length then ((b.take (at_ + 1 + b.getD at_.toNat 0).toNat).drop (at_ + 1).toNat, at_ + 1 + b.getD at_.toNat 0, (0 : Int)) else ([], 0, 2)).2.1
      (if 0 ≤ at_ ∧ at_ < b.length ∧ at_ + 1 + b.getD at_.toNat 0 ≤ b.length then ((b.take (at_ + 1 + b.getD at_.toNat 0).toNat).drop (at_ + 1).toNat, at_ + 1 + b.getD at_.toNat 0, (0 : Int)) else ([], 0, 2)).2.2
      (if Bs (l.take j) then 0 else 1) (b ++ [(l.length : Int) % 256] ++ (l.take j).map (· % 256)) j = some true := by
  intro d
  induction d with
  | zero =>
    intro j k hj hk
    obtain ⟨k, rfl⟩ : ∃ z, k = z + 2 := ⟨k - 2, by omega⟩
    simp only [L04_CodecExact.l0]
    have et : l.take j = l := List.take_of_length_le (by omega)
    rw [if_neg (by omega), et]
    have j8 := ex_j8 b at_ hB hb ha k (by omega)
    by_cases h1 : l.length > 255
    · rw [if_pos h1] at hz
      injection hz with hz1 hz2
      subst hz1; subst hz2
      rw [if_pos (by omega)]
      simp only [L04_CodecExact.j7, if_true]
      rw [if_neg (by decide), show decide ((([] : List Int).length : Int) > 0) = false from rfl]
      exact j8
    · rw [if_neg h1] at hz
      rw [if_neg (by omega)]
      by_cases h2 : Bs l
      · rw [if_pos h2] at hz
        injection hz with hz1 hz2
        subst hz1; subst hz2
        simp only [if_pos h2, L04_CodecExact.j7, if_true]
        rw [modmap h2, show (l.length : Int) % 256 = l.length from by omega, Bytes_f _ _ _ (by simp; omega) (by simp; omega)]
        simp only [Option.bind_some, decide_true, if_true]
        exact j8
      · rw [if_neg h2] at hz
        injection hz with hz1 hz2
        subst hz1; subst hz2
        simp only [if_neg h2, L04_CodecExact.j7, if_true]
        rw [if_neg (by decide), show decide ((([] : List Int).length : Int) > 0) = false from rfl]
        exact j8
  | succ d ih =>
    intro j k hj hk
    obtain ⟨k, rfl⟩ : ∃ z, k = z + 1 := ⟨k - 1, by omega⟩
    simp only [L04_CodecExact.l0]
    rw [if_pos (by omega), if_pos (by omega), if_pos (by simp; omega), rd_nat, rIn_f, wnext j (by omega)]
    simp only [Option.bind_some, decide_eq_true_eq]
    have e : b ++ [(l.length : Int) % 256] ++ (l.take j).map (· % 256) ++ [l.getD j 0 % 256] = b ++ [(l.length : Int) % 256] ++ (l.take (j + 1)).map (· % 256) := by
      rw [List.take_succ_eq_append_getElem (by omega), getD_eq l 0 j (by omega), List.map_append]
      simp only [List.map_cons, List.map_nil, List.append_assoc]
    have h := ih (j + 1) k (by omega) (by omega)
    rw [e]
    have hbs := Bs_cons_take (l := l) j (by omega)
    by_cases h1 : 0 ≤ l.getD j 0 ∧ l.getD j 0 ≤ 255
    · rw [if_pos h1]
      by_cases h2 : Bs (l.take j)
      · rw [if_pos (hbs.2 ⟨h2, h1⟩)] at h
        rw [if_pos h2]
        exact h
      · rw [if_neg (fun z => h2 (hbs.1 z).1)] at h
        rw [if_neg h2]
        exact h
    · rw [if_neg h1]
      rw [if_neg (fun z => h1 (hbs.1 z).2)] at h
      exact h
theorem CodecExact : L04_CodecExact.Pure := by
  intro b s n at_ l hb0 hs0 hn0 ha0 hl0
  have hB : Bs b := fun x hx => u8b (hb0.2 x hx)
  have ha := i64b ha0
  refine ⟨3000, ?_⟩
  unfold L04_CodecExact.f
  by_cases h1 : (b.length : Int) > 600
  · rw [if_pos h1]; simp only [L04_CodecExact.j0, if_true]
  · rw [if_neg h1]
    by_cases h2 : (l.length : Int) > 300
    · rw [decide_eq_true h2]; simp only [L04_CodecExact.j0, if_true]
    · rw [decide_eq_false h2]
      simp only [L04_CodecExact.j0]
      rw [if_neg (by decide), Twin_f b (by omega), TwinInts_f l (by omega)]
      simp only [Option.bind_some]
      rw [Put_f b s n (by omega) _ (by omega), Get_f b at_ s hB (by omega) _ (by omega), PutList_f b l (by omega) (by omega) _ (by omega), GetList_f b at_ hB (by omega) ha _ (by omega), Bytes_f b b _ (by omega) (by omega), Ints_f l l _ (by omega) (by omega)]
      simp only [Option.bind_some, decide_true, if_true, Bool.not_true, L04_CodecExact.j1]
      rw [if_neg (by decide), rSize_f]
      simp only [Option.bind_some, decide_eq_true_eq]
      -- from j5 on
      have J5 : ∀ k, 1500 < k → L04_CodecExact.j5 k b at_ l (if l.length > 255 then ([], 2) else if Bs l then (b ++ [(l.length : Int)] ++ l, (0 : Int)) else ([], 1)).1 (if l.length > 255 then ([], 2) else if Bs l then (b ++ [(l.length : Int)] ++ l, (0 : Int)) else ([], 1)).2
          (if 0 ≤ at_ ∧ at_ < b.length ∧ at_ + 1 + b.getD at_.toNat 0 ≤ b.length then ((b.take (at_ + 1 + b.getD at_.toNat 0).toNat).drop (at_ + 1).toNat, at_ + 1 + b.getD at_.toNat 0, (0 : Int)) else ([], 0, 2)).1
          (if 0 ≤ at_ ∧ at_ < b.length ∧ at_ + 1 + b.getD at_.toNat 0 ≤ b.length then ((b.take (at_ + 1 + b.getD at_.toNat 0).toNat).drop (at_ + 1).toNat, at_ + 1 + b.getD at_.toNat 0, (0 : Int)) else ([], 0, 2)).2.1
          (if 0 ≤ at_ ∧ at_ < b.length ∧ at_ + 1 + b.getD at_.toNat 0 ≤ b.length then ((b.take (at_ + 1 + b.getD at_.toNat 0).toNat).drop (at_ + 1).toNat, at_ + 1 + b.getD at_.toNat 0, (0 : Int)) else ([], 0, 2)).2.2 false = some true := by
        intro k hk
        obtain ⟨k, rfl⟩ : ∃ z, k = z + 1 := ⟨k - 1, by omega⟩
        simp only [L04_CodecExact.j5]
        rw [if_neg (by decide), Twin_f b (by omega)]
        simp only [Option.bind_some]
        rw [if_pos (by omega)]
        have hn : Bs ([] : List Int) := fun x hx => by cases hx
        obtain ⟨zg, hzg⟩ : ∃ zg, zg = (if l.length > 255 then ([], 2) else if Bs l then (b ++ [(l.length : Int)] ++ l, (0 : Int)) else ([], 1)) := ⟨_, rfl⟩
        rw [← hzg]
        have h := ex_l0 b l at_ hB (by omega) (by omega) zg.1 zg.2 hzg ha l.length 0 k (by omega) (by omega)
        rw [List.take_zero, if_pos hn, List.map_nil, List.append_nil] at h
        exact h
      -- from j3 on
      have J3 : ∀ k, 1600 < k → L04_CodecExact.j3 k b s at_ l (if OkSize s then (if 0 ≤ at_ ∧ at_ ≤ b.length - s then (if be ((b.take (at_ + s).toNat).drop at_.toNat) ≥ 4611686018427387904 then ((0 : Int), (0 : Int), (1 : Int)) else (be ((b.take (at_ + s).toNat).drop at_.toNat), at_ + s, 0)) else (0, 0, 2)) else (0, 0, 1)).1
          (if OkSize s then (if 0 ≤ at_ ∧ at_ ≤ b.length - s then (if be ((b.take (at_ + s).toNat).drop at_.toNat) ≥ 4611686018427387904 then ((0 : Int), (0 : Int), (1 : Int)) else (be ((b.take (at_ + s).toNat).drop at_.toNat), at_ + s, 0)) else (0, 0, 2)) else (0, 0, 1)).2.1
          (if OkSize s then (if 0 ≤ at_ ∧ at_ ≤ b.length - s then (if be ((b.take (at_ + s).toNat).drop at_.toNat) ≥ 4611686018427387904 then ((0 : Int), (0 : Int), (1 : Int)) else (be ((b.take (at_ + s).toNat).drop at_.toNat), at_ + s, 0)) else (0, 0, 2)) else (0, 0, 1)).2.2
          (if l.length > 255 then ([], 2) else if Bs l then (b ++ [(l.length : Int)] ++ l, (0 : Int)) else ([], 1)).1 (if l.length > 255 then ([], 2) else if Bs l then (b ++ [(l.length : Int)] ++ l, (0 : Int)) else ([], 1)).2
          (if 0 ≤ at_ ∧ at_ < b.length ∧ at_ + 1 + b.getD at_.toNat 0 ≤ b.length then ((b.take (at_ + 1 + b.getD at_.toNat 0).toNat).drop (at_ + 1).toNat, at_ + 1 + b.getD at_.toNat 0, (0 : Int)) else ([], 0, 2)).1
          (if 0 ≤ at_ ∧ at_ < b.length ∧ at_ + 1 + b.getD at_.toNat 0 ≤ b.length then ((b.take (at_ + 1 + b.getD at_.toNat 0).toNat).drop (at_ + 1).toNat, at_ + 1 + b.getD at_.toNat 0, (0 : Int)) else ([], 0, 2)).2.1
          (if 0 ≤ at_ ∧ at_ < b.length ∧ at_ + 1 + b.getD at_.toNat 0 ≤ b.length then ((b.take (at_ + 1 + b.getD at_.toNat 0).toNat).drop (at_ + 1).toNat, at_ + 1 + b.getD at_.toNat 0, (0 : Int)) else ([], 0, 2)).2.2 = some true := by
        intro k hk
        obtain ⟨k, rfl⟩ : ∃ z, k = z + 2 := ⟨k - 2, by omega⟩
        have hJ := J5 k (by omega)
        generalize (if l.length > 255 then ([], 2) else if Bs l then (b ++ [(l.length : Int)] ++ l, (0 : Int)) else ([], 1)) = zg at hJ ⊢
        generalize (if 0 ≤ at_ ∧ at_ < b.length ∧ at_ + 1 + b.getD at_.toNat 0 ≤ b.length then ((b.take (at_ + 1 + b.getD at_.toNat 0).toNat).drop (at_ + 1).toNat, at_ + 1 + b.getD at_.toNat 0, (0 : Int)) else ([], 0, 2)) = gl at hJ ⊢
        simp only [L04_CodecExact.j3]
        rw [rSize_f]
        simp only [Option.bind_some, decide_eq_true_eq]
        by_cases hs : OkSize s
        · have hsz := sz_b hs
          simp only [if_pos hs]
          rw [rHere_f _ _ _ (by omega)]
          simp only [Option.bind_some, decide_eq_true_eq]
          by_cases hw : 0 ≤ at_ ∧ at_ ≤ b.length - s
          · simp only [if_pos hw]
            rw [if_pos (by omega), if_pos (by omega), w64 _ (by omega) (by omega), if_pos (by omega), if_pos (by omega), rNumber_f _ (Bs_drop (Bs_take hB _) _) (by rw [List.length_drop, List.length_take]; omega) _ (by omega)]
            simp only [Option.bind_some]
            by_cases hv : be ((b.take (at_ + s).toNat).drop at_.toNat) ≥ 4611686018427387904
            · simp only [if_pos hv]
              rw [if_neg (by decide)]
              simp only [L04_CodecExact.j4, if_true, bne_self_eq_false]
              exact hJ
            · simp only [if_neg hv, if_true, L04_CodecExact.j4, bne_self_eq_false]
              exact hJ
          · simp only [if_neg hw]
            rw [if_neg (by omega)]
            simp only [L04_CodecExact.j4, if_true, bne_self_eq_false]
            exact hJ
        · simp only [if_neg hs, L04_CodecExact.j4, if_true, bne_self_eq_false]
          exact hJ
      have HJ := J3 2997 (by omega)
      generalize (if OkSize s then (if 0 ≤ at_ ∧ at_ ≤ b.length - s then (if be ((b.take (at_ + s).toNat).drop at_.toNat) ≥ 4611686018427387904 then ((0 : Int), (0 : Int), (1 : Int)) else (be ((b.take (at_ + s).toNat).drop at_.toNat), at_ + s, 0)) else (0, 0, 2)) else (0, 0, 1)) = gt at HJ ⊢
      generalize (if l.length > 255 then ([], 2) else if Bs l then (b ++ [(l.length : Int)] ++ l, (0 : Int)) else ([], 1)) = zg at HJ ⊢
      generalize (if 0 ≤ at_ ∧ at_ < b.length ∧ at_ + 1 + b.getD at_.toNat 0 ≤ b.length then ((b.take (at_ + 1 + b.getD at_.toNat 0).toNat).drop (at_ + 1).toNat, at_ + 1 + b.getD at_.toNat 0, (0 : Int)) else ([], 0, 2)) = gl at HJ ⊢
      by_cases hs : OkSize s
      · rw [if_pos hs, rFits_f s n hs]
        simp only [Option.bind_some, L04_CodecExact.j2]
        by_cases hf : Fits s n
        · rw [if_neg (by simp [hf]), if_pos (show OkSize s ∧ Fits s n from ⟨hs, hf⟩)]
          have hsz := sz_b hs
          simp only [if_true]
          rw [Twin_f b (by omega), rBytes_f s n (by omega) ⟨hf.1, by have := hf.2.1; omega⟩ _ (by omega)]
          simp only [Option.bind_some]
          rw [if_pos (by rw [digs_length]; omega), Bytes_f _ _ _ (by rw [List.length_append, digs_length]; omega) (by rw [List.length_append, digs_length]; omega)]
          simp only [Option.bind_some, decide_true, if_true]
          exact HJ
        · rw [if_pos (by simp [hf]), if_neg (show ¬ (OkSize s ∧ Fits s n) from fun h => hf h.2)]
          simp only [if_true]
          rw [if_neg (by decide)]
          exact HJ
      · rw [if_neg hs]
        simp only [L04_CodecExact.j2, if_true]
        rw [if_neg (show ¬ (OkSize s ∧ Fits s n) from fun h => hs h.1)]
        simp only [if_true]
        rw [if_neg (by decide)]
        exact HJ
end Go.Proofs.Ytmjfjjnoconmoaa.Pure
