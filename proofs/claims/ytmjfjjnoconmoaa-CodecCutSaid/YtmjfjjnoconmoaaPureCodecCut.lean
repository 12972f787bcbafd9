/- Bytes cut off within a number, within a list, say nothing; a list says how many there are: over numbers and lists, for all numbers. -/
import Derived.Test.YtmjfjjnoconmoaaPDx7
import Derived.Test.YtmjfjjnoconmoaaCodecLib
namespace Go.Proofs.Ytmjfjjnoconmoaa.Pure
open Go.RowKit Go.Proofs.Ytmjfjjnoconmoaa.PD Go.Proofs.Ytmjfjjnoconmoaa.CodecLib Go.Proofs.YtmjfjjnoconmoaaB Go.Proofs.YtmjfjjnoconmoaaW.PrintWords Go.Proofs.YtmjfjjnoconmoaaW.PrintLast Go.Proofs.YtmjfjjnoconmoaaW.PrintMore
open Classical
set_option linter.unusedVariables false

theorem sizes4 (a : Int) : OkSize (rd [1, 2, 4, 8] (wrap64 (Int.tmod (IntKind.u64.wrap a) 4))) ∧ 0 ≤ wrap64 (Int.tmod (IntKind.u64.wrap a) 4) ∧ wrap64 (Int.tmod (IntKind.u64.wrap a) 4) < 4 := by
  have := tmodb a 4 (by decide)
  rw [w64 _ (by omega) (by omega)]
  refine ⟨?_, this.1, this.2⟩
  generalize Int.tmod (IntKind.u64.wrap a) 4 = t at this
  have h : t = 0 ∨ t = 1 ∨ t = 2 ∨ t = 3 := by omega
  unfold OkSize
  rcases h with rfl | rfl | rfl | rfl <;> decide
def upto (m : Nat) : List Int := (List.range' 0 m).map (fun i : Nat => (i : Int))
theorem upto_Bs (m : Nat) (h : m ≤ 256) : Bs (upto m) := by
  intro x hx
  obtain ⟨i, hi, rfl⟩ := List.mem_map.1 hx
  have := List.mem_range'_1.1 hi
  omega
theorem CodecCut : L04_CodecCut.Pure := by
  intro a0 a1 a2 a3 h0 h1 h2 h3
  refine ⟨1000, ?_⟩
  obtain ⟨hs, hi0, hi4⟩ := sizes4 a0
  unfold L04_CodecCut.f
  simp only [Option.bind_some]
  rw [if_pos hi0, if_pos (by simpa using hi4)]
  generalize rd [1, 2, 4, 8] (wrap64 (Int.tmod (IntKind.u64.wrap a0) 4)) = s at hs
  have hn := tmodb a1 200 (by decide)
  rw [w64 (Int.tmod _ 200) (by omega) (by omega)]
  generalize Int.tmod (IntKind.u64.wrap a1) 200 = n at hn
  have hm := tmodb a2 30 (by decide)
  rw [w64 (Int.tmod _ 30) (by omega) (by omega)]
  generalize Int.tmod (IntKind.u64.wrap a2) 30 = m at hm
  have hb := sz_b hs
  have hf : Fits s n := by
    refine ⟨hn.1, by omega, ?_⟩
    rcases hs with rfl | rfl | rfl | rfl
    · right; show n < 256; omega
    · right; show n < 65536; omega
    · right; show n < 4294967296; omega
    · left; rfl
  rw [Put_f [] s n (by simp) _ (by omega), if_pos ⟨hs, hf⟩]
  simp only [Option.bind_some, List.nil_append]
  have bl : (digs s n).length = s.toNat := digs_length s n
  -- the loop that makes the list
  have key : ∀ (d j k : Nat), (j : Int) + d = m → d + 500 < k → L04_CodecCut.l0 k s n m a3 (digs s n) 0 (upto j) j = some true := by
    intro d
    induction d with
    | zero =>
      intro j k hj hk
      obtain ⟨k, rfl⟩ : ∃ z, k = z + 2 := ⟨k - 2, by omega⟩
      have ul : (upto j).length = j := by simp [upto]
      simp only [L04_CodecCut.l0]
      rw [if_neg (by omega), PutList_f _ _ (by omega) (by omega) _ (by omega), if_neg (by omega), if_pos (upto_Bs j (by omega))]
      simp only [Option.bind_some, if_true, L04_CodecCut.j1]
      have hL : (digs s n ++ [((upto j).length : Int)] ++ upto j).length = s.toNat + 1 + j := by simp only [List.length_append, digs_length, List.length_singleton, ul]
      have hY : Bs (digs s n ++ [((upto j).length : Int)] ++ upto j) := Bs_app (Bs_app (digs_Bs s n) (by intro x hx; simp at hx; omega)) (upto_Bs j (by omega))
      rw [hL, w64 (s + 1) (by omega) (by omega), w64 (s + 1 + m) (by omega) (by omega), show (((s.toNat + 1 + j : Nat) : Int) != s + 1 + m) = false from by rw [bne_eq_false_iff_eq]; omega]
      rw [if_neg (by decide)]
      have hw : IntKind.u64.wrap ((s.toNat + 1 + j : Nat) : Int) = ((s.toNat + 1 + j : Nat) : Int) := by rw [u64w]; omega
      rw [hw, if_neg (by omega)]
      have hc := tmodb a3 ((s.toNat + 1 + j : Nat) : Int) (by omega)
      rw [w64 (Int.tmod _ _) (by omega) (by omega)]
      generalize Int.tmod (IntKind.u64.wrap a3) ((s.toNat + 1 + j : Nat) : Int) = c at hc
      rw [if_pos hc.1, if_pos (by omega)]
      have hD : Bs ((digs s n ++ [((upto j).length : Int)] ++ upto j).take c.toNat) := Bs_take hY _
      have hDl : ((digs s n ++ [((upto j).length : Int)] ++ upto j).take c.toNat).length = c.toNat := by rw [List.length_take, hL]; omega
      rw [Get_f _ _ _ hD (by omega) _ (by omega), if_pos hs, GetList_f _ _ hD (by omega) (by omega) _ (by omega), wakes_f _ (by omega)]
      by_cases hcs : c < s
      · rw [if_neg (show ¬ ((0 : Int) ≤ 0 ∧ (0 : Int) ≤ _) by omega), if_neg (show ¬ (0 ≤ s ∧ s < _ ∧ _) by omega)]
        simp [hcs, wrap64]
      · have hcut : (((digs s n ++ [((upto j).length : Int)] ++ upto j).take c.toNat).take (0 + s).toNat).drop (0 : Int).toNat = digs s n := by
          rw [show (0 : Int).toNat = 0 from rfl, List.drop_zero, List.take_take, Nat.min_eq_left (by omega), show (0 + s).toNat = (digs s n).length from by omega, List.append_assoc, List.take_left]
        rw [if_pos (show (0 : Int) ≤ 0 ∧ (0 : Int) ≤ _ by omega), hcut, be_digs s n hs hf, if_neg (show ¬ n ≥ 4611686018427387904 by omega)]
        rw [if_neg (show ¬ (0 ≤ s ∧ s < _ ∧ _) by
          rintro ⟨_, q1, q2⟩
          have hg : ((digs s n ++ [((upto j).length : Int)] ++ upto j).take c.toNat).getD s.toNat 0 = j := by
            rw [getD_eq _ 0 _ (by omega), List.getElem_take, List.getElem_append_left (by simp only [List.length_append, digs_length, List.length_singleton]; omega), List.getElem_append_right (by omega)]
            simp [ul]
          rw [hg] at q2
          omega)]
        simp [hcs, wrap64]
    | succ d ih =>
      intro j k hj hk
      obtain ⟨k, rfl⟩ : ∃ z, k = z + 1 := ⟨k - 1, by omega⟩
      have ul : (upto j).length = j := by simp [upto]
      simp only [L04_CodecCut.l0]
      rw [if_pos (by omega), if_pos (by omega), wnext j (by omega)]
      have e : upto j ++ [(j : Int)] = upto (j + 1) := by
        unfold upto
        rw [List.range'_concat]
        simp
      rw [e]
      exact ih (j + 1) k (by omega) (by omega)
  exact key m.toNat 0 1000 (by omega) (by omega)
end Go.Proofs.Ytmjfjjnoconmoaa.Pure
