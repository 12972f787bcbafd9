/- The law BagFull, over numbers and lists. -/
import Derived.Test.YtfljapcnkhjmgaaPBx4
import Derived.Test.YtfljapcnkhjmgaaBagLib
namespace Go.Proofs.Ytfljapcnkhjmgaa.Pure
open Go.RowKit Go.Proofs.Ytfljapcnkhjmgaa.PB Go.Proofs.Ytfljapcnkhjmgaa.BagLib Go.Proofs.YtfljapcnkhjmgaaB Go.Proofs.YtfljapcnkhjmgaaW.PrintWords Go.Proofs.YtfljapcnkhjmgaaW.PrintLast Go.Proofs.YtfljapcnkhjmgaaW.PrintMore
open Classical
set_option linter.unusedVariables false
set_option linter.unusedSimpArgs false

theorem full_l1 (tt : Int) (ht : 0 ≤ tt ∧ tt < 8) (n : Nat) (hn : n < 4) : ∀ (d i k : Nat) (l : List S48), i + d = n → l.length + d = 300 → All l → d + 1000 < k → L08_BagFull.l1 k (n : Int) l (i : Int) tt = some true := by
  intro d
  have hf : Okf ⟨tt, []⟩ := ⟨ht.1, ht.2, by simp⟩
  induction d with
  | zero =>
    intro i k l hi hl ha hk
    obtain ⟨k, rfl⟩ : ∃ m, k = m + 1 := ⟨k - 1, by omega⟩
    have hc : chk l = 0 := chk_0.2 ⟨by omega, ha⟩
    have h7 : has l 7 = 0 := has_0.2 ⟨by omega, ha, by omega, by omega⟩
    have h0 : has l 0 = 0 := has_0.2 ⟨by omega, ha, by omega, by omega⟩
    have p1 : bag_Put.f k l tt [] = _ := Put_f l ⟨tt, []⟩ (by omega) k (by omega)
    rw [if_pos hc, if_pos hf, if_pos (by omega)] at p1
    have hr : All (l.take (7 : Int).toNat ++ l.drop (7 + 1 : Int).toNat) := All_app (All_take ha _) (All_drop ha _)
    have hrl : (l.take (7 : Int).toNat ++ l.drop (7 + 1 : Int).toNat).length = 299 := by
      rw [List.length_append, List.length_take, List.length_drop, show (7 : Int).toNat = 7 from rfl, show (7 + 1 : Int).toNat = 8 from rfl]; omega
    have p2 : bag_Put.f k (l.take (7 : Int).toNat ++ l.drop (7 + 1 : Int).toNat) tt [] = _ := Put_f _ ⟨tt, []⟩ (by omega) k (by omega)
    rw [if_pos (chk_0.2 ⟨by omega, hr⟩), if_pos hf, if_neg (by omega)] at p2
    rw [L08_BagFull.l1.eq_2, if_neg (by omega), p1, Option.bind_some, Twice_f l 0 (by omega) k (by omega), if_pos h0, if_pos (by omega), Option.bind_some, Take_f l 7 (by omega) k (by omega), if_pos h7, Option.bind_some]
    dsimp only
    rw [p2, Option.bind_some, if_pos rfl, if_pos rfl, if_pos rfl, if_pos rfl, if_pos (by dsimp only; rw [List.length_append, hrl]; rfl), wakes_f k (by omega)]
    rfl
  | succ d ih =>
    intro i k l hi hl ha hk
    obtain ⟨k, rfl⟩ : ∃ m, k = m + 1 := ⟨k - 1, by omega⟩
    have hc : chk l = 0 := chk_0.2 ⟨by omega, ha⟩
    have p1 : bag_Put.f k l tt [] = _ := Put_f l ⟨tt, []⟩ (by omega) k (by omega)
    rw [if_pos hc, if_pos hf, if_neg (by omega)] at p1
    rw [L08_BagFull.l1.eq_2, if_pos (by omega), p1, Option.bind_some]
    dsimp only
    have hL : (l ++ [(⟨tt, []⟩ : S48)]).length = l.length + 1 := by simp
    rw [if_pos rfl, hL, w64 _ (by omega) (by omega), if_pos (by omega), wnext i (by omega)]
    exact ih (i + 1) k _ (by omega) (by omega) (All_app ha (All_one hf)) (by omega)
theorem full_l0 (tt : Int) (ht : 0 ≤ tt ∧ tt < 8) (n : Nat) (hn : n < 4) : ∀ (d i k : Nat) (l : List S48), i + d + n = 300 → l.length = i → All l → d + 2000 < k → L08_BagFull.l0 k (n : Int) tt l (i : Int) = some true := by
  intro d
  induction d with
  | zero =>
    intro i k l hi hl ha hk
    obtain ⟨k, rfl⟩ : ∃ m, k = m + 1 := ⟨k - 1, by omega⟩
    rw [L08_BagFull.l0.eq_2, w64 (300 - n) (by omega) (by omega), if_neg (by omega)]
    exact full_l1 tt ht n hn n 0 k l (by omega) (by omega) ha (by omega)
  | succ d ih =>
    intro i k l hi hl ha hk
    obtain ⟨k, rfl⟩ : ∃ m, k = m + 1 := ⟨k - 1, by omega⟩
    rw [L08_BagFull.l0.eq_2, w64 (300 - n) (by omega) (by omega), if_pos (by omega), if_pos (by omega), w64 (tt + i) (by omega) (by omega), wnext i (by omega)]
    refine ih (i + 1) k _ (by omega) (by simp; omega) (All_app ha (All_one ⟨?_, ?_, by simp⟩)) (by omega)
    · exact Int.tmod_nonneg _ (by omega)
    · exact Int.tmod_lt_of_pos _ (by omega)
theorem BagFull : L08_BagFull.Pure := by
  intro a0 a1 h0 h1
  refine ⟨3000, ?_⟩
  unfold L08_BagFull.f
  have t0 := tmodb a0 4 (by omega)
  have t1 := tmodb a1 8 (by omega)
  rw [w64 (Int.tmod (IntKind.u64.wrap a0) 4) (by omega) (by omega), w64 (Int.tmod (IntKind.u64.wrap a1) 8) (by omega) (by omega)]
  generalize Int.tmod (IntKind.u64.wrap a0) 4 = n at t0 ⊢
  obtain ⟨m, rfl⟩ := Int.eq_ofNat_of_zero_le t0.1
  exact full_l0 _ t1 m (by omega) (300 - m) 0 3000 [] (by omega) rfl (by intro x hx; simp at hx) (by omega)
end Go.Proofs.Ytfljapcnkhjmgaa.Pure
