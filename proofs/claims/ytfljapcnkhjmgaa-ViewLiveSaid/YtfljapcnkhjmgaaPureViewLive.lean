/- The live ones rise, self is among them; each other one was heard; a tick takes nobody in: over numbers and lists. At most 20 peers; all else is any number. -/
import Derived.Test.YtfljapcnkhjmgaaPVx7
import Derived.Test.YtfljapcnkhjmgaaViewLib
namespace Go.Proofs.Ytfljapcnkhjmgaa.Pure
open Go.RowKit Go.Proofs.Ytfljapcnkhjmgaa.PV Go.Proofs.Ytfljapcnkhjmgaa.ViewLib Go.Proofs.YtfljapcnkhjmgaaB Go.Proofs.YtfljapcnkhjmgaaW.PrintWords Go.Proofs.YtfljapcnkhjmgaaW.PrintLast Go.Proofs.YtfljapcnkhjmgaaW.PrintMore
open Classical
set_option linter.unusedVariables false
set_option linter.unusedSimpArgs false

theorem live_sorted (l : List S42) (self : Int) : (live l self).Pairwise (· < ·) := by
  unfold live
  rw [List.pairwise_map]
  refine List.Pairwise.filter _ ?_
  refine List.Pairwise.imp ?_ (List.pairwise_lt_range' (s := 0) (n := l.length))
  intro a b h
  omega
theorem live_older (l : List S42) (self : Int) (hO : Ok l) : live (older l) self = (live l self).filter (fun x => isLive (older l) self x.toNat) := by
  unfold live
  rw [List.filter_map, older_length, List.filter_filter]
  congr 1
  refine List.filter_congr (fun j hj => ?_)
  have hj' := (List.mem_range'_1.1 hj).2
  have g : (older l).getD j z42 = old1 (l.getD j z42) := getD_map l z42 old1 j (by omega)
  have hr := hO.2 j (by omega)
  show isLive (older l) self j = (isLive (older l) self ((j : Int).toNat) && isLive l self j)
  rw [Int.toNat_natCast]
  by_cases h : isLive (older l) self j = true
  · rw [h]
    unfold isLive at h ⊢
    rw [decide_eq_true_eq, g] at h
    unfold old1 at h
    simp only [] at h
    rw [mn_eq] at h
    unfold Rt at hr
    rw [decide_eq_true (by omega)]
    rfl
  · rw [Bool.not_eq_true] at h
    rw [h]; rfl
theorem live_j3 (l : List S42) (self : Int) (ks js : List Int) (met : Bool) (at_ i k : Nat) (hi : i < ks.length) : L10_ViewLive.j3 (k + 1) l self ks js 0 met at_ i false =
    L10_ViewLive.l0 k l self ks js 0 (met || (ks.getD i 0 == self)) (if (at_ : Int) < js.length ∧ js.getD at_ 0 = ks.getD i 0 then wrap64 ((at_ : Int) + 1) else at_) (wrap64 ((i : Int) + 1)) := by
  have p1 : (0 : Int) ≤ i := by omega
  have p2 : (i : Int) < ks.length := by omega
  have p3 : (0 : Int) ≤ at_ := by omega
  rw [L10_ViewLive.j3.eq_2, if_neg (by decide)]
  cases met with
  | true =>
    rw [if_pos rfl, Bool.true_or]
    by_cases h1 : (at_ : Int) < js.length
    · rw [if_pos h1, if_pos p3, if_pos p1, if_pos p2, rd_nat, rd_nat]
      by_cases h2 : js.getD at_ 0 = ks.getD i 0
      · rw [if_pos h2, if_pos (show (at_ : Int) < js.length ∧ js.getD at_ 0 = ks.getD i 0 from ⟨h1, h2⟩)]
      · rw [if_neg h2, if_neg (show ¬ ((at_ : Int) < js.length ∧ js.getD at_ 0 = ks.getD i 0) from fun z => h2 z.2)]
    · rw [if_neg h1, if_neg (show ¬ ((at_ : Int) < js.length ∧ js.getD at_ 0 = ks.getD i 0) from fun z => h1 z.1)]
  | false =>
    rw [if_neg (by decide), Bool.false_or, if_pos p1, if_pos p2]
    by_cases h1 : (at_ : Int) < js.length
    · rw [if_pos h1, if_pos p3, rd_nat, rd_nat]
      by_cases h2 : js.getD at_ 0 = ks.getD i 0
      · rw [if_pos h2, if_pos (show (at_ : Int) < js.length ∧ js.getD at_ 0 = ks.getD i 0 from ⟨h1, h2⟩)]
      · rw [if_neg h2, if_neg (show ¬ ((at_ : Int) < js.length ∧ js.getD at_ 0 = ks.getD i 0) from fun z => h2 z.2)]
    · rw [if_neg h1, if_neg (show ¬ ((at_ : Int) < js.length ∧ js.getD at_ 0 = ks.getD i 0) from fun z => h1 z.1), rd_nat]
theorem live_l0 (l : List S42) (self : Int) (hO : Ok l) (hs : 0 ≤ self ∧ self < l.length) : ∀ (d i k : Nat) (met : Bool) (at_ : Nat), i + d = (live l self).length → d + d + 200 < k → met = decide (self ∈ (live l self).take i) → at_ = (((live l self).take i).filter (fun x => isLive (older l) self x.toNat)).length →
    L10_ViewLive.l0 k l self (live l self) (live (older l) self) 0 met at_ i = some true := by
  have hl := hO.1
  have lk := live_length l self
  have jl := live_length (older l) self
  rw [older_length] at jl
  have hj := live_older l self hO
  have hin : self ∈ live l self := mem_live.2 ⟨self.toNat, by omega, by unfold isLive; rw [decide_eq_true_eq]; omega, by omega⟩
  intro d
  induction d with
  | zero =>
    intro i k met at_ hi hk hm ha
    obtain ⟨k, rfl⟩ : ∃ m, k = m + 1 := ⟨k - 1, by omega⟩
    rw [List.take_of_length_le (by omega)] at hm ha
    rw [decide_eq_true hin] at hm
    simp only [L10_ViewLive.l0]
    rw [if_neg (by omega), hm, ha, ← hj, wakes_f _ (by omega)]
    simp
  | succ d ih =>
    intro i k met at_ hi hk hm ha
    obtain ⟨k, rfl⟩ : ∃ m, k = m + 2 := ⟨k - 2, by omega⟩
    have hik : i < (live l self).length := by omega
    have gi : (live l self).getD i 0 = (live l self)[i] := getD_eq _ 0 i hik
    obtain ⟨j, hj1, hj2, hj3⟩ := mem_live.1 (List.getElem_mem hik)
    rw [← gi] at hj3
    have ht := List.take_succ_eq_append_getElem hik
    have nx := ih (i + 1) k (met || ((live l self).getD i 0 == self)) (((live l self).take (i + 1)).filter (fun x => isLive (older l) self x.toNat)).length (by omega) (by omega)
      (by
        rw [hm, ht, ← gi]
        by_cases h1 : self ∈ (live l self).take i
        · rw [decide_eq_true h1, decide_eq_true (List.mem_append_left _ h1)]; rfl
        · rw [decide_eq_false h1, Bool.false_or]
          by_cases h2 : (live l self).getD i 0 = self
          · rw [decide_eq_true (List.mem_append_right _ (List.mem_singleton.2 h2.symm)), beq_iff_eq.2 h2]
          · rw [decide_eq_false (by rw [List.mem_append, List.mem_singleton]; exact fun z => z.elim h1 (fun w => h2 w.symm)), beq_eq_false_iff_ne.2 h2]) rfl
    have hstep : (if (at_ : Int) < (live (older l) self).length ∧ (live (older l) self).getD at_ 0 = (live l self).getD i 0 then wrap64 ((at_ : Int) + 1) else at_) = (((((live l self).take (i + 1)).filter (fun x => isLive (older l) self x.toNat)).length : Nat) : Int) := by
      have hk0 : live l self = (live l self).take i ++ (live l self)[i] :: (live l self).drop (i + 1) := by rw [← List.drop_eq_getElem_cons hik, List.take_append_drop]
      have hjs : live (older l) self = ((live l self).take i).filter (fun x => isLive (older l) self x.toNat) ++ ((live l self)[i] :: (live l self).drop (i + 1)).filter (fun x => isLive (older l) self x.toNat) := by
        rw [hj]
        conv => lhs; rw [hk0]
        rw [List.filter_append]
      rw [ht, List.filter_append, List.length_append, ← ha]
      by_cases hq : isLive (older l) self ((live l self)[i]).toNat = true
      · have e1 : [(live l self)[i]].filter (fun x => isLive (older l) self x.toNat) = [(live l self)[i]] := by simp [hq]
        have e2 : live (older l) self = ((live l self).take i).filter (fun x => isLive (older l) self x.toNat) ++ (live l self)[i] :: ((live l self).drop (i + 1)).filter (fun x => isLive (older l) self x.toNat) := by
          rw [hjs, List.filter_cons, if_pos hq]
        have e3 : at_ < (live (older l) self).length := by rw [e2, List.length_append, ← ha]; simp
        have e4 : (live (older l) self).getD at_ 0 = (live l self)[i] := by
          rw [getD_eq _ 0 _ e3]
          simp only [e2, ha]
          rw [List.getElem_append_right (Nat.le_refl _)]
          simp
        rw [if_pos ⟨by omega, by rw [e4, gi]⟩, e1, wnext at_ (by omega)]
        rfl
      · have e1 : [(live l self)[i]].filter (fun x => isLive (older l) self x.toNat) = [] := by simp [hq]
        rw [e1, if_neg]
        · rfl
        · rintro ⟨h1, h2⟩
          have h1' : at_ < (live (older l) self).length := by omega
          rw [getD_eq _ 0 _ h1', gi] at h2
          have hmem := List.getElem_mem h1'
          rw [h2, hj] at hmem
          exact hq (List.mem_filter.1 hmem).2
    rw [show ((i + 1 : Nat) : Int) = wrap64 ((i : Int) + 1) from (wnext i (by omega)).symm, ← hstep, ← live_j3 l self _ _ met at_ i k hik] at nx
    simp only [L10_ViewLive.l0]
    rw [if_pos (by omega), if_pos (by omega), rd_nat, if_neg (by omega), if_neg (by omega)]
    have last : (if (live l self).getD i 0 = self then L10_ViewLive.j3 (k + 1) l self (live l self) (live (older l) self) 0 met at_ i false
        else (if 0 ≤ (live l self).getD i 0 then (if (live l self).getD i 0 < (l.length : Int) then L10_ViewLive.j3 (k + 1) l self (live l self) (live (older l) self) 0 met at_ i ((rd_T42 l ((live l self).getD i 0)).f0 == 0) else none) else none)) = some true := by
      by_cases h : (live l self).getD i 0 = self
      · rw [if_pos h]; exact nx
      · rw [if_neg h, if_pos (by omega), if_pos (by omega)]
        have hb : ((rd_T42 l ((live l self).getD i 0)).f0 == 0) = false := by
          rw [hj3, p_rd]
          unfold isLive at hj2
          rw [decide_eq_true_eq] at hj2
          rw [beq_eq_false_iff_ne]
          omega
        rw [hb]
        exact nx
    by_cases hi0 : (i : Int) > 0
    · have hs2 := List.pairwise_iff_getElem.1 (live_sorted l self) (i - 1) i (by omega) hik (by omega)
      have gp : (live l self).getD (i - 1) 0 = (live l self)[i - 1] := getD_eq _ 0 (i - 1) (by omega)
      rw [if_pos hi0, w64 _ (by omega) (by omega), show (i : Int) - 1 = ((i - 1 : Nat) : Int) from by omega, if_pos (by omega), if_pos (by omega), rd_nat, if_neg (by omega)]
      exact last
    · rw [if_neg hi0]
      exact last
theorem ViewLive : L10_ViewLive.Pure := by
  intro l s0 hl0 hs0
  refine ⟨1000, ?_⟩
  unfold L10_ViewLive.f
  rw [Heavy_f]
  simp only [Option.bind_some, decide_eq_true_eq]
  by_cases h20 : (l.length : Int) > 20
  · rw [if_pos h20]; simp only [L10_ViewLive.j0, if_true]
  · rw [if_neg h20]
    by_cases h0 : (l.length : Int) = 0
    · rw [beq_iff_eq.2 h0]; simp only [L10_ViewLive.j0, if_true]
    · rw [beq_eq_false_iff_ne.2 h0]
      simp only [L10_ViewLive.j0]
      have hu : IntKind.u64.wrap (l.length : Int) = l.length := by rw [u64w]; omega
      rw [if_neg (by decide), hu, if_neg h0]
      have hs := tmodb s0 l.length (by omega)
      rw [w64 (Int.tmod (IntKind.u64.wrap s0) l.length) (by omega) (by omega)]
      generalize Int.tmod (IntKind.u64.wrap s0) l.length = self at hs ⊢
      rw [Live_f l self _ (by omega), Older_f l _ (by omega)]
      simp only [Option.bind_some]
      by_cases hO : Ok l
      · have hO2 := ok_older hO
        have ol := older_length l
        simp only [if_pos hO]
        rw [if_pos hs]
        simp only [if_true, L10_ViewLive.j1, bne_self_eq_false]
        rw [if_neg (show ¬ (false = true) by decide), Live_f (older l) self _ (by omega), if_pos hO2, if_pos (show 0 ≤ self ∧ self < ((older l).length : Int) by omega), Option.bind_some]
        have h := live_l0 l self hO hs (live l self).length 0 998 false 0 (by omega) (by have := live_length l self; omega) (by simp) (by simp)
        have e : ((0 : Nat) : Int) = 0 := rfl
        rw [e] at h
        exact h
      · simp only [if_neg hO]
        rw [if_neg (by decide)]
        simp only [L10_ViewLive.j1, if_true]
        rw [wakes_f _ (by omega)]
        rfl
end Go.Proofs.Ytfljapcnkhjmgaa.Pure
