import Derived.Test.YtbnommmnflmaaaaKN
set_option linter.unusedSimpArgs false
set_option linter.unusedVariables false
namespace Go.Proofs.Ytbnommmnflmaaaa.KA
open Go Go.Proofs.YtbnommmnflmaaaaR Go.Proofs.Ytbnommmnflmaaaa.IK
set_option maxRecDepth 100000
set_option maxHeartbeats 4000000
theorem chn_set {t : Int} {x : Kd} (hi : inc2 x = true) : ∀ {l : List Kd} {p : Int} {k : Nat}, chn t p l = true → (h : k < l.length) → l[k].n = x.n → chn t p (l.set k x) = true
  | [], p, k, _, h, _ => by simp at h
  | y :: r, p, 0, hc, h, hk => by
    simp only [chn, Bool.and_eq_true] at hc
    have hy : y.n = x.n := by simpa using hk
    simp only [List.set_cons_zero, chn, ← hy, hc.1.1, hc.2, hi, Bool.and_true]
  | y :: r, p, k + 1, hc, h, hk => by
    simp only [chn, Bool.and_eq_true] at hc
    simp only [List.set_cons_succ, chn, hc.1.1, hc.1.2, chn_set hi hc.2 (by simpa using h) (by simpa using hk), Bool.and_true]
theorem chn_take {t : Int} : ∀ {l : List Kd} {p : Int} {k : Nat}, chn t p l = true → chn t p (l.take k) = true
  | [], p, k, _ => by simp [chn]
  | y :: r, p, 0, _ => by simp [chn]
  | y :: r, p, k + 1, h => by
    simp only [chn, Bool.and_eq_true] at h
    simp only [List.take_succ_cons, chn, h.1.1, h.1.2, chn_take h.2, Bool.and_true]
/-- Whoever asked: children are among them, none of them is nearer than the first child. -/
structure Cap (t s c : Int) (asked : Int → Bool) (l : List Kd) : Prop where
  ok : kOK t s c l = true
  sub : ∀ y ∈ l, asked y.n = true
  near : ∀ m, asked m = true → nr t s m = true → ∃ y r, l = y :: r ∧ (y.n = m ∨ nr t y.n m = true)
theorem insP_head {t : Int} {x : Kd} {l : List Kd} : ∃ y r, insP t x l = y :: r ∧ ((y = x) ∨ (nr t y.n x.n = true ∧ ∃ r', l = y :: r')) := by
  cases l with
  | nil => exact ⟨x, [], rfl, .inl rfl⟩
  | cons y r =>
    cases h : nr t y.n x.n with
    | true => exact ⟨y, insP t x r, insP_t h, .inr ⟨h, r, rfl⟩⟩
    | false => exact ⟨x, y :: r, insP_f h, .inl rfl⟩
theorem near_ins {t s n inc : Int} {asked : Int → Bool} {l : List Kd} (ht : nr t s n = true) (hall : ∀ y ∈ l, nr t s y.n = true) (hne : ∀ y ∈ l, y.n ≠ n)
    (hnear : ∀ m, asked m = true → nr t s m = true → ∃ y r, l = y :: r ∧ (y.n = m ∨ nr t y.n m = true)) :
    ∀ m, (asked m || decide (m = n)) = true → nr t s m = true → ∃ y r, insP t ⟨n, inc, 0⟩ l = y :: r ∧ (y.n = m ∨ nr t y.n m = true) := by
  intro m hm hs
  rw [Bool.or_eq_true, decide_eq_true_eq] at hm
  obtain ⟨y, r, h1, h2⟩ := insP_head (t := t) (x := ⟨n, inc, 0⟩) (l := l)
  refine ⟨y, r, h1, ?_⟩
  rcases hm with hm | rfl
  · obtain ⟨y0, r0, e0, e1⟩ := hnear m hm hs
    rcases h2 with rfl | ⟨h2, r', h3⟩
    · right
      have hy0 := hall y0 (by rw [e0]; simp)
      have hn0 : nr t y0.n n = false := by
        cases hc : nr t y0.n n with
        | false => rfl
        | true =>
          rw [e0, insP_t hc] at h1
          have := (List.cons.inj h1).1
          exact absurd (by rw [this]) (hne y0 (by rw [e0]; simp))
      have hx := nr_tot (nr_t ht).1 (nr_t hy0).2.2.1 (nr_t ht).2.2.1 (hne y0 (by rw [e0]; simp)) hn0
      rcases e1 with e1 | e1
      · rw [← e1]; exact hx
      · exact nr_trans hx e1
    · rw [e0] at h3
      have := (List.cons.inj h3).1
      rw [← this]
      exact e1
  · rcases h2 with rfl | ⟨h2, _⟩
    · exact .inl rfl
    · exact .inr h2
theorem chn_last {t : Int} {z : Kd} : ∀ {l : List Kd} {p : Int}, chn t p (l ++ [z]) = true → ∀ u ∈ l, nr t u.n z.n = true
  | [], p, _, u, hu => by simp at hu
  | y :: r, p, h, u, hu => by
    simp only [List.cons_append, chn, Bool.and_eq_true] at h
    rcases List.mem_cons.1 hu with e | e
    · rw [e]
      exact chn_gt h.2 z (by simp)
    · exact chn_last h.2 u e
theorem has_insP {t n inc : Int} {l : List Kd} : hasN (insP t ⟨n, inc, 0⟩ l) n = true := has_of (y := ⟨n, inc, 0⟩) (insP_mem.2 (.inl rfl))
theorem cap_step {t s c n inc : Int} {asked : Int → Bool} {l : List Kd} (h : Cap t s c asked l) (hn : nr t s n = true) (hi : inB inc 1 1073741824 = true) :
    ∃ m who to, askT t c l n inc = (m, who, to, 0) ∧ Cap t s c (fun z => asked z || decide (z = n)) m ∧ ((who = 0 ∧ to = 0 ∧ hasN m n = true) ∨ (1 ≤ who ∧ who ≤ 8 ∧ 1 ≤ to ∧ to ≤ 8 ∧ nr t (to - 1) (who - 1) = true ∧ hasN m (who - 1) = false ∧ (who = n + 1 → m = l))) := by
  have hok := kOK_t h.ok
  have hx2 : inc2 ⟨n, inc, 0⟩ = true := by simp [inc2, hi]; simp [inB]
  have hall : ∀ y ∈ l, nr t s y.n = true := chn_gt hok.2.2.2.2.2
  have hnb := okN_b (nr_t hn).2.2.1
  unfold askT
  cases hh : hasN l n with
  | true =>
    obtain ⟨k, k1, k2, k3, k4⟩ := ix_some (Int.le_refl 0) (show l.any (fun y => decide (y.n = n)) = true from hh)
    rw [Int.zero_add] at k1
    have k3' : l[k].n = n := by simpa using k3
    refine ⟨l.set k ⟨n, inc, 0⟩, 0, 0, by simp only [if_true, k1, Int.toNat_natCast], ⟨?_, ?_, ?_⟩, .inl ⟨rfl, rfl, ?_⟩⟩
    · exact kOK_of hok.1 hok.2.1 ⟨hok.2.2.1, hok.2.2.2.1⟩ (by rw [List.length_set]; exact hok.2.2.2.2.1) (chn_set hx2 hok.2.2.2.2.2 k2 k3')
    · intro y hy
      rcases List.mem_or_eq_of_mem_set hy with e | e
      · simp [h.sub y e]
      · simp [e]
    · intro m hm hs
      rw [Bool.or_eq_true, decide_eq_true_eq] at hm
      have hm' : asked m = true := by
        rcases hm with e | e
        · exact e
        · rw [e, ← k3']; exact h.sub _ (List.getElem_mem _)
      obtain ⟨y, r, e1, e2⟩ := h.near m hm' hs
      subst e1
      cases k with
      | zero =>
        have k5 : y.n = n := by simpa using k3'
        exact ⟨⟨n, inc, 0⟩, r, rfl, by rw [k5] at e2; exact e2⟩
      | succ k => exact ⟨y, r.set k ⟨n, inc, 0⟩, rfl, e2⟩
    · have : (⟨n, inc, 0⟩ : Kd) ∈ l.set k ⟨n, inc, 0⟩ := List.mem_set k2 _
      exact has_of this
  | false =>
  have hne := hasN_f hh
  simp only [Bool.false_eq_true, if_false]
  by_cases hroom : (l.length : Int) < c
  · rw [if_pos hroom]
    refine ⟨_, 0, 0, rfl, ⟨?_, ?_, near_ins hn hall hne h.near⟩, .inl ⟨rfl, rfl, has_insP⟩⟩
    · exact kOK_of hok.1 hok.2.1 ⟨hok.2.2.1, hok.2.2.2.1⟩ (by rw [insP_len]; omega) (chn_insP hx2 hok.2.2.2.2.2 hn hne)
    · intro y hy
      rcases insP_mem.1 hy with e | e
      · simp [e]
      · simp [h.sub y e]
  · rw [if_neg hroom]
    cases l with
    | nil => simp at hroom; omega
    | cons y r =>
      have hyn := hall y (by simp)
      have hyb := okN_b (nr_t hyn).2.2.1
      (try dsimp only)
      cases hf : nr t y.n n with
      | true =>
        rw [if_pos rfl]
        refine ⟨_, _, _, rfl, ⟨h.ok, fun z hz => by simp [h.sub z hz], fun m hm hs => ?_⟩, .inr ⟨by omega, by omega, by omega, by omega, ?_, ?_, fun _ => rfl⟩⟩
        · rw [Bool.or_eq_true, decide_eq_true_eq] at hm
          rcases hm with e | e
          · exact h.near m e hs
          · exact ⟨y, r, rfl, .inr (by rw [e]; exact hf)⟩
        · rw [Int.add_sub_cancel, Int.add_sub_cancel]; exact hf
        · rw [Int.add_sub_cancel]; exact hh
      | false =>
        have hx := nr_tot (nr_t hn).1 (nr_t hyn).2.2.1 (nr_t hn).2.2.1 (hne y (by simp)) hf
        rw [if_neg (by decide)]
        obtain ⟨z, hz⟩ : ∃ z, z = (y :: r)[r.length]'(by simp) := ⟨_, rfl⟩
        rw [← hz]
        have hzm : z ∈ y :: r := by rw [hz]; exact List.getElem_mem _
        have hzb := okN_b (nr_t (hall z hzm)).2.2.1
        have hsplit : (y :: r).take r.length ++ [z] = y :: r := by
          have h5 := take_s (l := y :: r) (i := r.length) (by simp)
          rw [List.take_of_length_le (by simp)] at h5
          rw [hz]
          exact h5.symm
        have hcl : chn t s ((y :: r).take r.length ++ [z]) = true := by rw [hsplit]; exact hok.2.2.2.2.2
        have hlt := chn_last hcl
        have hins : insP t ⟨n, inc, 0⟩ ((y :: r).take r.length) = ⟨n, inc, 0⟩ :: (y :: r).take r.length := by
          cases r with
          | nil => rfl
          | cons a b => exact insP_f hf
        have hnz : nr t n z.n = true := by
          rcases List.mem_cons.1 hzm with e | e
          · rw [e]; exact hx
          · have h6 := hok.2.2.2.2.2
            simp only [chn, Bool.and_eq_true] at h6
            exact nr_trans hx (chn_gt h6.2 z e)
        refine ⟨_, _, _, rfl, ⟨?_, ?_, ?_⟩, .inr ⟨by omega, by omega, by omega, by omega, ?_, ?_, fun e => ?_⟩⟩
        · refine kOK_of hok.1 hok.2.1 ⟨hok.2.2.1, hok.2.2.2.1⟩ ?_ (chn_insP hx2 (chn_take hok.2.2.2.2.2) hn fun u hu => hne u (List.mem_of_mem_take hu))
          have := hok.2.2.2.2.1
          rw [insP_len, List.length_take]
          simp only [List.length_cons] at this ⊢
          omega
        · intro u hu
          rcases insP_mem.1 hu with e | e
          · simp [e]
          · simp [h.sub u (List.mem_of_mem_take e)]
        · intro m hm hs
          rw [hins]
          refine ⟨_, _, rfl, ?_⟩
          rw [Bool.or_eq_true, decide_eq_true_eq] at hm
          rcases hm with e | e
          · obtain ⟨y0, r0, e0, e1⟩ := h.near m e hs
            cases e0
            rcases e1 with e1 | e1
            · exact .inr (by rw [← e1]; exact hx)
            · exact .inr (nr_trans hx e1)
          · exact .inl e.symm
        · rw [Int.add_sub_cancel, Int.add_sub_cancel]; exact hnz
        · rw [Int.add_sub_cancel, hins]
          unfold hasN
          rw [List.any_cons, Bool.or_eq_false_iff]
          refine ⟨by simpa using nr_ne hnz, ?_⟩
          rw [List.any_eq_false]
          intro u hu hc
          exact nr_ne (hlt u hu) (by simpa using hc)
        · exact absurd (show z.n = n by omega) (hne z hzm)
end Go.Proofs.Ytbnommmnflmaaaa.KA
