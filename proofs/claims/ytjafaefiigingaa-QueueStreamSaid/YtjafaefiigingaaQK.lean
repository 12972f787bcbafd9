import Derived.Test.YtjafaefiigingaaQH
set_option linter.unusedSimpArgs false
set_option linter.unusedVariables false
namespace Go.Proofs.Ytjafaefiigingaa.QA
open Go Go.Proofs.YtjafaefiigingaaR Go.Proofs.Ytjafaefiigingaa.IQ
set_option maxRecDepth 100000
/-- A loop, by an invariant. -/
theorem loopI {β : Type} {E : Nat → Model} {N : Nat} {L : List Nat} {a : C} (K : Option (Out × St) → β) (I : Nat → St → Prop) (z : β) (stop : Nat)
    (hround : ∀ i n s, i ≤ stop → I i s → (i < stop → ∀ st s', gcK L st = some s' → I (i + 1) s' → K (iter n ((C.keep L a).ev E N) st) = z) → K (goL E N (.keep L a) n (go E N none [.c a] s)) = z) :
    ∀ m i n st s, i + m = stop → m < n → gcK L st = some s → I i s → K (iter n ((C.keep L a).ev E N) st) = z := by
  intro m
  induction m with
  | zero =>
    intro i n st s him hn hk hI
    obtain ⟨n, rfl⟩ : ∃ k, n = k + 1 := ⟨n - 1, by omega⟩
    rw [iter_s, go_keep, hk, goK_s]
    exact hround i n s (by omega) hI (fun h => by omega)
  | succ m ih =>
    intro i n st s him hn hk hI
    obtain ⟨n, rfl⟩ : ∃ k, n = k + 1 := ⟨n - 1, by omega⟩
    rw [iter_s, go_keep, hk, goK_s]
    exact hround i n s (by omega) hI (fun h st' s' hk' hI' => ih (i + 1) n st' s' (by omega) (by omega) hk' hI')
/-- From a number on, up to a number: told one by one, or as gaps. -/
def chain (e : Int) : List Ev → Int → Int → Prop
  | [], s, n => s = n
  | x :: r, s, n => x.e = e ∧ x.s = s ∧ (x.k = 1 ∧ x.v = s.tmod 100 ∧ chain e r (s + 1) n ∨ x.k = 2 ∧ s ≤ x.l ∧ chain e r (x.l + 1) n)
theorem chain_le {e : Int} : ∀ {l : List Ev} {s n : Int}, chain e l s n → s ≤ n
  | [], s, n, h => by simp [chain] at h; omega
  | x :: r, s, n, h => by
    rcases h.2.2 with ⟨_, _, h3⟩ | ⟨_, h2, h3⟩
    · have := chain_le h3; omega
    · have := chain_le h3; omega
theorem chain_snoc {e : Int} {x : Ev} {n n' : Int} (he : x.e = e) (hs : x.s = n) (h : x.k = 1 ∧ x.v = n.tmod 100 ∧ n' = n + 1 ∨ x.k = 2 ∧ n ≤ x.l ∧ n' = x.l + 1) : ∀ {l : List Ev} {s : Int}, chain e l s n → chain e (l ++ [x]) s n'
  | [], s, hc => by
    simp only [chain] at hc
    subst hc
    refine ⟨he, hs, ?_⟩
    rcases h with ⟨h1, h2, h3⟩ | ⟨h1, h2, h3⟩
    · exact .inl ⟨h1, h2, h3.symm⟩
    · exact .inr ⟨h1, h2, h3.symm⟩
  | y :: r, s, hc => by
    refine ⟨hc.1, hc.2.1, ?_⟩
    rcases hc.2.2 with ⟨h1, h2, h3⟩ | ⟨h1, h2, h3⟩
    · exact .inl ⟨h1, h2, chain_snoc he hs h h3⟩
    · exact .inr ⟨h1, h2, chain_snoc he hs h h3⟩
theorem chain_set {e : Int} {y : Ev} {n : Int} (hk : y.k = 2) : ∀ {q : List Ev} {s : Int}, chain e (q ++ [y]) s n → y.e = e ∧ y.l + 1 = n ∧ y.s ≤ y.l ∧ chain e (q ++ [{ y with l := n }]) s (n + 1)
  | [], s, hc => by
    obtain ⟨h1, h2, h3⟩ := hc
    rcases h3 with ⟨h4, _⟩ | ⟨h4, h5, h6⟩
    · omega
    · simp only [chain] at h6
      refine ⟨h1, h6, by omega, h1, h2, .inr ⟨hk, ?_, rfl⟩⟩
      show s ≤ n
      omega
  | x :: r, s, hc => by
    obtain ⟨h1, h2, h3⟩ := hc
    rcases h3 with ⟨h4, h5, h6⟩ | ⟨h4, h5, h6⟩
    · obtain ⟨a, b, c, d⟩ := chain_set hk h6
      exact ⟨a, b, c, h1, h2, .inl ⟨h4, h5, d⟩⟩
    · obtain ⟨a, b, c, d⟩ := chain_set hk h6
      exact ⟨a, b, c, h1, h2, .inr ⟨h4, h5, d⟩⟩
theorem q_all {l : List Ev} {limit : Int} (h : qOK l limit = true) : (2 ≤ limit ∧ limit ≤ 32) ∧ (l.length : Int) ≤ limit ∧ (∀ x ∈ l, evOK x = true) ∧ ((l.length : Int) = limit → lastK l = 2) := by
  simp only [qOK, Bool.and_eq_true, decide_eq_true_eq, Bool.or_eq_true, Bool.not_eq_true', decide_eq_false_iff_not, List.all_eq_true] at h
  obtain ⟨⟨⟨⟨h1, h2⟩, h3⟩, h4⟩, h5⟩ := h
  refine ⟨⟨h1, h2⟩, h3, h4, fun h => ?_⟩
  rcases h5 with h5 | h5
  · exact absurd h h5
  · exact h5
theorem stream_put {e : Int} {l : List Ev} {L : Nat} {s n : Int} (he : epOK e = true) (hc : chain e l s n) (hq : qOK l (L : Int) = true) (hn : 1 ≤ n ∧ n ≤ 300) : ∃ l', putE l (L : Int) (D e n (n.tmod 100)) = (0, l') ∧ chain e l' s (n + 1) ∧ qOK l' (L : Int) = true ∧ l'.length ≤ L := by
  obtain ⟨h2, hl, ho, hk⟩ := q_all hq
  have ht : n.tmod 100 = n % 100 := Int.tmod_eq_emod_of_nonneg (by omega)
  have hx : evOK (D e n (n.tmod 100)) = true := ev_D he (by omega) (by omega)
  have hg : gapE (D e n (n.tmod 100)) = some (G e n n) := by simp [gapE]
  have ok' : ∀ y, evOK y = true → ∀ z ∈ l ++ [y], evOK z = true := fun y hy z hz => by
    rcases List.mem_append.1 hz with h | h
    · exact ho z h
    · obtain rfl := List.mem_singleton.1 h; exact hy
  by_cases h1 : (l.length : Int) < (L : Int) - 1
  · exact ⟨_, qp_room hq hx h1, chain_snoc (x := D e n (n.tmod 100)) (n := n) rfl rfl (.inl ⟨rfl, rfl, rfl⟩) hc, q_of h2 (by simp; omega) (ok' _ hx) (fun h => by simp at h; omega), by simp; omega⟩
  · by_cases h3 : (l.length : Int) = (L : Int) - 1
    · exact ⟨_, qp_last hq hx hg h3, chain_snoc (x := G e n n) (n := n) rfl rfl (.inr ⟨rfl, Int.le_refl _, rfl⟩) hc, q_of h2 (by simp; omega) (ok' _ (ev_G he (by omega) (by omega))) (fun h => by simp [lastK]), by simp; omega⟩
    · have h4 : (l.length : Int) = (L : Int) := by omega
      have h5 := hk h4
      rcases List.eq_nil_or_concat l with rfl | ⟨q, y, rfl⟩
      · simp at h4; omega
      · simp only [List.concat_eq_append] at *
        have hyk : y.k = 2 := by simpa [lastK] using h5
        obtain ⟨a, b, c, d⟩ := chain_set hyk hc
        refine ⟨_, (qp_more hq hx hg h4).trans (if_pos ⟨a.symm, b.symm⟩), d, q_of h2 (by simp at h4 ⊢; omega) (fun z hz => ?_) (fun h => by simp [lastK, hyk]), by simp at h4 ⊢; omega⟩
        rcases List.mem_append.1 hz with h | h
        · exact ho z (List.mem_append_left _ h)
        · obtain rfl := List.mem_singleton.1 h
          have := ho y (List.mem_append_right _ (List.mem_singleton.2 rfl))
          simp [evOK, hyk, inB] at this ⊢
          refine ⟨⟨⟨this.1.1.1, ?_⟩, this.1.2⟩, this.2⟩
          omega
theorem chain_hd {e : Int} {l : List Ev} {s n : Int} (h : l.isEmpty = false) (hc : chain e l s n) : (hd0 l).e = e ∧ (hd0 l).s = s ∧ ((hd0 l).k = 1 ∧ (hd0 l).v = s.tmod 100 ∧ chain e l.tail (s + 1) n ∨ (hd0 l).k = 2 ∧ s ≤ (hd0 l).l ∧ chain e l.tail ((hd0 l).l + 1) n) := by
  cases l with
  | nil => cases h
  | cons x r => exact hc
theorem q_tail {l : List Ev} {limit : Int} (h : l.isEmpty = false) (hq : qOK l limit = true) : qOK l.tail limit = true := by
  obtain ⟨h2, hl, ho, hk⟩ := q_all hq
  cases l with
  | nil => cases h
  | cons x r => exact q_of h2 (by simp at hl ⊢; omega) (fun y hy => ho y (List.mem_cons_of_mem _ hy)) (fun h => by simp at hl h; omega)
theorem ep_of (k : Nat) (h : k < 1000) : epOK (16 * (1 + (k : Int))) = true := by
  have : (16 * (1 + (k : Int))).tmod 16 = 0 := Int.mul_tmod_right ..
  simp [epOK, inB, this]; omega
end Go.Proofs.Ytjafaefiigingaa.QA
