import Derived.Test.YtbnommmnflmaaaaKL
set_option linter.unusedSimpArgs false
set_option linter.unusedVariables false
namespace Go.Proofs.Ytbnommmnflmaaaa.KA
open Go Go.Proofs.YtbnommmnflmaaaaR Go.Proofs.Ytbnommmnflmaaaa.IK
set_option maxRecDepth 100000
set_option maxHeartbeats 4000000
/-- With room: one more. -/
def ad (t n : Int) (l : List Kd) : List Kd := if hasN l n then l else insP t ⟨n, 2, 0⟩ l
structure Good (t s : Int) (l : List Kd) : Prop where
  ch : chn t s l = true
  eq : ∀ y ∈ l, y = ⟨y.n, 2, 0⟩
theorem insP_mem {t : Int} {x y : Kd} {l : List Kd} : y ∈ insP t x l ↔ y = x ∨ y ∈ l := by
  unfold insP
  rw [List.mem_append, List.mem_append, List.mem_singleton]
  constructor
  · rintro ((h | h) | h)
    · exact .inr (List.mem_of_mem_take h)
    · exact .inl h
    · exact .inr (List.mem_of_mem_drop h)
  · rintro (h | h)
    · exact .inl (.inr h)
    · rw [← List.take_append_drop (kAt t x l) l, List.mem_append] at h
      rcases h with h | h
      · exact .inl (.inl h)
      · exact .inr h
theorem chn_insP {t : Int} {x : Kd} (hi : inc2 x = true) : ∀ {l : List Kd} {p : Int}, chn t p l = true → nr t p x.n = true → (∀ y ∈ l, y.n ≠ x.n) → chn t p (insP t x l) = true
  | [], p, _, hp, _ => by rw [insP_nil]; simp [chn, hp, hi]
  | y :: r, p, h, hp, hne => by
    simp only [chn, Bool.and_eq_true] at h
    cases h2 : nr t y.n x.n with
    | true =>
      rw [insP_t h2]
      simp only [chn, h.1.1, h.1.2, chn_insP hi h.2 h2 (fun z hz => hne z (by simp [hz])), Bool.and_true]
    | false =>
      have hyx := nr_tot (nr_t hp).1 (nr_t h.1.1).2.2.1 (nr_t hp).2.2.1 (hne y (by simp)) h2
      rw [insP_f h2]
      simp only [chn, hp, hi, hyx, h.1.2, h.2, Bool.and_true]
theorem ad_good {t s n : Int} {l : List Kd} (hn : nr t s n = true) (h : Good t s l) : Good t s (ad t n l) := by
  unfold ad
  cases hh : hasN l n with
  | true => exact h
  | false =>
    refine ⟨chn_insP (by simp [inc2, inB]) h.ch hn (hasN_f hh), fun y hy => ?_⟩
    rcases insP_mem.1 hy with e | e
    · rw [e]
    · exact h.eq y e
theorem has_get {l : List Kd} {n : Int} (h : hasN l n = true) : ∃ y ∈ l, y.n = n := by
  unfold hasN at h
  rw [List.any_eq_true] at h
  obtain ⟨y, h1, h2⟩ := h
  exact ⟨y, h1, by simpa using h2⟩
theorem has_of {l : List Kd} {y : Kd} (h : y ∈ l) : hasN l y.n = true := by
  unfold hasN
  rw [List.any_eq_true]
  exact ⟨y, h, by simp⟩
theorem ad_has {t n m : Int} {l : List Kd} : hasN (ad t n l) m = (decide (n = m) || hasN l m) := by
  unfold ad
  cases hh : hasN l n with
  | true =>
    by_cases e : n = m
    · subst e; simp [hh]
    · simp [e]
  | false =>
    rw [Bool.eq_iff_iff]
    constructor
    · intro h
      obtain ⟨y, h1, h2⟩ := has_get h
      rcases insP_mem.1 h1 with e | e
      · subst e; simp at h2; simp [h2]
      · rw [← h2, has_of e, Bool.or_true]
    · intro h
      rw [Bool.or_eq_true] at h
      rcases h with h | h
      · have : (⟨n, 2, 0⟩ : Kd) ∈ insP t ⟨n, 2, 0⟩ l := insP_mem.2 (.inl rfl)
        have := has_of this
        simp at h
        rw [← h]
        exact this
      · obtain ⟨y, h1, h2⟩ := has_get h
        rw [← h2]
        exact has_of (insP_mem.2 (.inr h1))
theorem ad_len {t n : Int} {l : List Kd} : (ad t n l).length ≤ l.length + 1 := by
  unfold ad
  split
  · omega
  · rw [insP_len]; exact Nat.le_refl _
theorem canon {t : Int} : ∀ {a b : List Kd} {p q : Int}, chn t p a = true → chn t q b = true → (∀ y ∈ a, y = ⟨y.n, 2, 0⟩) → (∀ y ∈ b, y = ⟨y.n, 2, 0⟩) → (∀ m, hasN a m = hasN b m) → a = b
  | [], [], _, _, _, _, _, _, _ => rfl
  | [], z :: r, _, _, _, _, _, _, h => by
    have := h z.n
    rw [has_of (show z ∈ z :: r by simp)] at this
    cases this
  | y :: r, [], _, _, _, _, _, _, h => by
    have := h y.n
    rw [has_of (show y ∈ y :: r by simp)] at this
    cases this
  | y :: r, z :: r', p, q, ha, hb, ea, eb, h => by
    simp only [chn, Bool.and_eq_true] at ha hb
    have hga := chn_gt ha.2
    have hgb := chn_gt hb.2
    have hyz : y.n = z.n := by
      by_cases e : y.n = z.n
      · exact e
      · exfalso
        have h1 := h y.n
        rw [has_of (show y ∈ y :: r by simp)] at h1
        obtain ⟨u, u1, u2⟩ := has_get h1.symm
        have h2 := h z.n
        rw [has_of (show z ∈ z :: r' by simp)] at h2
        obtain ⟨v, v1, v2⟩ := has_get h2
        have u3 : u ∈ r' := by
          rcases List.mem_cons.1 u1 with e2 | e2
          · exact absurd (by rw [← u2, e2]) e
          · exact e2
        have v3 : v ∈ r := by
          rcases List.mem_cons.1 v1 with e2 | e2
          · exact absurd (by rw [← v2, e2]) e
          · exact e2
        have n1 := hgb u u3
        have n2 := hga v v3
        rw [u2] at n1
        rw [v2, nr_anti n1] at n2
        cases n2
    have hyz2 : y = z := by rw [ea y (by simp), eb z (by simp), hyz]
    subst hyz2
    congr 1
    refine canon ha.2 hb.2 (fun u hu => ea u (by simp [hu])) (fun u hu => eb u (by simp [hu])) fun m => ?_
    have hm := h m
    unfold hasN at hm ⊢
    rw [List.any_cons, List.any_cons] at hm
    by_cases e : y.n = m
    · have f1 : (r.any fun u => decide (u.n = m)) = false := by
        rw [List.any_eq_false]
        intro u hu hc
        have hc : u.n = m := by simpa using hc
        exact nr_ne (hga u hu) (by rw [e, hc])
      have f2 : (r'.any fun u => decide (u.n = m)) = false := by
        rw [List.any_eq_false]
        intro u hu hc
        have hc : u.n = m := by simpa using hc
        exact nr_ne (hgb u hu) (by rw [e, hc])
      rw [f1, f2]
    · simpa [e] using hm
theorem ask_ad {t s n : Int} {l : List Kd} (ht : okT t = true) (hs : okN s = true) (hn : nr t s n = true) (hg : Good t s l) (hl : l.length < 4) : askP t s 4 l n 2 = (ad t n l, 0, 0, 0) := by
  rw [askP_ok (kOK_of ht hs (by omega) (by omega) hg.ch) hn (by decide)]
  unfold askT ad
  cases hh : hasN l n with
  | true =>
    obtain ⟨k, k1, k2, k3, k4⟩ := ix_some (Int.le_refl 0) (show l.any (fun y => decide (y.n = n)) = true from hh)
    rw [Int.zero_add] at k1
    have hk : l[k] = ⟨n, 2, 0⟩ := by
      have := hg.eq l[k] (List.getElem_mem _)
      have k3' : l[k].n = n := by simpa using k3
      rw [this, k3']
    simp only [if_true, k1, Int.toNat_natCast]
    rw [← hk, List.set_getElem_self]
  | false => simp only [Bool.false_eq_true, if_false]; rw [if_pos (by omega)]
def adL (t : Int) (ns : List Int) : List Kd := ns.foldl (fun l n => ad t n l) []
theorem adL_s {t : Int} {ns : List Int} {i : Nat} (h : i < ns.length) : adL t (ns.take (i + 1)) = ad t ns[i] (adL t (ns.take i)) := by
  unfold adL
  rw [take_s h, List.foldl_append]
  rfl
theorem adL_good {t s : Int} : ∀ {ns : List Int} {l : List Kd}, (∀ n ∈ ns, nr t s n = true) → Good t s l → Good t s (ns.foldl (fun l n => ad t n l) l)
  | [], l, _, h => h
  | n :: r, l, hn, h => by
    rw [List.foldl_cons]
    exact adL_good (fun m hm => hn m (by simp [hm])) (ad_good (hn n (by simp)) h)
theorem adL_has {t : Int} : ∀ {ns : List Int} {l : List Kd} {m : Int}, hasN (ns.foldl (fun l n => ad t n l) l) m = (ns.any (fun n => decide (n = m)) || hasN l m)
  | [], l, m => by simp
  | n :: r, l, m => by
    rw [List.foldl_cons, adL_has, ad_has, List.any_cons]
    cases decide (n = m) <;> cases (r.any fun n => decide (n = m)) <;> rfl
theorem adL_len {t : Int} : ∀ {ns : List Int} {l : List Kd}, (ns.foldl (fun l n => ad t n l) l).length ≤ l.length + ns.length
  | [], l => by simp
  | n :: r, l => by
    rw [List.foldl_cons]
    have := adL_len (t := t) (ns := r) (l := ad t n l)
    have := ad_len (t := t) (n := n) (l := l)
    simp only [List.length_cons]
    omega
theorem adL_rev {t s : Int} {ns : List Int} (h : ∀ n ∈ ns, nr t s n = true) : adL t ns.reverse = adL t ns := by
  have g0 : Good t s [] := ⟨rfl, fun y hy => by simp at hy⟩
  have g1 := adL_good (t := t) h g0
  have g2 := adL_good (t := t) (ns := ns.reverse) (fun n hn => h n (by simpa using hn)) g0
  refine canon g2.ch g1.ch g2.eq g1.eq fun m => ?_
  unfold adL
  rw [adL_has, adL_has, List.any_reverse]
end Go.Proofs.Ytbnommmnflmaaaa.KA
