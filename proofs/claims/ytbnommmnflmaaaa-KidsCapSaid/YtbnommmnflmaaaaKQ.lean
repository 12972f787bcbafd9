import Derived.Test.YtbnommmnflmaaaaKP
set_option linter.unusedSimpArgs false
set_option linter.unusedVariables false
namespace Go.Proofs.Ytbnommmnflmaaaa.KA
open Go Go.Proofs.YtbnommmnflmaaaaR Go.Proofs.Ytbnommmnflmaaaa.IK
set_option maxRecDepth 100000
set_option maxHeartbeats 4000000
theorem farC : ((List.range 4).all fun (t : Nat) => (List.range 8).all fun (s : Nat) => (List.range 8).all fun (n : Nat) => !nr (t : Int) (s : Int) (n : Int) || (farL (t : Int) (s : Int)).contains (n : Int)) = true := by decide +kernel
theorem far_all {t s n : Int} (h : nr t s n = true) : n ∈ farL t s := by
  obtain ⟨ht, hs, hn, _⟩ := nr_t h
  have h1 := inB_t ht
  have h2 := inB_t hs
  have h3 := inB_t hn
  obtain ⟨t', rfl⟩ := Int.eq_ofNat_of_zero_le h1.1
  obtain ⟨s', rfl⟩ := Int.eq_ofNat_of_zero_le h2.1
  obtain ⟨n', rfl⟩ := Int.eq_ofNat_of_zero_le h3.1
  have h4 := List.all_eq_true.1 (List.all_eq_true.1 (List.all_eq_true.1 farC t' (by simp; omega)) s' (by simp; omega)) n' (by simp; omega)
  rw [h] at h4
  simpa using h4
/-- The first one that asked, in order of nearness, is the first child. -/
theorem cap_first {t s c : Int} {asked : Int → Bool} {l : List Kd} (h : Cap t s c asked l) {i : Nat} (hi : i < (farL t s).length) (ha : asked (farL t s)[i] = true) (hb : ∀ j (hj : j < i), asked ((farL t s)[j]'(by omega)) = false) : ∃ y r, l = y :: r ∧ y.n = (farL t s)[i] := by
  have hok := kOK_t h.ok
  obtain ⟨f1, f2, f3⟩ := far_ok hok.1 hok.2.1
  obtain ⟨y, r, e0, e1⟩ := h.near _ ha (f1 _ (List.getElem_mem _))
  refine ⟨y, r, e0, ?_⟩
  rcases e1 with e1 | e1
  · exact e1
  · exfalso
    have hy : nr t s y.n = true := chn_gt hok.2.2.2.2.2 y (by rw [e0]; simp)
    obtain ⟨j, hj, hjy⟩ := List.getElem_of_mem (far_all hy)
    have hay := h.sub y (by rw [e0]; simp)
    rcases Nat.lt_trichotomy j i with hlt | heq | hgt
    · have := hb j hlt
      rw [hjy, hay] at this
      cases this
    · subst heq
      exact nr_ne e1 hjy.symm
    · have h5 := srt_get hj hgt f2
      rw [hjy] at h5
      have := nr_anti e1
      rw [h5] at this
      cases this
theorem cap_none {t s c : Int} {asked : Int → Bool} {l : List Kd} (h : Cap t s c asked l) (hb : ∀ n ∈ farL t s, asked n = false) : l = [] := by
  cases l with
  | nil => rfl
  | cons y r =>
    have hy : nr t s y.n = true := chn_gt (kOK_t h.ok).2.2.2.2.2 y (by simp)
    have h1 := hb _ (far_all hy)
    rw [h.sub y (by simp)] at h1
    cases h1
end Go.Proofs.Ytbnommmnflmaaaa.KA
