/- Who is heard is live for so many ticks, and then no more, till heard again; an elder incarnation changes nothing: over numbers and lists, for all numbers. -/
import Derived.Test.YtfljapcnkhjmgaaPVx6
import Derived.Test.YtfljapcnkhjmgaaViewLib
namespace Go.Proofs.Ytfljapcnkhjmgaa.Pure
open Go.RowKit Go.Proofs.Ytfljapcnkhjmgaa.PV Go.Proofs.Ytfljapcnkhjmgaa.ViewLib Go.Proofs.YtfljapcnkhjmgaaB Go.Proofs.YtfljapcnkhjmgaaW.PrintWords Go.Proofs.YtfljapcnkhjmgaaW.PrintLast Go.Proofs.YtfljapcnkhjmgaaW.PrintMore
open Classical
set_option linter.unusedVariables false
set_option linter.unusedSimpArgs false

/-- Two loops that look for a number in a list. -/
theorem heard_l2 (fr self t : Int) (l k1 : List S42) (k2 : List Int) (old : List S42) (met : Bool) (hl : l.length ≤ 8) (hk2 : k2.length ≤ 8) (hold : old = l) (hmet : met = decide (fr = self ∨ t < 4)) (hin : fr ∈ k2) : ∀ (d j k : Nat) (b : Bool), j + d = k2.length → d + 200 < k → (b = decide (fr ∈ k2.take j)) →
    L10_ViewHeard.l2 k fr self t l 0 old 0 0 k2 0 met b j = some true := by
  intro d
  induction d with
  | zero =>
    intro j k b hj hk hb
    obtain ⟨k, rfl⟩ : ∃ m, k = m + 1 := ⟨k - 1, by omega⟩
    rw [List.take_of_length_le (by omega), decide_eq_true hin] at hb
    subst hb
    subst hold
    simp only [L10_ViewHeard.l2]
    rw [if_neg (by omega), Peers_f _ _ _ (by omega) (by omega), wakes_f _ (by omega)]
    by_cases h1 : fr = self
    · rw [decide_eq_true (.inl h1)] at hmet
      subst hmet
      simp [h1]
    · by_cases h2 : t < 4
      · rw [decide_eq_true (.inr h2)] at hmet
        subst hmet
        simp [h1, h2]
      · rw [decide_eq_false (by omega)] at hmet
        subst hmet
        simp [h1, h2]
  | succ d ih =>
    intro j k b hj hk hb
    obtain ⟨k, rfl⟩ : ∃ m, k = m + 1 := ⟨k - 1, by omega⟩
    simp only [L10_ViewHeard.l2]
    have e : fr ∈ k2.take (j + 1) ↔ fr ∈ k2.take j ∨ fr = k2.getD j 0 := by
      rw [List.take_succ_eq_append_getElem (by omega), getD_eq k2 0 j (by omega), List.mem_append, List.mem_singleton]
    rw [if_pos (by omega), rd_nat, wnext j (by omega)]
    by_cases h : fr ∈ k2.take j
    · rw [decide_eq_true h] at hb
      rw [if_pos hb]
      exact ih (j + 1) k true (by omega) (by omega) (decide_eq_true (e.2 (.inl h))).symm
    · rw [decide_eq_false h] at hb
      rw [if_neg (by rw [hb]; decide), if_pos (by omega)]
      refine ih (j + 1) k _ (by omega) (by omega) ?_
      by_cases h2 : fr = k2.getD j 0
      · rw [decide_eq_true (e.2 (.inr h2)), ← h2]; simp
      · rw [decide_eq_false (fun z => (e.1 z).elim h h2)]
        exact beq_eq_false_iff_ne.2 (fun z => h2 z.symm)
theorem heard_l1 (fr self t : Int) (l : List S42) (ks k2 : List Int) (hl : l.length ≤ 8) (hks : ks.length ≤ 8) (hk2 : k2.length ≤ 8) (hmet : fr ∈ ks ↔ (fr = self ∨ t < 4)) (hin : fr ∈ k2) : ∀ (d j k : Nat) (b : Bool), j + d = ks.length → d + 300 < k → (b = decide (fr ∈ ks.take j)) →
    L10_ViewHeard.l1 k fr self t l ks 0 l 0 0 k2 0 b false j = some true := by
  intro d
  induction d with
  | zero =>
    intro j k b hj hk hb
    obtain ⟨k, rfl⟩ : ∃ m, k = m + 1 := ⟨k - 1, by omega⟩
    rw [List.take_of_length_le (by omega)] at hb
    simp only [L10_ViewHeard.l1]
    rw [if_neg (by omega)]
    exact heard_l2 fr self t l [] k2 l b hl hk2 rfl (by rw [hb]; exact decide_eq_decide.2 hmet) hin k2.length 0 k false (by omega) (by omega) (by simp)
  | succ d ih =>
    intro j k b hj hk hb
    obtain ⟨k, rfl⟩ : ∃ m, k = m + 1 := ⟨k - 1, by omega⟩
    simp only [L10_ViewHeard.l1]
    have e : fr ∈ ks.take (j + 1) ↔ fr ∈ ks.take j ∨ fr = ks.getD j 0 := by
      rw [List.take_succ_eq_append_getElem (by omega), getD_eq ks 0 j (by omega), List.mem_append, List.mem_singleton]
    rw [if_pos (by omega), rd_nat, wnext j (by omega)]
    by_cases h : fr ∈ ks.take j
    · rw [decide_eq_true h] at hb
      rw [if_pos hb]
      exact ih (j + 1) k true (by omega) (by omega) (decide_eq_true (e.2 (.inl h))).symm
    · rw [decide_eq_false h] at hb
      rw [if_neg (by rw [hb]; decide), if_pos (by omega)]
      refine ih (j + 1) k _ (by omega) (by omega) ?_
      by_cases h2 : fr = ks.getD j 0
      · rw [decide_eq_true (e.2 (.inr h2)), ← h2]; simp
      · rw [decide_eq_false (fun z => (e.1 z).elim h h2)]
        exact beq_eq_false_iff_ne.2 (fun z => h2 z.symm)
theorem live_iff (l : List S42) (self fr : Int) (h : 0 ≤ fr ∧ fr < l.length) : fr ∈ live l self ↔ fr = self ∨ ((l.getD fr.toNat z42).f0 > 0 ∧ (l.getD fr.toNat z42).f1 < 4) := by
  rw [mem_live]
  constructor
  · rintro ⟨j, h1, h2, h3⟩
    unfold isLive at h2
    rw [decide_eq_true_eq] at h2
    rw [show fr.toNat = j from by omega]
    omega
  · intro h2
    refine ⟨fr.toNat, by omega, ?_, by omega⟩
    unfold isLive
    rw [decide_eq_true_eq]
    omega
theorem heard_l0 (n : Nat) (fr self inc ticks : Int) (hn : 2 ≤ n ∧ n ≤ 8) (hf : 0 ≤ fr ∧ fr < n) (hs : 0 ≤ self ∧ self < n) (hi : 2 ≤ inc ∧ inc ≤ 1001) (ht : 0 ≤ ticks ∧ ticks < 10) : ∀ (d j k : Nat) (l : List S42), (j : Int) + d = ticks → d + 500 < k → Ok l → l.length = n → (l.getD fr.toNat z42) = ⟨inc, j⟩ →
    L10_ViewHeard.l0 k fr self inc ticks l j = some true := by
  intro d
  induction d with
  | zero =>
    intro j k l hj hk hO hl hg
    obtain ⟨k, rfl⟩ : ∃ m, k = m + 1 := ⟨k - 1, by omega⟩
    simp only [L10_ViewHeard.l0]
    have hA : hear l fr (inc - 1) = l := by
      unfold hear
      rw [hg, if_neg (by show ¬ inc ≤ inc - 1; omega)]
    have hB := ok_hear hO fr (inc + 1) (by omega) (by omega)
    have lB := hear_length l fr (inc + 1)
    have gB : (hear l fr (inc + 1)).getD fr.toNat z42 = ⟨inc + 1, 0⟩ := by
      unfold hear
      rw [hg, if_pos (by show inc ≤ inc + 1; omega), getD_set l z42 _ _ _ (by omega), if_pos rfl]
    rw [if_neg (by omega), w64 (inc - 1) (by omega) (by omega), w64 (inc + 1) (by omega) (by omega)]
    rw [Live_f l self _ (by omega), if_pos hO, if_pos (by omega), Hear_f l fr (inc - 1) _ (by omega), if_pos hO, if_pos (by omega), if_pos (by omega), hA, Hear_f l fr (inc + 1) _ (by omega), if_pos hO, if_pos (by omega), if_pos (by omega)]
    simp only [Option.bind_some]
    rw [Live_f _ self _ (by omega), if_pos hB, if_pos (by omega)]
    simp only [Option.bind_some]
    have l1 := live_length l self
    have l2 := live_length (hear l fr (inc + 1)) self
    refine heard_l1 fr self ticks l (live l self) (live (hear l fr (inc + 1)) self) (by omega) (by omega) (by omega) ?_ ?_ (live l self).length 0 k false (by omega) (by omega) (by simp)
    · rw [live_iff l self fr (by omega), hg]
      simp only []
      omega
    · rw [live_iff _ self fr (by omega), gB]
      simp only []
      omega
  | succ d ih =>
    intro j k l hj hk hO hl hg
    obtain ⟨k, rfl⟩ : ∃ m, k = m + 1 := ⟨k - 1, by omega⟩
    simp only [L10_ViewHeard.l0]
    rw [if_pos (by omega), Older_f l _ (by omega), if_pos hO]
    simp only [Option.bind_some, if_true]
    rw [wnext j (by omega)]
    refine ih (j + 1) k (older l) (by omega) (by omega) (ok_older hO) (by rw [older_length]; exact hl) ?_
    unfold older
    rw [getD_map l z42 old1 _ (by omega), hg]
    unfold old1
    simp only []
    rw [mn_eq, show min ((j : Int) + 1) 1000 = ((j + 1 : Nat) : Int) from by omega]
theorem ViewHeard : L10_ViewHeard.Pure := by
  intro n0 f0 s0 i0 t0 h1 h2 h3 h4 h5
  refine ⟨1000, ?_⟩
  unfold L10_ViewHeard.f
  have hn := tmodb n0 7 (by decide)
  rw [w64 (Int.tmod (IntKind.u64.wrap n0) 7) (by omega) (by omega), w64 (2 + Int.tmod (IntKind.u64.wrap n0) 7) (by omega) (by omega)]
  obtain ⟨n, hnd⟩ : ∃ n, n = 2 + Int.tmod (IntKind.u64.wrap n0) 7 := ⟨_, rfl⟩
  rw [← hnd]
  have hu : IntKind.u64.wrap n = n := by rw [u64w]; omega
  rw [hu, if_neg (by omega), if_pos (by omega), if_pos (by omega)]
  have hf := tmodb f0 n (by omega)
  have hs := tmodb s0 n (by omega)
  have hi := tmodb i0 1000 (by decide)
  have ht := tmodb t0 10 (by decide)
  rw [w64 (Int.tmod (IntKind.u64.wrap f0) n) (by omega) (by omega), w64 (Int.tmod (IntKind.u64.wrap s0) n) (by omega) (by omega), w64 (Int.tmod (IntKind.u64.wrap i0) 1000) (by omega) (by omega), w64 (2 + Int.tmod (IntKind.u64.wrap i0) 1000) (by omega) (by omega), w64 (Int.tmod (IntKind.u64.wrap t0) 10) (by omega) (by omega)]
  generalize Int.tmod (IntKind.u64.wrap f0) n = fr at hf ⊢
  generalize Int.tmod (IntKind.u64.wrap s0) n = self at hs ⊢
  generalize Int.tmod (IntKind.u64.wrap t0) 10 = ticks at ht ⊢
  obtain ⟨inc, hid⟩ : ∃ inc, inc = 2 + Int.tmod (IntKind.u64.wrap i0) 1000 := ⟨_, rfl⟩
  rw [← hid]
  have hO : Ok (List.replicate n.toNat z42) := by
    refine ⟨by simp; omega, fun j hj => ?_⟩
    rw [getD_eq _ _ _ hj]
    simp only [List.getElem_replicate]
    unfold Rt z42
    simp only []
    omega
  have hL : (List.replicate n.toNat z42).length = n.toNat := by simp
  rw [Hear_f _ fr inc _ (by omega), if_pos hO, if_pos (by omega), if_pos (by omega)]
  simp only [Option.bind_some, if_true]
  have hg : (List.replicate n.toNat z42).getD fr.toNat z42 = z42 := by
    rw [getD_eq _ _ _ (by omega)]
    simp only [List.getElem_replicate]
  refine heard_l0 n.toNat fr self inc ticks (by omega) (by omega) (by omega) (by omega) ht ticks.toNat 0 1000 _ (by omega) (by omega) (ok_hear hO fr inc (by omega) (by omega)) (by rw [hear_length]; exact hL) ?_
  unfold hear
  rw [hg, if_pos (by show (0 : Int) ≤ inc; omega), getD_set _ z42 _ _ _ (by omega), if_pos rfl]
  rfl
end Go.Proofs.Ytfljapcnkhjmgaa.Pure
