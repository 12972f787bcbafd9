/- Whoever is heard in whatever order between two ticks: what is known is the same: of each one its greatest incarnation: over numbers and lists. At most 20 peers; all else is any number. -/
import Derived.Test.YtfljapcnkhjmgaaPVx8
import Derived.Test.YtfljapcnkhjmgaaViewLib
namespace Go.Proofs.Ytfljapcnkhjmgaa.Pure
open Go.RowKit Go.Proofs.Ytfljapcnkhjmgaa.PV Go.Proofs.Ytfljapcnkhjmgaa.ViewLib Go.Proofs.YtfljapcnkhjmgaaB Go.Proofs.YtfljapcnkhjmgaaW.PrintWords Go.Proofs.YtfljapcnkhjmgaaW.PrintLast Go.Proofs.YtfljapcnkhjmgaaW.PrintMore
open Classical
set_option linter.unusedVariables false
set_option linter.unusedSimpArgs false

theorem hear_get (l : List S42) (fr inc : Int) (hf : 0 ≤ fr ∧ fr < l.length) (j : Nat) : (hear l fr inc).getD j z42 = if fr.toNat = j ∧ (l.getD j z42).f0 ≤ inc then ⟨inc, 0⟩ else l.getD j z42 := by
  unfold hear
  by_cases h : (l.getD fr.toNat z42).f0 ≤ inc
  · rw [if_pos h, getD_set l z42 _ _ _ (by omega)]
    by_cases e : fr.toNat = j
    · rw [if_pos e, if_pos ⟨e, by rw [← e]; exact h⟩]
    · rw [if_neg e, if_neg (fun z => e z.1)]
  · rw [if_neg h]
    by_cases e : fr.toNat = j
    · rw [if_neg (fun z => h (by rw [e]; exact z.2))]
    · rw [if_neg (fun z => e z.1)]
theorem hear_comm (l : List S42) (a b x y : Int) (ha : 0 ≤ a ∧ a < l.length) (hb : 0 ≤ b ∧ b < l.length) : hear (hear l a x) b y = hear (hear l b y) a x := by
  have h1 := hear_length l a x
  have h2 := hear_length l b y
  refine (ext_getD z42 (by simp only [hear_length])).1 (fun i hi => ?_)
  rw [hear_get (hear l a x) b y (by omega), hear_get (hear l b y) a x (by omega), hear_get l a x ha, hear_get l b y hb]
  by_cases e1 : a.toNat = i
  · by_cases e2 : b.toNat = i
    · simp only [e1, e2, true_and]
      by_cases p : (l.getD i z42).f0 ≤ x
      · by_cases q : (l.getD i z42).f0 ≤ y
        · simp only [p, q, if_true]
          by_cases r : x ≤ y
          · by_cases s : y ≤ x
            · have : x = y := by omega
              subst this; rfl
            · simp only [r, s, if_true, if_false]
          · have s : y ≤ x := by omega
            simp only [r, s, if_true, if_false]
        · have r : ¬ x ≤ y := by omega
          simp only [p, q, r, if_true, if_false]
      · by_cases q : (l.getD i z42).f0 ≤ y
        · have r : ¬ y ≤ x := by omega
          simp only [p, q, r, if_true, if_false]
        · simp only [p, q, if_false]
    · simp only [e1, e2, true_and, false_and, if_false]
  · simp only [e1, false_and, if_false]
theorem ViewOrder : L10_ViewOrder.Pure := by
  intro l a0 b0 x0 y0 hl0 ha0 hb0 hx0 hy0
  refine ⟨1000, ?_⟩
  unfold L10_ViewOrder.f
  rw [Heavy_f]
  simp only [Option.bind_some, decide_eq_true_eq]
  by_cases h20 : (l.length : Int) > 20
  · rw [if_pos h20]; simp only [L10_ViewOrder.j0, if_true]
  · rw [if_neg h20, rPeers_f l _ (by omega)]
    simp only [Option.bind_some, L10_ViewOrder.j0]
    by_cases hO : Ok l
    · have hl := hO.1
      rw [if_neg (by simp [hO])]
      have hu : IntKind.u64.wrap (l.length : Int) = l.length := by rw [u64w]; omega
      rw [hu, if_neg (by omega)]
      have ha := tmodb a0 l.length (by omega)
      have hb := tmodb b0 l.length (by omega)
      have hx := tmodb x0 1000 (by decide)
      have hy := tmodb y0 1000 (by decide)
      rw [w64 (Int.tmod (IntKind.u64.wrap a0) l.length) (by omega) (by omega), w64 (Int.tmod (IntKind.u64.wrap b0) l.length) (by omega) (by omega), w64 (Int.tmod (IntKind.u64.wrap x0) 1000) (by omega) (by omega), w64 (Int.tmod (IntKind.u64.wrap y0) 1000) (by omega) (by omega), w64 (1 + Int.tmod (IntKind.u64.wrap x0) 1000) (by omega) (by omega), w64 (1 + Int.tmod (IntKind.u64.wrap y0) 1000) (by omega) (by omega)]
      generalize Int.tmod (IntKind.u64.wrap a0) l.length = a at ha ⊢
      generalize Int.tmod (IntKind.u64.wrap b0) l.length = b at hb ⊢
      obtain ⟨x, hxd⟩ : ∃ x, x = 1 + Int.tmod (IntKind.u64.wrap x0) 1000 := ⟨_, rfl⟩
      obtain ⟨y, hyd⟩ : ∃ y, y = 1 + Int.tmod (IntKind.u64.wrap y0) 1000 := ⟨_, rfl⟩
      rw [← hxd, ← hyd]
      have hA := ok_hear hO a x ha (by omega)
      have hB := ok_hear hO b y hb (by omega)
      have la := hear_length l a x
      have lb := hear_length l b y
      rw [Hear_f l a x _ (by omega), if_pos hO, if_pos ha, if_pos (by omega)]
      simp only [Option.bind_some]
      rw [Hear_f (hear l a x) b y _ (by omega), if_pos hA, if_pos (by omega), if_pos (by omega)]
      simp only [Option.bind_some]
      rw [Hear_f l b y _ (by omega), if_pos hO, if_pos hb, if_pos (by omega)]
      simp only [Option.bind_some]
      rw [Hear_f (hear l b y) a x _ (by omega), if_pos hB, if_pos (by omega), if_pos (by omega)]
      simp only [Option.bind_some, L10_ViewOrder.j1, if_true]
      have lab := hear_length (hear l a x) b y
      rw [if_pos (by omega), Peers_f _ _ _ (by omega) (by omega), hear_comm l a b x y ha hb]
      simp only [Option.bind_some, decide_true, Bool.not_true, L10_ViewOrder.j2]
      rw [if_neg (by decide)]
      have lba := hear_length (hear l b y) a x
      have key : ∀ (d j k : Nat), j + d = l.length → d + d + 100 < k → L10_ViewOrder.l0 k l a b x y (hear (hear l b y) a x) j = some true := by
        intro d
        induction d with
        | zero =>
          intro j k hj hk
          obtain ⟨k, rfl⟩ : ∃ m, k = m + 1 := ⟨k - 1, by omega⟩
          simp only [L10_ViewOrder.l0]
          rw [if_neg (by omega), wakes_f _ (by omega)]
          rfl
        | succ d ih =>
          intro j k hj hk
          obtain ⟨k, rfl⟩ : ∃ m, k = m + 2 := ⟨k - 2, by omega⟩
          simp only [L10_ViewOrder.l0]
          have nx := ih (j + 1) k (by omega) (by omega)
          have g := hear_get (hear l b y) a x (by omega) j
          rw [hear_get l b y hb] at g
          rw [if_pos (by omega), if_pos (by omega), p_rd]
          have fin : ∀ w : Int, (if (j : Int) = b then mx w y else w) = ((hear (hear l b y) a x).getD j z42).f0 → ((j : Int) ≠ a → (j : Int) ≠ b → (hear (hear l b y) a x).getD j z42 = l.getD j z42) → L10_ViewOrder.j4 (k + 1) l a b x y (hear (hear l b y) a x) j w = some true := by
            intro w hw hsame
            simp only [L10_ViewOrder.j4]
            rw [p_rd, p_rd, wnext j (by omega)]
            by_cases e : (j : Int) = b
            · rw [if_pos e] at hw
              rw [if_pos e, if_pos (by omega), if_pos (by omega), if_pos hw.symm, nx]
              split <;> rfl
            · rw [if_neg e] at hw
              rw [if_neg e, if_pos (by omega), if_pos (by omega), if_pos hw.symm]
              by_cases e2 : (j : Int) = a
              · rw [if_pos e2]; exact nx
              · rw [if_neg e2, if_pos (by omega), hsame e2 e, if_neg (by simp)]; exact nx
          by_cases e2 : (j : Int) = a
          · rw [if_pos e2]
            refine fin _ ?_ (fun z _ => absurd e2 z)
            rw [g]
            have ea : a.toNat = j := by omega
            by_cases e : (j : Int) = b
            · have eb : b.toNat = j := by omega
              rw [if_pos e]
              simp only [ea, eb, true_and]
              rw [mx_eq, mx_eq]
              by_cases p : (l.getD j z42).f0 ≤ y
              · simp only [p, if_true]
                by_cases q : y ≤ x
                · simp only [q, if_true]; omega
                · simp only [q, if_false]; omega
              · simp only [p, if_false]
                by_cases q : (l.getD j z42).f0 ≤ x
                · simp only [q, if_true]; omega
                · simp only [q, if_false]; omega
            · have eb : ¬ b.toNat = j := by omega
              rw [if_neg e]
              simp only [ea, eb, true_and, false_and, if_false]
              rw [mx_eq]
              by_cases q : (l.getD j z42).f0 ≤ x
              · simp only [q, if_true]; omega
              · simp only [q, if_false]; omega
          · rw [if_neg e2]
            have ea : ¬ a.toNat = j := by omega
            refine fin _ ?_ (fun _ z => by
              rw [g]
              have eb : ¬ b.toNat = j := by omega
              simp only [ea, eb, false_and, if_false])
            rw [g]
            by_cases e : (j : Int) = b
            · have eb : b.toNat = j := by omega
              rw [if_pos e]
              simp only [ea, eb, true_and, false_and, if_false]
              rw [mx_eq]
              by_cases p : (l.getD j z42).f0 ≤ y
              · simp only [p, if_true]; omega
              · simp only [p, if_false]; omega
            · have eb : ¬ b.toNat = j := by omega
              rw [if_neg e]
              simp only [ea, eb, false_and, if_false]
      exact key l.length 0 997 (by omega) (by omega)
    · rw [if_pos (by simp [hO])]
end Go.Proofs.Ytfljapcnkhjmgaa.Pure
