/- The law BagBack, over numbers and lists. -/
import Derived.Test.YtfljapcnkhjmgaaPEx6
import Derived.Test.YtfljapcnkhjmgaaBagLibE
namespace Go.Proofs.Ytfljapcnkhjmgaa.Pure
open Go.RowKit Go.Proofs.Ytfljapcnkhjmgaa.PE Go.Proofs.Ytfljapcnkhjmgaa.BagLibE Go.Proofs.YtfljapcnkhjmgaaB Go.Proofs.YtfljapcnkhjmgaaW.PrintWords Go.Proofs.YtfljapcnkhjmgaaW.PrintLast Go.Proofs.YtfljapcnkhjmgaaW.PrintMore
open Classical
set_option linter.unusedVariables false
set_option linter.unusedSimpArgs false

theorem xor8 (x m : Int) (hx : 0 ≤ x ∧ x ≤ 255) (hm : 1 ≤ m ∧ m ≤ 255) : 0 ≤ Go.bits .xor .u8 x (m % 256) ∧ Go.bits .xor .u8 x (m % 256) ≤ 255 ∧ Go.bits .xor .u8 (Go.bits .xor .u8 x (m % 256)) (m % 256) = x ∧ Go.bits .xor .u8 x (m % 256) ≠ x := by
  have em : m % 256 = m := by omega
  rw [em]
  have h1 := u8_xor x m hx.1 (by omega) (by omega) (by omega)
  have hlt : x.toNat ^^^ m.toNat < 256 := Nat.xor_lt_two_pow (n := 8) (by omega) (by omega)
  have h2 := u8_xor ((x.toNat ^^^ m.toNat : Nat) : Int) m (by omega) (by omega) (by omega) (by omega)
  rw [Int.toNat_natCast, Nat.xor_assoc, Nat.xor_self, Nat.xor_zero] at h2
  rw [h1, h2]
  refine ⟨by omega, by omega, by omega, fun h => ?_⟩
  have h3 : x.toNat ^^^ m.toNat = x.toNat := by omega
  have h4 : x.toNat ^^^ (x.toNat ^^^ m.toNat) = m.toNat := by rw [← Nat.xor_assoc, Nat.xor_self, Nat.zero_xor]
  rw [h3, Nat.xor_self] at h4
  omega
theorem bent_ok (x : S48) (p m : Int) (h : Okf x) : Okf (bent x p m) := ⟨h.1, h.2.1, by unfold bent; rw [List.length_set]; exact h.2.2⟩
theorem bent_2 (x : S48) (p m : Int) (hb : ∀ y ∈ x.f1, 0 ≤ y ∧ y ≤ 255) (hp : 0 ≤ p ∧ p < x.f1.length) (hm : 1 ≤ m ∧ m ≤ 255) : bent (bent x p m) p m = x ∧ bent x p m ≠ x := by
  have hv : 0 ≤ rd x.f1 p ∧ rd x.f1 p ≤ 255 := by unfold rd; rw [getD_eq _ 0 _ (by omega)]; exact hb _ (List.getElem_mem _)
  obtain ⟨h1, h2, h3, h4⟩ := xor8 (rd x.f1 p) m hv hm
  have hr : rd (x.f1.set p.toNat (Go.bits .xor .u8 (rd x.f1 p) (m % 256))) p = Go.bits .xor .u8 (rd x.f1 p) (m % 256) := by
    show (x.f1.set p.toNat _).getD p.toNat 0 = _
    rw [getD_set _ _ _ _ _ (by omega), if_pos rfl]
  have hs : x.f1.set p.toNat (rd x.f1 p) = x.f1 := by
    unfold rd; rw [getD_eq _ 0 _ (by omega)]; exact List.set_getElem_self _
  constructor
  · unfold bent
    simp only []
    rw [hr, h3, List.set_set, hs]
  · intro h
    have e : (bent x p m).f1 = x.f1 := by rw [h]
    have e2 : rd (bent x p m).f1 p = rd x.f1 p := by rw [e]
    rw [show (bent x p m).f1 = x.f1.set p.toNat (Go.bits .xor .u8 (rd x.f1 p) (m % 256)) from rfl, hr] at e2
    exact h4 e2
theorem back_j8 (k : Nat) (b : Bool) : L08_BagBack.j8 (k + 1) b = some b := rfl
theorem back_j2 (k : Nat) (b : Bool) : L08_BagBack.j2 (k + 1) b = some b := rfl
theorem back_j7 (A : List S48) (a : Int) (hA : All A) (hl : A.length ≤ 61) (ha : 0 ≤ a ∧ a < A.length) (k : Nat) (hk : 2000 < k) : L08_BagBack.j7 k a A = some true := by
  obtain ⟨k, rfl⟩ : ∃ m, k = m + 1 + 1 := ⟨k - 2, by omega⟩
  have h1 : has A a = 0 := has_0.2 ⟨by omega, hA, ha⟩
  have hx := All_get hA a.toNat (by omega)
  have h80 := hx.2.2
  have hD : All (A ++ [A.getD a.toNat z48]) := All_app hA (All_one hx)
  have hDl : (A ++ [A.getD a.toNat z48]).length = A.length + 1 := by simp
  have h2 : has (A ++ [A.getD a.toNat z48]) (A.length : Int) = 0 := has_0.2 ⟨by omega, hD, by omega, by omega⟩
  have g : (A ++ [A.getD a.toNat z48]).getD (A.length : Int).toNat z48 = A.getD a.toNat z48 := by
    rw [Int.toNat_natCast, getD_eq _ _ _ (by omega), List.getElem_append_right (by omega)]; simp
  have t : (A ++ [A.getD a.toNat z48]).take (A.length : Int).toNat ++ (A ++ [A.getD a.toNat z48]).drop ((A.length : Int) + 1).toNat = A := by
    rw [Int.toNat_natCast, List.take_left, List.drop_of_length_le (by omega), List.append_nil]
  rw [L08_BagBack.j7.eq_2, Twice_f A a (by omega) _ (by omega), if_pos h1, if_neg (by omega), Option.bind_some, Take_f A a (by omega) _ (by omega), if_pos h1, Option.bind_some]
  dsimp only
  rw [Take_f _ _ (by omega) _ (by omega), if_pos h2, Option.bind_some, g, t]
  dsimp only
  rw [if_pos rfl, if_pos rfl, if_pos rfl, Frame_f _ _ _ (by omega) (by omega), Option.bind_some, if_pos (decide_eq_true rfl), Frames_f _ _ hA (by omega) _ (by omega), Option.bind_some, if_pos (decide_eq_true rfl), wakes_f _ (by omega), Option.bind_some, back_j8]
theorem back_j5 (l A : List S48) (a2 p m : Int) (hA : All A) (hB : ∀ x ∈ A, ∀ y ∈ x.f1, 0 ≤ y ∧ y ≤ 255) (hl : A.length = l.length + 1) (hl2 : l.length ≤ 60) (k : Nat) (hk : 3000 < k) : L08_BagBack.j5 k l a2 p m A = some true := by
  obtain ⟨k, rfl⟩ : ∃ q, k = q + 1 + 1 := ⟨k - 2, by omega⟩
  have hu : IntKind.u64.wrap (wrap64 ((l.length : Int) + 1)) = (l.length : Int) + 1 := by rw [w64 _ (by omega) (by omega), u64w]; omega
  have t := tmodb a2 ((l.length : Int) + 1) (by omega)
  rw [L08_BagBack.j5.eq_2, hu, if_neg (by omega), w64 (Int.tmod (IntKind.u64.wrap a2) ((l.length : Int) + 1)) (by omega) (by omega)]
  generalize Int.tmod (IntKind.u64.wrap a2) ((l.length : Int) + 1) = a at t ⊢
  have h1 : has A a = 0 := has_0.2 ⟨by omega, hA, by omega, by omega⟩
  have hx := All_get hA a.toNat (by omega)
  have j7 : ∀ k, 2000 < k → L08_BagBack.j7 k a A = some true := fun k hk => back_j7 A a hA (by omega) (by omega) k hk
  rw [Corrupt_f A a p m (by omega) _ (by omega), if_pos h1, Option.bind_some]
  by_cases c1 : p < 0 ∨ m < 1 ∨ m > 255
  · rw [if_pos c1, if_neg (by decide)]
    exact j7 _ (by omega)
  · rw [if_neg c1]
    by_cases c2 : p ≥ ((A.getD a.toNat z48).f1.length : Int)
    · rw [if_pos c2, if_neg (by decide)]
      exact j7 _ (by omega)
    · rw [if_neg c2, if_pos rfl]
      dsimp only
      have hbx : ∀ y ∈ (A.getD a.toNat z48).f1, 0 ≤ y ∧ y ≤ 255 := by
        have := hB (A.getD a.toNat z48) (by rw [getD_eq A z48 a.toNat (by omega)]; exact List.getElem_mem _)
        exact this
      obtain ⟨b1, b2⟩ := bent_2 (A.getD a.toNat z48) p m hbx (by omega) (by omega)
      have hBl : (A.set a.toNat (bent (A.getD a.toNat z48) p m)).length = A.length := List.length_set ..
      have hBA : All (A.set a.toNat (bent (A.getD a.toNat z48) p m)) := by
        intro y hy
        rcases List.mem_or_eq_of_mem_set hy with h | h
        · exact hA y h
        · rw [h]; exact bent_ok _ _ _ hx
      have h2 : has (A.set a.toNat (bent (A.getD a.toNat z48) p m)) a = 0 := has_0.2 ⟨by omega, hBA, by omega, by omega⟩
      have g : (A.set a.toNat (bent (A.getD a.toNat z48) p m)).getD a.toNat z48 = bent (A.getD a.toNat z48) p m := by
        rw [getD_set _ _ _ _ _ (by omega), if_pos rfl]
      have gl : (bent (A.getD a.toNat z48) p m).f1.length = (A.getD a.toNat z48).f1.length := List.length_set ..
      have back : (A.set a.toNat (bent (A.getD a.toNat z48) p m)).set a.toNat (A.getD a.toNat z48) = A := by
        rw [List.set_set, getD_eq A z48 a.toNat (by omega)]; exact List.set_getElem_self _
      have ne : ¬ A.set a.toNat (bent (A.getD a.toNat z48) p m) = A := by
        intro h
        have h' := g
        rw [h] at h'
        exact b2 h'.symm
      rw [Corrupt_f _ a p m (by omega) _ (by omega), if_pos h2, if_neg c1, g, gl, if_neg c2, b1, back, Option.bind_some, if_pos rfl]
      dsimp only
      rw [Frames_f A A hA (by omega) _ (by omega), Option.bind_some, if_pos (decide_eq_true rfl), Frames_f _ A hBA (by omega) _ (by omega), Option.bind_some, decide_eq_false ne, L08_BagBack.j6.eq_2, if_neg (by decide)]
      exact j7 _ (by omega)
theorem BagBack : L08_BagBack.Pure := by
  intro l a1 l1 a2 p m hl ha1 hl1 ha2 hp hm
  refine ⟨4000, ?_⟩
  unfold L08_BagBack.f
  have jt : L08_BagBack.j0 4000 l a2 p m true a1 l1 = some true := by rw [L08_BagBack.j0.eq_2, if_pos rfl]
  obtain ⟨b, hb⟩ := Heavy_f l 4000 (by omega)
  rw [hb, Option.bind_some]
  by_cases h0 : b = true
  · rw [if_pos h0, jt]
  · rw [if_neg h0]
    by_cases h1 : (l.length : Int) > 60
    · rw [if_pos h1, jt]
    · rw [if_neg h1]
      by_cases h2 : (l1.length : Int) > 200
      · rw [decide_eq_true h2, jt]
      · rw [decide_eq_false h2, L08_BagBack.j0.eq_2, if_neg (by decide), L08_BagBack.j1.eq_2]
        have pf : bag_Put.f 3998 l a1 l1 = _ := Put_f l ⟨a1, l1⟩ (by omega) 3998 (by omega)
        rw [pf, Option.bind_some]
        have bad : (if (1 : Int) = 0 then L08_BagBack.j3 3998 l a2 p m [] a1 l1 else if (1 : Int) = 1 then (if (([] : List S48).length : Int) = 0 then ((L08_wakes.f 3998).bind fun t => L08_BagBack.j2 3998 t) else L08_BagBack.j2 3998 false) else L08_BagBack.j2 3998 false) = some true := by
          rw [if_neg (by decide), if_pos rfl, if_pos (by rfl), wakes_f _ (by omega), Option.bind_some, back_j2]
        by_cases c : chk l = 0
        · obtain ⟨k1, k2⟩ := chk_0.1 c
          by_cases d : Okf ⟨a1, l1⟩
          · rw [if_pos c, if_pos d, if_neg (show ¬ l.length ≥ 300 by omega)]
            dsimp only
            rw [if_pos rfl]
            have hA : All (l ++ [⟨a1, l1⟩]) := All_app k2 (All_one d)
            have hAl : (l ++ [(⟨a1, l1⟩ : S48)]).length = l.length + 1 := by simp
            have hh : has (l ++ [⟨a1, l1⟩]) (l.length : Int) = 0 := has_0.2 ⟨by omega, hA, by omega, by omega⟩
            have g : (l ++ [(⟨a1, l1⟩ : S48)]).getD (l.length : Int).toNat z48 = ⟨a1, l1⟩ := by
              rw [Int.toNat_natCast, getD_eq _ _ _ (by omega), List.getElem_append_right (by omega)]; simp
            have t : (l ++ [(⟨a1, l1⟩ : S48)]).take (l.length : Int).toNat ++ (l ++ [(⟨a1, l1⟩ : S48)]).drop ((l.length : Int) + 1).toNat = l := by
              rw [Int.toNat_natCast, List.take_left, List.drop_of_length_le (by omega), List.append_nil]
            have h80 := d.2.2
            have ff : bk_Frame.f 3997 a1 l1 a1 l1 = _ := Frame_f ⟨a1, l1⟩ ⟨a1, l1⟩ 3997 (by omega) (by omega)
            rw [L08_BagBack.j3.eq_2, Take_f _ _ (by omega) _ (by omega), if_pos hh, Option.bind_some, g, t]
            dsimp only
            rw [if_pos rfl, ff, Option.bind_some, if_pos (decide_eq_true rfl), Frames_f l l k2 (by omega) _ (by omega), Option.bind_some, decide_eq_true rfl, L08_BagBack.j4.eq_2, if_neg (by decide)]
            refine back_j5 l _ a2 p m hA ?_ hAl (by omega) _ (by omega)
            intro x hx y hy
            rcases List.mem_append.1 hx with h | h
            · exact u8b ((hl.2 x h).2.2 y hy)
            · rw [List.mem_singleton.1 h] at hy; exact u8b (hl1.2 y hy)
          · rw [if_pos c, if_neg d]; exact bad
        · have c1 : chk l = 1 := by
            unfold chk at c ⊢
            rw [if_neg (by omega)] at c ⊢
            by_cases e : All l
            · rw [if_pos e] at c; exact absurd rfl c
            · rw [if_neg e]
          rw [if_neg c, c1]; exact bad
end Go.Proofs.Ytfljapcnkhjmgaa.Pure
