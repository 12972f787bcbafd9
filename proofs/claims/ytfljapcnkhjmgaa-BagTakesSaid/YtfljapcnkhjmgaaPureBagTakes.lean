/- The law BagTakes, over numbers and lists. -/
import Derived.Test.YtfljapcnkhjmgaaPBx5
import Derived.Test.YtfljapcnkhjmgaaBagLib
namespace Go.Proofs.Ytfljapcnkhjmgaa.Pure
open Go.RowKit Go.Proofs.Ytfljapcnkhjmgaa.PB Go.Proofs.Ytfljapcnkhjmgaa.BagLib Go.Proofs.YtfljapcnkhjmgaaB Go.Proofs.YtfljapcnkhjmgaaW.PrintWords Go.Proofs.YtfljapcnkhjmgaaW.PrintLast Go.Proofs.YtfljapcnkhjmgaaW.PrintMore
open Classical
set_option linter.unusedVariables false
set_option linter.unusedSimpArgs false

def frm (x : Int) : S48 := ⟨Int.tmod x 8, [x % 256, 7]⟩
def Small (l : List Int) : Prop := ∀ x ∈ l, 0 ≤ x ∧ x < 40
theorem frm_ok {x : Int} (h : 0 ≤ x ∧ x < 40) : Okf (frm x) := ⟨Int.tmod_nonneg _ h.1, Int.tmod_lt_of_pos _ (by omega), by simp [frm]⟩
theorem frm_all {l : List Int} (h : Small l) : All (l.map frm) := by
  intro y hy
  obtain ⟨x, hx, rfl⟩ := List.mem_map.1 hy
  exact frm_ok (h x hx)
theorem frm_get (l : List Int) (j : Nat) (hj : j < l.length) : (l.map frm).getD j z48 = frm (l.getD j 0) := by
  rw [getD_eq _ z48 j (by simpa using hj), getD_eq l 0 j hj, List.getElem_map]
theorem small_get {l : List Int} (h : Small l) (j : Nat) (hj : j < l.length) : 0 ≤ l.getD j 0 ∧ l.getD j 0 < 40 := by
  rw [getD_eq l 0 j hj]; exact h _ (List.getElem_mem hj)
theorem frame_f (x y : S48) (k : Nat) (hk : x.f1.length < k) (hl : x.f1.length < 1000000000) : bk_Frame.f k x.f0 x.f1 y.f0 y.f1 = some (decide (x = y)) := by
  unfold bk_Frame.f
  have e : x = y ↔ x.f0 = y.f0 ∧ x.f1 = y.f1 := by cases x; cases y; simp
  by_cases h : x.f0 = y.f0
  · rw [if_pos h, Bytes_f _ _ k hk hl, Option.bind_some]; congr 1; exact decide_eq_decide.2 (by rw [e]; exact ⟨fun z => ⟨h, z⟩, fun z => z.2⟩)
  · rw [if_neg h]; congr 1; exact (decide_eq_false (by rw [e]; exact fun z => h z.1)).symm
theorem takes_l2 (x1 : List Int) (left : List Int) (i : Int) (hs : Small left) (hl : left.length ≤ 40) (k0 : Nat) (hnext : ∀ k, k0 < k → L08_BagTakes.l1 k x1 (left.map frm) left (wrap64 (i + 1)) = some true) :
    ∀ (d j k : Nat), j + d = left.length → d + k0 + 1 < k → L08_BagTakes.l2 k x1 (left.map frm) left i (j : Int) = some true := by
  intro d
  induction d with
  | zero =>
    intro j k hj hk
    obtain ⟨k, rfl⟩ : ∃ m, k = m + 1 := ⟨k - 1, by omega⟩
    rw [L08_BagTakes.l2.eq_2, if_neg (by omega)]
    exact hnext k (by omega)
  | succ d ih =>
    intro j k hj hk
    obtain ⟨k, rfl⟩ : ∃ m, k = m + 1 := ⟨k - 1, by omega⟩
    have hx := small_get hs j (by omega)
    rw [L08_BagTakes.l2.eq_2, if_pos (by omega), if_pos (by omega), if_pos (by rw [List.length_map]; omega), p_rd, frm_get left j (by omega), if_pos (by rfl), if_pos (by simp [frm]), rd_nat,
      show rd (frm (left.getD j 0)).f1 0 = left.getD j 0 % 256 from rfl, w64 _ (by omega) (by omega), if_pos (by omega), wnext j (by omega)]
    exact ih (j + 1) k (by omega) (by omega)
set_option maxRecDepth 20000 in
theorem takes_l1 (x1 : List Int) (hx1 : x1.length ≤ 60) : ∀ (d i k : Nat) (left : List Int), i + d = x1.length → Small left → left.length ≤ 40 → d * 50 + 1000 < k → L08_BagTakes.l1 k x1 (left.map frm) left (i : Int) = some true := by
  intro d
  have last : ∀ (i k : Nat) (left : List Int), Small left → left.length ≤ 40 → 900 < k → L08_BagTakes.j2 k x1 (left.map frm) left (i : Int) false = some true := by
    intro i k left hs hl hk
    obtain ⟨k, rfl⟩ : ∃ m, k = m + 1 := ⟨k - 1, by omega⟩
    rw [L08_BagTakes.j2.eq_2, if_neg (by decide), Check_f _ (by rw [List.length_map]; omega) k (by omega), Option.bind_some, if_pos (chk_0.2 ⟨by rw [List.length_map]; omega, frm_all hs⟩), wakes_f k (by omega)]
    rfl
  induction d with
  | zero =>
    intro i k left hi hs hl hk
    obtain ⟨k, rfl⟩ : ∃ m, k = m + 1 := ⟨k - 1, by omega⟩
    rw [L08_BagTakes.l1.eq_2, if_neg (by omega)]
    exact last i k left hs hl (by omega)
  | succ d ih =>
    intro i k left hi hs hl hk
    obtain ⟨k, rfl⟩ : ∃ m, k = m + 1 + 1 + 1 := ⟨k - 3, by omega⟩
    rw [L08_BagTakes.l1.eq_2, if_pos (by omega)]
    by_cases h0 : (left.length : Int) > 0
    · rw [decide_eq_true h0, L08_BagTakes.j2.eq_2, if_pos rfl, if_pos (by omega), if_pos (by omega), rd_nat]
      have hu : IntKind.u64.wrap (left.length : Int) = left.length := by rw [u64w]; omega
      have t := tmodb (x1.getD i 0) left.length (by omega)
      rw [hu, if_neg (by omega), w64 (Int.tmod (IntKind.u64.wrap (x1.getD i 0)) left.length) (by omega) (by omega)]
      generalize Int.tmod (IntKind.u64.wrap (x1.getD i 0)) left.length = a at t ⊢
      obtain ⟨at_, rfl⟩ := Int.eq_ofNat_of_zero_le t.1
      have hat : at_ < left.length := by omega
      have hh : has (left.map frm) (at_ : Int) = 0 := has_0.2 ⟨by rw [List.length_map]; omega, frm_all hs, by omega, by rw [List.length_map]; omega⟩
      have hrest : (left.map frm).take ((at_ : Int)).toNat ++ (left.map frm).drop ((at_ : Int) + 1).toNat = (left.take at_ ++ left.drop (at_ + 1)).map frm := by
        rw [List.map_append, List.map_take, List.map_drop]; rfl
      have hlen : (left.take at_ ++ left.drop (at_ + 1)).length = left.length - 1 := by
        rw [List.length_append, List.length_take, List.length_drop]; omega
      have hs2 : Small (left.take at_ ++ left.drop (at_ + 1)) := fun x hx => (List.mem_append.1 hx).elim (fun h => hs x (List.mem_of_mem_take h)) (fun h => hs x (List.mem_of_mem_drop h))
      rw [Take_f _ _ (by rw [List.length_map]; omega) _ (by omega), if_pos hh, Option.bind_some]
      dsimp only
      rw [hrest, if_pos rfl, List.length_map, hlen, w64 ((left.length : Int) - 1) (by omega) (by omega), if_pos (by omega), if_pos (by omega), if_pos (by omega), Int.toNat_natCast, rd_nat, frm_get left at_ hat]
      have hfr : bk_Frame.f (k + 1) (frm (left.getD at_ 0)).f0 (frm (left.getD at_ 0)).f1 (Int.tmod (left.getD at_ 0) 8) [left.getD at_ 0 % 256, 7] = _ := frame_f (frm (left.getD at_ 0)) (frm (left.getD at_ 0)) (k + 1) (by simp [frm]; omega) (by simp [frm])
      rw [hfr, Option.bind_some, decide_eq_true rfl, L08_BagTakes.j3.eq_2, if_neg (by decide)]
      rw [Option.bind_some, if_pos (by omega), if_pos (by omega), Option.bind_some, if_pos (by simp; omega), Option.bind_some, w64 _ (by omega) (by omega), if_pos (by omega), if_pos (by omega), Option.bind_some, if_pos (by simp; omega), List.nil_append,
        Int.toNat_natCast, show ((at_ : Int) + 1).toNat = at_ + 1 from by omega]
      have e1 : 0 + (left.length - 1) = (left.take at_ ++ left.drop (at_ + 1)).length := by rw [hlen]; omega
      have e2 : (left.length - 1) + (d * 50 + 1000) + 1 < k := by omega
      have e3 : (left.take at_ ++ left.drop (at_ + 1)).length ≤ 40 := by omega
      have hn : ∀ k, d * 50 + 1000 < k → L08_BagTakes.l1 k x1 ((left.take at_ ++ left.drop (at_ + 1)).map frm) (left.take at_ ++ left.drop (at_ + 1)) (wrap64 ((i : Int) + 1)) = some true := by
        intro k hk
        rw [wnext i (by omega)]
        exact ih (i + 1) k _ (by omega) hs2 e3 hk
      have h := takes_l2 x1 _ i hs2 e3 (d * 50 + 1000) hn (left.length - 1) 0 k e1 e2
      have e : ((0 : Nat) : Int) = 0 := rfl
      rw [e] at h
      exact h
    · rw [decide_eq_false h0]
      exact last i _ left hs hl (by omega)
theorem takes_l0 (x1 : List Int) (hx1 : x1.length ≤ 60) (n : Nat) (hn : n < 40) : ∀ (d i k : Nat) (left : List Int), i + d = n → left.length = i → Small left → d + 5000 < k → L08_BagTakes.l0 k (n : Int) x1 (left.map frm) left (i : Int) = some true := by
  intro d
  induction d with
  | zero =>
    intro i k left hi hl hs hk
    obtain ⟨k, rfl⟩ : ∃ m, k = m + 1 := ⟨k - 1, by omega⟩
    rw [L08_BagTakes.l0.eq_2, if_neg (by omega)]
    exact takes_l1 x1 hx1 x1.length 0 k left (by omega) hs (by omega) (by omega)
  | succ d ih =>
    intro i k left hi hl hs hk
    obtain ⟨k, rfl⟩ : ∃ m, k = m + 1 := ⟨k - 1, by omega⟩
    have p : bag_Put.f k (left.map frm) (Int.tmod (i : Int) 8) [(i : Int) % 256, 7] = _ := Put_f (left.map frm) (frm i) (by rw [List.length_map]; omega) k (by omega)
    rw [if_pos (chk_0.2 ⟨by rw [List.length_map]; omega, frm_all hs⟩), if_pos (frm_ok (by omega)), if_neg (by rw [List.length_map]; omega)] at p
    rw [L08_BagTakes.l0.eq_2, if_pos (by omega), p, Option.bind_some]
    dsimp only
    rw [if_pos rfl, if_pos (by omega), wnext i (by omega), show List.map frm left ++ [frm (i : Int)] = (left ++ [(i : Int)]).map frm from by simp]
    exact ih (i + 1) k _ (by omega) (by simp; omega) (fun x hx => (List.mem_append.1 hx).elim (hs x) (fun h => by rw [List.mem_singleton.1 h]; omega)) (by omega)
theorem BagTakes : L08_BagTakes.Pure := by
  intro a0 x1 h0 h1
  refine ⟨6000, ?_⟩
  unfold L08_BagTakes.f
  by_cases h : (x1.length : Int) > 60
  · rw [if_pos h]
  · rw [if_neg h]
    have t0 := tmodb a0 40 (by omega)
    rw [w64 (Int.tmod (IntKind.u64.wrap a0) 40) (by omega) (by omega)]
    generalize Int.tmod (IntKind.u64.wrap a0) 40 = n at t0 ⊢
    obtain ⟨m, rfl⟩ := Int.eq_ofNat_of_zero_le t0.1
    exact takes_l0 x1 (by omega) m (by omega) m 0 6000 [] (by omega) rfl (by intro x hx; simp at hx) (by omega)
end Go.Proofs.Ytfljapcnkhjmgaa.Pure
