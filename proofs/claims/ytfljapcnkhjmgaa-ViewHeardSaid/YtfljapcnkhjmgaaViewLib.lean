/- What the functions of view, and those of the reference, come to. -/
import Derived.Test.YtfljapcnkhjmgaaPVx4
import Derived.Test.YtfljapcnkhjmgaaBase
namespace Go.Proofs.Ytfljapcnkhjmgaa.ViewLib
open Go.RowKit Go.Proofs.Ytfljapcnkhjmgaa.PV Go.Proofs.YtfljapcnkhjmgaaB Go.Proofs.YtfljapcnkhjmgaaW.PrintWords Go.Proofs.YtfljapcnkhjmgaaW.PrintLast Go.Proofs.YtfljapcnkhjmgaaW.PrintMore
open Classical
set_option linter.unusedVariables false
set_option linter.unusedSimpArgs false

theorem p_rd (l : List S42) (j : Nat) : rd_T42 l (j : Int) = l.getD j z42 := by unfold rd_T42; rw [Int.toNat_natCast]
theorem s42_eq (x y : S42) : (x.f0 = y.f0 ∧ x.f1 = y.f1) ↔ x = y := by cases x; cases y; simp
theorem in_f (a b c : Int) : msg_in.f a b c = some (decide (b ≤ a ∧ a ≤ c)) := by
  unfold msg_in.f
  by_cases h : a ≥ b <;> simp [h, ge_iff_le] <;> omega
theorem Counted_f (a : Int) : msg_Counted.f a = some (decide (1 ≤ a ∧ a ≤ 1073741824)) := by
  unfold msg_Counted.f; rw [in_f]; rfl
theorem rin_f (a b c : Int) : ref10_in.f a b c = some (decide (b ≤ a ∧ a ≤ c)) := by
  unfold ref10_in.f
  by_cases h : a ≥ b <;> simp [h, ge_iff_le] <;> omega
theorem Clone_f (l : List S42) (h : l.length < 8796093022208) : slices_Clone_Peer.f l = some l := by
  unfold slices_Clone_Peer.f
  simp [h]
theorem Twin_f (l : List S42) (h : l.length < 8796093022208) : bk_TwinPeers.f l = some l := by
  unfold bk_TwinPeers.f
  simp [h]
def Rt (x : S42) : Prop := 0 ≤ x.f0 ∧ x.f0 ≤ 1073741824 ∧ 0 ≤ x.f1 ∧ x.f1 ≤ 1000
def AllRt (l : List S42) : Prop := ∀ j : Nat, j < l.length → Rt (l.getD j z42)
/-- Right peers. -/
def Ok (l : List S42) : Prop := (1 ≤ l.length ∧ l.length ≤ 8) ∧ AllRt l
theorem right_f (a b : Int) : view_right.f a b = some (decide (0 ≤ a ∧ a ≤ 1073741824 ∧ 0 ≤ b ∧ b ≤ 1000)) := by
  unfold view_right.f
  by_cases h1 : a ≥ 0
  · rw [if_pos h1]
    by_cases h2 : a ≤ 1073741824
    · rw [if_pos h2]
      by_cases h3 : b ≥ 0
      · rw [if_pos h3]; congr 1; exact decide_eq_decide.2 ⟨fun h => ⟨h1, h2, h3, h⟩, fun h => h.2.2.2⟩
      · rw [if_neg h3]; congr 1; exact (decide_eq_false (fun h => h3 h.2.2.1)).symm
    · rw [if_neg h2]; congr 1; exact (decide_eq_false (fun h => h2 h.2.1)).symm
  · rw [if_neg h1]; congr 1; exact (decide_eq_false (fun h => h1 h.1)).symm
theorem bad_f (a b : Int) : view_Check_1.f a b = some (decide (¬ (0 ≤ a ∧ a ≤ 1073741824 ∧ 0 ≤ b ∧ b ≤ 1000))) := by
  unfold view_Check_1.f
  rw [right_f]
  simp only [Option.bind_some]
  congr 1
  by_cases h : 0 ≤ a ∧ a ≤ 1073741824 ∧ 0 ≤ b ∧ b ≤ 1000 <;> simp [h]
theorem Contains_f (l : List S42) (hl : l.length ≤ 1000000) (k : Nat) (hk : l.length < k) : slices_ContainsFunc_Peer_at_view_Check_1.f k l = some (decide (¬ AllRt l)) := by
  unfold slices_ContainsFunc_Peer_at_view_Check_1.f slices_IndexFunc_Peer_at_view_Check_1.f
  have h := idx_from (l := fun k i => slices_IndexFunc_Peer_at_view_Check_1.l0 k l l.length i) (n := l.length) (p := fun j => ¬ Rt (l.getD j z42))
    (by intro k; simp only [slices_IndexFunc_Peer_at_view_Check_1.l0]; rw [if_neg (by omega)])
    (by
      intro k j hj
      simp only [slices_IndexFunc_Peer_at_view_Check_1.l0]
      rw [if_pos (by omega), if_pos (by omega), if_pos (by omega), p_rd, bad_f, wnext j (by omega)]
      simp only [Option.bind_some, decide_eq_true_eq]
      unfold Rt
      exact ⟨fun h => by rw [if_pos h], fun h => by rw [if_neg h]⟩) l.length k 0 (by omega) hk
  rw [show ((0 : Nat) : Int) = 0 from rfl] at h
  rcases h with ⟨h1, h2⟩ | ⟨m, h1, _, h3, h4, _⟩
  · rw [show slices_IndexFunc_Peer_at_view_Check_1.l0 k l l.length 0 = some (-1) from h1]
    simp only [Option.bind_some]
    congr 1
    rw [decide_eq_false (by decide), decide_eq_false (p := ¬ AllRt l) (fun h => h (fun j hj => Classical.not_not.1 (h2 j (Nat.zero_le _) hj)))]
  · rw [show slices_IndexFunc_Peer_at_view_Check_1.l0 k l l.length 0 = some (m : Int) from h1]
    simp only [Option.bind_some]
    congr 1
    rw [decide_eq_true (by omega), decide_eq_true (p := ¬ AllRt l) (fun h => h4 (h m h3))]
theorem Check_f (l : List S42) (k : Nat) (hk : 20 < k) : view_Check.f k l = some (if Ok l then 0 else 1) := by
  unfold view_Check.f
  by_cases h1 : (l.length : Int) < 1
  · rw [if_pos h1, if_neg (fun h => by have := h.1; omega)]
  · rw [if_neg h1]
    by_cases h2 : (l.length : Int) > 8
    · rw [if_pos h2, if_neg (fun h => by have := h.1; omega)]
    · rw [if_neg h2, Contains_f l (by omega) k (by omega)]
      simp only [Option.bind_some, decide_eq_true_eq]
      by_cases h3 : AllRt l
      · rw [if_neg (fun h => h h3), if_pos ⟨by omega, h3⟩]
      · rw [if_pos h3, if_neg (fun h => h3 h.2)]
theorem place_f (l : List S42) (n : Int) (k : Nat) (hk : 20 < k) : view_place.f k l n = some (if Ok l then (if 0 ≤ n ∧ n < l.length then 0 else 9) else 1) := by
  unfold view_place.f
  rw [Check_f l k hk]
  simp only [Option.bind_some]
  by_cases h : Ok l
  · rw [if_pos h, if_pos rfl, if_pos h]
    by_cases h1 : n < 0
    · rw [if_pos h1, if_neg (by omega)]
    · rw [if_neg h1]
      by_cases h2 : n ≥ (l.length : Int)
      · rw [if_pos h2, if_neg (by omega)]
      · rw [if_neg h2, if_pos (by omega)]
  · rw [if_neg h, if_neg (by decide), if_neg h]
def hear (l : List S42) (fr inc : Int) : List S42 := if (l.getD fr.toNat z42).f0 ≤ inc then l.set fr.toNat ⟨inc, 0⟩ else l
theorem hear_length (l : List S42) (fr inc : Int) : (hear l fr inc).length = l.length := by unfold hear; split <;> simp
theorem Hear_f (l : List S42) (fr inc : Int) (k : Nat) (hk : 30 < k) : view_Hear.f k l fr inc =
    some (if Ok l then (if 0 ≤ fr ∧ fr < l.length then (if 1 ≤ inc ∧ inc ≤ 1073741824 then (hear l fr inc, 0) else ([], 1)) else ([], 9)) else ([], 1)) := by
  unfold view_Hear.f
  rw [place_f l fr k (by omega)]
  obtain ⟨k, rfl⟩ : ∃ m, k = m + 2 := ⟨k - 2, by omega⟩
  simp only [Option.bind_some, view_Hear.j0, view_Hear.j1]
  by_cases h : Ok l
  · have hl := h.1
    simp only [if_pos h]
    by_cases h1 : 0 ≤ fr ∧ fr < l.length
    · simp only [if_pos h1, if_true]
      rw [Counted_f]
      simp only [Option.bind_some]
      by_cases h2 : 1 ≤ inc ∧ inc ≤ 1073741824
      · rw [if_neg (by simp [h2]), if_pos h2, Clone_f l (by omega)]
        simp only [Option.bind_some, if_true]
        rw [if_pos h1.1, if_pos h1.2]
        unfold hear rd_T42
        split <;> rfl
      · rw [if_pos (by simp [h2]), if_neg h2, if_neg (by decide)]
    · simp only [if_neg h1]
      rw [if_neg (by decide), if_neg (by decide), if_neg (by decide)]
  · simp only [if_neg h]
    rw [if_neg (by decide), if_neg (by decide), if_neg (by decide)]
def old1 (x : S42) : S42 := ⟨x.f0, mn (x.f1 + 1) 1000⟩
def older (l : List S42) : List S42 := l.map old1
theorem older_length (l : List S42) : (older l).length = l.length := by simp [older]
theorem Older_f (l : List S42) (k : Nat) (hk : 30 < k) : view_Older.f k l = some (if Ok l then (older l, 0) else ([], 1)) := by
  unfold view_Older.f
  rw [Check_f l k (by omega)]
  simp only [Option.bind_some]
  by_cases h : Ok l
  · have hl := h.1
    rw [if_pos h, if_pos rfl, if_pos h, Clone_f l (by omega)]
    simp only [Option.bind_some]
    have hs := set_from z42 (l := fun k xs i => view_Older.l0 k xs l.length i) (n := l.length) (g := old1) (r := fun xs => (xs, (0 : Int))) (xs0 := l) rfl
      (by intro k xs hx; simp only [view_Older.l0]; rw [if_neg (by omega)])
      (by
        intro k xs j hj hx he
        simp only [view_Older.l0]
        have hr := h.2 j hj
        unfold Rt at hr
        rw [if_pos (by omega), if_pos (by omega), if_pos (by omega), p_rd, he, wnext j (by omega), w64 _ (by omega) (by omega), Int.toNat_natCast]
        rfl) l.length k 0 l (by omega) (by omega) rfl (by intro i hi; omega) (by intro i _; rfl)
    exact hs
  · rw [if_neg h, if_neg (by decide), if_neg h]
def isLive (l : List S42) (self : Int) (j : Nat) : Bool := decide ((j : Int) = self ∨ ((l.getD j z42).f0 > 0 ∧ (l.getD j z42).f1 < 4))
def live (l : List S42) (self : Int) : List Int := ((List.range' 0 l.length).filter (isLive l self)).map (fun j : Nat => (j : Int))
theorem live_length (l : List S42) (self : Int) : (live l self).length ≤ l.length := by
  unfold live
  rw [List.length_map]
  exact Nat.le_trans (List.length_filter_le _ _) (by simp)
theorem Live_l0 (l : List S42) (self : Int) (hl : l.length ≤ 1000) (k : Nat) (hk : l.length < k) : view_Live.l0 k self [] l l.length 0 = some (live l self, 0) := by
  have h := filter_from (l := fun k out i => view_Live.l0 k self out l l.length i) (n := l.length) (L := 2000) (f := fun j : Nat => (j : Int)) (p := isLive l self) (r := fun out => (out, (0 : Int)))
    (by intro k out; simp only [view_Live.l0]; rw [if_neg (by omega)])
    (by
      intro k out j hj hL
      simp only [view_Live.l0]
      rw [if_pos (by omega), if_pos (by omega), if_pos (by omega), p_rd, wnext j (by omega)]
      unfold isLive
      by_cases h1 : (j : Int) = self
      · rw [if_pos h1, if_pos (by omega), if_pos (by rw [decide_eq_true (.inl h1)])]
      · rw [if_neg h1]
        by_cases h2 : (l.getD j z42).f0 > 0
        · rw [if_pos h2]
          by_cases h3 : (l.getD j z42).f1 < 4
          · rw [if_pos h3, if_pos (by omega), if_pos (by rw [decide_eq_true (.inr ⟨h2, h3⟩)])]
          · rw [if_neg h3, if_neg (by rw [decide_eq_false (by omega)]; decide)]
        · rw [if_neg h2, if_neg (by rw [decide_eq_false (by omega)]; decide)]) l.length k 0 [] (by omega) hk (by simp; omega)
  exact h
theorem Live_f (l : List S42) (self : Int) (k : Nat) (hk : 30 < k) : view_Live.f k l self = some (if Ok l then (if 0 ≤ self ∧ self < l.length then (live l self, 0) else ([], 9)) else ([], 1)) := by
  unfold view_Live.f
  rw [place_f l self k (by omega)]
  simp only [Option.bind_some]
  by_cases h : Ok l
  · have hl := h.1
    simp only [if_pos h]
    by_cases h1 : 0 ≤ self ∧ self < l.length
    · simp only [if_pos h1, if_true]
      exact Live_l0 l self (by omega) k (by omega)
    · simp only [if_neg h1]
      rw [if_neg (by decide)]
  · simp only [if_neg h]
    rw [if_neg (by decide)]
theorem Peers_f (a b : List S42) (k : Nat) (hk : a.length < k) (hl : a.length < 1000000) : bk_Peers.f k a b = some (decide (a = b)) := by
  unfold bk_Peers.f
  by_cases h : a.length = b.length
  · rw [if_pos (by omega)]
    have h := all_loop (l := fun k i => bk_Peers.l0 k a b i) (n := a.length) (p := fun i => a.getD i z42 = b.getD i z42)
      (by intro k; simp only [bk_Peers.l0]; rw [if_neg (by omega)])
      (by
        intro k j hj
        simp only [bk_Peers.l0]
        rw [if_pos (by omega), if_pos (by omega), if_pos (by omega), p_rd, p_rd, wnext j (by omega)]
        by_cases e : a.getD j z42 = b.getD j z42
        · rw [if_pos e, e, if_neg (by simp)]
        · have e' := mt (s42_eq _ _).1 e
          rw [if_neg e, if_pos (by simp only [Bool.or_eq_true, Bool.not_eq_true', beq_eq_false_iff_ne]; omega)]) k hk
    rw [show bk_Peers.l0 k a b 0 = _ from h]
    congr 1
    exact decide_eq_decide.2 (ext_getD z42 (by assumption))
  · rw [if_neg (by omega)]
    congr 1
    exact (decide_eq_false (fun e => h (by rw [e]))).symm
theorem Ints_f (a b : List Int) (k : Nat) (hk : a.length < k) (hl : a.length < 1000000000) : bk_Ints.f k a b = some (decide (a = b)) := by
  unfold bk_Ints.f
  by_cases h : a.length = b.length
  · rw [if_pos (by omega)]
    have h := all_loop (l := fun k i => bk_Ints.l0 k a b i) (n := a.length) (p := fun i => a.getD i 0 = b.getD i 0)
      (by intro k; simp only [bk_Ints.l0]; rw [if_neg (by omega)])
      (by
        intro k j hj
        simp only [bk_Ints.l0]
        rw [if_pos (by omega), if_pos (by omega), if_pos (by omega), rd_nat, rd_nat, wnext j (by omega)]
        by_cases e : a.getD j 0 = b.getD j 0 <;> simp only [e, if_true, if_false]) k hk
    rw [show bk_Ints.l0 k a b 0 = _ from h]
    congr 1
    exact decide_eq_decide.2 (ext_getD 0 (by assumption))
  · rw [if_neg (by omega)]
    congr 1
    exact (decide_eq_false (fun e => h (by rw [e]))).symm
theorem wakes_f (k : Nat) (hk : 60 ≤ k) : L10_wakes.f k = some true := at_rounds (fun k => L10_wakes.mono k) hk (by decide +kernel)
theorem rPeers_f (l : List S42) (k : Nat) (hk : 30 < k) : ref10_Peers.f k l = some (decide (Ok l)) := by
  unfold ref10_Peers.f
  rw [rin_f]
  simp only [Option.bind_some, decide_eq_true_eq]
  by_cases h1 : (1 : Int) ≤ l.length ∧ (l.length : Int) ≤ 8
  · rw [if_pos h1]
    have h := all_loop (l := fun k i => ref10_Peers.l0 k l i) (n := l.length) (p := fun i => Rt (l.getD i z42))
      (by intro k; simp only [ref10_Peers.l0]; rw [if_neg (by omega)])
      (by
        intro k j hj
        simp only [ref10_Peers.l0]
        rw [if_pos (by omega), if_pos (by omega), p_rd, rin_f, rin_f, wnext j (by omega)]
        simp only [Option.bind_some, decide_eq_true_eq]
        unfold Rt
        by_cases e1 : 0 ≤ (l.getD j z42).f0 ∧ (l.getD j z42).f0 ≤ 1073741824
        · rw [if_pos e1]
          by_cases e2 : 0 ≤ (l.getD j z42).f1 ∧ (l.getD j z42).f1 ≤ 1000
          · rw [if_pos e2, if_pos (by omega)]
          · rw [if_neg e2, if_neg (by omega)]
        · rw [if_neg e1, if_neg (by omega)]) k (by omega)
    rw [show ref10_Peers.l0 k l 0 = _ from h]
    congr 1
    exact decide_eq_decide.2 ⟨fun h => ⟨by omega, h⟩, fun h => h.2⟩
  · rw [if_neg h1]
    congr 1
    exact (decide_eq_false (fun h => h1 ⟨by have := h.1; omega, by have := h.1; omega⟩)).symm
theorem rOlder_f (l : List S42) (h : Ok l) (k : Nat) (hk : 30 < k) : ref10_Older.f k l = some (older l) := by
  have hl := h.1
  unfold ref10_Older.f
  rw [Twin_f l (by omega)]
  simp only [Option.bind_some]
  have hs := set_from z42 (l := fun k xs i => ref10_Older.l0 k xs i) (n := l.length) (g := old1) (r := fun xs => xs) (xs0 := l) rfl
    (by intro k xs hx; simp only [ref10_Older.l0]; rw [if_neg (by omega)])
    (by
      intro k xs j hj hx he
      simp only [ref10_Older.l0]
      have hr := h.2 j hj
      unfold Rt at hr
      rw [if_pos (by omega), if_pos (by omega), p_rd, he, wnext j (by omega), w64 _ (by omega) (by omega), Int.toNat_natCast]
      rfl) l.length k 0 l (by omega) (by omega) rfl (by intro i hi; omega) (by intro i _; rfl)
  exact hs
theorem rHear_f (l : List S42) (fr inc : Int) (hl : l.length ≤ 1000) (h : 0 ≤ fr ∧ fr < l.length) : ref10_Hear.f l fr inc = some (hear l fr inc) := by
  unfold ref10_Hear.f
  rw [Twin_f l (by omega)]
  simp only [Option.bind_some]
  rw [if_pos h.1, if_pos h.2]
  unfold hear rd_T42
  split <;> rfl
theorem rLive_f (l : List S42) (self : Int) (hl : l.length ≤ 1000) (k : Nat) (hk : l.length < k) : ref10_Live.f k l self = some (live l self) := by
  unfold ref10_Live.f
  have h := filter_from (l := fun k out i => ref10_Live.l0 k l self out i) (n := l.length) (L := 2000) (f := fun j : Nat => (j : Int)) (p := isLive l self) (r := fun out => out)
    (by intro k out; simp only [ref10_Live.l0]; rw [if_neg (by omega)])
    (by
      intro k out j hj hL
      simp only [ref10_Live.l0]
      rw [if_pos (by omega), p_rd, wnext j (by omega)]
      unfold isLive
      by_cases h1 : (j : Int) = self
      · rw [if_pos h1, if_pos (by omega), if_pos (by rw [decide_eq_true (.inl h1)])]
      · rw [if_neg h1, if_pos (by omega)]
        by_cases h2 : (l.getD j z42).f0 > 0
        · rw [if_pos h2]
          by_cases h3 : (l.getD j z42).f1 < 4
          · rw [if_pos h3, if_pos (by omega), if_pos (by rw [decide_eq_true (.inr ⟨h2, h3⟩)])]
          · rw [if_neg h3, if_neg (by rw [decide_eq_false (by omega)]; decide)]
        · rw [if_neg h2, if_neg (by rw [decide_eq_false (by omega)]; decide)]) l.length k 0 [] (by omega) hk (by simp; omega)
  exact h
theorem Heavy_f (l : List S42) : L10_Heavy.f l = some (decide ((l.length : Int) > 20)) := rfl
theorem ok_older {l : List S42} (h : Ok l) : Ok (older l) := by
  refine ⟨by rw [older_length]; exact h.1, fun j hj => ?_⟩
  rw [older_length] at hj
  have hr := h.2 j hj
  unfold older
  rw [getD_map l z42 old1 j hj]
  unfold Rt old1 at *
  simp only []
  rw [mn_eq]
  omega
theorem ok_hear {l : List S42} (h : Ok l) (fr inc : Int) (hf : 0 ≤ fr ∧ fr < l.length) (hi : 1 ≤ inc ∧ inc ≤ 1073741824) : Ok (hear l fr inc) := by
  refine ⟨by rw [hear_length]; exact h.1, fun j hj => ?_⟩
  rw [hear_length] at hj
  have hr := h.2 j hj
  unfold hear
  split
  · rw [getD_set l z42 _ _ _ (by omega)]
    split
    · unfold Rt; simp only []; omega
    · exact hr
  · exact hr
theorem mem_live {l : List S42} {self x : Int} : x ∈ live l self ↔ ∃ j : Nat, j < l.length ∧ isLive l self j = true ∧ x = j := by
  unfold live
  simp only [List.mem_map, List.mem_filter, List.mem_range'_1]
  constructor
  · rintro ⟨j, ⟨h1, h2⟩, rfl⟩; exact ⟨j, by omega, h2, rfl⟩
  · rintro ⟨j, h1, h2, rfl⟩; exact ⟨j, ⟨by omega, h2⟩, rfl⟩
end Go.Proofs.Ytfljapcnkhjmgaa.ViewLib
