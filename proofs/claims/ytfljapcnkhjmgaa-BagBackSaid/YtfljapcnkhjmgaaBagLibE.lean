/- What the functions of bag come to. -/
import Derived.Test.YtfljapcnkhjmgaaPEx4
import Derived.Test.YtfljapcnkhjmgaaBase
import Derived.Laws.BitsAllLaws
namespace Go.Proofs.Ytfljapcnkhjmgaa.BagLibE
open Go.RowKit Go.Proofs.Ytfljapcnkhjmgaa.PE Go.Proofs.YtfljapcnkhjmgaaB Go.Proofs.YtfljapcnkhjmgaaW.PrintWords Go.Proofs.YtfljapcnkhjmgaaW.PrintLast Go.Proofs.YtfljapcnkhjmgaaW.PrintMore
open Classical
set_option linter.unusedVariables false
set_option linter.unusedSimpArgs false

theorem p_rd (l : List S48) (j : Nat) : rd_T48 l (j : Int) = l.getD j z48 := by unfold rd_T48; rw [Int.toNat_natCast]
def Okf (x : S48) : Prop := 0 ≤ x.f0 ∧ x.f0 < 8 ∧ (x.f1.length : Int) ≤ 80
def All (l : List S48) : Prop := ∀ x ∈ l, Okf x
theorem All_app {a b : List S48} (ha : All a) (hb : All b) : All (a ++ b) := fun x hx => (List.mem_append.1 hx).elim (ha x) (hb x)
theorem All_take {a : List S48} (ha : All a) (n : Nat) : All (a.take n) := fun x hx => ha x (List.mem_of_mem_take hx)
theorem All_drop {a : List S48} (ha : All a) (n : Nat) : All (a.drop n) := fun x hx => ha x (List.mem_of_mem_drop hx)
theorem All_one {x : S48} (h : Okf x) : All [x] := by intro y hy; rw [List.mem_singleton.1 hy]; exact h
theorem All_get {l : List S48} (h : All l) (j : Nat) (hj : j < l.length) : Okf (l.getD j z48) := by rw [getD_eq l z48 j hj]; exact h _ (List.getElem_mem hj)
theorem in_f (a b : Int) : ring_in.f a b = some (decide (0 ≤ a ∧ a < b)) := by
  unfold ring_in.f
  by_cases h : a ≥ 0
  · rw [if_pos h]; congr 1; exact decide_eq_decide.2 ⟨fun x => ⟨h, x⟩, fun x => x.2⟩
  · rw [if_neg h]; congr 1; exact (decide_eq_false (fun x => h x.1)).symm
theorem right_f (x : S48) : bag_right.f x.f0 x.f1 = some (decide (Okf x)) := by
  unfold bag_right.f ring_Is.f
  rw [in_f]
  simp only [Option.bind_some, decide_eq_true_eq]
  by_cases h : 0 ≤ x.f0 ∧ x.f0 < 8
  · rw [if_pos h]; congr 1; exact decide_eq_decide.2 ⟨fun y => ⟨h.1, h.2, y⟩, fun y => y.2.2⟩
  · rw [if_neg h]; congr 1; exact (decide_eq_false (fun y => h ⟨y.1, y.2.1⟩)).symm
theorem bad_f (x : S48) : bag_Check_1.f x.f0 x.f1 = some (decide (¬ Okf x)) := by
  unfold bag_Check_1.f
  rw [right_f, Option.bind_some, decide_not]
theorem Contains_f (l : List S48) (hl : l.length ≤ 1000000) (k : Nat) (hk : l.length < k) : slices_ContainsFunc_Frame_at_bag_Check_1.f k l = some (decide (¬ All l)) := by
  unfold slices_ContainsFunc_Frame_at_bag_Check_1.f slices_IndexFunc_Frame_at_bag_Check_1.f
  have h := idx_from (l := fun k i => slices_IndexFunc_Frame_at_bag_Check_1.l0 k l l.length i) (n := l.length) (p := fun j => ¬ Okf (l.getD j z48))
    (by intro k; rw [slices_IndexFunc_Frame_at_bag_Check_1.l0.eq_2, if_neg (by omega)])
    (by
      intro k j hj
      rw [slices_IndexFunc_Frame_at_bag_Check_1.l0.eq_2, if_pos (by omega), if_pos (by omega), if_pos (by omega), p_rd, bad_f, wnext j (by omega), Option.bind_some]
      exact ⟨fun h => by rw [if_pos (decide_eq_true h)], fun h => by rw [if_neg (by rw [decide_eq_true_eq]; exact h)]⟩) l.length k 0 (by omega) hk
  rw [show ((0 : Nat) : Int) = 0 from rfl] at h
  have key : All l ↔ ∀ i : Nat, 0 ≤ i → i < l.length → ¬ ¬ Okf (l.getD i z48) := by
    constructor
    · intro hB i _ hi h
      exact h (All_get hB i hi)
    · intro h x hx
      obtain ⟨i, hi, rfl⟩ := List.getElem_of_mem hx
      have := h i (Nat.zero_le _) hi
      rw [getD_eq l z48 i hi] at this
      exact Classical.not_not.1 this
  rcases h with ⟨h1, h2⟩ | ⟨m, h1, _, h3, h4, _⟩
  · rw [show slices_IndexFunc_Frame_at_bag_Check_1.l0 k l l.length 0 = some (-1) from h1, Option.bind_some]
    congr 1
    rw [decide_eq_false (by decide), decide_eq_false (p := ¬ All l) (fun h => h (key.2 h2))]
  · rw [show slices_IndexFunc_Frame_at_bag_Check_1.l0 k l l.length 0 = some (m : Int) from h1, Option.bind_some]
    congr 1
    rw [decide_eq_true (by omega), decide_eq_true (p := ¬ All l) (fun h => key.1 h m (Nat.zero_le _) h3 h4)]
noncomputable def chk (l : List S48) : Int := if l.length > 300 then 2 else if All l then 0 else 1
theorem chk_0 {l : List S48} : chk l = 0 ↔ l.length ≤ 300 ∧ All l := by
  unfold chk
  by_cases h : l.length > 300
  · rw [if_pos h]; omega
  · rw [if_neg h]
    by_cases h2 : All l
    · rw [if_pos h2]; exact ⟨fun _ => ⟨by omega, h2⟩, fun _ => rfl⟩
    · rw [if_neg h2]; exact ⟨fun x => by omega, fun x => absurd x.2 h2⟩
theorem Check_f (l : List S48) (hl : l.length ≤ 1000000) (k : Nat) (hk : 310 < k) : bag_Check.f k l = some (chk l) := by
  unfold bag_Check.f chk
  by_cases h : l.length > 300
  · rw [if_pos (by omega), if_pos h]
  · rw [if_neg (by omega), if_neg h, Contains_f l hl k (by omega), Option.bind_some]
    by_cases h2 : All l
    · rw [if_pos h2, if_neg (by rw [decide_eq_true_eq]; exact fun x => x h2)]
    · rw [if_neg h2, if_pos (decide_eq_true h2)]
theorem Clone_f (l : List Int) (h : l.length < 140737488355328) : slices_Clone_byte.f l = some l := by
  unfold slices_Clone_byte.f
  simp only [Option.bind_some, List.length_nil, List.nil_append, Nat.zero_add, if_pos h]
theorem Twin_f (x : S48) (h : (x.f1.length : Int) ≤ 80) : bag_Twin.f x.f0 x.f1 = some (x.f0, x.f1) := by
  unfold bag_Twin.f
  rw [Clone_f _ (by omega), Option.bind_some]
theorem Twins_f (l : List S48) (ha : All l) (hl : l.length ≤ 1000000) (k : Nat) (hk : l.length < k) : bag_Twins.f k l = some l := by
  unfold bag_Twins.f
  have h := map_from (l := fun k out i => bag_Twins.l0 k out l l.length i) (n := l.length) (L := 1000000) (f := fun i => l.getD i z48) (r := fun out => out)
    (by intro k out; show bag_Twins.l0 (k + 1) out l l.length (l.length : Int) = _; rw [bag_Twins.l0.eq_2, if_neg (by omega)])
    (by
      intro k out j hj hL
      show bag_Twins.l0 (k + 1) out l l.length (j : Int) = _
      have hx := All_get ha j hj
      rw [bag_Twins.l0.eq_2, if_pos (by omega), if_pos (by omega), if_pos (by omega), p_rd, Twin_f _ hx.2.2, Option.bind_some, if_pos (by omega), wnext j (by omega)]) l.length k 0 [] (by omega) hk (by simp; omega)
  rw [range_get, List.nil_append] at h
  exact h
theorem Put_f (l : List S48) (x : S48) (hl : l.length ≤ 1000000) (k : Nat) (hk : 310 < k) : bag_Put.f k l x.f0 x.f1 = some (if chk l = 0 then (if Okf x then (if l.length ≥ 300 then ([], 6) else (l ++ [x], 0)) else ([], 1)) else ([], chk l)) := by
  unfold bag_Put.f
  rw [Check_f l hl k hk, Option.bind_some]
  by_cases h : chk l = 0
  · obtain ⟨h1, h2⟩ := chk_0.1 h
    rw [if_pos h, if_pos h, right_f, Option.bind_some]
    by_cases h3 : Okf x
    · rw [if_pos (decide_eq_true h3), if_pos h3]
      by_cases h4 : l.length ≥ 300
      · rw [if_pos (by omega), if_pos h4]
      · rw [if_neg (by omega), if_neg h4, Twins_f l h2 hl k (by omega), Option.bind_some, Twin_f x h3.2.2, Option.bind_some, if_pos (by omega)]
    · rw [if_neg (by rw [decide_eq_true_eq]; exact h3), if_neg h3]
  · rw [if_neg h, if_neg h]
noncomputable def has (l : List S48) (a : Int) : Int := if chk l = 0 then (if 0 ≤ a ∧ a < l.length then 0 else 7) else chk l
theorem has_f (l : List S48) (a : Int) (hl : l.length ≤ 1000000) (k : Nat) (hk : 310 < k) : bag_has.f k l a = some (has l a) := by
  unfold bag_has.f has
  rw [Check_f l hl k hk, Option.bind_some]
  by_cases h : chk l = 0
  · rw [if_pos h, if_pos h]
    by_cases h1 : a < 0
    · rw [if_pos h1, if_neg (by omega)]
    · rw [if_neg h1]
      by_cases h2 : a ≥ l.length
      · rw [if_pos h2, if_neg (by omega)]
      · rw [if_neg h2, if_pos (by omega), h]
  · rw [if_neg h, if_neg h]
theorem has_0 {l : List S48} {a : Int} : has l a = 0 ↔ l.length ≤ 300 ∧ All l ∧ 0 ≤ a ∧ a < l.length := by
  unfold has
  by_cases h : chk l = 0
  · have h' := chk_0.1 h
    rw [if_pos h]
    by_cases h2 : 0 ≤ a ∧ a < l.length
    · rw [if_pos h2]; exact ⟨fun _ => ⟨h'.1, h'.2, h2⟩, fun _ => rfl⟩
    · rw [if_neg h2]; exact ⟨fun x => by omega, fun x => absurd x.2.2 h2⟩
  · rw [if_neg h]; exact ⟨fun x => absurd x h, fun x => absurd (chk_0.2 ⟨x.1, x.2.1⟩) h⟩
theorem Take_f (l : List S48) (a : Int) (hl : l.length ≤ 1000000) (k : Nat) (hk : 310 < k) : bag_Take.f k l a =
    some (if has l a = 0 then ((l.getD a.toNat z48).f0, (l.getD a.toNat z48).f1, l.take a.toNat ++ l.drop (a + 1).toNat, 0) else (0, [], [], has l a)) := by
  unfold bag_Take.f
  rw [has_f l a hl k hk, Option.bind_some]
  by_cases h : has l a = 0
  · obtain ⟨h1, h2, h3, h4⟩ := has_0.1 h
    have hx := All_get h2 a.toNat (by omega)
    have e : rd_T48 l a = l.getD a.toNat z48 := rfl
    rw [if_pos h, if_pos h, if_pos h3, if_pos h4, e, Twin_f _ hx.2.2, Option.bind_some, if_pos (by omega), Twins_f _ (All_take h2 _) (by simp; omega) k (by simp; omega), Option.bind_some, w64 _ (by omega) (by omega), if_pos (by omega), if_pos (by omega),
      Twins_f _ (All_drop h2 _) (by simp; omega) k (by simp; omega), Option.bind_some, if_pos (by simp; omega)]
  · rw [if_neg h, if_neg h]
theorem Twice_f (l : List S48) (a : Int) (hl : l.length ≤ 1000000) (k : Nat) (hk : 310 < k) : bag_Twice.f k l a =
    some (if has l a = 0 then (if l.length ≥ 300 then ([], 6) else (l ++ [l.getD a.toNat z48], 0)) else ([], has l a)) := by
  unfold bag_Twice.f
  rw [has_f l a hl k hk, Option.bind_some]
  by_cases h : has l a = 0
  · obtain ⟨h1, h2, h3, h4⟩ := has_0.1 h
    have hx := All_get h2 a.toNat (by omega)
    have e : rd_T48 l a = l.getD a.toNat z48 := rfl
    rw [if_pos h, if_pos h]
    by_cases h5 : l.length ≥ 300
    · rw [if_pos (by omega), if_pos h5]
    · rw [if_neg (by omega), if_neg h5, Twins_f l h2 hl k (by omega), Option.bind_some, if_pos h3, if_pos h4, e, Twin_f _ hx.2.2, Option.bind_some, if_pos (by omega)]
  · rw [if_neg h, if_neg h]
theorem Bytes_f (a b : List Int) (k : Nat) (hk : a.length < k) (hl : a.length < 1000000000) : bk_Bytes.f k a b = some (decide (a = b)) := by
  unfold bk_Bytes.f
  by_cases h : a.length = b.length
  · rw [if_pos (by omega)]
    have h := all_loop (l := fun k i => bk_Bytes.l0 k a b i) (n := a.length) (p := fun i => a.getD i 0 = b.getD i 0)
      (by intro k; rw [bk_Bytes.l0.eq_2, if_neg (by omega)])
      (by
        intro k j hj
        rw [bk_Bytes.l0.eq_2, if_pos (by omega), if_pos (by omega), if_pos (by omega), rd_nat, rd_nat, wnext j (by omega)]
        by_cases e : a.getD j 0 = b.getD j 0 <;> simp only [e, if_true, if_false]) k hk
    rw [show bk_Bytes.l0 k a b 0 = _ from h]
    congr 1
    exact decide_eq_decide.2 (ext_getD 0 (by assumption))
  · rw [if_neg (by omega)]
    congr 1
    exact (decide_eq_false (fun e => h (by rw [e]))).symm
theorem Frame_f (x y : S48) (k : Nat) (hk : x.f1.length < k) (hl : x.f1.length < 1000000000) : bk_Frame.f k x.f0 x.f1 y.f0 y.f1 = some (decide (x = y)) := by
  unfold bk_Frame.f
  have e : x = y ↔ x.f0 = y.f0 ∧ x.f1 = y.f1 := by cases x; cases y; simp
  by_cases h : x.f0 = y.f0
  · rw [if_pos h, Bytes_f _ _ k hk hl, Option.bind_some]; congr 1; exact decide_eq_decide.2 (by rw [e]; exact ⟨fun z => ⟨h, z⟩, fun z => z.2⟩)
  · rw [if_neg h]; congr 1; exact (decide_eq_false (by rw [e]; exact fun z => h z.1)).symm
theorem Frames_l0 (a b : List S48) (ha : All a) (hab : a.length = b.length) (hl : a.length ≤ 1000) : ∀ (d j k : Nat), j + d = a.length → d + 100 < k → bk_Frames.l0 k a b (j : Int) = some (decide (∀ i : Nat, j ≤ i → i < a.length → a.getD i z48 = b.getD i z48)) := by
  intro d
  induction d with
  | zero =>
    intro j k hj hk
    obtain ⟨k, rfl⟩ : ∃ m, k = m + 1 := ⟨k - 1, by omega⟩
    rw [bk_Frames.l0.eq_2, if_neg (by omega), decide_eq_true (p := ∀ i : Nat, j ≤ i → i < a.length → a.getD i z48 = b.getD i z48) (fun i h1 h2 => by omega)]
  | succ d ih =>
    intro j k hj hk
    obtain ⟨k, rfl⟩ : ∃ m, k = m + 1 := ⟨k - 1, by omega⟩
    have hx := All_get ha j (by omega)
    have h80 := hx.2.2
    rw [bk_Frames.l0.eq_2, if_pos (by omega), if_pos (by omega), if_pos (by omega), p_rd, p_rd, Frame_f _ _ k (by omega) (by omega), Option.bind_some, wnext j (by omega)]
    by_cases e : a.getD j z48 = b.getD j z48
    · rw [if_pos (decide_eq_true e), ih (j + 1) k (by omega) (by omega)]
      congr 1
      refine decide_eq_decide.2 ⟨fun h i h1 h2 => ?_, fun h i h1 h2 => h i (by omega) h2⟩
      by_cases hij : i = j
      · rw [hij]; exact e
      · exact h i (by omega) h2
    · rw [if_neg (by rw [decide_eq_true_eq]; exact e)]
      congr 1
      exact (decide_eq_false (fun h => e (h j (by omega) (by omega)))).symm
theorem Frames_f (a b : List S48) (ha : All a) (hl : a.length ≤ 1000) (k : Nat) (hk : a.length + 100 < k) : bk_Frames.f k a b = some (decide (a = b)) := by
  unfold bk_Frames.f
  by_cases h : a.length = b.length
  · have h0 := Frames_l0 a b ha h hl a.length 0 k (by omega) hk
    have e : ((0 : Nat) : Int) = 0 := rfl
    rw [e] at h0
    rw [if_pos (by omega), h0]
    congr 1
    exact decide_eq_decide.2 ⟨fun z => (ext_getD z48 h).1 (fun i hi => z i (by omega) hi), fun z i _ hi => (ext_getD z48 h).2 z i hi⟩
  · rw [if_neg (by omega)]
    congr 1
    exact (decide_eq_false (fun e => h (by rw [e]))).symm
def bent (x : S48) (p m : Int) : S48 := ⟨x.f0, x.f1.set p.toNat (Go.bits .xor .u8 (rd x.f1 p) (m % 256))⟩
theorem Corrupt_f (l : List S48) (a p m : Int) (hl : l.length ≤ 1000000) (k : Nat) (hk : 320 < k) : bag_Corrupt.f k l a p m =
    some (if has l a = 0 then (if p < 0 ∨ m < 1 ∨ m > 255 then ([], 1) else if p ≥ ((l.getD a.toNat z48).f1.length : Int) then ([], 2) else (l.set a.toNat (bent (l.getD a.toNat z48) p m), 0)) else ([], has l a)) := by
  obtain ⟨k, rfl⟩ : ∃ q, k = q + 1 := ⟨k - 1, by omega⟩
  have jt : bag_Corrupt.j0 (k + 1) l a p m true = some ([], 1) := by rw [bag_Corrupt.j0.eq_2, if_pos rfl]
  unfold bag_Corrupt.f
  rw [has_f l a hl _ (by omega), Option.bind_some]
  by_cases h : has l a = 0
  · obtain ⟨h1, h2, h3, h4⟩ := has_0.1 h
    have e : rd_T48 l a = l.getD a.toNat z48 := rfl
    rw [if_pos h, if_pos h]
    by_cases c1 : p < 0
    · rw [if_pos c1, if_pos (Or.inl c1), jt]
    · rw [if_neg c1]
      by_cases c2 : m < 1
      · rw [if_pos c2, if_pos (Or.inr (Or.inl c2)), jt]
      · rw [if_neg c2]
        by_cases c3 : m > 255
        · rw [decide_eq_true c3, if_pos (Or.inr (Or.inr c3)), jt]
        · rw [decide_eq_false c3, if_neg (by omega), bag_Corrupt.j0.eq_2, if_neg (by decide), if_pos h3, if_pos h4, e]
          by_cases c4 : p ≥ ((l.getD a.toNat z48).f1.length : Int)
          · rw [if_pos c4, if_pos c4]
          · rw [if_neg c4, if_neg c4, Twins_f l h2 hl k (by omega), Option.bind_some, if_pos h4, if_pos (by omega), e, if_pos (by omega)]
            rfl
  · rw [if_neg h, if_neg h]
theorem Heavy_f (l : List S48) (k : Nat) (hk : 400 < k) : ∃ b, L08_Heavy.f k l = some b := by
  obtain ⟨k, rfl⟩ : ∃ q, k = q + 1 := ⟨k - 1, by omega⟩
  have jt : L08_Heavy.j0 (k + 1) l true = some true := by rw [L08_Heavy.j0.eq_2, if_pos rfl]
  have lo : ∀ (d j k : Nat), j + d = l.length → d < k → l.length ≤ 303 → ∃ b, L08_Heavy.l0 k l (j : Int) = some b := by
    intro d
    induction d with
    | zero =>
      intro j k hj hk hl
      obtain ⟨k, rfl⟩ : ∃ m, k = m + 1 := ⟨k - 1, by omega⟩
      exact ⟨false, by rw [L08_Heavy.l0.eq_2, if_neg (by omega)]⟩
    | succ d ih =>
      intro j k hj hk hl
      obtain ⟨k, rfl⟩ : ∃ m, k = m + 1 := ⟨k - 1, by omega⟩
      rw [L08_Heavy.l0.eq_2, if_pos (by omega), if_pos (by omega)]
      by_cases h : (((rd_T48 l j).f1).length : Int) > 200
      · exact ⟨true, by rw [if_pos h]⟩
      · rw [if_neg h, wnext j (by omega)]
        exact ih (j + 1) k (by omega) (by omega) hl
  unfold L08_Heavy.f
  have jd : ∃ b, L08_Heavy.j0 (k + 1) l (decide ((l.length : Int) > 303)) = some b := by
    by_cases h : (l.length : Int) > 303
    · rw [decide_eq_true h, jt]; exact ⟨_, rfl⟩
    · rw [decide_eq_false h, L08_Heavy.j0.eq_2, if_neg (by decide)]
      exact lo l.length 0 k (by omega) (by omega) (by omega)
  by_cases h : (l.length : Int) > 60
  · rw [if_pos h]
    by_cases h2 : (l.length : Int) < 300
    · rw [if_pos h2, jt]; exact ⟨_, rfl⟩
    · rw [if_neg h2]; exact jd
  · rw [if_neg h]; exact jd
theorem wakes_f (k : Nat) (hk : 400 ≤ k) : L08_wakes.f k = some true := at_rounds (fun k => L08_wakes.mono k) hk (by decide +kernel)
end Go.Proofs.Ytfljapcnkhjmgaa.BagLibE
