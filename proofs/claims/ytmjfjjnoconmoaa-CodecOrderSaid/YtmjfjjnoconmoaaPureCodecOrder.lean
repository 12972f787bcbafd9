/- A greater number's bytes stand behind a lesser one's; a byte at the end is worth one, each ahead of it 256 times as much: over numbers and lists, for all numbers. -/
import Derived.Test.YtmjfjjnoconmoaaPDx6
import Derived.Test.YtmjfjjnoconmoaaCodecLib
namespace Go.Proofs.Ytmjfjjnoconmoaa.Pure
open Go.RowKit Go.Proofs.Ytmjfjjnoconmoaa.PD Go.Proofs.Ytmjfjjnoconmoaa.CodecLib Go.Proofs.YtmjfjjnoconmoaaB Go.Proofs.YtmjfjjnoconmoaaW.PrintWords Go.Proofs.YtmjfjjnoconmoaaW.PrintLast Go.Proofs.YtmjfjjnoconmoaaW.PrintMore
open Classical
set_option linter.unusedVariables false

theorem sizes4o (a : Int) : OkSize (rd [1, 2, 4, 8] (wrap64 (Int.tmod (IntKind.u64.wrap a) 4))) ∧ 0 ≤ wrap64 (Int.tmod (IntKind.u64.wrap a) 4) ∧ wrap64 (Int.tmod (IntKind.u64.wrap a) 4) < 4 := by
  have := tmodb a 4 (by decide)
  rw [w64 _ (by omega) (by omega)]
  refine ⟨?_, this.1, this.2⟩
  generalize Int.tmod (IntKind.u64.wrap a) 4 = t at this
  have h : t = 0 ∨ t = 1 ∨ t = 2 ∨ t = 3 := by omega
  unfold OkSize
  rcases h with rfl | rfl | rfl | rfl <;> decide
theorem fold_be (l : List Int) : ∀ acc, l.foldl (fun n c => n * 256 + c) acc = acc * 256 ^ l.length + be l := by
  induction l with
  | nil => intro acc; simp [be]
  | cons c r ih =>
    intro acc
    have e0 : be (c :: r) = c * 256 ^ r.length + be r := by
      show r.foldl _ (0 * 256 + c) = _
      rw [ih, show (0 : Int) * 256 + c = c from by omega]
    rw [e0]
    show r.foldl _ (acc * 256 + c) = _
    rw [ih, List.length_cons, Int.pow_succ, Int.add_mul, Int.mul_assoc, Int.mul_comm 256 (256 ^ r.length)]
    omega
theorem be_cons (c : Int) (r : List Int) : be (c :: r) = c * 256 ^ r.length + be r := by
  show r.foldl _ (0 * 256 + c) = _
  rw [fold_be, show (0 : Int) * 256 + c = c from by omega]
theorem be_lt {l : List Int} (h : Bs l) : 0 ≤ be l ∧ be l < 256 ^ l.length := by
  have := be_b h l.length (Nat.le_refl _)
  rwa [List.take_of_length_le (Nat.le_refl _)] at this
def u8s (l : List Int) : List UInt8 := l.map fun n => UInt8.ofNat n.toNat
theorem u8_lt (a b : Int) (ha : 0 ≤ a ∧ a ≤ 255) (hb : 0 ≤ b ∧ b ≤ 255) : (UInt8.ofNat a.toNat < UInt8.ofNat b.toNat ↔ a < b) ∧ (UInt8.ofNat a.toNat = UInt8.ofNat b.toNat ↔ a = b) := by
  rw [UInt8.lt_iff_toNat_lt, ← UInt8.toNat_inj, UInt8.toNat_ofNat', UInt8.toNat_ofNat', Nat.mod_eq_of_lt (by omega), Nat.mod_eq_of_lt (by omega)]
  omega
theorem less_be : ∀ (x y : List Int), Bs x → Bs y → x.length = y.length → Op.bytesLess (u8s x) (u8s y) = decide (be x < be y)
  | [], [], _, _, _ => by simp [u8s, Op.bytesLess, be]
  | a :: x, b :: y, hx, hy, hl => by
    have ha := hx a (by simp)
    have hb := hy b (by simp)
    have hx' : Bs x := fun z hz => hx z (by simp [hz])
    have hy' : Bs y := fun z hz => hy z (by simp [hz])
    have hl' : x.length = y.length := by simpa using hl
    have ih := less_be x y hx' hy' hl'
    have bx := be_lt hx'
    have by_ := be_lt hy'
    rw [hl'] at bx
    obtain ⟨h1, h2⟩ := u8_lt a b ha hb
    show (UInt8.ofNat a.toNat < UInt8.ofNat b.toNat || (UInt8.ofNat a.toNat == UInt8.ofNat b.toNat && Op.bytesLess (u8s x) (u8s y))) = _
    rw [ih, be_cons, be_cons, hl']
    have hP : (0 : Int) < 256 ^ y.length := Int.pow_pos (by decide)
    generalize (256 : Int) ^ y.length = P at *
    rcases Int.lt_trichotomy a b with h | h | h
    · have e : a * P + P ≤ b * P := by
        have := Int.mul_le_mul_of_nonneg_right (show a + 1 ≤ b by omega) (Int.le_of_lt hP)
        rw [Int.add_mul] at this
        omega
      rw [decide_eq_true (h1.2 h), decide_eq_true (show a * P + be x < b * P + be y by omega)]
      rfl
    · subst h
      rw [decide_eq_false (fun z => by have := h1.1 z; omega), Bool.false_or, beq_self_eq_true, Bool.true_and]
      exact decide_eq_decide.2 (by omega)
    · have e : b * P + P ≤ a * P := by
        have := Int.mul_le_mul_of_nonneg_right (show b + 1 ≤ a by omega) (Int.le_of_lt hP)
        rw [Int.add_mul] at this
        omega
      rw [decide_eq_false (fun z => by have := h1.1 z; omega), Bool.false_or, beq_eq_false_iff_ne.2 (fun z => by have := h2.1 z; omega), Bool.false_and]
      exact (decide_eq_false (by omega)).symm
theorem str_list (l : List Int) : (strOfNums l).toList = u8s l := by
  rw [ByteArray.toList_eq]
  simp [strOfNums, u8s]
theorem u8s_inj : ∀ (x y : List Int), Bs x → Bs y → u8s x = u8s y → x = y
  | [], [], _, _, _ => rfl
  | [], b :: y, _, _, h => by simp [u8s] at h
  | a :: x, [], _, _, h => by simp [u8s] at h
  | a :: x, b :: y, hx, hy, h => by
    simp only [u8s, List.map_cons, List.cons.injEq] at h
    rw [(u8_lt a b (hx a (by simp)) (hy b (by simp))).2.1 h.1, u8s_inj x y (fun z hz => hx z (by simp [hz])) (fun z hz => hy z (by simp [hz])) h.2]
theorem order_l0 (s a b : Int) (hs : OkSize s) (ha : Fits s a) (hb : Fits s b) : ∀ (d j k : Nat), j + d = s.toNat → d + 100 < k → L04_CodecOrder.l0 k s a b (digs s a) (digs s b) (be ((digs s a).take j)) j = some true := by
  have hsz := sz_b hs
  have la := digs_length s a
  have lb := digs_length s b
  intro d
  induction d with
  | zero =>
    intro j k hj hk
    obtain ⟨k, rfl⟩ : ∃ z, k = z + 1 := ⟨k - 1, by omega⟩
    simp only [L04_CodecOrder.l0]
    rw [if_neg (by omega), List.take_of_length_le (by omega), be_digs s a hs ha, if_pos rfl, str_list, str_list, less_be _ _ (digs_Bs s a) (digs_Bs s b) (by omega), be_digs s a hs ha, be_digs s b hs hb, wakes_f _ (by omega)]
    have heq : u8s (digs s a) = u8s (digs s b) ↔ a = b := by
      constructor
      · intro h
        have := congrArg be (u8s_inj _ _ (digs_Bs s a) (digs_Bs s b) h)
        rwa [be_digs s a hs ha, be_digs s b hs hb] at this
      · rintro rfl; rfl
    by_cases h1 : a < b
    · have h2 : ¬ a = b := by omega
      simp [h1, heq, h2]
    · by_cases h2 : a = b
      · simp [h2]
      · simp [h1, heq, h2]
  | succ d ih =>
    intro j k hj hk
    obtain ⟨k, rfl⟩ : ∃ z, k = z + 1 := ⟨k - 1, by omega⟩
    simp only [L04_CodecOrder.l0]
    have hm := be_mono (digs_Bs s a) (s.toNat - (j + 1)) (j + 1) (by omega)
    have h0 := be_b (digs_Bs s a) j (by omega)
    have hc := Bs_get (digs_Bs s a) j
    have ht := be_take (digs s a) j (by omega)
    rw [be_digs s a hs ha] at hm
    have := ha.2.1
    rw [if_pos (by omega), if_pos (by omega), if_pos (by omega), rd_nat, w64 (_ * 256) (by omega) (by omega), w64 ((digs s a).getD j 0) (by omega) (by omega), w64 _ (by omega) (by omega), ← ht, wnext j (by omega)]
    exact ih (j + 1) k (by omega) (by omega)
theorem CodecOrder : L04_CodecOrder.Pure := by
  intro a0 a b h0 h1 h2
  refine ⟨1000, ?_⟩
  obtain ⟨hs, hi0, hi4⟩ := sizes4o a0
  unfold L04_CodecOrder.f
  simp only [Option.bind_some]
  rw [if_pos hi0, if_pos (by simpa using hi4)]
  generalize rd [1, 2, 4, 8] (wrap64 (Int.tmod (IntKind.u64.wrap a0) 4)) = s at hs
  have hb := sz_b hs
  rw [Put_f [] s a (by simp) _ (by omega), Put_f [] s b (by simp) _ (by omega)]
  simp only [Option.bind_some, List.nil_append]
  have bad : ∀ x z : List Int, ∀ p q : Int, p = 1 ∨ q = 1 → L04_CodecOrder.j0 1000 s a b x p z q true = some true := by
    intro x z p q h
    simp only [L04_CodecOrder.j0, if_true]
    rw [wakes_f _ (by omega)]
    rcases h with h | h <;> simp [h]
  by_cases ha : OkSize s ∧ Fits s a
  · rw [if_pos ha]
    by_cases hb' : OkSize s ∧ Fits s b
    · rw [if_pos hb']
      have la := digs_length s a
      have lb := digs_length s b
      simp only [if_true]
      rw [if_pos (by omega), show (((digs s b).length : Int) != s) = false from by rw [bne_eq_false_iff_eq]; omega]
      simp only [L04_CodecOrder.j0]
      rw [if_neg (by decide)]
      exact order_l0 s a b hs ha.2 hb'.2 s.toNat 0 999 (by omega) (by omega)
    · rw [if_neg hb']
      simp only [if_true]
      rw [if_neg (by decide)]
      exact bad _ _ _ _ (.inr rfl)
  · rw [if_neg ha]
    rw [if_neg (by decide)]
    refine bad _ _ _ _ (.inl rfl)
end Go.Proofs.Ytmjfjjnoconmoaa.Pure
