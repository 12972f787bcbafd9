/- The law CrcLinear, over numbers and lists. -/
import Derived.Test.YtmjfjjnoconmoaaPCx4
import Derived.Test.YtmjfjjnoconmoaaCrcLib
namespace Go.Proofs.Ytmjfjjnoconmoaa.Pure
open Go.RowKit Go.Proofs.Ytmjfjjnoconmoaa.PC Go.Proofs.YtmjfjjnoconmoaaB Go.Proofs.Ytmjfjjnoconmoaa.CrcLib Go.Proofs.YtmjfjjnoconmoaaW.PrintWords Go.Proofs.YtmjfjjnoconmoaaW.PrintLast Go.Proofs.YtmjfjjnoconmoaaW.PrintMore
open Classical
set_option linter.unusedVariables false
set_option linter.unusedSimpArgs false

theorem st1_xor (a b : Nat) : st1 (a ^^^ b) = st1 a ^^^ st1 b := by
  unfold st1
  have h1 : (a ^^^ b) / 2 = a / 2 ^^^ b / 2 := Nat.xor_div_two
  have h2 : (a ^^^ b) % 2 = 1 ↔ ¬ (a % 2 = 1 ↔ b % 2 = 1) := Nat.xor_mod_two_eq_one
  by_cases ha : a % 2 = 1 <;> by_cases hb : b % 2 = 1
  · rw [if_neg (by rw [h2]; simp [ha, hb]), if_pos ha, if_pos hb, h1, show a / 2 ^^^ 3988292384 ^^^ (b / 2 ^^^ 3988292384) = (a / 2 ^^^ b / 2) ^^^ (3988292384 ^^^ 3988292384) from by ac_rfl, Nat.xor_self, Nat.xor_zero]
  · rw [if_pos (by rw [h2]; simp [ha, hb]), if_pos ha, if_neg hb, h1]; ac_rfl
  · rw [if_pos (by rw [h2]; simp [ha, hb]), if_neg ha, if_pos hb, h1]; ac_rfl
  · rw [if_neg (by rw [h2]; simp [ha, hb]), if_neg ha, if_neg hb, h1]
theorem itN_xor : ∀ (j a b : Nat), itN j (a ^^^ b) = itN j a ^^^ itN j b
  | 0, a, b => rfl
  | j + 1, a, b => by
    show itN j (st1 (a ^^^ b)) = itN j (st1 a) ^^^ itN j (st1 b)
    rw [st1_xor, itN_xor j]
theorem byteN_xor (p q r x y z : Nat) : byteN (p ^^^ q ^^^ r) (x ^^^ y ^^^ z) = byteN p x ^^^ byteN q y ^^^ byteN r z := by
  unfold byteN
  rw [show p ^^^ q ^^^ r ^^^ (x ^^^ y ^^^ z) = (p ^^^ x) ^^^ (q ^^^ y) ^^^ (r ^^^ z) from by ac_rfl, itN_xor, itN_xor]
def x3 : List Int → List Int → List Int → List Int
  | a :: at_, b :: bt, c :: ct => ((a.toNat ^^^ b.toNat ^^^ c.toNat : Nat) : Int) :: x3 at_ bt ct
  | _, _, _ => []
theorem reg_x3 : ∀ (a b c : List Int) (p q r : Nat), a.length = b.length → a.length = c.length → reg (p ^^^ q ^^^ r) (x3 a b c) = reg p a ^^^ reg q b ^^^ reg r c
  | [], [], [], p, q, r, _, _ => rfl
  | x :: a, y :: b, z :: c, p, q, r, h1, h2 => by
    show reg (byteN (p ^^^ q ^^^ r) (((x.toNat ^^^ y.toNat ^^^ z.toNat : Nat) : Int).toNat)) (x3 a b c) = reg (byteN p x.toNat) a ^^^ reg (byteN q y.toNat) b ^^^ reg (byteN r z.toNat) c
    rw [Int.toNat_natCast, byteN_xor, reg_x3 a b c _ _ _ (by simpa using h1) (by simpa using h2)]
  | [], _ :: _, _, _, _, _, h1, _ => by simp at h1
  | [], [], _ :: _, _, _, _, _, h2 => by simp at h2
  | _ :: _, [], _, _, _, _, h1, _ => by simp at h1
  | _ :: _, _ :: _, [], _, _, _, _, h2 => by simp at h2
theorem crc_x3 (a b c : List Int) (h1 : a.length = b.length) (h2 : a.length = c.length) : crcN (x3 a b c) = crcN a ^^^ crcN b ^^^ crcN c := by
  unfold crcN
  have h := reg_x3 a b c 4294967295 4294967295 4294967295 h1 h2
  rw [show 4294967295 ^^^ 4294967295 ^^^ 4294967295 = 4294967295 from by decide] at h
  rw [h, show (4294967295 ^^^ reg 4294967295 a) ^^^ (4294967295 ^^^ reg 4294967295 b) ^^^ (4294967295 ^^^ reg 4294967295 c) = (4294967295 ^^^ 4294967295 ^^^ 4294967295) ^^^ (reg 4294967295 a ^^^ reg 4294967295 b ^^^ reg 4294967295 c) from by ac_rfl,
    show 4294967295 ^^^ 4294967295 ^^^ 4294967295 = 4294967295 from by decide]
theorem xor_256 {a b : Nat} (ha : a < 256) (hb : b < 256) : a ^^^ b < 256 := Nat.xor_lt_two_pow (n := 8) ha hb
theorem x3_Bs : ∀ (a b c : List Int), Bs a → Bs b → Bs c → Bs (x3 a b c)
  | x :: a, y :: b, z :: c, ha, hb, hc => by
    intro w hw
    have h0 := ha x (List.mem_cons_self ..)
    have h1 := hb y (List.mem_cons_self ..)
    have h2 := hc z (List.mem_cons_self ..)
    rcases List.mem_cons.1 hw with rfl | hw
    · have := xor_256 (xor_256 (show x.toNat < 256 by omega) (show y.toNat < 256 by omega)) (show z.toNat < 256 by omega)
      omega
    · exact x3_Bs a b c (fun v hv => ha v (List.mem_cons_of_mem _ hv)) (fun v hv => hb v (List.mem_cons_of_mem _ hv)) (fun v hv => hc v (List.mem_cons_of_mem _ hv)) w hw
  | [], _, _, _, _, _ => by intro w hw; simp [x3] at hw
  | _ :: _, [], _, _, _, _ => by intro w hw; simp [x3] at hw
  | _ :: _, _ :: _, [], _, _, _ => by intro w hw; simp [x3] at hw
theorem x3_len : ∀ (a b c : List Int), a.length = b.length → a.length = c.length → (x3 a b c).length = a.length
  | [], _, _, _, _ => rfl
  | x :: a, y :: b, z :: c, h1, h2 => by simp [x3, x3_len a b c (by simpa using h1) (by simpa using h2)]
  | _ :: _, [], _, h1, _ => by simp at h1
  | _ :: _, _ :: _, [], _, h2 => by simp at h2
theorem x8 (a b : Int) (ha : 0 ≤ a ∧ a ≤ 255) (hb : 0 ≤ b ∧ b ≤ 255) : Go.bits .xor .u8 a b = ((a.toNat ^^^ b.toNat : Nat) : Int) := u8_xor a b ha.1 (by omega) hb.1 (by omega)
theorem x64 (a b : Nat) (ha : a < 4294967296) (hb : b < 4294967296) : Go.bits .xor .i64 (a : Int) (b : Int) = ((a ^^^ b : Nat) : Int) := by
  have hx : a ^^^ b < 4294967296 := xor_lt ha hb
  show IntKind.i64.wrap ((BitVec.ofInt 64 (a : Int) ^^^ BitVec.ofInt 64 (b : Int)).toNat : Int) = _
  rw [BitVec.toNat_xor, ofInt_u64 a (by omega), ofInt_u64 b (by omega)]
  rw [IntKind.wrap_i64]
  omega
theorem lin_l0 (a b c : List Int) (n : Nat) (hA : Bs a) (hB : Bs b) (hC : Bs c) (ha : n ≤ a.length) (hb : n ≤ b.length) (hc : n ≤ c.length) (hn : n ≤ 400) : ∀ (m i k : Nat) (pre : List Int), i + m = n → pre.length = i →
    L05_CrcLinear.l0 (k + m + 1) a b c (n : Int) (pre ++ List.replicate m 0) (i : Int) = (crc_Sum.f k (pre ++ x3 ((a.take n).drop i) ((b.take n).drop i) ((c.take n).drop i))).bind fun t599 => (L05_CrcLinear.j1 k a b c n t599)
  | 0, i, k, pre, hi, hp => by
    rw [L05_CrcLinear.l0.eq_2, if_neg (by omega), List.drop_of_length_le (by simp; omega)]
    rfl
  | m + 1, i, k, pre, hi, hp => by
    have h0 := Bs_get hA i
    have h1 := Bs_get hB i
    have h2 := Bs_get hC i
    rw [L05_CrcLinear.l0.eq_2, if_pos (by omega), if_pos (by omega), if_pos (by omega), if_pos (by omega), if_pos (by omega), if_pos (by simp; omega), rd_nat, rd_nat, rd_nat, x8 _ _ h0 h1]
    have hx := xor_256 (show (a.getD i 0).toNat < 256 by omega) (show (b.getD i 0).toNat < 256 by omega)
    rw [x8 _ _ (by omega) h2, Int.toNat_natCast, Int.toNat_natCast, List.set_append_right _ _ (by omega), hp, Nat.sub_self, List.replicate_succ, List.set_cons_zero, wnext i (by omega)]
    have e : ∀ (w : Int) (t : List Int), pre ++ w :: t = (pre ++ [w]) ++ t := by intro w t; simp
    rw [e, show k + (m + 1) = k + m + 1 from rfl, lin_l0 a b c n hA hB hC ha hb hc hn m (i + 1) k _ (by omega) (by simp; omega)]
    have g : ∀ (l : List Int), n ≤ l.length → (l.take n).drop i = l.getD i 0 :: (l.take n).drop (i + 1) := by
      intro l hl
      rw [List.drop_eq_getElem_cons (show i < (l.take n).length by simp; omega), List.getElem_take, getD_eq l 0 i (by omega)]
    rw [g a ha, g b hb, g c hc]
    simp only [x3, List.append_assoc, List.cons_append, List.nil_append]
theorem CrcLinear : L05_CrcLinear.Pure := by
  intro a b c ha hb hc
  have hA : Bs a := fun x hx => u8b (ha.2 x hx)
  have hB : Bs b := fun x hx => u8b (hb.2 x hx)
  have hC : Bs c := fun x hx => u8b (hc.2 x hx)
  refine ⟨4600 + min (min a.length b.length) c.length + 1, ?_⟩
  generalize hn : min (min a.length b.length) c.length = n
  have e : mn (mn (a.length : Int) (b.length : Int)) (c.length : Int) = (n : Int) := by rw [mn_eq, mn_eq]; omega
  unfold L05_CrcLinear.f
  rw [e]
  by_cases h1 : (n : Int) > 400
  · rw [if_pos h1]
  · have l1 : n ≤ a.length := by omega
    have l2 : n ≤ b.length := by omega
    have l3 : n ≤ c.length := by omega
    rw [if_neg h1, if_pos (by omega), if_pos (by omega), Int.toNat_natCast]
    refine (lin_l0 a b c n hA hB hC l1 l2 l3 (by omega) n 0 4600 [] (by omega) rfl).trans ?_
    simp only [List.drop_zero, List.nil_append]
    have t1 : (a.take n).length = n := by simp; omega
    have t2 : (b.take n).length = n := by simp; omega
    have t3 : (c.take n).length = n := by simp; omega
    rw [Sum_f _ (x3_Bs _ _ _ (Bs_take hA n) (Bs_take hB n) (Bs_take hC n)) (by rw [x3_len _ _ _ (by omega) (by omega)]; omega) _ (by rw [x3_len _ _ _ (by omega) (by omega)]; omega)]
    simp only [Option.bind_some]
    rw [L05_CrcLinear.j1.eq_2, if_pos (by omega), if_pos (by omega), Int.toNat_natCast, Sum_f _ (Bs_take hA n) (by omega) _ (by omega)]
    simp only [Option.bind_some]
    rw [if_pos (by omega), Sum_f _ (Bs_take hB n) (by omega) _ (by omega)]
    simp only [Option.bind_some]
    rw [if_pos (by omega), Sum_f _ (Bs_take hC n) (by omega) _ (by omega)]
    simp only [Option.bind_some]
    have k1 := crcN_lt (Bs_take hA n)
    have k2 := crcN_lt (Bs_take hB n)
    have k3 := crcN_lt (Bs_take hC n)
    rw [x64 _ _ k1 k2, x64 _ _ (xor_lt k1 k2) k3, crc_x3 _ _ _ (by omega) (by omega), if_pos rfl]
    have k4 := xor_lt (xor_lt k1 k2) k3
    rw [if_pos (by omega), if_pos (by omega), wakes_f _ (by omega)]
    rfl
end Go.Proofs.Ytmjfjjnoconmoaa.Pure
