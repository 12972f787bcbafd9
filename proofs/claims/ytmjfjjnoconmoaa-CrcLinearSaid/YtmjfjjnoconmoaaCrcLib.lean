/- What the functions of crc, and those of the reference, come to. -/
import Derived.Test.YtmjfjjnoconmoaaPCx3
import Derived.Test.YtmjfjjnoconmoaaBase
import Derived.Laws.BitsAllLaws
namespace Go.Proofs.Ytmjfjjnoconmoaa.CrcLib
open Go.RowKit Go.Proofs.Ytmjfjjnoconmoaa.PC Go.Proofs.YtmjfjjnoconmoaaB Go.Proofs.YtmjfjjnoconmoaaW.PrintWords Go.Proofs.YtmjfjjnoconmoaaW.PrintLast Go.Proofs.YtmjfjjnoconmoaaW.PrintMore
open Classical
set_option linter.unusedVariables false
set_option linter.unusedSimpArgs false

def Bs (l : List Int) : Prop := ∀ x ∈ l, 0 ≤ x ∧ x ≤ 255
theorem Bs_get {l : List Int} (h : Bs l) (j : Nat) : 0 ≤ l.getD j 0 ∧ l.getD j 0 ≤ 255 := by
  by_cases hj : j < l.length
  · rw [getD_eq l 0 j hj]; exact h _ (List.getElem_mem hj)
  · rw [List.getD_eq_getElem?_getD, List.getElem?_eq_none (by omega)]; simp
theorem Bs_take {a : List Int} (ha : Bs a) (n : Nat) : Bs (a.take n) := fun x hx => ha x (List.mem_of_mem_take hx)
def st1 (n : Nat) : Nat := if n % 2 = 1 then (n / 2) ^^^ 3988292384 else n / 2
def itN : Nat → Nat → Nat
  | 0, n => n
  | j + 1, n => itN j (st1 n)
def byteN (n c : Nat) : Nat := itN 8 (n ^^^ c)
def reg (n : Nat) (l : List Int) : Nat := l.foldl (fun n c => byteN n c.toNat) n
def crcN (l : List Int) : Nat := 4294967295 ^^^ reg 4294967295 l
theorem xor_lt {a b : Nat} (ha : a < 4294967296) (hb : b < 4294967296) : a ^^^ b < 4294967296 := Nat.xor_lt_two_pow (n := 32) ha hb
theorem st1_lt {n : Nat} (h : n < 4294967296) : st1 n < 4294967296 := by
  unfold st1; split
  · exact xor_lt (by omega) (by omega)
  · omega
theorem itN_lt : ∀ (j : Nat) {n : Nat}, n < 4294967296 → itN j n < 4294967296
  | 0, _, h => h
  | j + 1, _, h => itN_lt j (st1_lt h)
theorem byteN_lt {n c : Nat} (h : n < 4294967296) (hc : c < 4294967296) : byteN n c < 4294967296 := itN_lt 8 (xor_lt h hc)
theorem reg_lt : ∀ (l : List Int) (n : Nat), Bs l → n < 4294967296 → reg n l < 4294967296
  | [], n, _, h => h
  | c :: l, n, hl, h => reg_lt l _ (fun x hx => hl x (List.mem_cons_of_mem _ hx)) (byteN_lt h (by have := hl c (List.mem_cons_self ..); omega))
theorem crcN_lt {l : List Int} (h : Bs l) : crcN l < 4294967296 := xor_lt (by omega) (reg_lt l _ h (by omega))
theorem x32 (a b : Nat) (ha : a < 4294967296) (hb : b < 4294967296) : Go.bits .xor .u32 (a : Int) (b : Int) = ((a ^^^ b : Nat) : Int) := u32_xor_nat a b ha hb
theorem sum_l1 (b : List Int) (L i : Int) : ∀ (d j n k : Nat), j + d = 8 → n < 4294967296 → crc_Sum.l1 (k + d + 1) (n : Int) b L i (j : Int) = crc_Sum.l0 k (itN d n : Nat) b L (wrap64 (i + 1))
  | 0, j, n, k, hj, hn => by
    rw [crc_Sum.l1.eq_2, if_neg (by omega)]; rfl
  | d + 1, j, n, k, hj, hn => by
    rw [crc_Sum.l1.eq_2, if_pos (by omega)]
    have hand : Go.bits .and .u32 (n : Int) 1 = ((n % 2 : Nat) : Int) := by
      have := u32_and_nat n 1 hn (by omega)
      rw [nat_mask1] at this; exact this
    rw [hand, wnext j (by omega)]
    have e : itN (d + 1) n = itN d (st1 n) := rfl
    by_cases h : n % 2 = 1
    · rw [if_pos (by omega)]
      have hx : Go.bits .xor .u32 ((n : Int) / 2) 3988292384 = ((st1 n : Nat) : Int) := by
        have := x32 (n / 2) 3988292384 (by omega) (by omega)
        unfold st1; rw [if_pos h, ← this]; rfl
      rw [hx, show k + (d + 1) = k + d + 1 from rfl, sum_l1 b L i d (j + 1) (st1 n) k (by omega) (st1_lt hn), e]
    · rw [if_neg (by omega)]
      have hx : ((n : Int) / 2) = ((st1 n : Nat) : Int) := by unfold st1; rw [if_neg h]; omega
      rw [hx, show k + (d + 1) = k + d + 1 from rfl, sum_l1 b L i d (j + 1) (st1 n) k (by omega) (st1_lt hn), e]
theorem rsum_l1 (b : List Int) (i : Int) : ∀ (d j n k : Nat), j + d = 8 → n < 4294967296 → ref01_Crc.l1 (k + d + 1) b (n : Int) i (j : Int) = ref01_Crc.l0 k b (itN d n : Nat) (wrap64 (i + 1))
  | 0, j, n, k, hj, hn => by
    rw [ref01_Crc.l1.eq_2, if_neg (by omega)]; rfl
  | d + 1, j, n, k, hj, hn => by
    rw [ref01_Crc.l1.eq_2, if_pos (by omega)]
    have hm : Int.tmod (n : Int) 2 = ((n % 2 : Nat) : Int) := by rw [Int.tmod_eq_emod_of_nonneg (by omega)]; omega
    have hd : Int.tdiv (n : Int) 2 % 4294967296 = ((n / 2 : Nat) : Int) := by rw [Int.tdiv_eq_ediv_of_nonneg (by omega)]; omega
    rw [hm, hd, wnext j (by omega)]
    have e : itN (d + 1) n = itN d (st1 n) := rfl
    by_cases h : n % 2 = 1
    · rw [if_pos (by omega)]
      have hx : Go.bits .xor .u32 ((n / 2 : Nat) : Int) 3988292384 = ((st1 n : Nat) : Int) := by
        have := x32 (n / 2) 3988292384 (by omega) (by omega)
        unfold st1; rw [if_pos h, ← this]; rfl
      rw [hx, show k + (d + 1) = k + d + 1 from rfl, rsum_l1 b i d (j + 1) (st1 n) k (by omega) (st1_lt hn), e]
    · rw [if_neg (by omega)]
      have hx : st1 n = n / 2 := by unfold st1; rw [if_neg h]
      rw [← hx, show k + (d + 1) = k + d + 1 from rfl, rsum_l1 b i d (j + 1) (st1 n) k (by omega) (st1_lt hn), e]
theorem reg_step (n : Nat) (b : List Int) (i : Nat) (h : i < b.length) : reg n (b.drop i) = reg (byteN n (b.getD i 0).toNat) (b.drop (i + 1)) := by
  rw [List.drop_eq_getElem_cons h, getD_eq b 0 i h]; rfl
theorem nx (n : Nat) (c : Int) (hn : n < 4294967296) (hc : 0 ≤ c ∧ c ≤ 255) : Go.bits .xor .u32 (n : Int) (c % 4294967296) = ((n ^^^ c.toNat : Nat) : Int) := by
  have := x32 n c.toNat hn (by omega)
  rw [show ((c.toNat : Nat) : Int) = c % 4294967296 from by omega] at this
  exact this
theorem fin (n : Nat) (hn : n < 4294967296) : wrap64 (Go.bits .xor .u32 4294967295 (n : Int)) = ((4294967295 ^^^ n : Nat) : Int) := by
  have h := x32 4294967295 n (by omega) hn
  have hl := xor_lt (show 4294967295 < 4294967296 by omega) hn
  rw [show Go.bits .xor .u32 4294967295 (n : Int) = ((4294967295 ^^^ n : Nat) : Int) from h, w64 _ (by omega) (by omega)]
theorem sum_l0 (b : List Int) (hb : Bs b) (hl : b.length ≤ 1000000) : ∀ (m i n k : Nat), i + m = b.length → n < 4294967296 → 10 * m < k → crc_Sum.l0 k (n : Int) b (b.length : Int) (i : Int) = some ((4294967295 ^^^ reg n (b.drop i) : Nat) : Int)
  | 0, i, n, k, hi, hn, hk => by
    obtain ⟨k, rfl⟩ : ∃ k', k = k' + 1 := ⟨k - 1, by omega⟩
    rw [crc_Sum.l0.eq_2, if_neg (by omega), fin n hn, List.drop_of_length_le (by omega)]; rfl
  | m + 1, i, n, k, hi, hn, hk => by
    obtain ⟨k, rfl⟩ : ∃ k', k = k' + 8 + 1 + 1 := ⟨k - 10, by omega⟩
    have hc := Bs_get hb i
    have hx : n ^^^ (b.getD i 0).toNat < 4294967296 := xor_lt hn (by omega)
    rw [crc_Sum.l0.eq_2, if_pos (by omega), if_pos (by omega), if_pos (by omega), rd_nat, nx n _ hn hc]
    refine (sum_l1 b _ _ 8 0 _ k (by omega) hx).trans ?_
    rw [wnext i (by omega), sum_l0 b hb hl m (i + 1) _ k (by omega) (itN_lt 8 hx) (by omega), reg_step n b i (by omega)]
    rfl
theorem Sum_f (b : List Int) (hb : Bs b) (hl : b.length ≤ 1000000) (k : Nat) (hk : 10 * b.length < k) : crc_Sum.f k b = some (crcN b : Int) := by
  unfold crc_Sum.f
  exact sum_l0 b hb hl b.length 0 4294967295 k (by omega) (by omega) hk
theorem rsum_l0 (b : List Int) (hb : Bs b) (hl : b.length ≤ 1000000) : ∀ (m i n k : Nat), i + m = b.length → n < 4294967296 → 10 * m < k → ref01_Crc.l0 k b (n : Int) (i : Int) = some ((4294967295 ^^^ reg n (b.drop i) : Nat) : Int)
  | 0, i, n, k, hi, hn, hk => by
    obtain ⟨k, rfl⟩ : ∃ k', k = k' + 1 := ⟨k - 1, by omega⟩
    rw [ref01_Crc.l0.eq_2, if_neg (by omega), fin n hn, List.drop_of_length_le (by omega)]; rfl
  | m + 1, i, n, k, hi, hn, hk => by
    obtain ⟨k, rfl⟩ : ∃ k', k = k' + 8 + 1 + 1 := ⟨k - 10, by omega⟩
    have hc := Bs_get hb i
    have hx : n ^^^ (b.getD i 0).toNat < 4294967296 := xor_lt hn (by omega)
    rw [ref01_Crc.l0.eq_2, if_pos (by omega), if_pos (by omega), rd_nat, nx n _ hn hc]
    refine (rsum_l1 b _ 8 0 _ k (by omega) hx).trans ?_
    rw [wnext i (by omega), rsum_l0 b hb hl m (i + 1) _ k (by omega) (itN_lt 8 hx) (by omega), reg_step n b i (by omega)]
    rfl
theorem rSum_f (b : List Int) (hb : Bs b) (hl : b.length ≤ 1000000) (k : Nat) (hk : 10 * b.length < k) : ref01_Crc.f k b = some (crcN b : Int) := by
  unfold ref01_Crc.f
  exact rsum_l0 b hb hl b.length 0 4294967295 k (by omega) (by omega) hk
def tailN (s : Int) : List Int := [s % 256, s / 256 % 256, s / 65536 % 256, s / 16777216 % 256]
theorem tail_f (s : Int) (hs : 0 ≤ s ∧ s < 4294967296) (k : Nat) (hk : 10 < k) : crc_tail.f k s = some (tailN s) := by
  obtain ⟨k, rfl⟩ : ∃ k', k = k' + 5 := ⟨k - 5, by omega⟩
  unfold crc_tail.f
  rw [if_pos (by omega)]
  have w : ∀ n : Int, 0 ≤ n → n ≤ 100 → wrap64 n = n := fun n a b => w64 n (by omega) (by omega)
  have h8 : shr .i64 s (wrap64 (8 * 0)) = s := by rw [w _ (by omega) (by omega)]; unfold shr; simp [IntKind.bits]
  have h8' : shr .i64 s (wrap64 (8 * 1)) = s / 256 := by rw [w _ (by omega) (by omega)]; rfl
  have h16 : shr .i64 s (wrap64 (8 * 2)) = s / 65536 := by rw [w _ (by omega) (by omega)]; rfl
  have h24 : shr .i64 s (wrap64 (8 * 3)) = s / 16777216 := by rw [w _ (by omega) (by omega)]; rfl
  simp only [Option.bind_some]
  rw [crc_tail.l0.eq_2, if_pos (by first | decide | simp), if_pos (by rw [w _ (by omega) (by omega)]; omega), if_pos (by decide), if_pos (by decide), h8, show wrap64 ((0 : Int) + 1) = 1 from w 1 (by omega) (by omega)]
  rw [crc_tail.l0.eq_2, if_pos (by first | decide | simp), if_pos (by rw [w _ (by omega) (by omega)]; omega), if_pos (by decide), if_pos (by simp), h8', show wrap64 ((1 : Int) + 1) = 2 from w 2 (by omega) (by omega)]
  rw [crc_tail.l0.eq_2, if_pos (by first | decide | simp), if_pos (by rw [w _ (by omega) (by omega)]; omega), if_pos (by decide), if_pos (by simp), h16, show wrap64 ((2 : Int) + 1) = 3 from w 3 (by omega) (by omega)]
  rw [crc_tail.l0.eq_2, if_pos (by first | decide | simp), if_pos (by rw [w _ (by omega) (by omega)]; omega), if_pos (by decide), if_pos (by simp), h24, show wrap64 ((3 : Int) + 1) = 4 from w 4 (by omega) (by omega)]
  rw [crc_tail.l0.eq_2, if_neg (by decide)]
  rfl
theorem rSeal_l0 (s : Int) (b : List Int) (hs : 0 ≤ s ∧ s < 4294967296) (hl : b.length ≤ 1000000) (k : Nat) (hk : 10 < k) : ref01_Seal.l0 k s b 0 = some (b ++ tailN s) := by
  obtain ⟨k, rfl⟩ : ∃ k', k = k' + 5 := ⟨k - 5, by omega⟩
  have st : ∀ (s i : Int) (b : List Int) (k : Nat), 0 ≤ s → s < 4294967296 → 0 ≤ i → i < 4 → b.length ≤ 1000010 → ref01_Seal.l0 (k + 1) s b i = ref01_Seal.l0 k (s / 256) (b ++ [s % 256]) (i + 1) := by
    intro s i b k h1 h2 h3 h4 h5
    rw [ref01_Seal.l0.eq_2, if_pos h4, if_pos (by omega), Int.tdiv_eq_ediv_of_nonneg h1, Int.tmod_eq_emod_of_nonneg h1, w64 (s / 256) (by omega) (by omega), w64 (i + 1) (by omega) (by omega), show s % 256 % 256 = s % 256 from by omega]
  rw [st _ _ _ _ (by omega) (by omega) (by omega) (by omega) (by omega), st _ _ _ _ (by omega) (by omega) (by omega) (by omega) (by simp; omega), st _ _ _ _ (by omega) (by omega) (by omega) (by omega) (by simp; omega), st _ _ _ _ (by omega) (by omega) (by omega) (by omega) (by simp; omega)]
  rw [ref01_Seal.l0.eq_2, if_neg (by omega)]
  simp only [List.append_assoc, List.cons_append, List.nil_append, tailN]
  rw [show s / 256 / 256 = s / 65536 from by omega, show s / 65536 / 256 = s / 16777216 from by omega]
theorem Clone_f (l : List Int) (h : l.length < 140737488355328) : slices_Clone_byte.f l = some l := by
  unfold slices_Clone_byte.f
  simp only [Option.bind_some, List.length_nil, List.nil_append, Nat.zero_add, if_pos h]
theorem Twin_f (l : List Int) (h : l.length < 140737488355328) : bk_Twin.f l = some l := by
  unfold bk_Twin.f
  simp only [List.length_nil, List.nil_append, Nat.zero_add, if_pos h]
theorem Bytes_f (a b : List Int) (k : Nat) (hk : a.length < k) (hl : a.length < 1000000000) : bk_Bytes.f k a b = some (decide (a = b)) := by
  unfold bk_Bytes.f
  by_cases h : a.length = b.length
  · rw [if_pos (by omega)]
    have h := all_loop (l := fun k i => bk_Bytes.l0 k a b i) (n := a.length) (p := fun i => a.getD i 0 = b.getD i 0)
      (by intro k; simp only [bk_Bytes.l0]; rw [if_neg (by omega)])
      (by
        intro k j hj
        simp only [bk_Bytes.l0]
        rw [if_pos (by omega), if_pos (by omega), if_pos (by omega), rd_nat, rd_nat, wnext j (by omega)]
        by_cases e : a.getD j 0 = b.getD j 0 <;> simp only [e, if_true, if_false]) k hk
    rw [show bk_Bytes.l0 k a b 0 = _ from h]
    congr 1
    exact decide_eq_decide.2 (ext_getD 0 (by assumption))
  · rw [if_neg (by omega)]
    congr 1
    exact (decide_eq_false (fun e => h (by rw [e]))).symm
theorem Equal_f (a b : List Int) (k : Nat) (hk : a.length < k) (hl : a.length < 1000000000) : slices_Equal_byte.f k a b = some (decide (a = b)) := by
  unfold slices_Equal_byte.f
  by_cases h : a.length = b.length
  · rw [if_pos (by omega)]
    have h := all_loop (l := fun k i => slices_Equal_byte.l0 k a b (a.length : Int) i) (n := a.length) (p := fun i => a.getD i 0 = b.getD i 0)
      (by intro k; simp only [slices_Equal_byte.l0]; rw [if_neg (by omega)])
      (by
        intro k j hj
        simp only [slices_Equal_byte.l0]
        rw [if_pos (by omega), if_pos (by omega), if_pos (by omega), if_pos (by omega), rd_nat, rd_nat, wnext j (by omega)]
        by_cases e : a.getD j 0 = b.getD j 0 <;> simp only [e, if_true, if_false]) k hk
    rw [show slices_Equal_byte.l0 k a b (a.length : Int) 0 = _ from h]
    congr 1
    exact decide_eq_decide.2 (ext_getD 0 (by assumption))
  · rw [if_neg (by omega)]
    congr 1
    exact (decide_eq_false (fun e => h (by rw [e]))).symm
theorem tail_len (s : Int) : (tailN s).length = 4 := rfl
theorem Seal_f (b : List Int) (hb : Bs b) (hl : b.length ≤ 100000) (k : Nat) (hk : 10 * b.length + 20 < k) : crc_Seal.f k b = some (b ++ tailN (crcN b)) := by
  unfold crc_Seal.f
  have := crcN_lt hb
  rw [Clone_f _ (by omega), Sum_f b hb (by omega) k (by omega)]
  simp only [Option.bind_some]
  rw [tail_f _ ⟨by omega, by omega⟩ k (by omega)]
  simp only [Option.bind_some]
  rw [tail_len, if_pos (by omega)]
theorem rSeal_f (b : List Int) (hb : Bs b) (hl : b.length ≤ 100000) (k : Nat) (hk : 10 * b.length + 20 < k) : ref01_Seal.f k b = some (b ++ tailN (crcN b)) := by
  unfold ref01_Seal.f
  have := crcN_lt hb
  rw [rSum_f b hb (by omega) k (by omega), Twin_f _ (by omega)]
  simp only [Option.bind_some]
  exact rSeal_l0 _ _ ⟨by omega, by omega⟩ (by omega) k (by omega)
theorem wakes_f (k : Nat) (hk : 200 ≤ k) : L05_wakes.f k = some true := at_rounds (fun k => L05_wakes.mono k) hk (by decide +kernel)
theorem Open_f (b : List Int) (hb : Bs b) (hl : b.length ≤ 100000) (k : Nat) (hk : 10 * b.length + 20 < k) : crc_Open.f k b = some (if b.length < 4 then ([], 2) else if b = b.take (b.length - 4) ++ tailN (crcN (b.take (b.length - 4))) then (b.take (b.length - 4), 0) else ([], 4)) := by
  unfold crc_Open.f
  rw [w64 _ (by omega) (by omega)]
  by_cases h : b.length < 4
  · rw [if_pos (by omega), if_pos h]
  · rw [if_neg (by omega), if_neg h, if_pos (by omega), if_pos (by omega), show ((b.length : Int) - 4).toNat = b.length - 4 from by omega]
    have hB := Bs_take hb (b.length - 4)
    have hlt := crcN_lt hB
    simp only [Option.bind_some]
    rw [Sum_f _ hB (by simp; omega) k (by simp; omega)]
    simp only [Option.bind_some]
    rw [tail_f _ ⟨by omega, by omega⟩ k (by omega)]
    simp only [Option.bind_some]
    rw [Equal_f _ _ k (by simp; omega) (by simp; omega)]
    simp only [Option.bind_some, decide_eq_true_eq]
    have e : (b.drop (b.length - 4) = tailN (crcN (b.take (b.length - 4)))) ↔ b = b.take (b.length - 4) ++ tailN (crcN (b.take (b.length - 4))) := by
      constructor
      · intro h; rw [← h, List.take_append_drop]
      · intro h
        have h2 := (List.take_append_drop (b.length - 4) b).trans h
        exact List.append_cancel_left h2
    by_cases h2 : b.drop (b.length - 4) = tailN (crcN (b.take (b.length - 4)))
    · rw [if_pos h2, if_pos (e.1 h2), Clone_f _ (by simp; omega)]; rfl
    · rw [if_neg h2, if_neg (fun x => h2 (e.2 x))]
theorem rOpen_f (b : List Int) (hb : Bs b) (hl : b.length ≤ 100000) (k : Nat) (hk : 10 * b.length + 20 < k) : ref01_Open.f k b = some (if b.length < 4 then ([], 2) else if b = b.take (b.length - 4) ++ tailN (crcN (b.take (b.length - 4))) then (b.take (b.length - 4), 0) else ([], 4)) := by
  unfold ref01_Open.f
  by_cases h : b.length < 4
  · rw [if_pos (by omega), if_pos h]
  · rw [if_neg (by omega), if_neg h, w64 _ (by omega) (by omega), if_pos (by omega), if_pos (by omega), show ((b.length : Int) - 4).toNat = b.length - 4 from by omega]
    have hB := Bs_take hb (b.length - 4)
    simp only [Option.bind_some]
    rw [rSeal_f _ hB (by simp; omega) k (by simp; omega)]
    simp only [Option.bind_some]
    rw [Bytes_f _ _ k (by simp [tail_len]; omega) (by simp [tail_len]; omega)]
    simp only [Option.bind_some, decide_eq_true_eq]
    by_cases h2 : b = b.take (b.length - 4) ++ tailN (crcN (b.take (b.length - 4)))
    · rw [if_pos h2.symm, if_pos h2, Twin_f _ (by simp; omega)]; rfl
    · rw [if_neg (fun x => h2 x.symm), if_neg h2]
end Go.Proofs.Ytmjfjjnoconmoaa.CrcLib
