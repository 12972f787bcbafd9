/- What the functions of codec, and those of the reference, come to. -/
import Derived.Test.YtmjfjjnoconmoaaPDx3
import Derived.Test.YtmjfjjnoconmoaaBase
import Derived.Laws.BitsAllLaws
namespace Go.Proofs.Ytmjfjjnoconmoaa.CodecLib
open Go.RowKit Go.Proofs.Ytmjfjjnoconmoaa.PD Go.Proofs.YtmjfjjnoconmoaaB Go.Proofs.YtmjfjjnoconmoaaW.PrintWords Go.Proofs.YtmjfjjnoconmoaaW.PrintLast Go.Proofs.YtmjfjjnoconmoaaW.PrintMore
open Classical
set_option linter.unusedVariables false

def Bs (l : List Int) : Prop := ∀ x ∈ l, 0 ≤ x ∧ x ≤ 255
theorem Bs_get {l : List Int} (h : Bs l) (j : Nat) : 0 ≤ l.getD j 0 ∧ l.getD j 0 ≤ 255 := by
  by_cases hj : j < l.length
  · rw [getD_eq l 0 j hj]; exact h _ (List.getElem_mem hj)
  · rw [List.getD_eq_getElem?_getD, List.getElem?_eq_none (by omega)]; simp
theorem Bs_app {a b : List Int} (ha : Bs a) (hb : Bs b) : Bs (a ++ b) := fun x hx => (List.mem_append.1 hx).elim (ha x) (hb x)
theorem Bs_take {a : List Int} (ha : Bs a) (n : Nat) : Bs (a.take n) := fun x hx => ha x (List.mem_of_mem_take hx)
theorem Bs_drop {a : List Int} (ha : Bs a) (n : Nat) : Bs (a.drop n) := fun x hx => ha x (List.mem_of_mem_drop hx)
def OkSize (s : Int) : Prop := s = 1 ∨ s = 2 ∨ s = 4 ∨ s = 8
def Fits (s n : Int) : Prop := 0 ≤ n ∧ n < 4611686018427387904 ∧ (s = 8 ∨ n < 2 ^ (8 * s.toNat))
theorem right_f (s : Int) : codec_right.f s = some (decide (OkSize s)) := by
  unfold codec_right.f OkSize
  by_cases h1 : s = 1
  · simp [h1]
  · by_cases h2 : s = 2
    · simp [h2]
    · by_cases h4 : s = 4
      · simp [h4]
      · by_cases h8 : s = 8 <;> simp [h1, h2, h4, h8]
theorem rSize_f (s : Int) : ref01_Size.f s = some (decide (OkSize s)) := right_f s
theorem shl1 (s : Int) (h : s = 1 ∨ s = 2 ∨ s = 4) : shl .i64 1 (wrap64 (8 * s)) = 2 ^ (8 * s.toNat) := by
  rcases h with rfl | rfl | rfl <;> (rw [w64 _ (by omega) (by omega)]; rfl)
theorem fits_f (s n : Int) (hs : OkSize s) : codec_fits.f s n = some (decide (Fits s n)) := by
  unfold codec_fits.f
  by_cases h0 : n ≥ 0
  · rw [if_pos h0]
    by_cases h1 : n < 4611686018427387904
    · rw [if_pos h1]
      by_cases h8 : s = 8
      · rw [if_pos h8]; congr 1; exact (decide_eq_true ⟨h0, h1, .inl h8⟩).symm
      · have hs' : s = 1 ∨ s = 2 ∨ s = 4 := by unfold OkSize at hs; omega
        rw [if_neg h8, if_pos (by rw [w64 _ (by omega) (by omega)]; omega), shl1 s hs']
        congr 1
        exact decide_eq_decide.2 ⟨fun h => ⟨h0, h1, .inr h⟩, fun h => h.2.2.resolve_left h8⟩
    · rw [if_neg h1]; congr 1; exact (decide_eq_false (fun h => h1 h.2.1)).symm
  · rw [if_neg h0]; congr 1; exact (decide_eq_false (fun h => h0 h.1)).symm
theorem rIn_f (a b c : Int) : ref01_In.f a b c = some (decide (b ≤ a ∧ a ≤ c)) := by
  unfold ref01_In.f
  by_cases h : a ≥ b <;> simp [h, ge_iff_le] <;> omega
theorem rFits_f (s n : Int) (hs : OkSize s) : ref01_Fits.f s n = some (decide (Fits s n)) := by
  unfold ref01_Fits.f ref01_Key.f
  rw [rIn_f]
  simp only [Option.bind_some, decide_eq_true_eq]
  by_cases h0 : 0 ≤ n ∧ n ≤ 4611686018427387903
  · rw [if_pos h0]
    by_cases h8 : s = 8
    · rw [if_pos h8]; congr 1; exact (decide_eq_true ⟨h0.1, by omega, .inl h8⟩).symm
    · have hs' : s = 1 ∨ s = 2 ∨ s = 4 := by unfold OkSize at hs; omega
      rw [if_neg h8, if_pos (by rw [w64 _ (by omega) (by omega)]; omega), shl1 s hs']
      congr 1
      exact decide_eq_decide.2 ⟨fun h => ⟨h0.1, by omega, .inr h⟩, fun h => h.2.2.resolve_left h8⟩
  · rw [if_neg h0]; congr 1; exact (decide_eq_false (fun h => h0 ⟨h.1, by have := h.2.1; omega⟩)).symm
/-- A byte of a number; its bytes, the greatest first. -/
def dig (s n : Int) (i : Nat) : Int := n / 2 ^ (8 * (s.toNat - 1 - i)) % 256
def digs (s n : Int) : List Int := (List.range' 0 s.toNat).map (dig s n)
theorem digs_length (s n : Int) : (digs s n).length = s.toNat := by simp [digs]
theorem digs_Bs (s n : Int) : Bs (digs s n) := by
  intro x hx
  obtain ⟨i, _, rfl⟩ := List.mem_map.1 hx
  unfold dig
  exact ⟨Int.emod_nonneg _ (by decide), by have := Int.emod_lt_of_pos (n / 2 ^ (8 * (s.toNat - 1 - i))) (show (0 : Int) < 256 by decide); omega⟩
theorem Clone_f (l : List Int) (h : l.length < 140737488355328) : slices_Clone_byte.f l = some l := by
  unfold slices_Clone_byte.f
  simp [h]
theorem Twin_f (l : List Int) (h : l.length < 140737488355328) : bk_Twin.f l = some l := by
  unfold bk_Twin.f
  simp [h]
theorem TwinInts_f (l : List Int) (h : l.length < 17592186044416) : bk_TwinInts.f l = some l := by
  unfold bk_TwinInts.f
  simp [h]
theorem sz_b {s : Int} (hs : OkSize s) : 1 ≤ s ∧ s ≤ 8 := by unfold OkSize at hs; omega
theorem Put_l0 (s n : Int) (out : List Int) (hs : OkSize s) (ho : out.length ≤ 1000000) (k : Nat) (hk : 10 < k) : codec_Put.l0 k s n out s 0 = some (out ++ digs s n, 0) := by
  have hb := sz_b hs
  have h := map_from (l := fun k out i => codec_Put.l0 k s n out s i) (n := s.toNat) (L := 1000010) (f := dig s n) (r := fun out => (out, 0))
    (by intro k out; simp only [codec_Put.l0]; rw [if_neg (by omega)])
    (by
      intro k out j hj hL
      simp only [codec_Put.l0]
      have e : wrap64 (8 * wrap64 (wrap64 (s - 1) - j)) = ((8 * (s.toNat - 1 - j) : Nat) : Int) := by
        rw [w64 (s - 1) (by omega) (by omega), w64 (s - 1 - j) (by omega) (by omega), w64 _ (by omega) (by omega)]; omega
      rw [if_pos (by omega), e, if_pos (by omega), if_pos (by omega), wnext j (by omega)]
      have e2 : shr .i64 n ((8 * (s.toNat - 1 - j) : Nat) : Int) % 256 = dig s n j := by
        unfold shr dig
        rw [Int.toNat_natCast, Nat.min_eq_left (by show _ ≤ 64; omega)]
      rw [e2]) s.toNat k 0 out (by omega) (by omega) (by omega)
  exact h
theorem Put_f (b : List Int) (s n : Int) (hb : b.length ≤ 1000000) (k : Nat) (hk : 20 < k) :
    codec_Put.f k b s n = some (if OkSize s ∧ Fits s n then (b ++ digs s n, 0) else ([], 1)) := by
  unfold codec_Put.f
  rw [right_f]
  obtain ⟨k, rfl⟩ : ∃ m, k = m + 1 := ⟨k - 1, by omega⟩
  simp only [Option.bind_some, decide_eq_true_eq, codec_Put.j0]
  by_cases hs : OkSize s
  · rw [if_pos hs, fits_f s n hs, Clone_f b (by omega)]
    simp only [Option.bind_some]
    rw [Put_l0 s n b hs hb k (by omega)]
    by_cases hf : Fits s n
    · rw [if_neg (by simp [hf]), if_pos ⟨hs, hf⟩]
    · rw [if_pos (by simp [hf]), if_neg (fun h => hf h.2)]
  · rw [if_neg hs, if_pos trivial, if_neg (fun h => hs h.1)]
/-- The number that bytes are. -/
def be (l : List Int) : Int := l.foldl (fun n c => n * 256 + c) 0
theorem be_snoc (l : List Int) (c : Int) : be (l ++ [c]) = be l * 256 + c := by unfold be; simp
theorem be_take (l : List Int) (j : Nat) (hj : j < l.length) : be (l.take (j + 1)) = be (l.take j) * 256 + l.getD j 0 := by
  rw [List.take_succ_eq_append_getElem hj, be_snoc, getD_eq l 0 j hj]
theorem be_b {l : List Int} (hl : Bs l) : ∀ j, j ≤ l.length → 0 ≤ be (l.take j) ∧ be (l.take j) < 256 ^ j
  | 0, _ => by simp [be]
  | j + 1, hj => by
    have := be_b hl j (by omega)
    have hb := Bs_get hl j
    rw [be_take l j (by omega)]
    have e : (256 : Int) ^ (j + 1) = 256 ^ j * 256 := Int.pow_succ _ _
    omega
theorem be_mono {l : List Int} (hl : Bs l) : ∀ d j, j + d = l.length → be (l.take j) ≤ be l
  | 0, j, h => by rw [List.take_of_length_le (by omega)]; exact Int.le_refl _
  | d + 1, j, h => by
    have h1 := be_mono hl d (j + 1) (by omega)
    have hb := Bs_get hl j
    have h0 := be_b hl j (by omega)
    rw [be_take l j (by omega)] at h1
    omega
theorem or_add (x c : Int) (hx : 0 ≤ x ∧ x < 72057594037927936) (hc : 0 ≤ c ∧ c ≤ 255) : Go.bits .or .u64 (IntKind.u64.wrap (x * 256)) (IntKind.u64.wrap c) = x * 256 + c := by
  rw [u64w, u64w, show x * 256 % 18446744073709551616 = x * 256 from by omega, show c % 18446744073709551616 = c from by omega]
  obtain ⟨a, rfl⟩ := Int.eq_ofNat_of_zero_le hx.1
  obtain ⟨b, rfl⟩ := Int.eq_ofNat_of_zero_le hc.1
  have e : ((a : Int) * 256) = ((a * 256 : Nat) : Int) := by omega
  rw [e, u64_or_nat (a * 256) b (by omega) (by omega)]
  have := Nat.shiftLeft_add_eq_or_of_lt (b := b) (i := 8) (by omega) a
  rw [Nat.shiftLeft_eq] at this
  rw [show a * 256 = a * 2 ^ 8 from rfl, ← this]
  omega
theorem Get_l0 (a s : Int) (y : List Int) (hy : Bs y) (hl : y.length ≤ 8) (ha : 0 ≤ a ∧ a ≤ 1000000000) (hs : 0 ≤ s ∧ s ≤ 8) : ∀ (d j k : Nat), j + d = y.length → d < k →
    codec_Get.l0 k a s (be (y.take j)) y y.length j = some (if be y ≥ 4611686018427387904 then (0, 0, 1) else (be y, a + s, 0)) := by
  intro d
  induction d with
  | zero =>
    intro j k hj hk
    obtain ⟨k, rfl⟩ : ∃ m, k = m + 1 := ⟨k - 1, by omega⟩
    simp only [codec_Get.l0]
    have e : y.take j = y := List.take_of_length_le (by omega)
    rw [if_neg (by omega), e]
    by_cases h : be y ≥ 4611686018427387904
    · rw [if_pos h, if_pos h]
    · have := (be_b hy j (by omega)).1
      rw [e] at this
      rw [if_neg h, if_neg h, w64 _ (by omega) (by omega), w64 _ (by omega) (by omega)]
  | succ d ih =>
    intro j k hj hk
    obtain ⟨k, rfl⟩ : ∃ m, k = m + 1 := ⟨k - 1, by omega⟩
    simp only [codec_Get.l0]
    have h0 := be_b hy j (by omega)
    have hp : (256 : Int) ^ j ≤ 72057594037927936 := by
      have : j = 0 ∨ j = 1 ∨ j = 2 ∨ j = 3 ∨ j = 4 ∨ j = 5 ∨ j = 6 ∨ j = 7 := by omega
      rcases this with rfl | rfl | rfl | rfl | rfl | rfl | rfl | rfl <;> decide
    rw [if_pos (by omega), if_pos (by omega), if_pos (by omega), rd_nat, or_add _ _ ⟨h0.1, by omega⟩ (Bs_get hy j), ← be_take y j (by omega), wnext j (by omega)]
    exact ih (j + 1) k (by omega) (by omega)
theorem within_f (l : List Int) (a s : Int) (hl : l.length ≤ 1000000000) (hs : -1000000000 ≤ s ∧ s ≤ 1000000000) : codec_within.f l a s = some (decide (0 ≤ a ∧ a ≤ l.length - s)) := by
  unfold codec_within.f
  by_cases h : a ≥ 0
  · rw [if_pos h, w64 _ (by omega) (by omega)]
    congr 1
    exact decide_eq_decide.2 ⟨fun z => ⟨h, z⟩, fun z => z.2⟩
  · rw [if_neg h]; congr 1; exact (decide_eq_false (fun z => h z.1)).symm
theorem Get_f (l : List Int) (a s : Int) (hB : Bs l) (hl : l.length ≤ 1000000) (k : Nat) (hk : 20 < k) : codec_Get.f k l a s =
    some (if OkSize s then (if 0 ≤ a ∧ a ≤ l.length - s then (if be ((l.take (a + s).toNat).drop a.toNat) ≥ 4611686018427387904 then (0, 0, 1) else (be ((l.take (a + s).toNat).drop a.toNat), a + s, 0)) else (0, 0, 2)) else (0, 0, 1)) := by
  unfold codec_Get.f
  rw [right_f]
  simp only [Option.bind_some, decide_eq_true_eq]
  by_cases hs : OkSize s
  · have hb := sz_b hs
    rw [if_pos hs, if_pos hs, within_f l a s (by omega) (by omega)]
    simp only [Option.bind_some, decide_eq_true_eq]
    by_cases hw : 0 ≤ a ∧ a ≤ l.length - s
    · rw [if_pos hw, if_pos hw, if_pos hw.1, w64 _ (by omega) (by omega), if_pos (by omega), if_pos (by omega)]
      have h := Get_l0 a s ((l.take (a + s).toNat).drop a.toNat) (Bs_drop (Bs_take hB _) _) (by rw [List.length_drop, List.length_take]; omega) (by omega) (by omega) ((l.take (a + s).toNat).drop a.toNat).length 0 k (by omega) (by rw [List.length_drop, List.length_take]; omega)
      exact h
    · rw [if_neg hw, if_neg hw]
  · rw [if_neg hs, if_neg hs]
theorem Bad_f (n : Int) : codec_PutList_1.f n = some (decide (n < 0 ∨ n > 255)) := by
  unfold codec_PutList_1.f
  by_cases h : n < 0 <;> simp [h]
theorem Contains_f (l : List Int) (hl : l.length ≤ 1000000) (k : Nat) (hk : l.length < k) : slices_ContainsFunc_int_at_codec_PutList_1.f k l = some (decide (¬ Bs l)) := by
  unfold slices_ContainsFunc_int_at_codec_PutList_1.f slices_IndexFunc_int_at_codec_PutList_1.f
  have h := idx_from (l := fun k i => slices_IndexFunc_int_at_codec_PutList_1.l0 k l l.length i) (n := l.length) (p := fun j => l.getD j 0 < 0 ∨ l.getD j 0 > 255)
    (by intro k; simp only [slices_IndexFunc_int_at_codec_PutList_1.l0]; rw [if_neg (by omega)])
    (by
      intro k j hj
      simp only [slices_IndexFunc_int_at_codec_PutList_1.l0]
      rw [if_pos (by omega), if_pos (by omega), if_pos (by omega), rd_nat, Bad_f, wnext j (by omega)]
      simp only [Option.bind_some, decide_eq_true_eq]
      exact ⟨fun h => by rw [if_pos h], fun h => by rw [if_neg h]⟩) l.length k 0 (by omega) hk
  rw [show ((0 : Nat) : Int) = 0 from rfl] at h
  have key : Bs l ↔ ∀ i : Nat, 0 ≤ i → i < l.length → ¬ (l.getD i 0 < 0 ∨ l.getD i 0 > 255) := by
    constructor
    · intro hB i _ _
      have := Bs_get hB i
      omega
    · intro h x hx
      obtain ⟨i, hi, rfl⟩ := List.getElem_of_mem hx
      have := h i (Nat.zero_le _) hi
      rw [getD_eq l 0 i hi] at this
      omega
  rcases h with ⟨h1, h2⟩ | ⟨m, h1, _, h3, h4, _⟩
  · rw [show slices_IndexFunc_int_at_codec_PutList_1.l0 k l l.length 0 = some (-1) from h1]
    simp only [Option.bind_some]
    congr 1
    rw [decide_eq_false (by decide), decide_eq_false (p := ¬ Bs l) (fun h => h (key.2 h2))]
  · rw [show slices_IndexFunc_int_at_codec_PutList_1.l0 k l l.length 0 = some (m : Int) from h1]
    simp only [Option.bind_some]
    congr 1
    rw [decide_eq_true (by omega), decide_eq_true (p := ¬ Bs l) (fun h => key.1 h m (Nat.zero_le _) h3 h4)]
theorem PutList_f (b l : List Int) (hb : b.length ≤ 1000000) (hl : l.length ≤ 1000000) (k : Nat) (hk : l.length + 10 < k) :
    codec_PutList.f k b l = some (if l.length > 255 then ([], 2) else if Bs l then (b ++ [(l.length : Int)] ++ l, 0) else ([], 1)) := by
  unfold codec_PutList.f
  by_cases h1 : l.length > 255
  · rw [if_pos (by omega), if_pos h1]
  · rw [if_neg (by omega), if_neg h1, Contains_f l hl k (by omega)]
    simp only [Option.bind_some, decide_eq_true_eq]
    by_cases hB : Bs l
    · rw [if_neg (fun h => h hB), if_pos hB, Clone_f b (by omega)]
      simp only [Option.bind_some]
      rw [if_pos (by omega)]
      have h := map_from (l := fun k out i => codec_PutList.l0 k out l l.length i) (n := l.length) (L := 1000300) (f := fun j => l.getD j 0) (r := fun out => (out, 0))
        (by intro k out; simp only [codec_PutList.l0]; rw [if_neg (by omega)])
        (by
          intro k out j hj hL
          simp only [codec_PutList.l0]
          rw [if_pos (by omega), if_pos (by omega), if_pos (by omega), if_pos (by omega), rd_nat, wnext j (by omega)]
          have := Bs_get hB j
          rw [show l.getD j 0 % 256 = l.getD j 0 from by omega]) l.length k 0 (b ++ [(l.length : Int) % 256]) (by omega) (by omega) (by simp; omega)
      rw [show codec_PutList.l0 k (b ++ [(l.length : Int) % 256]) l l.length 0 = _ from h, range_get, show (l.length : Int) % 256 = l.length from by omega]
    · rw [if_pos hB, if_neg hB]
theorem GetList_f (b : List Int) (a : Int) (hB : Bs b) (hb : b.length ≤ 1000000) (ha : -9223372036854775808 ≤ a ∧ a ≤ 9223372036854775807) (k : Nat) (hk : 300 < k) :
    codec_GetList.f k b a = some (if 0 ≤ a ∧ a < b.length ∧ a + 1 + b.getD a.toNat 0 ≤ b.length then ((b.take (a + 1 + b.getD a.toNat 0).toNat).drop (a + 1).toNat, a + 1 + b.getD a.toNat 0, 0) else ([], 0, 2)) := by
  unfold codec_GetList.f
  obtain ⟨k, rfl⟩ : ∃ m, k = m + 1 := ⟨k - 1, by omega⟩
  rw [within_f b a 1 (by omega) (by omega)]
  simp only [Option.bind_some, decide_eq_true_eq, codec_GetList.j0, if_true]
  by_cases h1 : 0 ≤ a ∧ a ≤ b.length - 1
  · have hc := Bs_get hB a.toNat
    have er : rd b a = b.getD a.toNat 0 := rfl
    obtain ⟨c, hcd⟩ : ∃ c, c = b.getD a.toNat 0 := ⟨_, rfl⟩
    rw [← hcd] at hc er
    simp only [← hcd]
    rw [if_pos h1, if_pos h1.1, if_pos (by omega), er, w64 (c) (by omega) (by omega), w64 (a + 1) (by omega) (by omega), within_f b _ _ (by omega) (by omega)]
    simp only [Option.bind_some]
    by_cases h2 : a + 1 + c ≤ b.length
    · rw [if_neg (by rw [decide_eq_true (by omega)]; decide), if_pos h1.1, if_pos (by omega), if_pos (by omega), w64 _ (by omega) (by omega), if_pos (by omega), if_pos h2, if_pos ⟨h1.1, by omega, h2⟩]
      have hlen : ((b.take (a + 1 + c).toNat).drop (a + 1).toNat).length ≤ 255 := by rw [List.length_drop, List.length_take]; omega
      have hBy : Bs ((b.take (a + 1 + c).toNat).drop (a + 1).toNat) := Bs_drop (Bs_take hB _) _
      have h := map_from (l := fun k out i => codec_GetList.l0 k out (a + 1 + c) ((b.take (a + 1 + c).toNat).drop (a + 1).toNat) ((b.take (a + 1 + c).toNat).drop (a + 1).toNat).length i) (n := ((b.take (a + 1 + c).toNat).drop (a + 1).toNat).length) (L := 1000)
        (f := fun j => ((b.take (a + 1 + c).toNat).drop (a + 1).toNat).getD j 0) (r := fun out => (out, a + 1 + c, 0))
        (by intro k out; simp only [codec_GetList.l0]; rw [if_neg (by omega)])
        (by
          intro k out j hj hL
          simp only [codec_GetList.l0]
          have := Bs_get hBy j
          rw [if_pos (by omega), if_pos (by omega), if_pos (by omega), if_pos (by omega), rd_nat, wnext j (by omega), w64 _ (by omega) (by omega)]) ((b.take (a + 1 + c).toNat).drop (a + 1).toNat).length k 0 [] (by omega) (by omega) (by simp; omega)
      rw [range_get, List.nil_append] at h
      exact h
    · rw [if_pos (by rw [decide_eq_false (by omega)]; decide), if_neg (fun h => h2 h.2.2)]
  · rw [if_neg h1, if_neg (fun h => h1 ⟨h.1, by omega⟩)]
theorem Bytes_f (a b : List Int) (k : Nat) (hk : a.length < k) (hl : a.length < 1000000000) : bk_Bytes.f k a b = some (decide (a = b)) := by
  unfold bk_Bytes.f
  by_cases h : a.length = b.length
  · rw [if_pos (by omega)]
    have h := all_loop (l := fun k i => bk_Bytes.l0 k a b i) (n := a.length) (p := fun i => a.getD i 0 = b.getD i 0)
      (by intro k; simp only [bk_Bytes.l0]; rw [if_neg (by omega)])
      (by
        intro k j hj
        simp only [bk_Bytes.l0]
        rw [if_pos (by omega), if_pos (by omega), if_pos (by omega), rd_nat, rd_nat, wnext j (by omega)]
        by_cases e : a.getD j 0 = b.getD j 0 <;> simp only [e, if_true, if_false]) k hk
    rw [show bk_Bytes.l0 k a b 0 = _ from h]
    congr 1
    exact decide_eq_decide.2 (ext_getD 0 (by assumption))
  · rw [if_neg (by omega)]
    congr 1
    exact (decide_eq_false (fun e => h (by rw [e]))).symm
theorem Ints_f (a b : List Int) (k : Nat) (hk : a.length < k) (hl : a.length < 1000000000) : bk_Ints.f k a b = some (decide (a = b)) := by
  unfold bk_Ints.f
  by_cases h : a.length = b.length
  · rw [if_pos (by omega)]
    have h := all_loop (l := fun k i => bk_Ints.l0 k a b i) (n := a.length) (p := fun i => a.getD i 0 = b.getD i 0)
      (by intro k; simp only [bk_Ints.l0]; rw [if_neg (by omega)])
      (by
        intro k j hj
        simp only [bk_Ints.l0]
        rw [if_pos (by omega), if_pos (by omega), if_pos (by omega), rd_nat, rd_nat, wnext j (by omega)]
        by_cases e : a.getD j 0 = b.getD j 0 <;> simp only [e, if_true, if_false]) k hk
    rw [show bk_Ints.l0 k a b 0 = _ from h]
    congr 1
    exact decide_eq_decide.2 (ext_getD 0 (by assumption))
  · rw [if_neg (by omega)]
    congr 1
    exact (decide_eq_false (fun e => h (by rw [e]))).symm
theorem wakes_f (k : Nat) (hk : 50 ≤ k) : L04_wakes.f k = some true := at_rounds (fun k => L04_wakes.mono k) hk (by decide +kernel)
theorem rHere_f (l : List Int) (a s : Int) (hl : l.length ≤ 1000000) : ref01_Here.f l a s = some (decide ((0 ≤ a ∧ a ≤ l.length) ∧ s ≤ l.length - a)) := by
  unfold ref01_Here.f
  rw [rIn_f]
  simp only [Option.bind_some, decide_eq_true_eq]
  by_cases h : 0 ≤ a ∧ a ≤ l.length
  · rw [if_pos h, w64 _ (by omega) (by omega)]
    congr 1
    exact decide_eq_decide.2 ⟨fun z => ⟨h, z⟩, fun z => z.2⟩
  · rw [if_neg h]; congr 1; exact (decide_eq_false (fun z => h z.1)).symm
theorem rNumber_f (y : List Int) (hy : Bs y) (hl : y.length ≤ 8) (k : Nat) (hk : 10 < k) : ref01_Number.f k y = some (if be y ≥ 4611686018427387904 then (0, false) else (be y, true)) := by
  have key : ∀ (d j k : Nat), j + d = y.length → d < k → be (y.take j) < 4611686018427387904 → ref01_Number.l0 k y (be (y.take j)) j = some (if be y ≥ 4611686018427387904 then (0, false) else (be y, true)) := by
    intro d
    induction d with
    | zero =>
      intro j k hj hk hlt
      obtain ⟨k, rfl⟩ : ∃ m, k = m + 1 := ⟨k - 1, by omega⟩
      have e : y.take j = y := List.take_of_length_le (by omega)
      rw [e] at hlt ⊢
      simp only [ref01_Number.l0]
      rw [if_neg (by omega), if_neg (by omega)]
    | succ d ih =>
      intro j k hj hk hlt
      obtain ⟨k, rfl⟩ : ∃ m, k = m + 1 := ⟨k - 1, by omega⟩
      simp only [ref01_Number.l0]
      have h0 := be_b hy j (by omega)
      have hb := Bs_get hy j
      have ht := be_take y j (by omega)
      rw [if_pos (by omega)]
      by_cases h : be (y.take j) ≥ 18014398509481984
      · have hm := be_mono hy d (j + 1) (by omega)
        rw [if_pos h, if_pos (by omega)]
      · rw [if_neg h, if_pos (by omega), rd_nat, w64 (256 * _) (by omega) (by omega), w64 (y.getD j 0) (by omega) (by omega), w64 _ (by omega) (by omega), wnext j (by omega)]
        rw [show 256 * be (y.take j) + y.getD j 0 = be (y.take (j + 1)) from by rw [ht]; omega]
        exact ih (j + 1) k (by omega) (by omega) (by omega)
  unfold ref01_Number.f
  exact key y.length 0 k (by omega) (by omega) (by simp [be])
theorem rBytes_f (s n : Int) (hs : 0 ≤ s ∧ s ≤ 8) (hn : 0 ≤ n ∧ n ≤ 9223372036854775807) (k : Nat) (hk : 10 < k) : ref01_Bytes.f k s n = some (digs s n) := by
  have key : ∀ (d : Nat) (k : Nat) (xs : List Int), xs.length = s.toNat → d < k → (d : Int) ≤ s → (∀ j : Nat, d ≤ j → j < s.toNat → xs.getD j 0 = dig s n j) →
      ref01_Bytes.l0 k (n / 2 ^ (8 * (s.toNat - d))) xs ((d : Int) - 1) = some (digs s n) := by
    intro d
    induction d with
    | zero =>
      intro k xs hx hk _ hj
      obtain ⟨k, rfl⟩ : ∃ m, k = m + 1 := ⟨k - 1, by omega⟩
      simp only [ref01_Bytes.l0]
      rw [if_neg (by omega)]
      congr 1
      refine List.ext_getElem (by rw [hx, digs_length]) (fun i h1 h2 => ?_)
      have := hj i (by omega) (by omega)
      rw [getD_eq xs 0 i h1] at this
      rw [this]
      simp [digs]
    | succ d ih =>
      intro k xs hx hk hd hj
      obtain ⟨k, rfl⟩ : ∃ m, k = m + 1 := ⟨k - 1, by omega⟩
      simp only [ref01_Bytes.l0]
      have hq : 0 ≤ n / 2 ^ (8 * (s.toNat - (d + 1))) := Int.ediv_nonneg hn.1 (Int.pow_nonneg (by decide))
      have hq2 : n / 2 ^ (8 * (s.toNat - (d + 1))) ≤ n := Int.ediv_le_self _ hn.1
      rw [show (((d + 1 : Nat) : Int) - 1) = (d : Int) from by omega, if_pos (by omega), if_pos (by omega), if_pos (by omega), Int.toNat_natCast]
      rw [Int.tdiv_eq_ediv_of_nonneg hq, Int.tmod_eq_emod_of_nonneg hq, w64 (_ / 256) (by omega) (by omega), w64 ((d : Int) - 1) (by omega) (by omega)]
      have e1 : n / 2 ^ (8 * (s.toNat - (d + 1))) / 256 = n / 2 ^ (8 * (s.toNat - d)) := by
        rw [Int.ediv_ediv_of_nonneg (Int.pow_nonneg (by decide)), show (256 : Int) = 2 ^ 8 from rfl, ← Int.pow_add]
        congr 2
        omega
      have e2 : n / 2 ^ (8 * (s.toNat - (d + 1))) % 256 % 256 = dig s n d := by
        unfold dig
        rw [Int.emod_emod_of_dvd _ (by decide)]
        congr 3
        omega
      rw [e1, e2]
      refine ih k _ (by rw [List.length_set]; exact hx) (by omega) (by omega) (fun j h1 h2 => ?_)
      rw [List.getD_eq_getElem?_getD, List.getElem?_set]
      by_cases hjd : d = j
      · subst hjd
        rw [if_pos rfl, if_pos (by omega)]
        rfl
      · rw [if_neg hjd, ← List.getD_eq_getElem?_getD]
        exact hj j (by omega) h2
  unfold ref01_Bytes.f
  rw [if_pos hs.1, if_pos (by omega), w64 _ (by omega) (by omega)]
  have := key s.toNat k (List.replicate s.toNat 0) (by simp) (by omega) (by omega) (fun j h1 h2 => by omega)
  rw [show ((s.toNat : Nat) : Int) - 1 = s - 1 from by omega, show s.toNat - s.toNat = 0 from by omega] at this
  simpa using this
/-- What is put is got. -/
theorem be_digs (s n : Int) (hs : OkSize s) (hf : Fits s n) : be (digs s n) = n := by
  obtain ⟨h0, h1, h2⟩ := hf
  have key : ∀ j : Nat, j ≤ s.toNat → be ((digs s n).take j) = n / 2 ^ (8 * (s.toNat - j)) := by
    intro j
    induction j with
    | zero =>
      intro _
      have hb : n < 2 ^ (8 * s.toNat) := by
        rcases h2 with h2 | h2
        · subst h2
          have : (2 : Int) ^ (8 * (8 : Int).toNat) = 18446744073709551616 := by decide
          omega
        · exact h2
      simp only [List.take_zero, Nat.sub_zero]
      rw [Int.ediv_eq_zero_of_lt h0 hb]
      rfl
    | succ j ih =>
      intro hj
      rw [be_take _ j (by rw [digs_length]; omega), ih (by omega)]
      have e : (digs s n).getD j 0 = dig s n j := by
        rw [getD_eq _ 0 j (by rw [digs_length]; omega)]
        simp [digs]
      rw [e]
      unfold dig
      have e1 : n / 2 ^ (8 * (s.toNat - (j + 1))) / 256 = n / 2 ^ (8 * (s.toNat - j)) := by
        rw [Int.ediv_ediv_of_nonneg (Int.pow_nonneg (by decide)), show (256 : Int) = 2 ^ 8 from rfl, ← Int.pow_add]
        congr 2
        omega
      rw [← e1, show s.toNat - 1 - j = s.toNat - (j + 1) from by omega]
      omega
  have h := key s.toNat (Nat.le_refl _)
  rw [List.take_of_length_le (by rw [digs_length]; exact Nat.le_refl _)] at h
  rw [h]
  simp
end Go.Proofs.Ytmjfjjnoconmoaa.CodecLib
