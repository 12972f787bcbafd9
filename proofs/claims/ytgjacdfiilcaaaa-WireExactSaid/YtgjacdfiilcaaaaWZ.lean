/- Messages in bytes: the mathematics. -/
import Derived.Test.YtgjacdfiilcaaaaCZ
set_option linter.unusedSimpArgs false
set_option linter.unusedVariables false
namespace Go.Proofs.Ytgjacdfiilcaaaa.WZ
open Go Go.Proofs.Ytgjacdfiilcaaaa.CZ
/-- The number that bytes are, the greatest first. -/
def beV (l : List Int) : Int := l.foldl (fun a c => a * 256 + c) 0
theorem beV_app (l : List Int) (c : Int) : beV (l ++ [c]) = beV l * 256 + c := by simp [beV, List.foldl_append]
theorem beV_one (c : Int) : beV [c] = c := by simp [beV]
/-- So many bytes of a number. -/
def digs : Nat → Int → List Int
  | 0, _ => []
  | s + 1, n => digs s (n / 256) ++ [n % 256]
theorem digs_len : ∀ (s : Nat) (n : Int), (digs s n).length = s
  | 0, _ => rfl
  | s + 1, n => by simp [digs, digs_len s]
theorem digs_Bs : ∀ (s : Nat) (n : Int), Bs (digs s n)
  | 0, _ => fun x hx => by cases hx
  | s + 1, n => Bs_app (digs_Bs s _) fun x hx => by
    simp only [List.mem_cons, List.not_mem_nil, or_false] at hx
    omega
theorem beV_digs : ∀ (s : Nat) (n : Int), 0 ≤ n → n < 256 ^ s → beV (digs s n) = n
  | 0, n, h, h' => by
    simp at h'
    show (0 : Int) = n
    omega
  | s + 1, n, h, h' => by
    have h2 : n < 256 * 256 ^ s := by rw [Int.mul_comm]; simpa [Int.pow_succ] using h'
    show beV (digs s (n / 256) ++ [n % 256]) = n
    rw [beV_app, beV_digs s (n / 256) (by omega) (by omega)]
    omega
theorem beV_lt : ∀ (s : Nat) (l : List Int), l.length = s → Bs l → 0 ≤ beV l ∧ beV l < 256 ^ s
  | 0, l, hl, h => by
    obtain rfl := List.eq_nil_of_length_eq_zero hl
    simp [beV]
  | s + 1, l, hl, h => by
    obtain ⟨r, c, rfl⟩ : ∃ r c, l = r ++ [c] := ⟨l.dropLast, l.getLast (by intro e; rw [e] at hl; cases hl), (List.dropLast_concat_getLast _).symm⟩
    have h1 := beV_lt s r (by simpa using hl) (Bs_l h)
    have h2 := (Bs_c (Bs_r h)).1
    rw [beV_app, Int.pow_succ]
    omega
theorem digs_beV : ∀ (s : Nat) (l : List Int), l.length = s → Bs l → digs s (beV l) = l
  | 0, l, hl, h => by
    obtain rfl := List.eq_nil_of_length_eq_zero hl
    rfl
  | s + 1, l, hl, h => by
    obtain ⟨r, c, rfl⟩ : ∃ r c, l = r ++ [c] := ⟨l.dropLast, l.getLast (by intro e; rw [e] at hl; cases hl), (List.dropLast_concat_getLast _).symm⟩
    have h2 := (Bs_c (Bs_r h)).1
    show digs s (beV (r ++ [c]) / 256) ++ [beV (r ++ [c]) % 256] = r ++ [c]
    rw [beV_app, show (beV r * 256 + c) / 256 = beV r by omega, show (beV r * 256 + c) % 256 = c by omega, digs_beV s r (by simpa using hl) (Bs_l h)]
def szs : List Nat := [1, 1, 1, 1, 4, 4, 8, 4, 4, 4, 1, 4, 4, 1]
def encN : List Nat → List Int → List Int
  | s :: ss, n :: ns => digs s n ++ encN ss ns
  | _, _ => []
def encL (l : List Int) : List Int := (l.length : Int) % 256 :: l.map (· % 256)
/-- A message's bytes: of its numbers, its lists. -/
def enc (ns pa td : List Int) : List Int := encN szs ns ++ (encL pa ++ encL td)
/-- A number that has room. -/
def fitN (s : Nat) (n : Int) : Prop := 0 ≤ n ∧ n < 256 ^ s ∧ n < 4611686018427387904
def fitsN : List Nat → List Int → Prop
  | s :: ss, n :: ns => fitN s n ∧ fitsN ss ns
  | [], [] => True
  | _, _ => False
def decN (acc : List Int) : List Nat → List Int → Option (List Int × List Int)
  | [], r => some (acc, r)
  | s :: ss, r => if r.length < s ∨ 4611686018427387904 ≤ beV (r.take s) then none else decN (acc ++ [beV (r.take s)]) ss (r.drop s)
def decL : List Int → Option (List Int × List Int)
  | [] => none
  | n :: r => if (r.length : Int) < n then none else some (r.take n.toNat, r.drop n.toNat)
def dec3 : Option (List Int × List Int) → Option (List Int × List Int × List Int)
  | none => none
  | some (ns, r) => match decL r with
    | none => none
    | some (pa, r2) => match decL r2 with
      | some (td, []) => some (ns, pa, td)
      | _ => none
def rdM (b : List Int) : Option (List Int × List Int × List Int) := dec3 (decN [] szs b)
theorem decN_enc : ∀ (ss : List Nat) (ns acc r : List Int), fitsN ss ns → decN acc ss (encN ss ns ++ r) = some (acc ++ ns, r)
  | [], [], acc, r, _ => by simp [decN, encN]
  | s :: ss, n :: ns, acc, r, h => by
    have h1 : (digs s n ++ encN ss ns ++ r).take s = digs s n := by rw [List.append_assoc, List.take_left' (digs_len s n)]
    have h2 : (digs s n ++ encN ss ns ++ r).drop s = encN ss ns ++ r := by rw [List.append_assoc, List.drop_left' (digs_len s n)]
    have h3 : beV (digs s n) = n := beV_digs s n h.1.1 h.1.2.1
    rw [decN, encN, h1, h2, h3, if_neg, decN_enc ss ns _ r h.2]
    · simp
    · have := h.1.2.2
      simp [digs_len]
      omega
  | [], _ :: _, _, _, h => h.elim
  | _ :: _, [], _, _, h => h.elim
theorem decL_enc (l r : List Int) (h : l.length ≤ 255) (hb : Bs l) : decL (encL l ++ r) = some (l, r) := by
  have hm : l.map (· % 256) = l := by
    have : l.map (· % 256) = l.map id := List.map_congr_left fun x hx => by have := hb x hx; show x % 256 = x; omega
    rw [this, List.map_id]
  have hl : (l.length : Int) % 256 = l.length := by omega
  show decL (((l.length : Int) % 256) :: (l.map (· % 256) ++ r)) = _
  rw [decL, hm, hl, if_neg (by simp; omega), Int.toNat_natCast, List.take_left' rfl, List.drop_left' rfl]
structure Fits (ns pa td : List Int) : Prop where
  n : fitsN szs ns
  lp : pa.length ≤ 255
  bp : Bs pa
  lt : td.length ≤ 255
  bt : Bs td
theorem rd_enc {ns pa td : List Int} (h : Fits ns pa td) (r : List Int) : rdM (enc ns pa td ++ r) = if r = [] then some (ns, pa, td) else none := by
  unfold rdM enc
  rw [List.append_assoc, decN_enc szs ns [] _ h.n, List.nil_append, List.append_assoc]
  simp only [dec3]
  rw [decL_enc pa _ h.lp h.bp]
  simp only
  rw [decL_enc td _ h.lt h.bt]
  cases r <;> rfl
theorem decN_inv : ∀ (ss : List Nat) (acc b ns r : List Int), Bs b → decN acc ss b = some (ns, r) → ∃ q, ns = acc ++ q ∧ fitsN ss q ∧ b = encN ss q ++ r
  | [], acc, b, ns, r, hb, h => by
    cases h
    exact ⟨[], by simp, trivial, rfl⟩
  | s :: ss, acc, b, ns, r, hb, h => by
    rw [decN] at h
    split at h
    · cases h
    · rename_i hc
      obtain ⟨q, h1, h2, h3⟩ := decN_inv ss _ _ ns r (Bs_drop hb s) h
      have hl : (b.take s).length = s := by rw [List.length_take]; omega
      have hv := beV_lt s (b.take s) hl (Bs_take hb s)
      refine ⟨beV (b.take s) :: q, by rw [h1]; simp, ⟨⟨hv.1, hv.2, by omega⟩, h2⟩, ?_⟩
      show b = digs s (beV (b.take s)) ++ encN ss q ++ r
      rw [digs_beV s _ hl (Bs_take hb s), List.append_assoc, ← h3, List.take_append_drop]
theorem decL_inv {b l r : List Int} (hb : Bs b) (h : decL b = some (l, r)) : l.length ≤ 255 ∧ Bs l ∧ b = encL l ++ r := by
  cases b with
  | nil => cases h
  | cons n b =>
    rw [decL] at h
    split at h
    · cases h
    · rename_i hc
      have hn := (Bs_c hb).1
      cases h
      have hl : (b.take n.toNat).length = n.toNat := by rw [List.length_take]; omega
      have hbt := Bs_take (Bs_c hb).2 n.toNat
      refine ⟨by omega, hbt, ?_⟩
      have hm : (b.take n.toNat).map (· % 256) = b.take n.toNat := by
        have : (b.take n.toNat).map (· % 256) = (b.take n.toNat).map id := List.map_congr_left fun x hx => by have := hbt x hx; show x % 256 = x; omega
        rw [this, List.map_id]
      show n :: b = (((b.take n.toNat).length : Int) % 256) :: ((b.take n.toNat).map (· % 256) ++ b.drop n.toNat)
      rw [hm, hl, List.take_append_drop, show ((n.toNat : Nat) : Int) % 256 = n by omega]
theorem rd_inv {b ns pa td : List Int} (hb : Bs b) (h : rdM b = some (ns, pa, td)) : Fits ns pa td ∧ b = enc ns pa td := by
  unfold rdM at h
  cases h1 : decN [] szs b with
  | none => rw [h1] at h; cases h
  | some p =>
    obtain ⟨ns', r⟩ := p
    rw [h1] at h
    obtain ⟨q, rfl, h2, h3⟩ := decN_inv szs [] b ns' r hb h1
    (try rw [List.nil_append] at h)
    have hbr : Bs r := by rw [h3] at hb; exact Bs_r hb
    simp only [dec3] at h
    cases h4 : decL r with
    | none => rw [h4] at h; cases h
    | some p =>
      obtain ⟨pa', r2⟩ := p
      rw [h4] at h
      simp only at h
      obtain ⟨g1, g2, g3⟩ := decL_inv hbr h4
      have hbr2 : Bs r2 := by rw [g3] at hbr; exact Bs_r hbr
      cases h5 : decL r2 with
      | none => rw [h5] at h; cases h
      | some p =>
        obtain ⟨td', r3⟩ := p
        rw [h5] at h
        cases r3 with
        | cons _ _ => cases h
        | nil =>
          cases h
          obtain ⟨k1, k2, k3⟩ := decL_inv hbr2 h5
          exact ⟨⟨h2, g1, g2, k1, k2⟩, by rw [h3, g3, k3, enc, List.append_nil]⟩
/-- A part of a message's bytes, less than all, says none. -/
theorem rd_cut {ns pa td : List Int} (h : Fits ns pa td) (hb : Bs (enc ns pa td)) {k : Nat} (hk : k < (enc ns pa td).length) : rdM ((enc ns pa td).take k) = none := by
  cases hr : rdM ((enc ns pa td).take k) with
  | none => rfl
  | some p =>
    obtain ⟨a, b, c⟩ := p
    obtain ⟨h1, h2⟩ := rd_inv (Bs_take hb k) hr
    have h3 := rd_enc h1 ((enc ns pa td).drop k)
    rw [← h2, List.take_append_drop, if_neg] at h3
    · have h4 := rd_enc h []
      rw [List.append_nil, if_pos rfl] at h4
      rw [h4] at h3
      cases h3
    · intro e
      have := congrArg List.length e
      simp at this
      omega
theorem enc_inj {ns pa td ns' pa' td' : List Int} (h : Fits ns pa td) (h' : Fits ns' pa' td') (e : enc ns pa td = enc ns' pa' td') : ns = ns' ∧ pa = pa' ∧ td = td' := by
  have h1 := rd_enc h []
  have h2 := rd_enc h' []
  rw [List.append_nil, if_pos rfl] at h1 h2
  rw [e, h2] at h1
  cases h1
  exact ⟨rfl, rfl, rfl⟩
end Go.Proofs.Ytgjacdfiilcaaaa.WZ
