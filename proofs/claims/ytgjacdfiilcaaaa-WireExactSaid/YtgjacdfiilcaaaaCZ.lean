/- Sums of bytes: the mathematics. -/
import Derived.Test.YtgjacdfiilcaaaaR19
import Derived.IntWalk
import Derived.Laws.BitsAllLaws
set_option linter.unusedSimpArgs false
set_option linter.unusedVariables false
namespace Go.Proofs.Ytgjacdfiilcaaaa.CZ
open Go
def Bs (l : List Int) : Prop := ∀ x ∈ l, 0 ≤ x ∧ x ≤ 255
theorem Bs_take {a : List Int} (ha : Bs a) (n : Nat) : Bs (a.take n) := fun x hx => ha x (List.mem_of_mem_take hx)
theorem Bs_drop {a : List Int} (ha : Bs a) (n : Nat) : Bs (a.drop n) := fun x hx => ha x (List.mem_of_mem_drop hx)
theorem Bs_app {a b : List Int} (ha : Bs a) (hb : Bs b) : Bs (a ++ b) := fun x hx => by
  rcases List.mem_append.1 hx with h | h
  · exact ha x h
  · exact hb x h
theorem Bs_l {a b : List Int} (h : Bs (a ++ b)) : Bs a := fun x hx => h x (List.mem_append_left _ hx)
theorem Bs_r {a b : List Int} (h : Bs (a ++ b)) : Bs b := fun x hx => h x (List.mem_append_right _ hx)
theorem Bs_c {a : Int} {b : List Int} (h : Bs (a :: b)) : (0 ≤ a ∧ a ≤ 255) ∧ Bs b := ⟨h a (List.mem_cons_self ..), fun x hx => h x (List.mem_cons_of_mem _ hx)⟩
def st1 (n : Nat) : Nat := if n % 2 = 1 then (n / 2) ^^^ 3988292384 else n / 2
def itN : Nat → Nat → Nat
  | 0, n => n
  | j + 1, n => itN j (st1 n)
def byteN (n c : Nat) : Nat := itN 8 (n ^^^ c)
def reg (n : Nat) (l : List Int) : Nat := l.foldl (fun n c => byteN n c.toNat) n
def crcN (l : List Int) : Nat := 4294967295 ^^^ reg 4294967295 l
theorem xor_lt {a b : Nat} (ha : a < 4294967296) (hb : b < 4294967296) : a ^^^ b < 4294967296 := Nat.xor_lt_two_pow (n := 32) ha hb
theorem st1_lt {n : Nat} (h : n < 4294967296) : st1 n < 4294967296 := by
  unfold st1; split
  · exact xor_lt (by omega) (by omega)
  · omega
theorem itN_lt : ∀ (j : Nat) {n : Nat}, n < 4294967296 → itN j n < 4294967296
  | 0, _, h => h
  | j + 1, _, h => itN_lt j (st1_lt h)
theorem byteN_lt {n c : Nat} (h : n < 4294967296) (hc : c < 4294967296) : byteN n c < 4294967296 := itN_lt 8 (xor_lt h hc)
theorem reg_lt : ∀ (l : List Int) (n : Nat), Bs l → n < 4294967296 → reg n l < 4294967296
  | [], n, _, h => h
  | c :: l, n, hl, h => reg_lt l _ (Bs_c hl).2 (byteN_lt h (by have := (Bs_c hl).1; omega))
theorem crcN_lt {l : List Int} (h : Bs l) : crcN l < 4294967296 := xor_lt (by omega) (reg_lt l _ h (by omega))
theorem st1_xor (a b : Nat) : st1 (a ^^^ b) = st1 a ^^^ st1 b := by
  unfold st1
  have h1 : (a ^^^ b) / 2 = a / 2 ^^^ b / 2 := Nat.xor_div_two
  have h2 : (a ^^^ b) % 2 = 1 ↔ ¬ (a % 2 = 1 ↔ b % 2 = 1) := Nat.xor_mod_two_eq_one
  by_cases ha : a % 2 = 1 <;> by_cases hb : b % 2 = 1
  · rw [if_neg (by rw [h2]; simp [ha, hb]), if_pos ha, if_pos hb, h1, show a / 2 ^^^ 3988292384 ^^^ (b / 2 ^^^ 3988292384) = (a / 2 ^^^ b / 2) ^^^ (3988292384 ^^^ 3988292384) from by ac_rfl, Nat.xor_self, Nat.xor_zero]
  · rw [if_pos (by rw [h2]; simp [ha, hb]), if_pos ha, if_neg hb, h1]; ac_rfl
  · rw [if_pos (by rw [h2]; simp [ha, hb]), if_neg ha, if_pos hb, h1]; ac_rfl
  · rw [if_neg (by rw [h2]; simp [ha, hb]), if_neg ha, if_neg hb, h1]
theorem itN_xor : ∀ (j a b : Nat), itN j (a ^^^ b) = itN j a ^^^ itN j b
  | 0, a, b => rfl
  | j + 1, a, b => by
    show itN j (st1 (a ^^^ b)) = itN j (st1 a) ^^^ itN j (st1 b)
    rw [st1_xor, itN_xor j]
theorem xz {a b : Nat} (h : a ^^^ b = 0) : a = b := by
  have := congrArg (· ^^^ b) h
  simpa [Nat.xor_assoc] using this
theorem st1_z {n : Nat} (h : n < 4294967296) (h0 : st1 n = 0) : n = 0 := by
  unfold st1 at h0
  split at h0
  · have := xz h0; omega
  · omega
theorem itN_z : ∀ (j : Nat) {n : Nat}, n < 4294967296 → itN j n = 0 → n = 0
  | 0, _, _, h => h
  | j + 1, _, h, h0 => st1_z h (itN_z j (st1_lt h) h0)
theorem itN_inj {j a b : Nat} (ha : a < 4294967296) (hb : b < 4294967296) (h : itN j a = itN j b) : a = b := by
  apply xz
  apply itN_z j (xor_lt ha hb)
  rw [itN_xor, h, Nat.xor_self]
theorem reg_app (n : Nat) (a b : List Int) : reg n (a ++ b) = reg (reg n a) b := by simp [reg]
theorem reg_inj : ∀ (l : List Int) {a b : Nat}, Bs l → a < 4294967296 → b < 4294967296 → reg a l = reg b l → a = b
  | [], _, _, _, _, _, h => h
  | c :: l, a, b, hl, ha, hb, h => by
    have hc := (Bs_c hl).1
    have h1 := reg_inj l (Bs_c hl).2 (byteN_lt (c := c.toNat) ha (by omega)) (byteN_lt (c := c.toNat) hb (by omega)) h
    have h2 := itN_inj (xor_lt ha (by omega)) (xor_lt hb (by omega)) h1
    have := congrArg (· ^^^ c.toNat) h2
    simpa [Nat.xor_assoc] using this
theorem st1_2 (n : Nat) : st1 (2 * n) = n := by unfold st1; rw [if_neg (by omega)]; omega
theorem itN_add : ∀ (i j n : Nat), itN (i + j) n = itN j (itN i n)
  | 0, j, n => by rw [Nat.zero_add]; rfl
  | i + 1, j, n => by rw [show i + 1 + j = (i + j) + 1 from by omega]; exact itN_add i j (st1 n)
theorem itN_sh : ∀ (j n : Nat), itN j (2 ^ j * n) = n
  | 0, n => by simp [itN]
  | j + 1, n => by
    show itN j (st1 (2 ^ (j + 1) * n)) = n
    rw [show 2 ^ (j + 1) * n = 2 * (2 ^ j * n) from by rw [Nat.pow_succ]; simp [Nat.mul_assoc, Nat.mul_comm, Nat.mul_left_comm], st1_2, itN_sh j n]
def word (a b c d : Nat) : Nat := a ^^^ 256 * b ^^^ 65536 * c ^^^ 16777216 * d
theorem reg4 (r : Nat) (a b c d : Int) : reg r [a, b, c, d] = itN 32 (r ^^^ word a.toNat b.toNat c.toNat d.toNat) := by
  have h1 : ∀ j x y : Nat, itN 8 (itN j x ^^^ y) = itN (j + 8) (x ^^^ 2 ^ j * y) := fun j x y => by rw [itN_add, itN_xor j, itN_sh]
  show byteN (byteN (byteN (byteN r a.toNat) b.toNat) c.toNat) d.toNat = _
  unfold byteN
  rw [h1 8 (r ^^^ a.toNat) b.toNat, h1 (8 + 8) _ c.toNat, h1 (8 + 8 + 8) _ d.toNat]
  unfold word
  congr 1
  simp only [Nat.xor_assoc]
theorem word_z {a b c d : Nat} (ha : a < 256) (hb : b < 256) (hc : c < 256) (h : word a b c d = 0) : a = 0 ∧ b = 0 ∧ c = 0 ∧ d = 0 := by
  unfold word at h
  have m : ∀ (k x y : Nat), (x ^^^ y) % 2 ^ k = x % 2 ^ k ^^^ y % 2 ^ k := fun k x y => Nat.xor_mod_two_pow
  have h1 := congrArg (· % 2 ^ 8) h
  simp only [m] at h1
  rw [show 256 * b % 2 ^ 8 = 0 from by omega, show 65536 * c % 2 ^ 8 = 0 from by omega, show 16777216 * d % 2 ^ 8 = 0 from by omega] at h1
  simp only [Nat.xor_zero] at h1
  have a0 : a = 0 := by omega
  subst a0
  have h2 := congrArg (· % 2 ^ 16) h
  simp only [m] at h2
  rw [show 65536 * c % 2 ^ 16 = 0 from by omega, show 16777216 * d % 2 ^ 16 = 0 from by omega] at h2
  simp only [Nat.xor_zero, Nat.zero_mod, Nat.zero_xor] at h2
  have b0 : b = 0 := by omega
  subst b0
  have h3 := congrArg (· % 2 ^ 24) h
  simp only [m] at h3
  rw [show 16777216 * d % 2 ^ 24 = 0 from by omega] at h3
  simp only [Nat.xor_zero, Nat.mul_zero, Nat.zero_mod, Nat.zero_xor] at h3
  have c0 : c = 0 := by omega
  subst c0
  simp only [Nat.mul_zero, Nat.zero_xor] at h
  omega
theorem word_xor (a b c d a' b' c' d' : Nat) : word a b c d ^^^ word a' b' c' d' = word (a ^^^ a') (b ^^^ b') (c ^^^ c') (d ^^^ d') := by
  have m : ∀ (k x y : Nat), 2 ^ k * (x ^^^ y) = 2 ^ k * x ^^^ 2 ^ k * y := fun k x y => by
    have := @Nat.shiftLeft_xor_distrib k x y
    simpa only [Nat.shiftLeft_eq, Nat.mul_comm] using this
  unfold word
  rw [show 256 * (b ^^^ b') = 256 * b ^^^ 256 * b' from m 8 b b', show 65536 * (c ^^^ c') = 65536 * c ^^^ 65536 * c' from m 16 c c', show 16777216 * (d ^^^ d') = 16777216 * d ^^^ 16777216 * d' from m 24 d d']
  ac_rfl
theorem word_lt {a b c d : Nat} (ha : a < 256) (hb : b < 256) (hc : c < 256) (hd : d < 256) : word a b c d < 4294967296 := by
  unfold word
  exact xor_lt (xor_lt (xor_lt (by omega) (by omega)) (by omega)) (by omega)
theorem xor_256 {a b : Nat} (ha : a < 256) (hb : b < 256) : a ^^^ b < 256 := Nat.xor_lt_two_pow (n := 8) ha hb
/-- Four bytes changed: another register. -/
theorem reg4_ne {r : Nat} (hr : r < 4294967296) {a b c d a' b' c' d' : Int} (h : Bs [a, b, c, d]) (h' : Bs [a', b', c', d']) (e : reg r [a, b, c, d] = reg r [a', b', c', d']) : a = a' ∧ b = b' ∧ c = c' ∧ d = d' := by
  have q : ∀ x ∈ [a, b, c, d], 0 ≤ x ∧ x ≤ 255 := h
  have q' : ∀ x ∈ [a', b', c', d'], 0 ≤ x ∧ x ≤ 255 := h'
  simp only [List.mem_cons, List.not_mem_nil, or_false, forall_eq_or_imp, forall_eq] at q q'
  rw [reg4, reg4] at e
  have w1 : word a.toNat b.toNat c.toNat d.toNat < 4294967296 := word_lt (by omega) (by omega) (by omega) (by omega)
  have w2 : word a'.toNat b'.toNat c'.toNat d'.toNat < 4294967296 := word_lt (by omega) (by omega) (by omega) (by omega)
  have e1 := itN_inj (xor_lt hr w1) (xor_lt hr w2) e
  have e2 : word a.toNat b.toNat c.toNat d.toNat ^^^ word a'.toNat b'.toNat c'.toNat d'.toNat = 0 := by
    have := congrArg (fun x => r ^^^ x) e1
    simp only [← Nat.xor_assoc, Nat.xor_self, Nat.zero_xor] at this
    rw [this, Nat.xor_self]
  rw [word_xor] at e2
  have z := word_z (xor_256 (by omega) (by omega)) (xor_256 (by omega) (by omega)) (xor_256 (by omega) (by omega)) e2
  have z1 := xz z.1
  have z2 := xz z.2.1
  have z3 := xz z.2.2.1
  have z4 := xz z.2.2.2
  omega
def tailN (s : Int) : List Int := [s % 256, s / 256 % 256, s / 65536 % 256, s / 16777216 % 256]
theorem tail_len (s : Int) : (tailN s).length = 4 := rfl
theorem tail_Bs (s : Int) : Bs (tailN s) := by
  intro x hx
  simp only [tailN, List.mem_cons, List.not_mem_nil, or_false] at hx
  omega
theorem xsplit (w k : Nat) : w % 2 ^ k ^^^ 2 ^ k * (w / 2 ^ k) = w := by
  apply Nat.eq_of_testBit_eq
  intro i
  rw [Nat.testBit_xor, Nat.testBit_mod_two_pow, Nat.mul_comm, ← Nat.shiftLeft_eq, Nat.testBit_shiftLeft, Nat.testBit_div_two_pow]
  by_cases h : i < k
  · have h1 : ¬ k ≤ i := by omega
    simp [h, h1]
  · have h1 : k ≤ i := by omega
    have h2 : i - k + k = i := by omega
    simp [h, h1, h2]
theorem word_tail (w : Nat) (hw : w < 4294967296) : word (w % 256) (w / 256 % 256) (w / 65536 % 256) (w / 16777216 % 256) = w := by
  have m : ∀ (k x y : Nat), 2 ^ k * (x ^^^ y) = 2 ^ k * x ^^^ 2 ^ k * y := fun k x y => by
    have := @Nat.shiftLeft_xor_distrib k x y
    simpa only [Nat.shiftLeft_eq, Nat.mul_comm] using this
  have h1 := xsplit w 8
  have h2 := xsplit (w / 256) 8
  have h3 := xsplit (w / 65536) 8
  unfold word
  rw [show w / 16777216 % 256 = w / 16777216 from by omega]
  have e3 : 65536 * (w / 65536 % 256) ^^^ 16777216 * (w / 16777216) = 65536 * (w / 65536) := by
    have := congrArg (fun x => 2 ^ 16 * x) h3
    simp only [m] at this
    rw [show w / 65536 / 2 ^ 8 = w / 16777216 from by omega] at this
    simpa [← Nat.mul_assoc] using this
  have e2 : 256 * (w / 256 % 256) ^^^ 65536 * (w / 65536) = 256 * (w / 256) := by
    have := congrArg (fun x => 2 ^ 8 * x) h2
    simp only [m] at this
    rw [show w / 256 / 2 ^ 8 = w / 65536 from by omega] at this
    simpa [← Nat.mul_assoc] using this
  rw [Nat.xor_assoc, e3, Nat.xor_assoc, e2]
  simpa using h1
theorem okreg {b : List Int} (hb : Bs b) : reg 4294967295 (b ++ tailN (crcN b)) = itN 32 4294967295 := by
  have hl := crcN_lt hb
  have hr := reg_lt b 4294967295 hb (by omega)
  rw [reg_app]
  unfold tailN
  rw [reg4]
  congr 1
  have e1 : ((crcN b : Int) % 256).toNat = crcN b % 256 := by omega
  have e2 : ((crcN b : Int) / 256 % 256).toNat = crcN b / 256 % 256 := by omega
  have e3 : ((crcN b : Int) / 65536 % 256).toNat = crcN b / 65536 % 256 := by omega
  have e4 : ((crcN b : Int) / 16777216 % 256).toNat = crcN b / 16777216 % 256 := by omega
  rw [e1, e2, e3, e4, word_tail _ hl]
  unfold crcN
  rw [Nat.xor_comm 4294967295 (reg 4294967295 b), ← Nat.xor_assoc, Nat.xor_self, Nat.zero_xor]
/-- What Open tells: is it sealed? -/
def sealed (s : List Int) : Bool := decide (s.drop (s.length - 4) = tailN (crcN (s.take (s.length - 4))))
def sel (b : List Int) : List Int := b ++ tailN (crcN b)
theorem sel_len (b : List Int) : (sel b).length = b.length + 4 := by simp [sel, tail_len]
theorem sel_Bs {b : List Int} (h : Bs b) : Bs (sel b) := Bs_app h (tail_Bs _)
theorem sealed_sel (b : List Int) : sealed (sel b) = true := by
  simp [sealed, sel, tail_len]
theorem sealed_eq {s : List Int} (h : sealed s = true) : s = sel (s.take (s.length - 4)) := by
  have h : s.drop (s.length - 4) = tailN (crcN (s.take (s.length - 4))) := by simpa [sealed] using h
  unfold sel
  rw [← h, List.take_append_drop]
theorem sealed_reg {s : List Int} (hs : Bs s) (h : sealed s = true) : reg 4294967295 s = itN 32 4294967295 := by
  rw [sealed_eq h]
  exact okreg (Bs_take hs _)
/-- Four bytes side by side changed. -/
theorem changed {pre post : List Int} {a b c d a' b' c' d' : Int} (h : Bs (pre ++ [a, b, c, d] ++ post)) (h' : Bs [a', b', c', d']) (s : sealed (pre ++ [a, b, c, d] ++ post) = true) (s' : sealed (pre ++ [a', b', c', d'] ++ post) = true) : a = a' ∧ b = b' ∧ c = c' ∧ d = d' := by
  have hb' : Bs (pre ++ [a', b', c', d'] ++ post) := Bs_app (Bs_app (Bs_l (Bs_l h)) h') (Bs_r h)
  have e := (sealed_reg h s).trans (sealed_reg hb' s').symm
  rw [reg_app, reg_app, reg_app, reg_app] at e
  have hr := reg_lt pre 4294967295 (Bs_l (Bs_l h)) (by omega)
  have e2 := reg_inj post (Bs_r h) (reg_lt _ _ (Bs_r (Bs_l h)) hr) (reg_lt _ _ h' hr) e
  exact reg4_ne hr (Bs_r (Bs_l h)) h' e2
end Go.Proofs.Ytgjacdfiilcaaaa.CZ
