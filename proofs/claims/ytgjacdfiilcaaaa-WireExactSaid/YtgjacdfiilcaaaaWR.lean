import Derived.Test.YtgjacdfiilcaaaaWQ
set_option linter.unusedSimpArgs false
set_option linter.unusedVariables false
namespace Go.Proofs.Ytgjacdfiilcaaaa.CA
open Go Go.Proofs.YtgjacdfiilcaaaaR Go.Proofs.Ytgjacdfiilcaaaa.IW Go.Proofs.Ytgjacdfiilcaaaa.CZ Go.Proofs.Ytgjacdfiilcaaaa.WZ
open Go.Proofs.Ytgjacdfiilcaaaa.MA (Mg eM aM msgOK)
set_option maxRecDepth 100000
set_option maxHeartbeats 4000000
/-- The number at a place. -/
def nB (c : List Int) (o s : Nat) : Int := beV ((c.drop o).take s)
theorem nB_in {c : List Int} (hc : Bs c) (o s : Nat) (h : o + s ≤ c.length) : 0 ≤ nB c o s ∧ nB c o s < 256 ^ s :=
  beV_lt s _ (by rw [List.length_take, List.length_drop]; omega) (Bs_take (Bs_drop hc o) s)
def numsC (c : List Int) : List Int := [nB c 0 1, nB c 1 1, nB c 2 1, nB c 3 1, nB c 4 4, nB c 8 4, nB c 12 8, nB c 20 4, nB c 24 4, nB c 28 4, nB c 32 1, nB c 33 4, nB c 37 4, nB c 41 1]
theorem dec_step {c : List Int} (hc : Bs c) (acc : List Int) (s : Nat) (ss : List Nat) (o : Nat) (h : o + s ≤ c.length) (hs : nB c o s < 4611686018427387904) :
    decN acc (s :: ss) (c.drop o) = decN (acc ++ [nB c o s]) ss (c.drop (o + s)) := by
  rw [decN, if_neg, List.drop_drop]
  · rfl
  · rw [List.length_drop]
    unfold nB at hs
    omega
theorem dec42 {c : List Int} (hc : Bs c) (h : 42 ≤ c.length) : decN [] szs c = if 4611686018427387904 ≤ nB c 12 8 then none else some (numsC c, c.drop 42) := by
  have b1 : ∀ o, o + 1 ≤ c.length → nB c o 1 < 4611686018427387904 := fun o ho => by
    have := (nB_in hc o 1 ho).2
    have p : (256 : Int) ^ 1 = 256 := by decide
    omega
  have b4 : ∀ o, o + 4 ≤ c.length → nB c o 4 < 4611686018427387904 := fun o ho => by
    have := (nB_in hc o 4 ho).2
    have p : (256 : Int) ^ 4 = 4294967296 := by decide
    omega
  have h0 : decN [] szs c = decN [] szs (c.drop 0) := by rw [List.drop_zero]
  rw [h0]
  unfold szs
  rw [dec_step hc _ 1 _ 0 (by omega) (b1 _ (by omega)), dec_step hc _ 1 _ 1 (by omega) (b1 _ (by omega)), dec_step hc _ 1 _ 2 (by omega) (b1 _ (by omega)), dec_step hc _ 1 _ 3 (by omega) (b1 _ (by omega)), dec_step hc _ 4 _ 4 (by omega) (b4 _ (by omega)), dec_step hc _ 4 _ 8 (by omega) (b4 _ (by omega))]
  by_cases hbig : 4611686018427387904 ≤ nB c 12 8
  · rw [if_pos hbig, decN, if_pos]
    exact .inr hbig
  · rw [if_neg hbig, dec_step hc _ 8 _ 12 (by omega) (by omega), dec_step hc _ 4 _ 20 (by omega) (b4 _ (by omega)), dec_step hc _ 4 _ 24 (by omega) (b4 _ (by omega)), dec_step hc _ 4 _ 28 (by omega) (b4 _ (by omega)), dec_step hc _ 1 _ 32 (by omega) (b1 _ (by omega)), dec_step hc _ 4 _ 33 (by omega) (b4 _ (by omega)), dec_step hc _ 4 _ 37 (by omega) (b4 _ (by omega)), dec_step hc _ 1 _ 41 (by omega) (b1 _ (by omega))]
    rfl
theorem dec_short : ∀ (ss : List Nat) (acc b : List Int), b.length < ss.sum → decN acc ss b = none
  | [], acc, b, h => by simp at h
  | s :: ss, acc, b, h => by
    rw [decN]
    split
    · rfl
    · rename_i hn
      exact dec_short ss _ _ (by rw [List.length_drop]; simp at h; omega)
theorem rd_short {c : List Int} (h : c.length < 42) : rdM c = none := by
  rw [rdM, dec_short szs [] c (by simpa [szs] using h)]; rfl
end Go.Proofs.Ytgjacdfiilcaaaa.CA
