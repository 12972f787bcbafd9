/- What is put is got, number and list, one behind the other; what stands ahead stays: over numbers and lists. At most 300 bytes ahead, at most 200 numbers in the list; all else is any number. -/
import Derived.Test.YtmjfjjnoconmoaaPDx6
import Derived.Test.YtmjfjjnoconmoaaCodecLib
namespace Go.Proofs.Ytmjfjjnoconmoaa.Pure
open Go.RowKit Go.Proofs.Ytmjfjjnoconmoaa.PD Go.Proofs.Ytmjfjjnoconmoaa.CodecLib Go.Proofs.YtmjfjjnoconmoaaB Go.Proofs.YtmjfjjnoconmoaaW.PrintWords Go.Proofs.YtmjfjjnoconmoaaW.PrintLast Go.Proofs.YtmjfjjnoconmoaaW.PrintMore
open Classical
set_option linter.unusedVariables false

theorem CodecBack : L04_CodecBack.Pure := by
  intro b s n l hb hs hn hl
  have hB : Bs b := fun x hx => u8b (hb.2 x hx)
  refine ⟨1000, ?_⟩
  unfold L04_CodecBack.f
  by_cases h1 : (b.length : Int) > 300
  · rw [if_pos h1]; simp only [L04_CodecBack.j0, if_true]
  · rw [if_neg h1]
    simp only [L04_CodecBack.j0, decide_eq_true_eq]
    by_cases h2 : (l.length : Int) > 200
    · rw [if_pos h2]
    · rw [if_neg h2, Put_f b s n (by omega) _ (by omega), wakes_f _ (by omega)]
      by_cases hf : OkSize s ∧ Fits s n
      · simp only [if_pos hf, Option.bind_some, if_true]
        have hsz := sz_b hf.1
        have hL : (b ++ digs s n).length = b.length + s.toNat := by rw [List.length_append, digs_length]
        rw [PutList_f (b ++ digs s n) l (by omega) (by omega) _ (by omega), if_neg (show ¬ l.length > 255 by omega)]
        by_cases hBl : Bs l
        · simp only [if_pos hBl, Option.bind_some, if_true]
          have hY : Bs (b ++ digs s n ++ [(l.length : Int)] ++ l) := Bs_app (Bs_app (Bs_app hB (digs_Bs s n)) (by intro x hx; simp at hx; omega)) hBl
          have hYL : (b ++ digs s n ++ [(l.length : Int)] ++ l).length = b.length + s.toNat + 1 + l.length := by simp only [List.length_append, digs_length, List.length_singleton]
          have hcut : ((b ++ digs s n ++ [(l.length : Int)] ++ l).take ((b.length : Int) + s).toNat).drop (b.length : Int).toNat = digs s n := by
            rw [Int.toNat_natCast, show ((b.length : Int) + s).toNat = (b ++ digs s n).length from by omega, List.append_assoc, List.take_left, List.drop_left]
          rw [Get_f _ _ _ hY (by omega) _ (by omega), if_pos hf.1, if_pos (by omega), hcut, be_digs s n hf.1 hf.2, if_neg (by have := hf.2.2.1; omega)]
          simp only [Option.bind_some]
          have hg : (b ++ digs s n ++ [(l.length : Int)] ++ l).getD ((b.length : Int) + s).toNat 0 = l.length := by
            rw [getD_eq _ 0 _ (by omega)]
            rw [List.getElem_append_left (by simp only [List.length_append, digs_length, List.length_singleton]; omega), List.getElem_append_right (by omega)]
            simp
          rw [GetList_f _ _ hY (by omega) (by omega) _ (by omega), hg, if_pos (by omega)]
          simp only [Option.bind_some, if_true]
          have hcut2 : ((b ++ digs s n ++ [(l.length : Int)] ++ l).take ((b.length : Int) + s + 1 + l.length).toNat).drop ((b.length : Int) + s + 1).toNat = l := by
            rw [List.take_of_length_le (by omega), show ((b.length : Int) + s + 1).toNat = (b ++ digs s n ++ [(l.length : Int)]).length from by simp only [List.length_append, digs_length, List.length_singleton]; omega, List.drop_left]
          rw [hcut2, w64 _ (by omega) (by omega), if_pos rfl, Ints_f _ _ _ (by omega) (by omega)]
          simp only [Option.bind_some, decide_true, if_true]
          rw [hYL, if_pos (by omega), if_pos (by omega), if_pos (by omega), if_pos (by omega), Int.toNat_natCast, List.append_assoc, List.append_assoc, List.take_left, Bytes_f _ _ _ (by omega) (by omega)]
          simp
        · simp [if_neg hBl]
      · simp [if_neg hf]
end Go.Proofs.Ytmjfjjnoconmoaa.Pure
