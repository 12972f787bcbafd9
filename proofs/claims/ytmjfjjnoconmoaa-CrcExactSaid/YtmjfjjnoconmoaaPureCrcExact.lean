/- The law CrcExact, over numbers and lists. -/
import Derived.Test.YtmjfjjnoconmoaaPCx3
import Derived.Test.YtmjfjjnoconmoaaCrcLib
namespace Go.Proofs.Ytmjfjjnoconmoaa.Pure
open Go.RowKit Go.Proofs.Ytmjfjjnoconmoaa.PC Go.Proofs.YtmjfjjnoconmoaaB Go.Proofs.Ytmjfjjnoconmoaa.CrcLib Go.Proofs.YtmjfjjnoconmoaaW.PrintWords Go.Proofs.YtmjfjjnoconmoaaW.PrintLast Go.Proofs.YtmjfjjnoconmoaaW.PrintMore
open Classical
set_option linter.unusedVariables false
set_option linter.unusedSimpArgs false

theorem CrcExact : L05_CrcExact.Pure := by
  intro b hb
  have hB : Bs b := fun x hx => u8b (hb.2 x hx)
  refine ⟨5000, ?_⟩
  unfold L05_CrcExact.f
  by_cases h1 : (b.length : Int) > 400
  · rw [if_pos h1]
  · rw [if_neg h1, Twin_f b (by omega)]
    simp only [Option.bind_some]
    rw [Open_f b hB (by omega) _ (by omega), rOpen_f b hB (by omega) _ (by omega), Sum_f b hB (by omega) _ (by omega), rSum_f b hB (by omega) _ (by omega)]
    simp only [Option.bind_some, if_true]
    rw [Seal_f b hB (by omega) _ (by omega), rSeal_f b hB (by omega) _ (by omega)]
    simp only [Option.bind_some]
    rw [Bytes_f _ _ _ (by simp [tail_len]; omega) (by simp [tail_len]; omega)]
    simp only [Option.bind_some, decide_true, if_true]
    rw [Bytes_f b b _ (by omega) (by omega), wakes_f _ (by omega), Bytes_f _ _ _ (by split; · simp
                                                                                     · split
                                                                                       · simp; omega
                                                                                       · simp) (by split; · simp
                                                                                                   · split
                                                                                                     · simp; omega
                                                                                                     · simp)]
    simp only [Option.bind_some, decide_true, if_true]
end Go.Proofs.Ytmjfjjnoconmoaa.Pure
