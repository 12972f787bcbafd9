/- Texts joined: IF. -/
import Derived.Test.YtkfcbpbnoeaheaaGreatDoorZX1
import Derived.Test.YtkfcbpbnoeaheaaGreatDoorProg
set_option linter.unusedVariables false
set_option linter.unusedSimpArgs false
/- Functions of the program in the evaluator's form, each checked against the program (written by wip/prog/irgen.py). -/
set_option maxRecDepth 100000
namespace Go.Proofs.YtkfcbpbnoeaheaaGreatDoor.IF
open Go Go.Proofs.YtkfcbpbnoeaheaaGreatDoorR
/-- slices.Clone   bellwether/api.Event bellwether/api.Event  -/
def j86 : C := (.seq (.region [⟨some 2, .nilsl 96 6 0, none, [], []⟩] false)
 (.seq (.seq (.region [⟨some 3, .mov (.t 0), none, [], []⟩,
  ⟨some 4, .isnil false (.t 3), none, [], []⟩] false)
 (.cond (.t 4) (.seq (.region [⟨some 2, .nilsl 96 6 1, none, [], []⟩] false)
 .ret) .skip))
 (.seq (.region [⟨some 5, .bsl 96 6 0 [.int .i64 0, .int .i64 0, .int .i64 0, .int .i64 0, .int .i64 0, .int .i64 0] [], none, [], []⟩,
  ⟨some 6, .mov (.t 0), none, [], []⟩,
  ⟨some 7, .app 96 6 48 (.t 5) (.t 6), none, [], []⟩,
  ⟨some 2, .mov (.t 7), none, [], []⟩] false)
 .ret)))
def i86 : F := ⟨1, 8, j86, [.t 2]⟩
theorem b86 : i86.body = j86 := rfl
theorem q86 : i86.res = [.t 2] := rfl
theorem c86 : chkF Tryz.prog Tryz.f86 i86 = true := by kernel_rfl
theorem s86 {m : Model} {E : Nat → Model} (hE : ∀ f, Sound Tryz.prog f (E f)) (hm : ∀ args r, m args = some r → ∃ N, i86.ev E N args = some r) : Sound Tryz.prog 86 m := sound_of i86 Tryz.func86 rfl c86 hE hm
theorem x86 : Sound Tryz.prog 86 (cloneM 96 6 48) := by
  refine clone_ok (r := fun _ => (.undef, [])) (s86 (E := fun _ _ => none) (fun f => Sound.no) fun args r h => ?_) (sound_nil (fun m hm => s86 (E := fun _ _ => none) (fun f => Sound.no) hm) fun A c => ⟨0, ?_⟩)
  · split at h
    · rename_i y ys
      split at h
      · rename_i hc
        cases h
        refine ⟨0, ?_⟩
        rw [F_ev rfl]
        simp only [j86, b86, q86, qq, ww, List.replicate, Nat.reduceBEq, Nat.reduceAdd, Nat.reduceMul, Nat.reduceDiv, Nat.reduceEqDiff, Nat.reduceLeDiff, Nat.reduceLT, Int.reduceEq, Int.reduceNe, Int.reduceLT, Int.reduceLE, Int.reduceAdd, Int.reduceSub, Int.reduceMul, Int.reduceNeg, Int.reduceToNat, Int.reducePow, Nat.reducePow, reduceCtorEq, reduceIte, if_true, if_false, List.replicate, fillR, evE, V.pur1, asRow, List.map_append]
        rw [if_pos ⟨hc.1, by simpa using hc.2⟩]
        simp only [j86, b86, q86, qq, ww, List.replicate, Nat.reduceBEq, Nat.reduceAdd, Nat.reduceMul, Nat.reduceDiv, Nat.reduceEqDiff, Nat.reduceLeDiff, Nat.reduceLT, Int.reduceEq, Int.reduceNe, Int.reduceLT, Int.reduceLE, Int.reduceAdd, Int.reduceSub, Int.reduceMul, Int.reduceNeg, Int.reduceToNat, Int.reducePow, Nat.reducePow, reduceCtorEq, reduceIte, if_true, if_false, S.kill, V.kill, Blk.kill, hand, handSs, handS, handVs, handV, List.contains_nil]
        try simp
      · cases h
    · cases h
  · cases A
    · rw [F_ev rfl]
      simp only [j86, b86, q86, qq, ww, List.replicate, Nat.reduceBEq, Nat.reduceAdd, Nat.reduceMul, Nat.reduceDiv, Nat.reduceEqDiff, Nat.reduceLeDiff, Nat.reduceLT, Int.reduceEq, Int.reduceNe, Int.reduceLT, Int.reduceLE, Int.reduceAdd, Int.reduceSub, Int.reduceMul, Int.reduceNeg, Int.reduceToNat, Int.reducePow, Nat.reducePow, reduceCtorEq, reduceIte, if_true, if_false, hand, handSs, handS, handVs, handV, List.contains_nil, Bool.not_false]
      try simp
    · rw [F_ev rfl]
      simp only [j86, b86, q86, qq, ww, List.replicate, Nat.reduceBEq, Nat.reduceAdd, Nat.reduceMul, Nat.reduceDiv, Nat.reduceEqDiff, Nat.reduceLeDiff, Nat.reduceLT, Int.reduceEq, Int.reduceNe, Int.reduceLT, Int.reduceLE, Int.reduceAdd, Int.reduceSub, Int.reduceMul, Int.reduceNeg, Int.reduceToNat, Int.reducePow, Nat.reducePow, reduceCtorEq, reduceIte, if_true, if_false, List.replicate, fillR, evE, V.pur1, asRow]
      try (rw [if_pos (by simp)]; simp only [j86, b86, q86, qq, ww, List.replicate, Nat.reduceBEq, Nat.reduceAdd, Nat.reduceMul, Nat.reduceDiv, Nat.reduceEqDiff, Nat.reduceLeDiff, Nat.reduceLT, Int.reduceEq, Int.reduceNe, Int.reduceLT, Int.reduceLE, Int.reduceAdd, Int.reduceSub, Int.reduceMul, Int.reduceNeg, Int.reduceToNat, Int.reducePow, Nat.reducePow, reduceCtorEq, reduceIte, if_true, if_false, S.kill, V.kill, Blk.kill, hand, handSs, handS, handVs, handV, List.contains_nil])
      try simp
/-- slices.Clone   bellwether/api.Item bellwether/api.Item  -/
def j85 : C := (.seq (.region [⟨some 2, .nilsl 29 2 0, none, [], []⟩] false)
 (.seq (.seq (.region [⟨some 3, .mov (.t 0), none, [], []⟩,
  ⟨some 4, .isnil false (.t 3), none, [], []⟩] false)
 (.cond (.t 4) (.seq (.region [⟨some 2, .nilsl 29 2 1, none, [], []⟩] false)
 .ret) .skip))
 (.seq (.region [⟨some 5, .bsl 29 2 0 [.int .i64 0, .int .i64 0] [], none, [], []⟩,
  ⟨some 6, .mov (.t 0), none, [], []⟩,
  ⟨some 7, .app 29 2 16 (.t 5) (.t 6), none, [], []⟩,
  ⟨some 2, .mov (.t 7), none, [], []⟩] false)
 .ret)))
def i85 : F := ⟨1, 8, j85, [.t 2]⟩
theorem b85 : i85.body = j85 := rfl
theorem q85 : i85.res = [.t 2] := rfl
theorem c85 : chkF Tryz.prog Tryz.f85 i85 = true := by kernel_rfl
theorem s85 {m : Model} {E : Nat → Model} (hE : ∀ f, Sound Tryz.prog f (E f)) (hm : ∀ args r, m args = some r → ∃ N, i85.ev E N args = some r) : Sound Tryz.prog 85 m := sound_of i85 Tryz.func85 rfl c85 hE hm
theorem x85 : Sound Tryz.prog 85 (cloneM 29 2 16) := by
  refine clone_ok (r := fun _ => (.undef, [])) (s85 (E := fun _ _ => none) (fun f => Sound.no) fun args r h => ?_) (sound_nil (fun m hm => s85 (E := fun _ _ => none) (fun f => Sound.no) hm) fun A c => ⟨0, ?_⟩)
  · split at h
    · rename_i y ys
      split at h
      · rename_i hc
        cases h
        refine ⟨0, ?_⟩
        rw [F_ev rfl]
        simp only [j85, b85, q85, qq, ww, List.replicate, Nat.reduceBEq, Nat.reduceAdd, Nat.reduceMul, Nat.reduceDiv, Nat.reduceEqDiff, Nat.reduceLeDiff, Nat.reduceLT, Int.reduceEq, Int.reduceNe, Int.reduceLT, Int.reduceLE, Int.reduceAdd, Int.reduceSub, Int.reduceMul, Int.reduceNeg, Int.reduceToNat, Int.reducePow, Nat.reducePow, reduceCtorEq, reduceIte, if_true, if_false, List.replicate, fillR, evE, V.pur1, asRow, List.map_append]
        rw [if_pos ⟨hc.1, by simpa using hc.2⟩]
        simp only [j85, b85, q85, qq, ww, List.replicate, Nat.reduceBEq, Nat.reduceAdd, Nat.reduceMul, Nat.reduceDiv, Nat.reduceEqDiff, Nat.reduceLeDiff, Nat.reduceLT, Int.reduceEq, Int.reduceNe, Int.reduceLT, Int.reduceLE, Int.reduceAdd, Int.reduceSub, Int.reduceMul, Int.reduceNeg, Int.reduceToNat, Int.reducePow, Nat.reducePow, reduceCtorEq, reduceIte, if_true, if_false, S.kill, V.kill, Blk.kill, hand, handSs, handS, handVs, handV, List.contains_nil]
        try simp
      · cases h
    · cases h
  · cases A
    · rw [F_ev rfl]
      simp only [j85, b85, q85, qq, ww, List.replicate, Nat.reduceBEq, Nat.reduceAdd, Nat.reduceMul, Nat.reduceDiv, Nat.reduceEqDiff, Nat.reduceLeDiff, Nat.reduceLT, Int.reduceEq, Int.reduceNe, Int.reduceLT, Int.reduceLE, Int.reduceAdd, Int.reduceSub, Int.reduceMul, Int.reduceNeg, Int.reduceToNat, Int.reducePow, Nat.reducePow, reduceCtorEq, reduceIte, if_true, if_false, hand, handSs, handS, handVs, handV, List.contains_nil, Bool.not_false]
      try simp
    · rw [F_ev rfl]
      simp only [j85, b85, q85, qq, ww, List.replicate, Nat.reduceBEq, Nat.reduceAdd, Nat.reduceMul, Nat.reduceDiv, Nat.reduceEqDiff, Nat.reduceLeDiff, Nat.reduceLT, Int.reduceEq, Int.reduceNe, Int.reduceLT, Int.reduceLE, Int.reduceAdd, Int.reduceSub, Int.reduceMul, Int.reduceNeg, Int.reduceToNat, Int.reducePow, Nat.reducePow, reduceCtorEq, reduceIte, if_true, if_false, List.replicate, fillR, evE, V.pur1, asRow]
      try (rw [if_pos (by simp)]; simp only [j85, b85, q85, qq, ww, List.replicate, Nat.reduceBEq, Nat.reduceAdd, Nat.reduceMul, Nat.reduceDiv, Nat.reduceEqDiff, Nat.reduceLeDiff, Nat.reduceLT, Int.reduceEq, Int.reduceNe, Int.reduceLT, Int.reduceLE, Int.reduceAdd, Int.reduceSub, Int.reduceMul, Int.reduceNeg, Int.reduceToNat, Int.reducePow, Nat.reducePow, reduceCtorEq, reduceIte, if_true, if_false, S.kill, V.kill, Blk.kill, hand, handSs, handS, handVs, handV, List.contains_nil])
      try simp
/-- slices.ContainsFunc   bellwether/api.Event bellwether/api.Event  -/
def j100 : C := (.seq (.region [⟨some 4, .mov (.c (.bool false)), none, [], []⟩] false)
 (.seq (.region [⟨some 5, .mov (.t 0), none, [], []⟩,
  ⟨some 6, .mov (.t 1), none, [], []⟩,
  ⟨some 7, .call false 127 [(.t 5), (.t 6)], none, [], []⟩,
  ⟨some 8, .bin .geq (.t 7) (.c (.int .i64 0)), none, [], []⟩,
  ⟨some 4, .mov (.t 8), none, [], []⟩] false)
 .ret))
def i100 : F := ⟨2, 9, j100, [.t 4]⟩
theorem b100 : i100.body = j100 := rfl
theorem q100 : i100.res = [.t 4] := rfl
theorem c100 : chkF Tryz.prog Tryz.f100 i100 = true := by kernel_rfl
theorem s100 {m : Model} {E : Nat → Model} (hE : ∀ f, Sound Tryz.prog f (E f)) (hm : ∀ args r, m args = some r → ∃ N, i100.ev E N args = some r) : Sound Tryz.prog 100 m := sound_of i100 Tryz.func100 rfl c100 hE hm
/-- slices.DeleteFunc   bellwether/api.Item bellwether/api.Item  -/
def j116 : C := (.seq (.region [⟨some 4, .nilsl 29 2 0, none, [], []⟩] false)
 (.seq (.region [⟨some 8, .mov (.t 0), none, [], []⟩,
  ⟨some 9, .mov (.t 1), none, [], []⟩,
  ⟨some 10, .call false 90 [(.t 8), (.t 9)], none, [], []⟩,
  ⟨some 5, .mov (.t 10), none, [], []⟩] false)
 (.seq (.seq (.region [⟨some 11, .mov (.t 5), none, [], []⟩,
  ⟨some 12, .bin .eql (.t 11) (.c (.int .i64 (-1))), none, [], []⟩] false)
 (.cond (.t 12) (.seq (.region [⟨some 13, .mov (.t 0), none, [], []⟩,
  ⟨some 4, .mov (.t 13), none, [], []⟩] false)
 .ret) .skip))
 (.seq (.seq (.region [⟨some 14, .mov (.t 5), none, [], []⟩,
  ⟨some 15, .bin .add (.t 14) (.c (.int .i64 1)), none, [], []⟩,
  ⟨some 6, .mov (.t 15), none, [], []⟩] false)
 (.block 0 (.loop (.keep [0, 1, 5, 6] (.seq (.seq (.region [⟨some 16, .mov (.t 6), none, [], []⟩,
  ⟨some 17, .mov (.t 0), none, [], []⟩,
  ⟨some 18, .len (.t 17), none, [], []⟩,
  ⟨some 19, .bin .lss (.t 16) (.t 18), none, [], []⟩] false)
 (.cond (.t 19) .skip (.exit 0)))
 (.seq (.block 1 (.seq (.region [⟨some 22, .mov (.t 0), none, [], []⟩,
  ⟨some 23, .mov (.t 6), none, [], []⟩,
  ⟨some 24, .iad 2 (.t 22) (.t 23), none, [], []⟩,
  ⟨some 25, .load true 2 (.t 24), none, [], []⟩,
  ⟨some 7, .alloc [.int .i64 0, .int .i64 0], none, [], []⟩,
  ⟨none, .store none 2 (.t 7) (.t 25), none, [], []⟩] false)
 (.seq (.region [⟨some 26, .mov (.t 1), none, [], []⟩,
  ⟨some 27, .load true 2 (.t 7), none, [], []⟩,
  ⟨some 28, .callv false (.t 26) [(.t 27)], none, [], []⟩,
  ⟨some 29, .un .not (.t 28), none, [], []⟩] false)
 (.cond (.t 29) (.seq (.region [⟨some 30, .mov (.t 0), none, [], []⟩,
  ⟨some 31, .mov (.t 5), none, [], []⟩,
  ⟨some 32, .load true 2 (.t 7), none, [], []⟩,
  ⟨some 33, .iad 2 (.t 30) (.t 31), none, [], []⟩,
  ⟨none, .store none 2 (.t 33) (.t 32), none, [], []⟩] false)
 (.region [⟨some 34, .mov (.t 5), none, [], []⟩,
  ⟨some 35, .bin .add (.t 34) (.c (.int .i64 1)), none, [], []⟩,
  ⟨some 5, .mov (.t 35), none, [], []⟩] false)) .skip))))
 (.region [⟨some 20, .mov (.t 6), none, [], []⟩,
  ⟨some 21, .bin .add (.t 20) (.c (.int .i64 1)), none, [], []⟩,
  ⟨some 6, .mov (.t 21), none, [], []⟩] false)))))))
 (.seq (.region [⟨some 36, .mov (.t 0), none, [], []⟩,
  ⟨some 37, .mov (.t 5), none, [], []⟩,
  ⟨some 38, .cut 2 (.t 36) (some (.t 37)) none, none, [], []⟩,
  ⟨none, .clr 29 2 (.t 38), none, [], []⟩] false)
 (.seq (.region [⟨some 39, .mov (.t 0), none, [], []⟩,
  ⟨some 40, .mov (.t 5), none, [], []⟩,
  ⟨some 41, .cut 2 (.t 39) none (some (.t 40)), none, [], []⟩,
  ⟨some 4, .mov (.t 41), none, [], []⟩] false)
 .ret))))))
def i116 : F := ⟨2, 42, j116, [.t 4]⟩
theorem b116 : i116.body = j116 := rfl
theorem q116 : i116.res = [.t 4] := rfl
theorem c116 : chkF Tryz.prog Tryz.f116 i116 = true := by kernel_rfl
theorem s116 {m : Model} {E : Nat → Model} (hE : ∀ f, Sound Tryz.prog f (E f)) (hm : ∀ args r, m args = some r → ∃ N, i116.ev E N args = some r) : Sound Tryz.prog 116 m := sound_of i116 Tryz.func116 rfl c116 hE hm
/-- slices.IndexFunc   bellwether/api.Event bellwether/api.Event  -/
def j127 : C := (.seq (.region [⟨some 4, .mov (.c (.int .i64 0)), none, [], []⟩] false)
 (.seq (.seq (.region [⟨some 6, .mov (.t 0), none, [], []⟩,
  ⟨some 7, .len (.t 6), none, [], []⟩,
  ⟨some 8, .mov (.c (.int .i64 0)), none, [], []⟩] false)
 (.block 0 (.loop (.keep [0, 1, 7, 8] (.seq (.region [⟨some 9, .bin .lss (.t 8) (.t 7), none, [], []⟩] false)
 (.seq (.cond (.t 9) .skip (.exit 0))
 (.seq (.block 1 (.seq (.region [⟨some 10, .mov (.t 8), none, [], []⟩,
  ⟨some 5, .mov (.t 10), none, [], []⟩] false)
 (.seq (.region [⟨some 11, .mov (.t 1), none, [], []⟩,
  ⟨some 12, .mov (.t 0), none, [], []⟩,
  ⟨some 13, .mov (.t 5), none, [], []⟩,
  ⟨some 14, .iad 6 (.t 12) (.t 13), none, [], []⟩,
  ⟨some 15, .load true 6 (.t 14), none, [], []⟩,
  ⟨some 16, .callv false (.t 11) [(.t 15)], none, [], []⟩] false)
 (.cond (.t 16) (.seq (.region [⟨some 17, .mov (.t 5), none, [], []⟩,
  ⟨some 4, .mov (.t 17), none, [], []⟩] false)
 .ret) .skip))))
 (.region [⟨some 18, .bin .add (.t 8) (.c (.int .i64 1)), none, [], []⟩,
  ⟨some 8, .mov (.t 18), none, [], []⟩] false))))))))
 (.seq (.region [⟨some 4, .mov (.c (.int .i64 (-1))), none, [], []⟩] false)
 .ret)))
def i127 : F := ⟨2, 19, j127, [.t 4]⟩
theorem b127 : i127.body = j127 := rfl
theorem q127 : i127.res = [.t 4] := rfl
theorem c127 : chkF Tryz.prog Tryz.f127 i127 = true := by kernel_rfl
theorem s127 {m : Model} {E : Nat → Model} (hE : ∀ f, Sound Tryz.prog f (E f)) (hm : ∀ args r, m args = some r → ∃ N, i127.ev E N args = some r) : Sound Tryz.prog 127 m := sound_of i127 Tryz.func127 rfl c127 hE hm
/-- slices.IndexFunc   bellwether/api.Item bellwether/api.Item  -/
def j90 : C := (.seq (.region [⟨some 4, .mov (.c (.int .i64 0)), none, [], []⟩] false)
 (.seq (.seq (.region [⟨some 6, .mov (.t 0), none, [], []⟩,
  ⟨some 7, .len (.t 6), none, [], []⟩,
  ⟨some 8, .mov (.c (.int .i64 0)), none, [], []⟩] false)
 (.block 0 (.loop (.keep [0, 1, 7, 8] (.seq (.region [⟨some 9, .bin .lss (.t 8) (.t 7), none, [], []⟩] false)
 (.seq (.cond (.t 9) .skip (.exit 0))
 (.seq (.block 1 (.seq (.region [⟨some 10, .mov (.t 8), none, [], []⟩,
  ⟨some 5, .mov (.t 10), none, [], []⟩] false)
 (.seq (.region [⟨some 11, .mov (.t 1), none, [], []⟩,
  ⟨some 12, .mov (.t 0), none, [], []⟩,
  ⟨some 13, .mov (.t 5), none, [], []⟩,
  ⟨some 14, .iad 2 (.t 12) (.t 13), none, [], []⟩,
  ⟨some 15, .load true 2 (.t 14), none, [], []⟩,
  ⟨some 16, .callv false (.t 11) [(.t 15)], none, [], []⟩] false)
 (.cond (.t 16) (.seq (.region [⟨some 17, .mov (.t 5), none, [], []⟩,
  ⟨some 4, .mov (.t 17), none, [], []⟩] false)
 .ret) .skip))))
 (.region [⟨some 18, .bin .add (.t 8) (.c (.int .i64 1)), none, [], []⟩,
  ⟨some 8, .mov (.t 18), none, [], []⟩] false))))))))
 (.seq (.region [⟨some 4, .mov (.c (.int .i64 (-1))), none, [], []⟩] false)
 .ret)))
def i90 : F := ⟨2, 19, j90, [.t 4]⟩
theorem b90 : i90.body = j90 := rfl
theorem q90 : i90.res = [.t 4] := rfl
theorem c90 : chkF Tryz.prog Tryz.f90 i90 = true := by kernel_rfl
theorem s90 {m : Model} {E : Nat → Model} (hE : ∀ f, Sound Tryz.prog f (E f)) (hm : ∀ args r, m args = some r → ∃ N, i90.ev E N args = some r) : Sound Tryz.prog 90 m := sound_of i90 Tryz.func90 rfl c90 hE hm
theorem x93 : Sound Tryz.prog 93 (XI.insM 29 2 16) := XI.ins_ok
/-- bellwether/ahead.Add -/
def j54 : C := (.seq (.region [⟨some 7, .box (.t 3), none, [], []⟩,
  ⟨some 8, .nilsl 29 2 0, none, [], []⟩,
  ⟨some 9, .mov (.c (.int .i64 0)), none, [], []⟩] false)
 (.seq (.region [⟨some 12, .mov (.t 0), none, [], []⟩,
  ⟨some 13, .mov (.t 1), none, [], []⟩,
  ⟨some 14, .mov (.t 2), none, [], []⟩,
  ⟨some 15, .call false 89 [(.t 12), (.t 13), (.t 14)], none, [], []⟩,
  ⟨some 10, .mov (.t 15), none, [], []⟩] false)
 (.seq (.frz [7] (.region [⟨some 16, .mov (.t 0), none, [], []⟩,
  ⟨some 17, .mkf 91 [(.t 7)], none, [], []⟩,
  ⟨some 18, .call false 90 [(.t 16), (.t 17)], none, [], []⟩,
  ⟨some 11, .mov (.t 18), none, [], []⟩] false))
 (.seq (.block 0 (.seq (.region [⟨some 20, .mov (.t 10), none, [], []⟩,
  ⟨some 21, .bin .neq (.t 20) (.c (.int .i64 0)), none, [], []⟩,
  ⟨some 22, .mov (.t 21), none, [], []⟩,
  ⟨some 23, .fad 1 (.t 7), some (22, false), [], []⟩,
  ⟨some 24, .load false 1 (.t 23), some (22, false), [], []⟩,
  ⟨some 25, .call false 51 [(.t 24)], some (22, false), [], []⟩,
  ⟨some 26, .un .not (.t 25), some (22, false), [], []⟩,
  ⟨some 27, .pick (.t 22) (.c (.bool true)) (.t 26), none, [], []⟩,
  ⟨some 19, .mov (.t 27), none, [], []⟩] false)
 (.cond (.t 19) (.seq (.region [⟨some 8, .nilsl 29 2 1, none, [], []⟩,
  ⟨some 9, .mov (.c (.int .i64 1)), none, [], []⟩] false)
 .ret) (.seq (.region [⟨some 29, .fad 0 (.t 7), none, [], []⟩,
  ⟨some 30, .load false 1 (.t 29), none, [], []⟩,
  ⟨some 31, .mov (.t 1), none, [], []⟩,
  ⟨some 32, .mov (.t 2), none, [], []⟩,
  ⟨some 33, .call false 92 [(.t 30), (.t 31), (.t 32)], none, [], []⟩,
  ⟨some 34, .un .not (.t 33), none, [], []⟩,
  ⟨some 28, .mov (.t 34), none, [], []⟩] false)
 (.cond (.t 28) (.seq (.region [⟨some 8, .nilsl 29 2 2, none, [], []⟩,
  ⟨some 9, .mov (.c (.int .i64 6)), none, [], []⟩] false)
 .ret) (.seq (.region [⟨some 36, .mov (.t 11), none, [], []⟩,
  ⟨some 37, .bin .lss (.t 36) (.c (.int .i64 0)), none, [], []⟩,
  ⟨some 35, .mov (.t 37), none, [], []⟩] false)
 (.cond (.t 35) (.seq (.region [⟨some 38, .mov (.t 0), none, [40, 41], []⟩,
  ⟨some 39, .call true 85 [(.t 38)], none, [40, 41], [0]⟩,
  ⟨some 40, .load true 2 (.t 7), none, [38, 39], []⟩,
  ⟨some 41, .bsl 29 2 1 [.int .i64 0, .int .i64 0] [(0, (.t 40))], none, [38, 39], [2]⟩,
  ⟨some 42, .app 29 2 16 (.t 39) (.t 41), none, [], [0, 1, 2, 3]⟩,
  ⟨some 8, .mov (.t 42), none, [], [0, 1, 2, 3, 4]⟩,
  ⟨some 9, .mov (.c (.int .i64 0)), none, [], [0, 1, 2, 3, 4, 5]⟩] true)
 .ret) (.seq (.region [⟨some 44, .mov (.t 0), none, [45, 49, 50], []⟩,
  ⟨some 45, .mov (.t 11), none, [44, 49, 50], []⟩,
  ⟨some 46, .iad 2 (.t 44) (.t 45), none, [49, 50], [0, 1]⟩,
  ⟨some 47, .fad 0 (.t 46), none, [49, 50], [0, 1, 2]⟩,
  ⟨some 48, .load false 1 (.t 47), none, [49, 50], [0, 1, 2, 3]⟩,
  ⟨some 49, .fad 0 (.t 7), none, [44, 45, 46, 47, 48], []⟩,
  ⟨some 50, .load false 1 (.t 49), none, [44, 45, 46, 47, 48], [5]⟩,
  ⟨some 51, .bin .eql (.t 48) (.t 50), none, [], [0, 1, 2, 3, 4, 5, 6]⟩,
  ⟨some 43, .mov (.t 51), none, [], [0, 1, 2, 3, 4, 5, 6, 7]⟩] true)
 (.cond (.t 43) (.seq (.region [⟨some 8, .nilsl 29 2 3, none, [], []⟩,
  ⟨some 9, .mov (.c (.int .i64 8)), none, [], []⟩] false)
 .ret) .skip)))))))))
 (.seq (.region [⟨some 52, .mov (.t 0), none, [54, 55, 56], []⟩,
  ⟨some 53, .call true 85 [(.t 52)], none, [54, 55, 56], [0]⟩,
  ⟨some 54, .mov (.t 11), none, [52, 53, 55, 56], []⟩,
  ⟨some 55, .load true 2 (.t 7), none, [52, 53, 54], []⟩,
  ⟨some 56, .bsl 29 2 1 [.int .i64 0, .int .i64 0] [(0, (.t 55))], none, [52, 53, 54], [3]⟩,
  ⟨some 57, .callo 93 [(.t 53), (.t 54), (.t 56)], none, [], [0, 1, 2, 3, 4]⟩,
  ⟨some 8, .mov (.t 57), none, [], [0, 1, 2, 3, 4, 5]⟩,
  ⟨some 9, .mov (.c (.int .i64 0)), none, [], [0, 1, 2, 3, 4, 5, 6]⟩] true)
 .ret)))))
def i54 : F := ⟨4, 58, j54, [.t 8, .t 9]⟩
theorem b54 : i54.body = j54 := rfl
theorem q54 : i54.res = [.t 8, .t 9] := rfl
theorem c54 : chkF Tryz.prog Tryz.f54 i54 = true := by kernel_rfl
theorem s54 {m : Model} {E : Nat → Model} (hE : ∀ f, Sound Tryz.prog f (E f)) (hm : ∀ args r, m args = some r → ∃ N, i54.ev E N args = some r) : Sound Tryz.prog 54 m := sound_of i54 Tryz.func54 rfl c54 hE hm
/-- bellwether/ahead.Add$1 -/
def j91 : C := (.seq (.region [⟨some 2, .box (.t 0), none, [], []⟩,
  ⟨some 3, .mov (.c (.bool false)), none, [], []⟩] false)
 (.seq (.region [⟨some 4, .fad 0 (.t 2), none, [], []⟩,
  ⟨some 5, .load false 1 (.t 4), none, [], []⟩,
  ⟨some 6, .fad 0 (.t 1), none, [], []⟩,
  ⟨some 7, .load false 1 (.t 6), none, [], []⟩,
  ⟨some 8, .bin .geq (.t 5) (.t 7), none, [], []⟩,
  ⟨some 3, .mov (.t 8), none, [], []⟩] false)
 .ret))
def i91 : F := ⟨2, 9, j91, [.t 3]⟩
theorem b91 : i91.body = j91 := rfl
theorem q91 : i91.res = [.t 3] := rfl
theorem c91 : chkF Tryz.prog Tryz.f91 i91 = true := by kernel_rfl
theorem s91 {m : Model} {E : Nat → Model} (hE : ∀ f, Sound Tryz.prog f (E f)) (hm : ∀ args r, m args = some r → ∃ N, i91.ev E N args = some r) : Sound Tryz.prog 91 m := sound_of i91 Tryz.func91 rfl c91 hE hm
/-- bellwether/ahead.Check -/
def j89 : C := (.seq (.region [⟨some 6, .mov (.c (.int .i64 0)), none, [], []⟩] false)
 (.seq (.seq (.region [⟨some 9, .mov (.t 1), none, [], []⟩,
  ⟨some 10, .call false 46 [(.t 9)], none, [], []⟩,
  ⟨some 11, .un .not (.t 10), none, [], []⟩,
  ⟨some 12, .mov (.t 11), none, [], []⟩,
  ⟨some 13, .mov (.t 2), some (12, false), [], []⟩,
  ⟨some 14, .bin .lss (.t 13) (.c (.int .i64 1)), some (12, false), [], []⟩,
  ⟨some 15, .pick (.t 12) (.c (.bool true)) (.t 14), none, [], []⟩,
  ⟨some 16, .mov (.t 15), none, [], []⟩,
  ⟨some 17, .mov (.t 2), some (16, false), [], []⟩,
  ⟨some 18, .bin .gtr (.t 17) (.c (.int .i64 16)), some (16, false), [], []⟩,
  ⟨some 19, .pick (.t 16) (.c (.bool true)) (.t 18), none, [], []⟩] false)
 (.cond (.t 19) (.seq (.region [⟨some 6, .mov (.c (.int .i64 1)), none, [], []⟩] false)
 .ret) .skip))
 (.seq (.seq (.region [⟨some 20, .mov (.t 0), none, [], []⟩,
  ⟨some 21, .len (.t 20), none, [], []⟩,
  ⟨some 22, .mov (.c (.int .i64 0)), none, [], []⟩] false)
 (.block 0 (.loop (.keep [0, 1, 2, 20, 21, 22] (.seq (.region [⟨some 23, .bin .lss (.t 22) (.t 21), none, [], []⟩] false)
 (.seq (.cond (.t 23) .skip (.exit 0))
 (.seq (.block 1 (.seq (.region [⟨some 24, .mov (.t 22), none, [], []⟩,
  ⟨some 25, .iad 2 (.t 20) (.t 22), none, [], []⟩,
  ⟨some 26, .load true 2 (.t 25), none, [], []⟩,
  ⟨some 8, .alloc [.int .i64 0, .int .i64 0], none, [], []⟩,
  ⟨some 7, .mov (.t 24), none, [], []⟩,
  ⟨none, .store none 2 (.t 8) (.t 26), none, [], []⟩] false)
 (.seq (.region [⟨some 27, .fad 0 (.t 8), none, [29, 30], []⟩,
  ⟨some 28, .load false 1 (.t 27), none, [29, 30], [0]⟩,
  ⟨some 29, .mov (.t 1), none, [27, 28, 30], []⟩,
  ⟨some 30, .mov (.t 2), none, [27, 28, 29], []⟩,
  ⟨some 31, .call false 92 [(.t 28), (.t 29), (.t 30)], none, [], [0, 1, 2, 3]⟩,
  ⟨some 32, .un .not (.t 31), none, [], [0, 1, 2, 3, 4]⟩,
  ⟨some 33, .mov (.t 32), none, [], [0, 1, 2, 3, 4, 5]⟩,
  ⟨some 34, .fad 1 (.t 8), some (33, false), [], [0, 1, 2, 3, 4, 5, 6]⟩,
  ⟨some 35, .load false 1 (.t 34), some (33, false), [], [0, 1, 2, 3, 4, 5, 6, 7]⟩,
  ⟨some 36, .call false 51 [(.t 35)], some (33, false), [], [0, 1, 2, 3, 4, 5, 6, 7, 8]⟩,
  ⟨some 37, .un .not (.t 36), some (33, false), [], [0, 1, 2, 3, 4, 5, 6, 7, 8, 9]⟩,
  ⟨some 38, .pick (.t 33) (.c (.bool true)) (.t 37), none, [], [0, 1, 2, 3, 4, 5, 6, 7, 8, 9, 10]⟩,
  ⟨some 39, .mov (.t 38), none, [], [0, 1, 2, 3, 4, 5, 6, 7, 8, 9, 10, 11]⟩,
  ⟨some 40, .mov (.t 7), some (39, false), [], [0, 1, 2, 3, 4, 5, 6, 7, 8, 9, 10, 11, 12]⟩,
  ⟨some 41, .bin .gtr (.t 40) (.c (.int .i64 0)), some (39, false), [], [0, 1, 2, 3, 4, 5, 6, 7, 8, 9, 10, 11, 12, 13]⟩,
  ⟨some 42, .mov (.t 41), some (39, false), [], [0, 1, 2, 3, 4, 5, 6, 7, 8, 9, 10, 11, 12, 13, 14]⟩,
  ⟨some 43, .mov (.t 0), some (42, true), [44, 45, 49, 50], [0, 1, 2, 3, 4, 5, 6, 7, 8, 9, 10, 11, 12, 13, 14, 15]⟩,
  ⟨some 44, .mov (.t 7), some (42, true), [43, 49, 50], [0, 1, 2, 3, 4, 5, 6, 7, 8, 9, 10, 11, 12, 13, 14, 15]⟩,
  ⟨some 45, .bin .sub (.t 44) (.c (.int .i64 1)), some (42, true), [43, 49, 50], [0, 1, 2, 3, 4, 5, 6, 7, 8, 9, 10, 11, 12, 13, 14, 15, 17]⟩,
  ⟨some 46, .iad 2 (.t 43) (.t 45), some (42, true), [49, 50], [0, 1, 2, 3, 4, 5, 6, 7, 8, 9, 10, 11, 12, 13, 14, 15, 16, 17, 18]⟩,
  ⟨some 47, .fad 0 (.t 46), some (42, true), [49, 50], [0, 1, 2, 3, 4, 5, 6, 7, 8, 9, 10, 11, 12, 13, 14, 15, 16, 17, 18, 19]⟩,
  ⟨some 48, .load false 1 (.t 47), some (42, true), [49, 50], [0, 1, 2, 3, 4, 5, 6, 7, 8, 9, 10, 11, 12, 13, 14, 15, 16, 17, 18, 19, 20]⟩,
  ⟨some 49, .fad 0 (.t 8), some (42, true), [43, 44, 45, 46, 47, 48], [0, 1, 2, 3, 4, 5, 6, 7, 8, 9, 10, 11, 12, 13, 14, 15]⟩,
  ⟨some 50, .load false 1 (.t 49), some (42, true), [43, 44, 45, 46, 47, 48], [0, 1, 2, 3, 4, 5, 6, 7, 8, 9, 10, 11, 12, 13, 14, 15, 22]⟩,
  ⟨some 51, .bin .geq (.t 48) (.t 50), some (42, true), [], [0, 1, 2, 3, 4, 5, 6, 7, 8, 9, 10, 11, 12, 13, 14, 15, 16, 17, 18, 19, 20, 21, 22, 23]⟩,
  ⟨some 52, .pick (.t 42) (.t 51) (.c (.bool false)), some (39, false), [], [0, 1, 2, 3, 4, 5, 6, 7, 8, 9, 10, 11, 12, 13, 14, 15, 16, 17, 18, 19, 20, 21, 22, 23, 24]⟩,
  ⟨some 53, .pick (.t 39) (.c (.bool true)) (.t 52), none, [], [0, 1, 2, 3, 4, 5, 6, 7, 8, 9, 10, 11, 12, 13, 14, 15, 16, 17, 18, 19, 20, 21, 22, 23, 24, 25]⟩] true)
 (.cond (.t 53) (.seq (.region [⟨some 6, .mov (.c (.int .i64 1)), none, [], []⟩] false)
 .ret) .skip))))
 (.region [⟨some 54, .bin .add (.t 22) (.c (.int .i64 1)), none, [], []⟩,
  ⟨some 22, .mov (.t 54), none, [], []⟩] false))))))))
 (.seq (.region [⟨some 6, .mov (.c (.int .i64 0)), none, [], []⟩] false)
 .ret))))
def i89 : F := ⟨3, 55, j89, [.t 6]⟩
theorem b89 : i89.body = j89 := rfl
theorem q89 : i89.res = [.t 6] := rfl
theorem c89 : chkF Tryz.prog Tryz.f89 i89 = true := by kernel_rfl
theorem s89 {m : Model} {E : Nat → Model} (hE : ∀ f, Sound Tryz.prog f (E f)) (hm : ∀ args r, m args = some r → ∃ N, i89.ev E N args = some r) : Sound Tryz.prog 89 m := sound_of i89 Tryz.func89 rfl c89 hE hm
/-- bellwether/ahead.Take -/
def j88 : C := (.seq (.region [⟨some 3, .box (.t 1), none, [], []⟩,
  ⟨some 4, .mov (.c (.row [])), none, [], []⟩,
  ⟨some 5, .mov (.c (.row [])), none, [], []⟩] false)
 (.seq (.frz [3] (.region [⟨some 7, .mov (.t 0), none, [], []⟩,
  ⟨some 8, .call true 85 [(.t 7)], none, [], []⟩,
  ⟨some 9, .mkf 117 [(.t 3)], none, [], []⟩,
  ⟨some 10, .callo 116 [(.t 8), (.t 9)], none, [], []⟩,
  ⟨some 0, .mov (.t 10), none, [], []⟩] false))
 (.seq (.region [⟨some 6, .mov (.c (.int .i64 0)), none, [], []⟩] false)
 (.seq (.block 0 (.loop (.keep [0, 3, 6] (.seq (.seq (.region [⟨some 11, .mov (.t 6), none, [12, 13], []⟩,
  ⟨some 12, .mov (.t 0), none, [11], []⟩,
  ⟨some 13, .len (.t 12), none, [11], [1]⟩,
  ⟨some 14, .bin .lss (.t 11) (.t 13), none, [], [0, 1, 2]⟩,
  ⟨some 15, .mov (.t 14), none, [], [0, 1, 2, 3]⟩,
  ⟨some 16, .mov (.t 0), some (15, true), [17, 21, 23], [0, 1, 2, 3, 4]⟩,
  ⟨some 17, .mov (.t 6), some (15, true), [16, 21, 23], [0, 1, 2, 3, 4]⟩,
  ⟨some 18, .iad 2 (.t 16) (.t 17), some (15, true), [21, 23], [0, 1, 2, 3, 4, 5, 6]⟩,
  ⟨some 19, .fad 0 (.t 18), some (15, true), [21, 23], [0, 1, 2, 3, 4, 5, 6, 7]⟩,
  ⟨some 20, .load false 1 (.t 19), some (15, true), [21, 23], [0, 1, 2, 3, 4, 5, 6, 7, 8]⟩,
  ⟨some 21, .load false 1 (.t 3), some (15, true), [16, 17, 18, 19, 20, 23], [0, 1, 2, 3, 4]⟩,
  ⟨some 22, .bin .sub (.t 20) (.t 21), some (15, true), [23], [0, 1, 2, 3, 4, 5, 6, 7, 8, 9, 10]⟩,
  ⟨some 23, .mov (.t 6), some (15, true), [16, 17, 18, 19, 20, 21, 22], [0, 1, 2, 3, 4]⟩,
  ⟨some 24, .bin .eql (.t 22) (.t 23), some (15, true), [], [0, 1, 2, 3, 4, 5, 6, 7, 8, 9, 10, 11, 12]⟩,
  ⟨some 25, .pick (.t 15) (.t 24) (.c (.bool false)), none, [], [0, 1, 2, 3, 4, 5, 6, 7, 8, 9, 10, 11, 12, 13]⟩] true)
 (.cond (.t 25) .skip (.exit 0)))
 (.block 1 (.region [⟨some 26, .mov (.t 6), none, [], []⟩,
  ⟨some 27, .bin .add (.t 26) (.c (.int .i64 1)), none, [], []⟩,
  ⟨some 6, .mov (.t 27), none, [], []⟩] false))))))
 (.seq (.region [⟨some 28, .mov (.t 0), none, [29, 32, 33, 34], []⟩,
  ⟨some 29, .mov (.t 6), none, [28, 32, 33, 34], []⟩,
  ⟨some 30, .cut 2 (.t 28) none (some (.t 29)), none, [32, 33, 34], [0, 1]⟩,
  ⟨some 31, .call false 85 [(.t 30)], none, [32, 33, 34], [0, 1, 2]⟩,
  ⟨some 32, .mov (.t 0), none, [28, 29, 30, 31, 33], []⟩,
  ⟨some 33, .mov (.t 6), none, [28, 29, 30, 31, 32], []⟩,
  ⟨some 34, .cut 2 (.t 32) (some (.t 33)) none, none, [28, 29, 30, 31], [4, 5]⟩,
  ⟨some 35, .call false 85 [(.t 34)], none, [], [0, 1, 2, 3, 4, 5, 6]⟩,
  ⟨some 4, .mov (.t 31), none, [], [0, 1, 2, 3, 4, 5, 6, 7]⟩,
  ⟨some 5, .mov (.t 35), none, [], [0, 1, 2, 3, 4, 5, 6, 7, 8]⟩] true)
 .ret)))))
def i88 : F := ⟨2, 36, j88, [.t 4, .t 5]⟩
theorem b88 : i88.body = j88 := rfl
theorem q88 : i88.res = [.t 4, .t 5] := rfl
theorem c88 : chkF Tryz.prog Tryz.f88 i88 = true := by kernel_rfl
theorem s88 {m : Model} {E : Nat → Model} (hE : ∀ f, Sound Tryz.prog f (E f)) (hm : ∀ args r, m args = some r → ∃ N, i88.ev E N args = some r) : Sound Tryz.prog 88 m := sound_of i88 Tryz.func88 rfl c88 hE hm
/-- bellwether/ahead.Take$1 -/
def j117 : C := (.seq (.region [⟨some 2, .box (.t 0), none, [], []⟩,
  ⟨some 3, .mov (.c (.bool false)), none, [], []⟩] false)
 (.seq (.region [⟨some 4, .fad 0 (.t 2), none, [], []⟩,
  ⟨some 5, .load false 1 (.t 4), none, [], []⟩,
  ⟨some 6, .load false 1 (.t 1), none, [], []⟩,
  ⟨some 7, .bin .lss (.t 5) (.t 6), none, [], []⟩,
  ⟨some 3, .mov (.t 7), none, [], []⟩] false)
 .ret))
def i117 : F := ⟨2, 8, j117, [.t 3]⟩
theorem b117 : i117.body = j117 := rfl
theorem q117 : i117.res = [.t 3] := rfl
theorem c117 : chkF Tryz.prog Tryz.f117 i117 = true := by kernel_rfl
theorem s117 {m : Model} {E : Nat → Model} (hE : ∀ f, Sound Tryz.prog f (E f)) (hm : ∀ args r, m args = some r → ∃ N, i117.ev E N args = some r) : Sound Tryz.prog 117 m := sound_of i117 Tryz.func117 rfl c117 hE hm
/-- bellwether/ahead.fits -/
def j92 : C := (.seq (.region [⟨some 6, .mov (.c (.bool false)), none, [], []⟩] false)
 (.seq (.region [⟨some 7, .mov (.t 0), none, [], []⟩,
  ⟨some 8, .mov (.t 1), none, [], []⟩,
  ⟨some 9, .bin .gtr (.t 7) (.t 8), none, [], []⟩,
  ⟨some 10, .mov (.t 9), none, [], []⟩,
  ⟨some 11, .mov (.t 0), some (10, true), [], []⟩,
  ⟨some 12, .mov (.t 1), some (10, true), [], []⟩,
  ⟨some 13, .mov (.t 2), some (10, true), [], []⟩,
  ⟨some 14, .bin .add (.t 12) (.t 13), some (10, true), [], []⟩,
  ⟨some 15, .bin .lss (.t 11) (.t 14), some (10, true), [], []⟩,
  ⟨some 16, .pick (.t 10) (.t 15) (.c (.bool false)), none, [], []⟩,
  ⟨some 17, .mov (.t 16), none, [], []⟩,
  ⟨some 18, .mov (.t 0), some (17, true), [], []⟩,
  ⟨some 19, .bin .lss (.t 18) (.c (.int .i64 1073741824)), some (17, true), [], []⟩,
  ⟨some 20, .pick (.t 17) (.t 19) (.c (.bool false)), none, [], []⟩,
  ⟨some 6, .mov (.t 20), none, [], []⟩] false)
 .ret))
def i92 : F := ⟨3, 21, j92, [.t 6]⟩
theorem b92 : i92.body = j92 := rfl
theorem q92 : i92.res = [.t 6] := rfl
theorem c92 : chkF Tryz.prog Tryz.f92 i92 = true := by kernel_rfl
theorem s92 {m : Model} {E : Nat → Model} (hE : ∀ f, Sound Tryz.prog f (E f)) (hm : ∀ args r, m args = some r → ∃ N, i92.ev E N args = some r) : Sound Tryz.prog 92 m := sound_of i92 Tryz.func92 rfl c92 hE hm
/-- bellwether/bellwetherkeep.Events -/
def j17 : C := (.seq (.region [⟨some 4, .mov (.c (.bool false)), none, [], []⟩] false)
 (.seq (.seq (.region [⟨some 6, .mov (.t 0), none, [], []⟩,
  ⟨some 7, .len (.t 6), none, [], []⟩,
  ⟨some 8, .mov (.t 1), none, [], []⟩,
  ⟨some 9, .len (.t 8), none, [], []⟩,
  ⟨some 10, .bin .neq (.t 7) (.t 9), none, [], []⟩] false)
 (.cond (.t 10) (.seq (.region [⟨some 4, .mov (.c (.bool false)), none, [], []⟩] false)
 .ret) .skip))
 (.seq (.seq (.region [⟨some 5, .mov (.c (.int .i64 0)), none, [], []⟩] false)
 (.block 0 (.loop (.keep [0, 1, 5] (.seq (.seq (.region [⟨some 11, .mov (.t 5), none, [], []⟩,
  ⟨some 12, .mov (.t 0), none, [], []⟩,
  ⟨some 13, .len (.t 12), none, [], []⟩,
  ⟨some 14, .bin .lss (.t 11) (.t 13), none, [], []⟩] false)
 (.cond (.t 14) .skip (.exit 0)))
 (.seq (.block 1 (.seq (.region [⟨some 17, .mov (.t 0), none, [18, 21, 22, 23, 24], []⟩,
  ⟨some 18, .mov (.t 5), none, [17, 21, 22, 23, 24], []⟩,
  ⟨some 19, .iad 6 (.t 17) (.t 18), none, [21, 22, 23, 24], [0, 1]⟩,
  ⟨some 20, .load true 6 (.t 19), none, [21, 22, 23, 24], [0, 1, 2]⟩,
  ⟨some 21, .mov (.t 1), none, [17, 18, 19, 20, 22], []⟩,
  ⟨some 22, .mov (.t 5), none, [17, 18, 19, 20, 21], []⟩,
  ⟨some 23, .iad 6 (.t 21) (.t 22), none, [17, 18, 19, 20], [4, 5]⟩,
  ⟨some 24, .load true 6 (.t 23), none, [17, 18, 19, 20], [4, 5, 6]⟩,
  ⟨some 25, .eqs true [true, true, true, true, true, true] (.t 20) (.t 24), none, [], [0, 1, 2, 3, 4, 5, 6, 7]⟩] true)
 (.cond (.t 25) (.seq (.region [⟨some 4, .mov (.c (.bool false)), none, [], []⟩] false)
 .ret) .skip)))
 (.region [⟨some 15, .mov (.t 5), none, [], []⟩,
  ⟨some 16, .bin .add (.t 15) (.c (.int .i64 1)), none, [], []⟩,
  ⟨some 5, .mov (.t 16), none, [], []⟩] false)))))))
 (.seq (.region [⟨some 4, .mov (.c (.bool true)), none, [], []⟩] false)
 .ret))))
def i17 : F := ⟨2, 26, j17, [.t 4]⟩
theorem b17 : i17.body = j17 := rfl
theorem q17 : i17.res = [.t 4] := rfl
theorem c17 : chkF Tryz.prog Tryz.f17 i17 = true := by kernel_rfl
theorem s17 {m : Model} {E : Nat → Model} (hE : ∀ f, Sound Tryz.prog f (E f)) (hm : ∀ args r, m args = some r → ∃ N, i17.ev E N args = some r) : Sound Tryz.prog 17 m := sound_of i17 Tryz.func17 rfl c17 hE hm
/-- bellwether/bellwetherkeep.Items -/
def j26 : C := (.seq (.region [⟨some 4, .mov (.c (.bool false)), none, [], []⟩] false)
 (.seq (.seq (.region [⟨some 6, .mov (.t 0), none, [], []⟩,
  ⟨some 7, .len (.t 6), none, [], []⟩,
  ⟨some 8, .mov (.t 1), none, [], []⟩,
  ⟨some 9, .len (.t 8), none, [], []⟩,
  ⟨some 10, .bin .neq (.t 7) (.t 9), none, [], []⟩] false)
 (.cond (.t 10) (.seq (.region [⟨some 4, .mov (.c (.bool false)), none, [], []⟩] false)
 .ret) .skip))
 (.seq (.seq (.region [⟨some 5, .mov (.c (.int .i64 0)), none, [], []⟩] false)
 (.block 0 (.loop (.keep [0, 1, 5] (.seq (.seq (.region [⟨some 11, .mov (.t 5), none, [], []⟩,
  ⟨some 12, .mov (.t 0), none, [], []⟩,
  ⟨some 13, .len (.t 12), none, [], []⟩,
  ⟨some 14, .bin .lss (.t 11) (.t 13), none, [], []⟩] false)
 (.cond (.t 14) .skip (.exit 0)))
 (.seq (.block 1 (.seq (.region [⟨some 17, .mov (.t 0), none, [18, 21, 22, 23, 24], []⟩,
  ⟨some 18, .mov (.t 5), none, [17, 21, 22, 23, 24], []⟩,
  ⟨some 19, .iad 2 (.t 17) (.t 18), none, [21, 22, 23, 24], [0, 1]⟩,
  ⟨some 20, .load true 2 (.t 19), none, [21, 22, 23, 24], [0, 1, 2]⟩,
  ⟨some 21, .mov (.t 1), none, [17, 18, 19, 20, 22], []⟩,
  ⟨some 22, .mov (.t 5), none, [17, 18, 19, 20, 21], []⟩,
  ⟨some 23, .iad 2 (.t 21) (.t 22), none, [17, 18, 19, 20], [4, 5]⟩,
  ⟨some 24, .load true 2 (.t 23), none, [17, 18, 19, 20], [4, 5, 6]⟩,
  ⟨some 25, .eqs true [true, true] (.t 20) (.t 24), none, [], [0, 1, 2, 3, 4, 5, 6, 7]⟩] true)
 (.cond (.t 25) (.seq (.region [⟨some 4, .mov (.c (.bool false)), none, [], []⟩] false)
 .ret) .skip)))
 (.region [⟨some 15, .mov (.t 5), none, [], []⟩,
  ⟨some 16, .bin .add (.t 15) (.c (.int .i64 1)), none, [], []⟩,
  ⟨some 5, .mov (.t 16), none, [], []⟩] false)))))))
 (.seq (.region [⟨some 4, .mov (.c (.bool true)), none, [], []⟩] false)
 .ret))))
def i26 : F := ⟨2, 26, j26, [.t 4]⟩
theorem b26 : i26.body = j26 := rfl
theorem q26 : i26.res = [.t 4] := rfl
theorem c26 : chkF Tryz.prog Tryz.f26 i26 = true := by kernel_rfl
theorem s26 {m : Model} {E : Nat → Model} (hE : ∀ f, Sound Tryz.prog f (E f)) (hm : ∀ args r, m args = some r → ∃ N, i26.ev E N args = some r) : Sound Tryz.prog 26 m := sound_of i26 Tryz.func26 rfl c26 hE hm
/-- bellwether/bellwetherkeep.Stream -/
def j16 : C := (.seq (.region [⟨some 2, .box (.t 0), none, [], []⟩,
  ⟨some 3, .box (.t 1), none, [], []⟩,
  ⟨some 4, .mov (.c (.bool false)), none, [], []⟩] false)
 (.seq (.region [⟨some 5, .fad 0 (.t 2), none, [], []⟩,
  ⟨some 6, .load false 1 (.t 5), none, [], []⟩,
  ⟨some 7, .fad 0 (.t 3), none, [], []⟩,
  ⟨some 8, .load false 1 (.t 7), none, [], []⟩,
  ⟨some 9, .bin .eql (.t 6) (.t 8), none, [], []⟩,
  ⟨some 10, .mov (.t 9), none, [], []⟩,
  ⟨some 11, .fad 1 (.t 2), some (10, true), [], []⟩,
  ⟨some 12, .load false 1 (.t 11), some (10, true), [], []⟩,
  ⟨some 13, .fad 1 (.t 3), some (10, true), [], []⟩,
  ⟨some 14, .load false 1 (.t 13), some (10, true), [], []⟩,
  ⟨some 15, .bin .eql (.t 12) (.t 14), some (10, true), [], []⟩,
  ⟨some 16, .pick (.t 10) (.t 15) (.c (.bool false)), none, [], []⟩,
  ⟨some 17, .mov (.t 16), none, [], []⟩,
  ⟨some 18, .fad 2 (.t 2), some (17, true), [], []⟩,
  ⟨some 19, .load false 1 (.t 18), some (17, true), [], []⟩,
  ⟨some 20, .fad 2 (.t 3), some (17, true), [], []⟩,
  ⟨some 21, .load false 1 (.t 20), some (17, true), [], []⟩,
  ⟨some 22, .bin .eql (.t 19) (.t 21), some (17, true), [], []⟩,
  ⟨some 23, .pick (.t 17) (.t 22) (.c (.bool false)), none, [], []⟩,
  ⟨some 24, .mov (.t 23), none, [], []⟩,
  ⟨some 25, .fad 3 (.t 2), some (24, true), [], []⟩,
  ⟨some 26, .load false 1 (.t 25), some (24, true), [], []⟩,
  ⟨some 27, .fad 3 (.t 3), some (24, true), [], []⟩,
  ⟨some 28, .load false 1 (.t 27), some (24, true), [], []⟩,
  ⟨some 29, .call false 26 [(.t 26), (.t 28)], some (24, true), [], []⟩,
  ⟨some 30, .pick (.t 24) (.t 29) (.c (.bool false)), none, [], []⟩,
  ⟨some 31, .mov (.t 30), none, [], []⟩,
  ⟨some 32, .fad 4 (.t 2), some (31, true), [], []⟩,
  ⟨some 33, .load false 1 (.t 32), some (31, true), [], []⟩,
  ⟨some 34, .fad 4 (.t 3), some (31, true), [], []⟩,
  ⟨some 35, .load false 1 (.t 34), some (31, true), [], []⟩,
  ⟨some 36, .call false 26 [(.t 33), (.t 35)], some (31, true), [], []⟩,
  ⟨some 37, .pick (.t 31) (.t 36) (.c (.bool false)), none, [], []⟩,
  ⟨some 4, .mov (.t 37), none, [], []⟩] false)
 .ret))
def i16 : F := ⟨2, 38, j16, [.t 4]⟩
theorem b16 : i16.body = j16 := rfl
theorem q16 : i16.res = [.t 4] := rfl
theorem c16 : chkF Tryz.prog Tryz.f16 i16 = true := by kernel_rfl
theorem s16 {m : Model} {E : Nat → Model} (hE : ∀ f, Sound Tryz.prog f (E f)) (hm : ∀ args r, m args = some r → ∃ N, i16.ev E N args = some r) : Sound Tryz.prog 16 m := sound_of i16 Tryz.func16 rfl c16 hE hm
/-- bellwether/bellwetherkeep.TwinEvents -/
def j11 : C := (.seq (.region [⟨some 2, .nilsl 96 6 0, none, [], []⟩] false)
 (.seq (.region [⟨some 3, .nilsl 96 6 0, none, [], []⟩] false)
 (.seq (.region [⟨some 4, .mov (.t 3), none, [], []⟩,
  ⟨some 5, .mov (.t 0), none, [], []⟩,
  ⟨some 6, .app 96 6 48 (.t 4) (.t 5), none, [], []⟩,
  ⟨some 2, .mov (.t 6), none, [], []⟩] false)
 .ret)))
def i11 : F := ⟨1, 7, j11, [.t 2]⟩
theorem b11 : i11.body = j11 := rfl
theorem q11 : i11.res = [.t 2] := rfl
theorem c11 : chkF Tryz.prog Tryz.f11 i11 = true := by kernel_rfl
theorem s11 {m : Model} {E : Nat → Model} (hE : ∀ f, Sound Tryz.prog f (E f)) (hm : ∀ args r, m args = some r → ∃ N, i11.ev E N args = some r) : Sound Tryz.prog 11 m := sound_of i11 Tryz.func11 rfl c11 hE hm
/-- bellwether/bellwetherkeep.TwinItems -/
def j44 : C := (.seq (.region [⟨some 2, .nilsl 29 2 0, none, [], []⟩] false)
 (.seq (.region [⟨some 3, .nilsl 29 2 0, none, [], []⟩] false)
 (.seq (.region [⟨some 4, .mov (.t 3), none, [], []⟩,
  ⟨some 5, .mov (.t 0), none, [], []⟩,
  ⟨some 6, .app 29 2 16 (.t 4) (.t 5), none, [], []⟩,
  ⟨some 2, .mov (.t 6), none, [], []⟩] false)
 .ret)))
def i44 : F := ⟨1, 7, j44, [.t 2]⟩
theorem b44 : i44.body = j44 := rfl
theorem q44 : i44.res = [.t 2] := rfl
theorem c44 : chkF Tryz.prog Tryz.f44 i44 = true := by kernel_rfl
theorem s44 {m : Model} {E : Nat → Model} (hE : ∀ f, Sound Tryz.prog f (E f)) (hm : ∀ args r, m args = some r → ∃ N, i44.ev E N args = some r) : Sound Tryz.prog 44 m := sound_of i44 Tryz.func44 rfl c44 hE hm
/-- bellwether/bellwetherkeep.TwinStream -/
def j10 : C := (.seq (.region [⟨some 1, .box (.t 0), none, [], []⟩,
  ⟨some 2, .alloc [.int .i64 0, .int .i64 0, .int .i64 0, .row [], .row []], none, [], []⟩] false)
 (.seq (.region [⟨some 3, .fad 3 (.t 1), none, [6, 7], []⟩,
  ⟨some 4, .load false 1 (.t 3), none, [6, 7], [0]⟩,
  ⟨some 5, .call false 44 [(.t 4)], none, [6, 7], [0, 1]⟩,
  ⟨some 6, .fad 4 (.t 1), none, [3, 4, 5], []⟩,
  ⟨some 7, .load false 1 (.t 6), none, [3, 4, 5], [3]⟩,
  ⟨some 8, .call false 44 [(.t 7)], none, [9], [0, 1, 2, 3, 4]⟩,
  ⟨some 9, .fad 3 (.t 1), none, [8], [0, 1, 2, 3, 4]⟩,
  ⟨none, .store none 1 (.t 9) (.t 5), none, [], [0, 1, 2, 3, 4, 5, 6]⟩,
  ⟨some 10, .fad 4 (.t 1), none, [], [0, 1, 2, 3, 4, 5, 6, 7]⟩,
  ⟨none, .store none 1 (.t 10) (.t 8), none, [], [0, 1, 2, 3, 4, 5, 6, 7, 8]⟩] true)
 (.seq (.region [⟨some 11, .load true 5 (.t 1), none, [], []⟩,
  ⟨none, .store none 5 (.t 2) (.t 11), none, [], []⟩] false)
 .ret)))
def i10 : F := ⟨1, 12, j10, [.c 2 5 true]⟩
theorem b10 : i10.body = j10 := rfl
theorem q10 : i10.res = [.c 2 5 true] := rfl
theorem c10 : chkF Tryz.prog Tryz.f10 i10 = true := by kernel_rfl
theorem s10 {m : Model} {E : Nat → Model} (hE : ∀ f, Sound Tryz.prog f (E f)) (hm : ∀ args r, m args = some r → ∃ N, i10.ev E N args = some r) : Sound Tryz.prog 10 m := sound_of i10 Tryz.func10 rfl c10 hE hm
/-- bellwether/epoch.Check -/
def j45 : C := (.seq (.region [⟨some 2, .mov (.c (.int .i64 0)), none, [], []⟩] false)
 (.seq (.seq (.region [⟨some 3, .mov (.t 0), none, [], []⟩,
  ⟨some 4, .bin .lss (.t 3) (.c (.int .i64 1)), none, [], []⟩,
  ⟨some 5, .mov (.t 4), none, [], []⟩,
  ⟨some 6, .mov (.t 0), some (5, false), [], []⟩,
  ⟨some 7, .bin .gtr (.t 6) (.c (.int .i64 1073741824)), some (5, false), [], []⟩,
  ⟨some 8, .pick (.t 5) (.c (.bool true)) (.t 7), none, [], []⟩,
  ⟨some 9, .mov (.t 8), none, [], []⟩,
  ⟨some 10, .mov (.t 0), some (9, false), [], []⟩,
  ⟨some 11, .bin .rem (.t 10) (.c (.int .i64 16)), some (9, false), [], []⟩,
  ⟨some 12, .call false 83 [(.t 11)], some (9, false), [], []⟩,
  ⟨some 13, .un .not (.t 12), some (9, false), [], []⟩,
  ⟨some 14, .pick (.t 9) (.c (.bool true)) (.t 13), none, [], []⟩] false)
 (.cond (.t 14) (.seq (.region [⟨some 2, .mov (.c (.int .i64 1)), none, [], []⟩] false)
 .ret) .skip))
 (.seq (.region [⟨some 2, .mov (.c (.int .i64 0)), none, [], []⟩] false)
 .ret)))
def i45 : F := ⟨1, 15, j45, [.t 2]⟩
theorem b45 : i45.body = j45 := rfl
theorem q45 : i45.res = [.t 2] := rfl
theorem c45 : chkF Tryz.prog Tryz.f45 i45 = true := by kernel_rfl
theorem s45 {m : Model} {E : Nat → Model} (hE : ∀ f, Sound Tryz.prog f (E f)) (hm : ∀ args r, m args = some r → ∃ N, i45.ev E N args = some r) : Sound Tryz.prog 45 m := sound_of i45 Tryz.func45 rfl c45 hE hm
/-- errors.Join -/
def j124 : C := (.seq (.region [⟨some 2, .mov (.c (.k .nilIface)), none, [], []⟩] false)
 (.seq (.region [⟨some 3, .mov (.c (.int .i64 0)), none, [], []⟩] false)
 (.seq (.seq (.region [⟨some 9, .mov (.t 0), none, [], []⟩,
  ⟨some 10, .len (.t 9), none, [], []⟩,
  ⟨some 11, .mov (.c (.int .i64 0)), none, [], []⟩] false)
 (.block 0 (.loop (.keep [0, 3, 9, 10, 11] (.seq (.region [⟨some 12, .bin .lss (.t 11) (.t 10), none, [], []⟩] false)
 (.seq (.cond (.t 12) .skip (.exit 0))
 (.seq (.block 1 (.seq (.region [⟨some 13, .iad 1 (.t 9) (.t 11), none, [], []⟩,
  ⟨some 14, .load false 1 (.t 13), none, [], []⟩,
  ⟨some 5, .mov (.t 14), none, [], []⟩] false)
 (.seq (.region [⟨some 15, .mov (.t 5), none, [], []⟩,
  ⟨some 16, .ifn true (.t 15), none, [], []⟩] false)
 (.cond (.t 16) (.region [⟨some 17, .mov (.t 3), none, [], []⟩,
  ⟨some 18, .bin .add (.t 17) (.c (.int .i64 1)), none, [], []⟩,
  ⟨some 3, .mov (.t 18), none, [], []⟩] false) .skip))))
 (.region [⟨some 19, .bin .add (.t 11) (.c (.int .i64 1)), none, [], []⟩,
  ⟨some 11, .mov (.t 19), none, [], []⟩] false))))))))
 (.seq (.seq (.region [⟨some 20, .mov (.t 3), none, [], []⟩,
  ⟨some 21, .bin .eql (.t 20) (.c (.int .i64 0)), none, [], []⟩] false)
 (.cond (.t 21) (.seq (.region [⟨some 2, .mov (.c (.k .nilIface)), none, [], []⟩] false)
 .ret) .skip))
 (.seq (.region [⟨some 22, .mov (.t 3), none, [], []⟩,
  ⟨some 23, .mkz 123 1 16 [.k .nilIface] (.t 22), none, [], []⟩,
  ⟨some 24, .build [.row []] [(0, 1, (.t 23))], none, [], []⟩,
  ⟨some 25, .box (.t 24), none, [], []⟩,
  ⟨some 6, .mov (.t 25), none, [], []⟩] false)
 (.seq (.seq (.region [⟨some 26, .mov (.t 0), none, [], []⟩,
  ⟨some 27, .len (.t 26), none, [], []⟩,
  ⟨some 28, .mov (.c (.int .i64 0)), none, [], []⟩] false)
 (.block 2 (.loop (.keep [6, 26, 27, 28] (.seq (.region [⟨some 29, .bin .lss (.t 28) (.t 27), none, [], []⟩] false)
 (.seq (.cond (.t 29) .skip (.exit 2))
 (.seq (.block 3 (.seq (.region [⟨some 30, .iad 1 (.t 26) (.t 28), none, [], []⟩,
  ⟨some 31, .load false 1 (.t 30), none, [], []⟩,
  ⟨some 8, .mov (.t 31), none, [], []⟩] false)
 (.seq (.region [⟨some 32, .mov (.t 8), none, [], []⟩,
  ⟨some 33, .ifn true (.t 32), none, [], []⟩] false)
 (.cond (.t 33) (.region [⟨some 34, .mov (.t 6), none, [], []⟩,
  ⟨some 35, .mov (.t 6), none, [], []⟩,
  ⟨some 36, .nck (.t 35), none, [], []⟩,
  ⟨some 37, .fad 0 (.t 36), none, [], []⟩,
  ⟨some 38, .load false 1 (.t 37), none, [], []⟩,
  ⟨some 39, .mov (.t 8), none, [], []⟩,
  ⟨some 40, .bsl 123 1 1 [.k .nilIface] [(0, (.t 39))], none, [], []⟩,
  ⟨some 41, .app 123 1 16 (.t 38) (.t 40), none, [], []⟩,
  ⟨some 42, .nck (.t 34), none, [], []⟩,
  ⟨some 43, .fad 0 (.t 42), none, [], []⟩,
  ⟨none, .store none 1 (.t 43) (.t 41), none, [], []⟩] false) .skip))))
 (.region [⟨some 44, .bin .add (.t 28) (.c (.int .i64 1)), none, [], []⟩,
  ⟨some 28, .mov (.t 44), none, [], []⟩] false))))))))
 (.seq (.region [⟨some 45, .mov (.t 6), none, [], []⟩,
  ⟨some 46, .mkp 167 (.t 45), none, [], []⟩,
  ⟨some 2, .mov (.t 46), none, [], []⟩] false)
 .ret)))))))
def i124 : F := ⟨1, 47, j124, [.t 2]⟩
theorem b124 : i124.body = j124 := rfl
theorem q124 : i124.res = [.t 2] := rfl
theorem c124 : chkF Tryz.prog Tryz.f124 i124 = true := by kernel_rfl
theorem s124 {m : Model} {E : Nat → Model} (hE : ∀ f, Sound Tryz.prog f (E f)) (hm : ∀ args r, m args = some r → ∃ N, i124.ev E N args = some r) : Sound Tryz.prog 124 m := sound_of i124 Tryz.func124 rfl c124 hE hm
/-- bellwether/flow.Begun -/
def j47 : C := (.seq (.region [⟨some 4, .alloc [.int .i64 0, .int .i64 0, .int .i64 0, .row [], .row []], none, [], []⟩] false)
 (.seq (.region [⟨some 5, .mov (.t 0), none, [], []⟩,
  ⟨some 6, .mov (.t 1), none, [], []⟩,
  ⟨some 7, .mov (.t 1), none, [], []⟩,
  ⟨some 8, .build [.int .i64 0, .int .i64 0, .int .i64 0, .row [], .row []] [(0, 1, (.t 5)), (1, 1, (.t 6)), (2, 1, (.t 7))], none, [], []⟩,
  ⟨none, .store none 5 (.t 4) (.t 8), none, [], []⟩] false)
 .ret))
def i47 : F := ⟨2, 9, j47, [.c 4 5 true]⟩
theorem b47 : i47.body = j47 := rfl
theorem q47 : i47.res = [.c 4 5 true] := rfl
theorem c47 : chkF Tryz.prog Tryz.f47 i47 = true := by kernel_rfl
theorem s47 {m : Model} {E : Nat → Model} (hE : ∀ f, Sound Tryz.prog f (E f)) (hm : ∀ args r, m args = some r → ∃ N, i47.ev E N args = some r) : Sound Tryz.prog 47 m := sound_of i47 Tryz.func47 rfl c47 hE hm
/-- bellwether/flow.Check -/
def j21 : C := (.seq (.region [⟨some 3, .box (.t 0), none, [], []⟩,
  ⟨some 4, .box (.t 1), none, [], []⟩,
  ⟨some 6, .mov (.c (.int .i64 0)), none, [], []⟩] false)
 (.seq (.region [⟨some 8, .load true 7 (.t 3), none, [], []⟩,
  ⟨some 9, .call false 62 [(.t 8)], none, [], []⟩,
  ⟨some 7, .mov (.t 9), none, [], []⟩] false)
 (.seq (.block 0 (.seq (.region [⟨some 11, .mov (.t 7), none, [], []⟩,
  ⟨some 12, .bin .neq (.t 11) (.c (.int .i64 0)), none, [], []⟩,
  ⟨some 10, .mov (.t 12), none, [], []⟩] false)
 (.cond (.t 10) (.seq (.region [⟨some 13, .mov (.t 7), none, [], []⟩,
  ⟨some 6, .mov (.t 13), none, [], []⟩] false)
 .ret) (.seq (.region [⟨some 15, .load true 7 (.t 3), none, [], []⟩,
  ⟨some 16, .load true 5 (.t 4), none, [], []⟩,
  ⟨some 17, .call false 63 [(.t 15), (.t 16)], none, [], []⟩,
  ⟨some 18, .un .not (.t 17), none, [], []⟩,
  ⟨some 19, .mov (.t 18), none, [], []⟩,
  ⟨some 20, .mov (.t 2), some (19, false), [], []⟩,
  ⟨some 21, .fad 6 (.t 3), some (19, false), [], []⟩,
  ⟨some 22, .load false 1 (.t 21), some (19, false), [], []⟩,
  ⟨some 23, .call false 64 [(.t 20), (.t 22)], some (19, false), [], []⟩,
  ⟨some 24, .bin .neq (.t 23) (.c (.int .i64 0)), some (19, false), [], []⟩,
  ⟨some 25, .pick (.t 19) (.c (.bool true)) (.t 24), none, [], []⟩,
  ⟨some 14, .mov (.t 25), none, [], []⟩] false)
 (.cond (.t 14) (.seq (.region [⟨some 6, .mov (.c (.int .i64 1)), none, [], []⟩] false)
 .ret) .skip)))))
 (.seq (.region [⟨some 6, .mov (.c (.int .i64 0)), none, [], []⟩] false)
 .ret))))
def i21 : F := ⟨3, 26, j21, [.t 6]⟩
theorem b21 : i21.body = j21 := rfl
theorem q21 : i21.res = [.t 6] := rfl
theorem c21 : chkF Tryz.prog Tryz.f21 i21 = true := by kernel_rfl
theorem s21 {m : Model} {E : Nat → Model} (hE : ∀ f, Sound Tryz.prog f (E f)) (hm : ∀ args r, m args = some r → ∃ N, i21.ev E N args = some r) : Sound Tryz.prog 21 m := sound_of i21 Tryz.func21 rfl c21 hE hm
/-- bellwether/flow.Gone -/
def j14 : C := (.seq (.region [⟨some 7, .box (.t 0), none, [], []⟩,
  ⟨some 8, .box (.t 1), none, [], []⟩,
  ⟨some 14, .alloc [.int .i64 0, .int .i64 0, .int .i64 0, .row [], .row []], none, [], []⟩,
  ⟨some 15, .mov (.c (.row [])), none, [], []⟩,
  ⟨some 16, .mov (.c (.row [])), none, [], []⟩,
  ⟨some 17, .mov (.c (.int .i64 0)), none, [], []⟩] false)
 (.seq (.region [⟨some 20, .load true 7 (.t 7), none, [], []⟩,
  ⟨some 21, .load true 5 (.t 8), none, [], []⟩,
  ⟨some 22, .mov (.t 2), none, [], []⟩,
  ⟨some 23, .mov (.t 3), none, [], []⟩,
  ⟨some 24, .call true 49 [(.t 20), (.t 21), (.t 22), (.t 23)], none, [], []⟩,
  ⟨some 19, .mov (.t 24), none, [], []⟩,
  ⟨some 25, .ext (.t 19) 0, none, [], []⟩,
  ⟨some 26, .ext (.t 19) 1, none, [], []⟩,
  ⟨some 18, .mov (.t 25), none, [], []⟩,
  ⟨some 17, .mov (.t 26), none, [], []⟩] false)
 (.seq (.seq (.region [⟨some 27, .mov (.t 17), none, [], []⟩,
  ⟨some 28, .bin .eql (.t 27) (.c (.int .i64 0)), none, [], []⟩,
  ⟨some 29, .mov (.t 28), none, [], []⟩,
  ⟨some 30, .mov (.t 4), some (29, true), [], []⟩,
  ⟨some 31, .call false 45 [(.t 30)], some (29, true), [], []⟩,
  ⟨some 32, .bin .neq (.t 31) (.c (.int .i64 0)), some (29, true), [], []⟩,
  ⟨some 33, .mov (.t 32), some (29, true), [], []⟩,
  ⟨some 34, .mov (.t 5), some (33, false), [], []⟩,
  ⟨some 35, .bin .lss (.t 34) (.c (.int .i64 1)), some (33, false), [], []⟩,
  ⟨some 36, .pick (.t 33) (.c (.bool true)) (.t 35), some (29, true), [], []⟩,
  ⟨some 37, .mov (.t 36), some (29, true), [], []⟩,
  ⟨some 38, .mov (.t 6), some (37, false), [], []⟩,
  ⟨some 39, .mov (.t 5), some (37, false), [], []⟩,
  ⟨some 40, .bin .lss (.t 38) (.t 39), some (37, false), [], []⟩,
  ⟨some 41, .pick (.t 37) (.c (.bool true)) (.t 40), some (29, true), [], []⟩,
  ⟨some 42, .mov (.t 41), some (29, true), [], []⟩,
  ⟨some 43, .mov (.t 6), some (42, false), [], []⟩,
  ⟨some 44, .call false 50 [(.t 43)], some (42, false), [], []⟩,
  ⟨some 45, .un .not (.t 44), some (42, false), [], []⟩,
  ⟨some 46, .pick (.t 42) (.c (.bool true)) (.t 45), some (29, true), [], []⟩,
  ⟨some 47, .pick (.t 29) (.t 46) (.c (.bool false)), none, [], []⟩] false)
 (.cond (.t 47) (.region [⟨some 17, .mov (.c (.int .i64 1)), none, [], []⟩] false) .skip))
 (.seq (.seq (.region [⟨some 48, .mov (.t 17), none, [], []⟩,
  ⟨some 49, .bin .neq (.t 48) (.c (.int .i64 0)), none, [], []⟩] false)
 (.cond (.t 49) (.seq (.region [⟨some 50, .build [.int .i64 0, .int .i64 0, .int .i64 0, .row [], .row []] [], none, [], []⟩,
  ⟨some 51, .mov (.t 17), none, [], []⟩,
  ⟨none, .store none 5 (.t 14) (.t 50), none, [], []⟩,
  ⟨some 15, .mov (.c (.row [])), none, [], []⟩,
  ⟨some 16, .mov (.c (.row [])), none, [], []⟩,
  ⟨some 17, .mov (.t 51), none, [], []⟩] false)
 .ret) .skip))
 (.seq (.seq (.region [⟨some 52, .mov (.t 4), none, [], []⟩,
  ⟨some 53, .fad 0 (.t 8), none, [], []⟩,
  ⟨some 54, .load false 1 (.t 53), none, [], []⟩,
  ⟨some 55, .bin .eql (.t 52) (.t 54), none, [], []⟩,
  ⟨some 56, .mov (.t 55), none, [], []⟩,
  ⟨some 57, .fad 1 (.t 8), some (56, true), [], []⟩,
  ⟨some 58, .load false 1 (.t 57), some (56, true), [], []⟩,
  ⟨some 59, .mov (.t 5), some (56, true), [], []⟩,
  ⟨some 60, .bin .geq (.t 58) (.t 59), some (56, true), [], []⟩,
  ⟨some 61, .pick (.t 56) (.t 60) (.c (.bool false)), none, [], []⟩,
  ⟨some 62, .mov (.t 61), none, [], []⟩,
  ⟨some 63, .fad 1 (.t 8), some (62, true), [], []⟩,
  ⟨some 64, .load false 1 (.t 63), some (62, true), [], []⟩,
  ⟨some 65, .mov (.t 6), some (62, true), [], []⟩,
  ⟨some 66, .bin .leq (.t 64) (.t 65), some (62, true), [], []⟩,
  ⟨some 67, .pick (.t 62) (.t 66) (.c (.bool false)), none, [], []⟩] false)
 (.cond (.t 67) (.seq (.region [⟨some 68, .mov (.t 18), none, [], []⟩,
  ⟨some 69, .mov (.t 4), none, [], []⟩,
  ⟨some 70, .fad 1 (.t 8), none, [], []⟩,
  ⟨some 71, .load false 1 (.t 70), none, [], []⟩,
  ⟨some 72, .mov (.t 6), none, [], []⟩,
  ⟨some 73, .build [.int .i64 0, .int .i64 0, .int .i64 0, .int .i64 0, .int .i64 0, .int .i64 0] [(0, 1, (.c (.int .i64 2))), (1, 1, (.t 69)), (2, 1, (.t 71)), (3, 1, (.t 72))], none, [], []⟩,
  ⟨some 74, .callo 55 [(.t 68), (.t 73)], none, [], []⟩] false)
 (.seq (.region [⟨some 75, .mov (.t 18), none, [], []⟩,
  ⟨some 76, .mov (.t 18), none, [], []⟩,
  ⟨some 77, .mov (.t 6), none, [], []⟩,
  ⟨some 78, .bin .add (.t 77) (.c (.int .i64 1)), none, [], []⟩,
  ⟨some 79, .nck (.t 75), none, [], []⟩,
  ⟨some 80, .fad 7 (.t 79), none, [], []⟩,
  ⟨some 81, .fad 1 (.t 80), none, [], []⟩,
  ⟨none, .store none 1 (.t 81) (.t 78), none, [], []⟩,
  ⟨some 82, .nck (.t 76), none, [], []⟩,
  ⟨some 83, .fad 7 (.t 82), none, [], []⟩,
  ⟨some 84, .fad 3 (.t 83), none, [], []⟩,
  ⟨none, .store none 1 (.t 84) (.c (.row [])), none, [], []⟩] false)
 (.seq (.region [⟨some 85, .mov (.t 18), none, [86, 87, 88, 89, 90, 91, 92, 93, 94, 95, 96], []⟩,
  ⟨some 86, .mov (.t 18), none, [85, 91, 92, 93, 94, 95], []⟩,
  ⟨some 87, .nck (.t 86), none, [85, 91, 92, 93, 94, 95], [1]⟩,
  ⟨some 88, .fad 7 (.t 87), none, [85, 91, 92, 93, 94, 95], [1, 2]⟩,
  ⟨some 89, .fad 2 (.t 88), none, [85, 91, 92, 93, 94, 95], [1, 2, 3]⟩,
  ⟨some 90, .load false 1 (.t 89), none, [85, 91, 92, 93, 94, 95], [1, 2, 3, 4]⟩,
  ⟨some 91, .mov (.t 18), none, [85, 86, 87, 88, 89, 90], []⟩,
  ⟨some 92, .nck (.t 91), none, [85, 86, 87, 88, 89, 90], [6]⟩,
  ⟨some 93, .fad 7 (.t 92), none, [85, 86, 87, 88, 89, 90], [6, 7]⟩,
  ⟨some 94, .fad 1 (.t 93), none, [85, 86, 87, 88, 89, 90], [6, 7, 8]⟩,
  ⟨some 95, .load false 1 (.t 94), none, [85, 86, 87, 88, 89, 90], [6, 7, 8, 9]⟩,
  ⟨some 96, .mx (.t 90) (.t 95), none, [85], [1, 2, 3, 4, 5, 6, 7, 8, 9, 10]⟩,
  ⟨some 97, .nck (.t 85), none, [], [0, 1, 2, 3, 4, 5, 6, 7, 8, 9, 10, 11]⟩,
  ⟨some 98, .fad 7 (.t 97), none, [], [0, 1, 2, 3, 4, 5, 6, 7, 8, 9, 10, 11, 12]⟩,
  ⟨some 99, .fad 2 (.t 98), none, [], [0, 1, 2, 3, 4, 5, 6, 7, 8, 9, 10, 11, 12, 13]⟩,
  ⟨none, .store none 1 (.t 99) (.t 96), none, [], [0, 1, 2, 3, 4, 5, 6, 7, 8, 9, 10, 11, 12, 13, 14]⟩] true)
 (.region [⟨some 100, .mov (.t 18), none, [], []⟩,
  ⟨some 101, .callo 53 [(.t 100)], none, [], []⟩] false)))) .skip))
 (.seq (.region [⟨some 102, .mov (.t 18), none, [106, 107, 108, 109, 110, 111, 112, 113], []⟩,
  ⟨some 103, .nck (.t 102), none, [106, 107, 108, 109, 110, 111, 112, 113], [0]⟩,
  ⟨some 104, .fad 7 (.t 103), none, [106, 107, 108, 109, 110, 111, 112, 113], [0, 1]⟩,
  ⟨some 105, .load true 5 (.t 104), none, [106, 107, 108, 109, 110, 111, 112, 113], [0, 1, 2]⟩,
  ⟨some 106, .mov (.t 18), none, [14, 102, 103, 104, 105, 110, 111, 112, 113], []⟩,
  ⟨some 107, .nck (.t 106), none, [14, 102, 103, 104, 105, 110, 111, 112, 113], [4]⟩,
  ⟨some 108, .fad 13 (.t 107), none, [14, 102, 103, 104, 105, 110, 111, 112, 113], [4, 5]⟩,
  ⟨some 109, .load false 1 (.t 108), none, [14, 102, 103, 104, 105, 110, 111, 112, 113], [4, 5, 6]⟩,
  ⟨some 110, .mov (.t 18), none, [14, 15, 102, 103, 104, 105, 106, 107, 108, 109], []⟩,
  ⟨some 111, .nck (.t 110), none, [14, 15, 102, 103, 104, 105, 106, 107, 108, 109], [8]⟩,
  ⟨some 112, .fad 14 (.t 111), none, [14, 15, 102, 103, 104, 105, 106, 107, 108, 109], [8, 9]⟩,
  ⟨some 113, .load false 1 (.t 112), none, [14, 15, 102, 103, 104, 105, 106, 107, 108, 109], [8, 9, 10]⟩,
  ⟨none, .store (some 14) 5 (.t 14) (.t 105), none, [106, 107, 108, 109, 110, 111, 112, 113], [0, 1, 2, 3]⟩,
  ⟨some 15, .mov (.t 109), none, [110, 111, 112, 113], [0, 1, 2, 3, 4, 5, 6, 7, 12]⟩,
  ⟨some 16, .mov (.t 113), none, [], [0, 1, 2, 3, 4, 5, 6, 7, 8, 9, 10, 11, 12, 13]⟩,
  ⟨some 17, .mov (.c (.int .i64 0)), none, [], [0, 1, 2, 3, 4, 5, 6, 7, 8, 9, 10, 11, 12, 13, 14]⟩] true)
 .ret))))))
def i14 : F := ⟨7, 114, j14, [.c 14 5 true, .t 15, .t 16, .t 17]⟩
theorem b14 : i14.body = j14 := rfl
theorem q14 : i14.res = [.c 14 5 true, .t 15, .t 16, .t 17] := rfl
theorem c14 : chkF Tryz.prog Tryz.f14 i14 = true := by kernel_rfl
theorem s14 {m : Model} {E : Nat → Model} (hE : ∀ f, Sound Tryz.prog f (E f)) (hm : ∀ args r, m args = some r → ∃ N, i14.ev E N args = some r) : Sound Tryz.prog 14 m := sound_of i14 Tryz.func14 rfl c14 hE hm
/-- bellwether/flow.Item -/
def j13 : C := (.seq (.region [⟨some 6, .box (.t 0), none, [], []⟩,
  ⟨some 7, .box (.t 1), none, [], []⟩,
  ⟨some 11, .box (.t 5), none, [], []⟩,
  ⟨some 12, .alloc [.int .i64 0, .int .i64 0, .int .i64 0, .row [], .row []], none, [], []⟩,
  ⟨some 13, .mov (.c (.row [])), none, [], []⟩,
  ⟨some 14, .mov (.c (.row [])), none, [], []⟩,
  ⟨some 15, .mov (.c (.int .i64 0)), none, [], []⟩] false)
 (.seq (.region [⟨some 20, .load true 7 (.t 6), none, [], []⟩,
  ⟨some 21, .load true 5 (.t 7), none, [], []⟩,
  ⟨some 22, .mov (.t 2), none, [], []⟩,
  ⟨some 23, .mov (.t 3), none, [], []⟩,
  ⟨some 24, .call true 49 [(.t 20), (.t 21), (.t 22), (.t 23)], none, [], []⟩,
  ⟨some 19, .mov (.t 24), none, [], []⟩,
  ⟨some 25, .ext (.t 19) 0, none, [], []⟩,
  ⟨some 26, .ext (.t 19) 1, none, [], []⟩,
  ⟨some 16, .mov (.t 25), none, [], []⟩,
  ⟨some 15, .mov (.t 26), none, [], []⟩] false)
 (.seq (.seq (.region [⟨some 27, .mov (.t 15), none, [], []⟩,
  ⟨some 28, .bin .eql (.t 27) (.c (.int .i64 0)), none, [], []⟩,
  ⟨some 29, .mov (.t 28), none, [], []⟩,
  ⟨some 30, .mov (.t 4), some (29, true), [], []⟩,
  ⟨some 31, .call false 45 [(.t 30)], some (29, true), [], []⟩,
  ⟨some 32, .bin .neq (.t 31) (.c (.int .i64 0)), some (29, true), [], []⟩,
  ⟨some 33, .mov (.t 32), some (29, true), [], []⟩,
  ⟨some 34, .fad 0 (.t 11), some (33, false), [], []⟩,
  ⟨some 35, .load false 1 (.t 34), some (33, false), [], []⟩,
  ⟨some 36, .call false 50 [(.t 35)], some (33, false), [], []⟩,
  ⟨some 37, .un .not (.t 36), some (33, false), [], []⟩,
  ⟨some 38, .pick (.t 33) (.c (.bool true)) (.t 37), some (29, true), [], []⟩,
  ⟨some 39, .mov (.t 38), some (29, true), [], []⟩,
  ⟨some 40, .fad 1 (.t 11), some (39, false), [], []⟩,
  ⟨some 41, .load false 1 (.t 40), some (39, false), [], []⟩,
  ⟨some 42, .call false 51 [(.t 41)], some (39, false), [], []⟩,
  ⟨some 43, .un .not (.t 42), some (39, false), [], []⟩,
  ⟨some 44, .pick (.t 39) (.c (.bool true)) (.t 43), some (29, true), [], []⟩,
  ⟨some 45, .pick (.t 29) (.t 44) (.c (.bool false)), none, [], []⟩] false)
 (.cond (.t 45) (.region [⟨some 15, .mov (.c (.int .i64 1)), none, [], []⟩] false) .skip))
 (.seq (.seq (.region [⟨some 46, .mov (.t 15), none, [], []⟩,
  ⟨some 47, .bin .neq (.t 46) (.c (.int .i64 0)), none, [], []⟩] false)
 (.cond (.t 47) (.seq (.region [⟨some 48, .build [.int .i64 0, .int .i64 0, .int .i64 0, .row [], .row []] [], none, [], []⟩,
  ⟨some 49, .mov (.t 15), none, [], []⟩,
  ⟨none, .store none 5 (.t 12) (.t 48), none, [], []⟩,
  ⟨some 13, .mov (.c (.row [])), none, [], []⟩,
  ⟨some 14, .mov (.c (.row [])), none, [], []⟩,
  ⟨some 15, .mov (.t 49), none, [], []⟩] false)
 .ret) .skip))
 (.seq (.seq (.region [⟨some 50, .mov (.t 4), none, [], []⟩,
  ⟨some 51, .fad 0 (.t 7), none, [], []⟩,
  ⟨some 52, .load false 1 (.t 51), none, [], []⟩,
  ⟨some 53, .bin .gtr (.t 50) (.t 52), none, [], []⟩] false)
 (.cond (.t 53) (.region [⟨some 54, .mov (.t 16), none, [], []⟩,
  ⟨some 55, .mov (.t 4), none, [], []⟩,
  ⟨some 56, .fad 0 (.t 11), none, [], []⟩,
  ⟨some 57, .load false 1 (.t 56), none, [], []⟩,
  ⟨some 58, .call false 47 [(.t 55), (.t 57)], none, [], []⟩,
  ⟨some 59, .nck (.t 54), none, [], []⟩,
  ⟨some 60, .fad 7 (.t 59), none, [], []⟩,
  ⟨none, .store none 5 (.t 60) (.t 58), none, [], []⟩] false) .skip))
 (.seq (.block 0 (.seq (.region [⟨some 99, .mov (.t 4), none, [100, 101], []⟩,
  ⟨some 100, .fad 0 (.t 7), none, [99], []⟩,
  ⟨some 101, .load false 1 (.t 100), none, [99], [1]⟩,
  ⟨some 102, .bin .lss (.t 99) (.t 101), none, [], [0, 1, 2]⟩,
  ⟨some 103, .mov (.t 102), none, [], [0, 1, 2, 3]⟩,
  ⟨some 104, .fad 0 (.t 11), some (103, false), [106, 107, 108, 109, 110], [0, 1, 2, 3, 4]⟩,
  ⟨some 105, .load false 1 (.t 104), some (103, false), [106, 107, 108, 109, 110], [0, 1, 2, 3, 4, 5]⟩,
  ⟨some 106, .mov (.t 16), some (103, false), [104, 105], [0, 1, 2, 3, 4]⟩,
  ⟨some 107, .nck (.t 106), some (103, false), [104, 105], [0, 1, 2, 3, 4, 7]⟩,
  ⟨some 108, .fad 7 (.t 107), some (103, false), [104, 105], [0, 1, 2, 3, 4, 7, 8]⟩,
  ⟨some 109, .fad 1 (.t 108), some (103, false), [104, 105], [0, 1, 2, 3, 4, 7, 8, 9]⟩,
  ⟨some 110, .load false 1 (.t 109), some (103, false), [104, 105], [0, 1, 2, 3, 4, 7, 8, 9, 10]⟩,
  ⟨some 111, .bin .lss (.t 105) (.t 110), some (103, false), [], [0, 1, 2, 3, 4, 5, 6, 7, 8, 9, 10, 11]⟩,
  ⟨some 112, .pick (.t 103) (.c (.bool true)) (.t 111), none, [], [0, 1, 2, 3, 4, 5, 6, 7, 8, 9, 10, 11, 12]⟩,
  ⟨some 98, .mov (.t 112), none, [], [0, 1, 2, 3, 4, 5, 6, 7, 8, 9, 10, 11, 12, 13]⟩] true)
 (.cond (.t 98) .skip (.seq (.region [⟨some 114, .fad 0 (.t 11), none, [116, 117, 118, 119, 120], []⟩,
  ⟨some 115, .load false 1 (.t 114), none, [116, 117, 118, 119, 120], [0]⟩,
  ⟨some 116, .mov (.t 16), none, [114, 115], []⟩,
  ⟨some 117, .nck (.t 116), none, [114, 115], [2]⟩,
  ⟨some 118, .fad 7 (.t 117), none, [114, 115], [2, 3]⟩,
  ⟨some 119, .fad 1 (.t 118), none, [114, 115], [2, 3, 4]⟩,
  ⟨some 120, .load false 1 (.t 119), none, [114, 115], [2, 3, 4, 5]⟩,
  ⟨some 121, .bin .eql (.t 115) (.t 120), none, [], [0, 1, 2, 3, 4, 5, 6]⟩,
  ⟨some 113, .mov (.t 121), none, [], [0, 1, 2, 3, 4, 5, 6, 7]⟩] true)
 (.cond (.t 113) (.seq (.region [⟨some 122, .mov (.t 16), none, [], []⟩,
  ⟨some 123, .fad 1 (.t 11), none, [], []⟩,
  ⟨some 124, .load false 1 (.t 123), none, [], []⟩,
  ⟨some 125, .callo 52 [(.t 122), (.t 124)], none, [], []⟩] false)
 (.region [⟨some 126, .mov (.t 16), none, [], []⟩,
  ⟨some 127, .callo 53 [(.t 126)], none, [], []⟩] false)) (.seq (.region [⟨some 61, .mov (.t 16), none, [62, 63, 64, 65, 66, 67, 68, 69, 70], []⟩,
  ⟨some 62, .mov (.t 16), none, [61, 67, 68, 69], []⟩,
  ⟨some 63, .nck (.t 62), none, [61, 67, 68, 69], [1]⟩,
  ⟨some 64, .fad 7 (.t 63), none, [61, 67, 68, 69], [1, 2]⟩,
  ⟨some 65, .fad 2 (.t 64), none, [61, 67, 68, 69], [1, 2, 3]⟩,
  ⟨some 66, .load false 1 (.t 65), none, [61, 67, 68, 69], [1, 2, 3, 4]⟩,
  ⟨some 67, .fad 0 (.t 11), none, [61, 62, 63, 64, 65, 66], []⟩,
  ⟨some 68, .load false 1 (.t 67), none, [61, 62, 63, 64, 65, 66], [6]⟩,
  ⟨some 69, .bin .add (.t 68) (.c (.int .i64 1)), none, [61, 62, 63, 64, 65, 66], [6, 7]⟩,
  ⟨some 70, .mx (.t 66) (.t 69), none, [61], [1, 2, 3, 4, 5, 6, 7, 8]⟩,
  ⟨some 71, .nck (.t 61), none, [], [0, 1, 2, 3, 4, 5, 6, 7, 8, 9]⟩,
  ⟨some 72, .fad 7 (.t 71), none, [], [0, 1, 2, 3, 4, 5, 6, 7, 8, 9, 10]⟩,
  ⟨some 73, .fad 2 (.t 72), none, [], [0, 1, 2, 3, 4, 5, 6, 7, 8, 9, 10, 11]⟩,
  ⟨none, .store none 1 (.t 73) (.t 70), none, [], [0, 1, 2, 3, 4, 5, 6, 7, 8, 9, 10, 11, 12]⟩] true)
 (.seq (.region [⟨some 75, .mov (.t 16), none, [80, 81, 82, 83, 84, 85, 86, 87], []⟩,
  ⟨some 76, .nck (.t 75), none, [80, 81, 82, 83, 84, 85, 86, 87], [0]⟩,
  ⟨some 77, .fad 7 (.t 76), none, [80, 81, 82, 83, 84, 85, 86, 87], [0, 1]⟩,
  ⟨some 78, .fad 4 (.t 77), none, [80, 81, 82, 83, 84, 85, 86, 87], [0, 1, 2]⟩,
  ⟨some 79, .load false 1 (.t 78), none, [80, 81, 82, 83, 84, 85, 86, 87], [0, 1, 2, 3]⟩,
  ⟨some 80, .mov (.t 16), none, [75, 76, 77, 78, 79, 85, 86, 87], []⟩,
  ⟨some 81, .nck (.t 80), none, [75, 76, 77, 78, 79, 85, 86, 87], [5]⟩,
  ⟨some 82, .fad 7 (.t 81), none, [75, 76, 77, 78, 79, 85, 86, 87], [5, 6]⟩,
  ⟨some 83, .fad 1 (.t 82), none, [75, 76, 77, 78, 79, 85, 86, 87], [5, 6, 7]⟩,
  ⟨some 84, .load false 1 (.t 83), none, [75, 76, 77, 78, 79, 85, 86, 87], [5, 6, 7, 8]⟩,
  ⟨some 85, .fad 5 (.t 6), none, [75, 76, 77, 78, 79, 80, 81, 82, 83, 84, 87], []⟩,
  ⟨some 86, .load false 1 (.t 85), none, [75, 76, 77, 78, 79, 80, 81, 82, 83, 84, 87], [10]⟩,
  ⟨some 87, .load true 2 (.t 11), none, [75, 76, 77, 78, 79, 80, 81, 82, 83, 84, 85, 86], []⟩,
  ⟨some 88, .call false 54 [(.t 79), (.t 84), (.t 86), (.t 87)], none, [], [0, 1, 2, 3, 4, 5, 6, 7, 8, 9, 10, 11, 12]⟩,
  ⟨some 74, .mov (.t 88), none, [], [0, 1, 2, 3, 4, 5, 6, 7, 8, 9, 10, 11, 12, 13]⟩,
  ⟨some 89, .ext (.t 74) 0, none, [90], [0, 1, 2, 3, 4, 5, 6, 7, 8, 9, 10, 11, 12, 13, 14]⟩,
  ⟨some 90, .ext (.t 74) 1, none, [17, 89], [0, 1, 2, 3, 4, 5, 6, 7, 8, 9, 10, 11, 12, 13, 14]⟩,
  ⟨some 17, .mov (.t 89), none, [90], [0, 1, 2, 3, 4, 5, 6, 7, 8, 9, 10, 11, 12, 13, 14, 15]⟩,
  ⟨some 18, .mov (.t 90), none, [], [0, 1, 2, 3, 4, 5, 6, 7, 8, 9, 10, 11, 12, 13, 14, 15, 16, 17]⟩] true)
 (.seq (.region [⟨some 91, .mov (.t 18), none, [], []⟩,
  ⟨some 92, .bin .eql (.t 91) (.c (.int .i64 0)), none, [], []⟩] false)
 (.cond (.t 92) (.region [⟨some 93, .mov (.t 16), none, [], []⟩,
  ⟨some 94, .mov (.t 17), none, [], []⟩,
  ⟨some 95, .nck (.t 93), none, [], []⟩,
  ⟨some 96, .fad 7 (.t 95), none, [], []⟩,
  ⟨some 97, .fad 4 (.t 96), none, [], []⟩,
  ⟨none, .store none 1 (.t 97) (.t 94), none, [], []⟩] false) .skip)))))))))
 (.seq (.region [⟨some 128, .mov (.t 16), none, [132, 133, 134, 135, 136, 137, 138, 139], []⟩,
  ⟨some 129, .nck (.t 128), none, [132, 133, 134, 135, 136, 137, 138, 139], [0]⟩,
  ⟨some 130, .fad 7 (.t 129), none, [132, 133, 134, 135, 136, 137, 138, 139], [0, 1]⟩,
  ⟨some 131, .load true 5 (.t 130), none, [132, 133, 134, 135, 136, 137, 138, 139], [0, 1, 2]⟩,
  ⟨some 132, .mov (.t 16), none, [12, 128, 129, 130, 131, 136, 137, 138, 139], []⟩,
  ⟨some 133, .nck (.t 132), none, [12, 128, 129, 130, 131, 136, 137, 138, 139], [4]⟩,
  ⟨some 134, .fad 13 (.t 133), none, [12, 128, 129, 130, 131, 136, 137, 138, 139], [4, 5]⟩,
  ⟨some 135, .load false 1 (.t 134), none, [12, 128, 129, 130, 131, 136, 137, 138, 139], [4, 5, 6]⟩,
  ⟨some 136, .mov (.t 16), none, [12, 13, 128, 129, 130, 131, 132, 133, 134, 135], []⟩,
  ⟨some 137, .nck (.t 136), none, [12, 13, 128, 129, 130, 131, 132, 133, 134, 135], [8]⟩,
  ⟨some 138, .fad 14 (.t 137), none, [12, 13, 128, 129, 130, 131, 132, 133, 134, 135], [8, 9]⟩,
  ⟨some 139, .load false 1 (.t 138), none, [12, 13, 128, 129, 130, 131, 132, 133, 134, 135], [8, 9, 10]⟩,
  ⟨none, .store (some 12) 5 (.t 12) (.t 131), none, [132, 133, 134, 135, 136, 137, 138, 139], [0, 1, 2, 3]⟩,
  ⟨some 13, .mov (.t 135), none, [136, 137, 138, 139], [0, 1, 2, 3, 4, 5, 6, 7, 12]⟩,
  ⟨some 14, .mov (.t 139), none, [], [0, 1, 2, 3, 4, 5, 6, 7, 8, 9, 10, 11, 12, 13]⟩,
  ⟨some 15, .mov (.c (.int .i64 0)), none, [], [0, 1, 2, 3, 4, 5, 6, 7, 8, 9, 10, 11, 12, 13, 14]⟩] true)
 .ret)))))))
def i13 : F := ⟨6, 140, j13, [.c 12 5 true, .t 13, .t 14, .t 15]⟩
theorem b13 : i13.body = j13 := rfl
theorem q13 : i13.res = [.c 12 5 true, .t 13, .t 14, .t 15] := rfl
theorem c13 : chkF Tryz.prog Tryz.f13 i13 = true := by kernel_rfl
theorem s13 {m : Model} {E : Nat → Model} (hE : ∀ f, Sound Tryz.prog f (E f)) (hm : ∀ args r, m args = some r → ∃ N, i13.ev E N args = some r) : Sound Tryz.prog 13 m := sound_of i13 Tryz.func13 rfl c13 hE hm
/-- bellwether/flow.Lacks -/
def j15 : C := (.seq (.region [⟨some 1, .box (.t 0), none, [], []⟩,
  ⟨some 2, .mov (.c (.bool false)), none, [], []⟩] false)
 (.seq (.region [⟨some 3, .fad 2 (.t 1), none, [], []⟩,
  ⟨some 4, .load false 1 (.t 3), none, [], []⟩,
  ⟨some 5, .fad 1 (.t 1), none, [], []⟩,
  ⟨some 6, .load false 1 (.t 5), none, [], []⟩,
  ⟨some 7, .bin .gtr (.t 4) (.t 6), none, [], []⟩,
  ⟨some 2, .mov (.t 7), none, [], []⟩] false)
 .ret))
def i15 : F := ⟨1, 8, j15, [.t 2]⟩
theorem b15 : i15.body = j15 := rfl
theorem q15 : i15.res = [.t 2] := rfl
theorem c15 : chkF Tryz.prog Tryz.f15 i15 = true := by kernel_rfl
theorem s15 {m : Model} {E : Nat → Model} (hE : ∀ f, Sound Tryz.prog f (E f)) (hm : ∀ args r, m args = some r → ∃ N, i15.ev E N args = some r) : Sound Tryz.prog 15 m := sound_of i15 Tryz.func15 rfl c15 hE hm
/-- bellwether/flow.Told -/
def j12 : C := (.seq (.region [⟨some 4, .box (.t 0), none, [], []⟩,
  ⟨some 5, .box (.t 1), none, [], []⟩,
  ⟨some 8, .alloc [.int .i64 0, .int .i64 0, .int .i64 0, .row [], .row []], none, [], []⟩,
  ⟨some 9, .mov (.c (.int .i64 0)), none, [], []⟩] false)
 (.seq (.region [⟨some 12, .load true 7 (.t 4), none, [], []⟩,
  ⟨some 13, .load true 5 (.t 5), none, [], []⟩,
  ⟨some 14, .call false 21 [(.t 12), (.t 13), (.c (.row []))], none, [], []⟩,
  ⟨some 10, .mov (.t 14), none, [], []⟩] false)
 (.seq (.block 0 (.seq (.region [⟨some 16, .mov (.t 10), none, [], []⟩,
  ⟨some 17, .bin .neq (.t 16) (.c (.int .i64 0)), none, [], []⟩,
  ⟨some 15, .mov (.t 17), none, [], []⟩] false)
 (.cond (.t 15) (.seq (.region [⟨some 18, .build [.int .i64 0, .int .i64 0, .int .i64 0, .row [], .row []] [], none, [], []⟩,
  ⟨some 19, .mov (.t 10), none, [], []⟩,
  ⟨none, .store none 5 (.t 8) (.t 18), none, [], []⟩,
  ⟨some 9, .mov (.t 19), none, [], []⟩] false)
 .ret) (.seq (.region [⟨some 21, .mov (.t 2), none, [], []⟩,
  ⟨some 22, .call false 45 [(.t 21)], none, [], []⟩,
  ⟨some 23, .bin .neq (.t 22) (.c (.int .i64 0)), none, [], []⟩,
  ⟨some 24, .mov (.t 23), none, [], []⟩,
  ⟨some 25, .mov (.t 3), some (24, false), [], []⟩,
  ⟨some 26, .call false 46 [(.t 25)], some (24, false), [], []⟩,
  ⟨some 27, .un .not (.t 26), some (24, false), [], []⟩,
  ⟨some 28, .pick (.t 24) (.c (.bool true)) (.t 27), none, [], []⟩,
  ⟨some 20, .mov (.t 28), none, [], []⟩] false)
 (.cond (.t 20) (.seq (.region [⟨some 29, .build [.int .i64 0, .int .i64 0, .int .i64 0, .row [], .row []] [], none, [], []⟩,
  ⟨none, .store none 5 (.t 8) (.t 29), none, [], []⟩,
  ⟨some 9, .mov (.c (.int .i64 1)), none, [], []⟩] false)
 .ret) (.seq (.region [⟨some 31, .mov (.t 2), none, [], []⟩,
  ⟨some 32, .fad 0 (.t 5), none, [], []⟩,
  ⟨some 33, .load false 1 (.t 32), none, [], []⟩,
  ⟨some 34, .bin .gtr (.t 31) (.t 33), none, [], []⟩,
  ⟨some 30, .mov (.t 34), none, [], []⟩] false)
 (.cond (.t 30) (.seq (.region [⟨some 35, .mov (.t 2), none, [], []⟩,
  ⟨some 36, .mov (.t 3), none, [], []⟩,
  ⟨some 37, .call false 47 [(.t 35), (.t 36)], none, [], []⟩,
  ⟨none, .store none 5 (.t 8) (.t 37), none, [], []⟩,
  ⟨some 9, .mov (.c (.int .i64 0)), none, [], []⟩] false)
 .ret) .skip)))))))
 (.seq (.region [⟨some 38, .load true 5 (.t 5), none, [], []⟩,
  ⟨some 39, .call false 48 [(.t 38)], none, [], []⟩,
  ⟨some 11, .alloc [.int .i64 0, .int .i64 0, .int .i64 0, .row [], .row []], none, [], []⟩,
  ⟨none, .store none 5 (.t 11) (.t 39), none, [], []⟩] false)
 (.seq (.seq (.region [⟨some 40, .mov (.t 2), none, [], []⟩,
  ⟨some 41, .fad 0 (.t 5), none, [], []⟩,
  ⟨some 42, .load false 1 (.t 41), none, [], []⟩,
  ⟨some 43, .bin .eql (.t 40) (.t 42), none, [], []⟩] false)
 (.cond (.t 43) (.region [⟨some 44, .fad 2 (.t 11), none, [], []⟩,
  ⟨some 45, .load false 1 (.t 44), none, [], []⟩,
  ⟨some 46, .mov (.t 3), none, [], []⟩,
  ⟨some 47, .mx (.t 45) (.t 46), none, [], []⟩,
  ⟨some 48, .fad 2 (.t 11), none, [], []⟩,
  ⟨none, .store none 1 (.t 48) (.t 47), none, [], []⟩] false) .skip))
 (.seq (.region [⟨some 49, .load true 5 (.t 11), none, [], []⟩,
  ⟨none, .store none 5 (.t 8) (.t 49), none, [], []⟩,
  ⟨some 9, .mov (.c (.int .i64 0)), none, [], []⟩] false)
 .ret))))))
def i12 : F := ⟨4, 50, j12, [.c 8 5 true, .t 9]⟩
theorem b12 : i12.body = j12 := rfl
theorem q12 : i12.res = [.c 8 5 true, .t 9] := rfl
theorem c12 : chkF Tryz.prog Tryz.f12 i12 = true := by kernel_rfl
theorem s12 {m : Model} {E : Nat → Model} (hE : ∀ f, Sound Tryz.prog f (E f)) (hm : ∀ args r, m args = some r → ∃ N, i12.ev E N args = some r) : Sound Tryz.prog 12 m := sound_of i12 Tryz.func12 rfl c12 hE hm
/-- bellwether/flow.Twin -/
def j48 : C := (.seq (.region [⟨some 1, .box (.t 0), none, [], []⟩,
  ⟨some 2, .alloc [.int .i64 0, .int .i64 0, .int .i64 0, .row [], .row []], none, [], []⟩] false)
 (.seq (.region [⟨some 3, .fad 3 (.t 1), none, [6, 7], []⟩,
  ⟨some 4, .load false 1 (.t 3), none, [6, 7], [0]⟩,
  ⟨some 5, .call false 85 [(.t 4)], none, [6, 7], [0, 1]⟩,
  ⟨some 6, .fad 4 (.t 1), none, [3, 4, 5], []⟩,
  ⟨some 7, .load false 1 (.t 6), none, [3, 4, 5], [3]⟩,
  ⟨some 8, .call false 85 [(.t 7)], none, [9], [0, 1, 2, 3, 4]⟩,
  ⟨some 9, .fad 3 (.t 1), none, [8], [0, 1, 2, 3, 4]⟩,
  ⟨none, .store none 1 (.t 9) (.t 5), none, [], [0, 1, 2, 3, 4, 5, 6]⟩,
  ⟨some 10, .fad 4 (.t 1), none, [], [0, 1, 2, 3, 4, 5, 6, 7]⟩,
  ⟨none, .store none 1 (.t 10) (.t 8), none, [], [0, 1, 2, 3, 4, 5, 6, 7, 8]⟩] true)
 (.seq (.region [⟨some 11, .load true 5 (.t 1), none, [], []⟩,
  ⟨none, .store none 5 (.t 2) (.t 11), none, [], []⟩] false)
 .ret)))
def i48 : F := ⟨1, 12, j48, [.c 2 5 true]⟩
theorem b48 : i48.body = j48 := rfl
theorem q48 : i48.res = [.c 2 5 true] := rfl
theorem c48 : chkF Tryz.prog Tryz.f48 i48 = true := by kernel_rfl
theorem s48 {m : Model} {E : Nat → Model} (hE : ∀ f, Sound Tryz.prog f (E f)) (hm : ∀ args r, m args = some r → ∃ N, i48.ev E N args = some r) : Sound Tryz.prog 48 m := sound_of i48 Tryz.func48 rfl c48 hE hm
/-- bellwether/flow.begin -/
def j49 : C := (.seq (.region [⟨some 4, .box (.t 0), none, [], []⟩,
  ⟨some 5, .box (.t 1), none, [], []⟩,
  ⟨some 8, .mov (.c (.k (.pointer none))), none, [], []⟩,
  ⟨some 9, .mov (.c (.int .i64 0)), none, [], []⟩] false)
 (.seq (.region [⟨some 11, .load true 7 (.t 4), none, [], []⟩,
  ⟨some 12, .load true 5 (.t 5), none, [], []⟩,
  ⟨some 13, .mov (.t 3), none, [], []⟩,
  ⟨some 14, .call false 21 [(.t 11), (.t 12), (.t 13)], none, [], []⟩,
  ⟨some 10, .mov (.t 14), none, [], []⟩] false)
 (.seq (.seq (.region [⟨some 15, .mov (.t 10), none, [], []⟩,
  ⟨some 16, .bin .neq (.t 15) (.c (.int .i64 0)), none, [], []⟩] false)
 (.cond (.t 16) (.seq (.region [⟨some 17, .mov (.t 10), none, [], []⟩,
  ⟨some 8, .mov (.c (.k (.pointer none))), none, [], []⟩,
  ⟨some 9, .mov (.t 17), none, [], []⟩] false)
 .ret) .skip))
 (.seq (.region [⟨some 18, .load true 7 (.t 4), none, [19, 20, 21, 22, 23], []⟩,
  ⟨some 19, .load true 5 (.t 5), none, [18, 21, 22], []⟩,
  ⟨some 20, .call false 48 [(.t 19)], none, [18, 21, 22], [1]⟩,
  ⟨some 21, .mov (.t 2), none, [18, 19, 20, 22, 23], []⟩,
  ⟨some 22, .mov (.t 3), none, [18, 19, 20, 21], []⟩,
  ⟨some 23, .call false 86 [(.t 22)], none, [18, 21], [1, 2, 4]⟩,
  ⟨some 24, .build [.int .i64 0, .int .i64 0, .int .i64 0, .int .i64 0, .int .i64 0, .int .i64 0, .int .i64 0, .int .i64 0, .int .i64 0, .int .i64 0, .row [], .row [], .bool false, .row [], .k (.slice none 0 0)] [(0, 7, (.t 18)), (7, 5, (.t 20)), (12, 1, (.t 21)), (13, 1, (.t 23))], none, [], [0, 1, 2, 3, 4, 5]⟩,
  ⟨some 25, .bxo (.t 24) [(14, 29, 2)], none, [], [0, 1, 2, 3, 4, 5, 6]⟩,
  ⟨some 8, .mov (.t 25), none, [], [0, 1, 2, 3, 4, 5, 6, 7]⟩,
  ⟨some 9, .mov (.c (.int .i64 0)), none, [], [0, 1, 2, 3, 4, 5, 6, 7, 8]⟩] true)
 .ret))))
def i49 : F := ⟨4, 26, j49, [.t 8, .t 9]⟩
theorem b49 : i49.body = j49 := rfl
theorem q49 : i49.res = [.t 8, .t 9] := rfl
theorem c49 : chkF Tryz.prog Tryz.f49 i49 = true := by kernel_rfl
theorem s49 {m : Model} {E : Nat → Model} (hE : ∀ f, Sound Tryz.prog f (E f)) (hm : ∀ args r, m args = some r → ∃ N, i49.ev E N args = some r) : Sound Tryz.prog 49 m := sound_of i49 Tryz.func49 rfl c49 hE hm
/-- bellwether/flow.right -/
def j63 : C := (.seq (.region [⟨some 2, .box (.t 0), none, [], []⟩,
  ⟨some 3, .box (.t 1), none, [], []⟩,
  ⟨some 4, .mov (.c (.bool false)), none, [], []⟩] false)
 (.seq (.seq (.region [⟨some 5, .load true 5 (.t 3), none, [], []⟩,
  ⟨some 6, .call false 98 [(.t 5)], none, [], []⟩] false)
 (.cond (.t 6) (.seq (.region [⟨some 4, .mov (.c (.bool true)), none, [], []⟩] false)
 .ret) .skip))
 (.seq (.region [⟨some 7, .fad 0 (.t 3), none, [], []⟩,
  ⟨some 8, .load false 1 (.t 7), none, [], []⟩,
  ⟨some 9, .call false 45 [(.t 8)], none, [], []⟩,
  ⟨some 10, .bin .eql (.t 9) (.c (.int .i64 0)), none, [], []⟩,
  ⟨some 11, .mov (.t 10), none, [], []⟩,
  ⟨some 12, .fad 1 (.t 3), some (11, true), [], []⟩,
  ⟨some 13, .load false 1 (.t 12), some (11, true), [], []⟩,
  ⟨some 14, .call false 46 [(.t 13)], some (11, true), [], []⟩,
  ⟨some 15, .pick (.t 11) (.t 14) (.c (.bool false)), none, [], []⟩,
  ⟨some 16, .mov (.t 15), none, [], []⟩,
  ⟨some 17, .fad 2 (.t 3), some (16, true), [], []⟩,
  ⟨some 18, .load false 1 (.t 17), some (16, true), [], []⟩,
  ⟨some 19, .fad 1 (.t 3), some (16, true), [], []⟩,
  ⟨some 20, .load false 1 (.t 19), some (16, true), [], []⟩,
  ⟨some 21, .bin .geq (.t 18) (.t 20), some (16, true), [], []⟩,
  ⟨some 22, .pick (.t 16) (.t 21) (.c (.bool false)), none, [], []⟩,
  ⟨some 23, .mov (.t 22), none, [], []⟩,
  ⟨some 24, .fad 2 (.t 3), some (23, true), [], []⟩,
  ⟨some 25, .load false 1 (.t 24), some (23, true), [], []⟩,
  ⟨some 26, .bin .leq (.t 25) (.c (.int .i64 1073741824)), some (23, true), [], []⟩,
  ⟨some 27, .pick (.t 23) (.t 26) (.c (.bool false)), none, [], []⟩,
  ⟨some 28, .mov (.t 27), none, [], []⟩,
  ⟨some 29, .fad 3 (.t 3), some (28, true), [], []⟩,
  ⟨some 30, .load false 1 (.t 29), some (28, true), [], []⟩,
  ⟨some 31, .fad 1 (.t 3), some (28, true), [], []⟩,
  ⟨some 32, .load false 1 (.t 31), some (28, true), [], []⟩,
  ⟨some 33, .fad 4 (.t 2), some (28, true), [], []⟩,
  ⟨some 34, .load false 1 (.t 33), some (28, true), [], []⟩,
  ⟨some 35, .call false 99 [(.t 30), (.t 32), (.t 34)], some (28, true), [], []⟩,
  ⟨some 36, .bin .eql (.t 35) (.c (.int .i64 0)), some (28, true), [], []⟩,
  ⟨some 37, .pick (.t 28) (.t 36) (.c (.bool false)), none, [], []⟩,
  ⟨some 38, .mov (.t 37), none, [], []⟩,
  ⟨some 39, .fad 4 (.t 3), some (38, true), [], []⟩,
  ⟨some 40, .load false 1 (.t 39), some (38, true), [], []⟩,
  ⟨some 41, .fad 1 (.t 3), some (38, true), [], []⟩,
  ⟨some 42, .load false 1 (.t 41), some (38, true), [], []⟩,
  ⟨some 43, .fad 5 (.t 2), some (38, true), [], []⟩,
  ⟨some 44, .load false 1 (.t 43), some (38, true), [], []⟩,
  ⟨some 45, .call false 89 [(.t 40), (.t 42), (.t 44)], some (38, true), [], []⟩,
  ⟨some 46, .bin .eql (.t 45) (.c (.int .i64 0)), some (38, true), [], []⟩,
  ⟨some 47, .pick (.t 38) (.t 46) (.c (.bool false)), none, [], []⟩,
  ⟨some 4, .mov (.t 47), none, [], []⟩] false)
 .ret)))
def i63 : F := ⟨2, 48, j63, [.t 4]⟩
theorem b63 : i63.body = j63 := rfl
theorem q63 : i63.res = [.t 4] := rfl
theorem c63 : chkF Tryz.prog Tryz.f63 i63 = true := by kernel_rfl
theorem s63 {m : Model} {E : Nat → Model} (hE : ∀ f, Sound Tryz.prog f (E f)) (hm : ∀ args r, m args = some r → ∃ N, i63.ev E N args = some r) : Sound Tryz.prog 63 m := sound_of i63 Tryz.func63 rfl c63 hE hm
/--   bellwether/flow.taker .event -/
def j55 : C := (.seq (.region [⟨some 3, .box (.t 1), none, [], []⟩] false)
 (.seq (.region [⟨some 4, .mov (.t 0), none, [], []⟩,
  ⟨some 5, .nck (.t 4), none, [], []⟩,
  ⟨some 6, .fad 12 (.t 5), none, [], []⟩,
  ⟨some 7, .load false 1 (.t 6), none, [], []⟩] false)
 (.cond (.t 7) (.region [⟨some 8, .mov (.t 0), none, [9, 10, 11, 12, 13, 14, 15, 16, 17, 18, 19], []⟩,
  ⟨some 9, .mov (.t 0), none, [8, 13, 14, 15, 16, 17, 18], []⟩,
  ⟨some 10, .nck (.t 9), none, [8, 13, 14, 15, 16, 17, 18], [1]⟩,
  ⟨some 11, .fad 13 (.t 10), none, [8, 13, 14, 15, 16, 17, 18], [1, 2]⟩,
  ⟨some 12, .load false 1 (.t 11), none, [8, 13, 14, 15, 16, 17, 18], [1, 2, 3]⟩,
  ⟨some 13, .mov (.t 0), none, [8, 9, 10, 11, 12, 18], []⟩,
  ⟨some 14, .nck (.t 13), none, [8, 9, 10, 11, 12, 18], [5]⟩,
  ⟨some 15, .fad 0 (.t 14), none, [8, 9, 10, 11, 12, 18], [5, 6]⟩,
  ⟨some 16, .fad 6 (.t 15), none, [8, 9, 10, 11, 12, 18], [5, 6, 7]⟩,
  ⟨some 17, .load false 1 (.t 16), none, [8, 9, 10, 11, 12, 18], [5, 6, 7, 8]⟩,
  ⟨some 18, .load true 6 (.t 3), none, [8, 9, 10, 11, 12, 13, 14, 15, 16, 17], []⟩,
  ⟨some 19, .call false 94 [(.t 12), (.t 17), (.t 18)], none, [8], [1, 2, 3, 4, 5, 6, 7, 8, 9, 10]⟩,
  ⟨some 20, .nck (.t 8), none, [], [0, 1, 2, 3, 4, 5, 6, 7, 8, 9, 10, 11]⟩,
  ⟨some 21, .fad 13 (.t 20), none, [], [0, 1, 2, 3, 4, 5, 6, 7, 8, 9, 10, 11, 12]⟩,
  ⟨none, .store none 1 (.t 21) (.t 19), none, [], [0, 1, 2, 3, 4, 5, 6, 7, 8, 9, 10, 11, 12, 13]⟩] true) .skip)))
def i55 : F := ⟨2, 22, j55, []⟩
theorem b55 : i55.body = j55 := rfl
theorem q55 : i55.res = [] := rfl
theorem c55 : chkF Tryz.prog Tryz.f55 i55 = true := by kernel_rfl
theorem s55 {m : Model} {E : Nat → Model} (hE : ∀ f, Sound Tryz.prog f (E f)) (hm : ∀ args r, m args = some r → ∃ N, i55.ev E N args = some r) : Sound Tryz.prog 55 m := sound_of i55 Tryz.func55 rfl c55 hE hm
/--   bellwether/flow.taker .more -/
def j53 : C := (.seq (.region [⟨some 7, .mov (.t 0), none, [12, 13, 14, 15, 16], []⟩,
  ⟨some 8, .nck (.t 7), none, [12, 13, 14, 15, 16], [0]⟩,
  ⟨some 9, .fad 7 (.t 8), none, [12, 13, 14, 15, 16], [0, 1]⟩,
  ⟨some 10, .fad 4 (.t 9), none, [12, 13, 14, 15, 16], [0, 1, 2]⟩,
  ⟨some 11, .load false 1 (.t 10), none, [12, 13, 14, 15, 16], [0, 1, 2, 3]⟩,
  ⟨some 12, .mov (.t 0), none, [7, 8, 9, 10, 11], []⟩,
  ⟨some 13, .nck (.t 12), none, [7, 8, 9, 10, 11], [5]⟩,
  ⟨some 14, .fad 7 (.t 13), none, [7, 8, 9, 10, 11], [5, 6]⟩,
  ⟨some 15, .fad 1 (.t 14), none, [7, 8, 9, 10, 11], [5, 6, 7]⟩,
  ⟨some 16, .load false 1 (.t 15), none, [7, 8, 9, 10, 11], [5, 6, 7, 8]⟩,
  ⟨some 17, .call false 88 [(.t 11), (.t 16)], none, [], [0, 1, 2, 3, 4, 5, 6, 7, 8, 9]⟩,
  ⟨some 6, .mov (.t 17), none, [], [0, 1, 2, 3, 4, 5, 6, 7, 8, 9, 10]⟩,
  ⟨some 18, .ext (.t 6) 0, none, [19], [0, 1, 2, 3, 4, 5, 6, 7, 8, 9, 10, 11]⟩,
  ⟨some 19, .ext (.t 6) 1, none, [2, 18], [0, 1, 2, 3, 4, 5, 6, 7, 8, 9, 10, 11]⟩,
  ⟨some 2, .mov (.t 18), none, [19], [0, 1, 2, 3, 4, 5, 6, 7, 8, 9, 10, 11, 12]⟩,
  ⟨some 3, .mov (.t 19), none, [], [0, 1, 2, 3, 4, 5, 6, 7, 8, 9, 10, 11, 12, 13, 14]⟩] true)
 (.seq (.seq (.region [⟨some 20, .mov (.t 2), none, [], []⟩,
  ⟨some 21, .len (.t 20), none, [], []⟩,
  ⟨some 22, .mov (.c (.int .i64 0)), none, [], []⟩] false)
 (.block 0 (.loop (.keep [0, 3, 20, 21, 22] (.seq (.region [⟨some 23, .bin .lss (.t 22) (.t 21), none, [], []⟩] false)
 (.seq (.cond (.t 23) .skip (.exit 0))
 (.seq (.block 1 (.seq (.region [⟨some 24, .iad 2 (.t 20) (.t 22), none, [], []⟩,
  ⟨some 25, .load true 2 (.t 24), none, [], []⟩,
  ⟨some 5, .alloc [.int .i64 0, .int .i64 0], none, [], []⟩,
  ⟨none, .store none 2 (.t 5) (.t 25), none, [], []⟩] false)
 (.region [⟨some 26, .mov (.t 0), none, [], []⟩,
  ⟨some 27, .fad 1 (.t 5), none, [], []⟩,
  ⟨some 28, .load false 1 (.t 27), none, [], []⟩,
  ⟨some 29, .callo 52 [(.t 26), (.t 28)], none, [], []⟩] false)))
 (.region [⟨some 30, .bin .add (.t 22) (.c (.int .i64 1)), none, [], []⟩,
  ⟨some 22, .mov (.t 30), none, [], []⟩] false))))))))
 (.region [⟨some 31, .mov (.t 0), none, [], []⟩,
  ⟨some 32, .mov (.t 3), none, [], []⟩,
  ⟨some 33, .nck (.t 31), none, [], []⟩,
  ⟨some 34, .fad 7 (.t 33), none, [], []⟩,
  ⟨some 35, .fad 4 (.t 34), none, [], []⟩,
  ⟨none, .store none 1 (.t 35) (.t 32), none, [], []⟩] false)))
def i53 : F := ⟨1, 36, j53, []⟩
theorem b53 : i53.body = j53 := rfl
theorem q53 : i53.res = [] := rfl
theorem c53 : chkF Tryz.prog Tryz.f53 i53 = true := by kernel_rfl
theorem s53 {m : Model} {E : Nat → Model} (hE : ∀ f, Sound Tryz.prog f (E f)) (hm : ∀ args r, m args = some r → ∃ N, i53.ev E N args = some r) : Sound Tryz.prog 53 m := sound_of i53 Tryz.func53 rfl c53 hE hm
/--   bellwether/flow.taker .one -/
def j52 : C := (.seq (.region [⟨some 5, .mov (.t 0), none, [], []⟩,
  ⟨some 6, .nck (.t 5), none, [], []⟩,
  ⟨some 7, .fad 7 (.t 6), none, [], []⟩,
  ⟨some 8, .fad 1 (.t 7), none, [], []⟩,
  ⟨some 9, .load false 1 (.t 8), none, [], []⟩,
  ⟨some 10, .mov (.t 1), none, [], []⟩,
  ⟨some 11, .build [.int .i64 0, .int .i64 0] [(0, 1, (.t 9)), (1, 1, (.t 10))], none, [], []⟩,
  ⟨some 4, .alloc [.int .i64 0, .int .i64 0], none, [], []⟩,
  ⟨none, .store none 2 (.t 4) (.t 11), none, [], []⟩] false)
 (.seq (.region [⟨some 13, .mov (.t 0), none, [12, 14, 15, 16, 17, 18, 19, 20, 21, 22, 23, 24, 25, 26, 27, 28, 29, 30, 31, 32], []⟩,
  ⟨some 14, .mov (.t 0), none, [13, 19, 20, 21, 22, 23, 24, 25, 26, 27, 28, 29], []⟩,
  ⟨some 15, .nck (.t 14), none, [13, 19, 20, 21, 22, 23, 24, 25, 26, 27, 28, 29], [1]⟩,
  ⟨some 16, .fad 7 (.t 15), none, [13, 19, 20, 21, 22, 23, 24, 25, 26, 27, 28, 29], [1, 2]⟩,
  ⟨some 17, .fad 3 (.t 16), none, [13, 19, 20, 21, 22, 23, 24, 25, 26, 27, 28, 29], [1, 2, 3]⟩,
  ⟨some 18, .load false 1 (.t 17), none, [13, 19, 20, 21, 22, 23, 24, 25, 26, 27, 28, 29], [1, 2, 3, 4]⟩,
  ⟨some 19, .mov (.t 0), none, [13, 14, 15, 16, 17, 18, 24, 25, 26, 27, 28, 29], []⟩,
  ⟨some 20, .nck (.t 19), none, [13, 14, 15, 16, 17, 18, 24, 25, 26, 27, 28, 29], [6]⟩,
  ⟨some 21, .fad 7 (.t 20), none, [13, 14, 15, 16, 17, 18, 24, 25, 26, 27, 28, 29], [6, 7]⟩,
  ⟨some 22, .fad 1 (.t 21), none, [13, 14, 15, 16, 17, 18, 24, 25, 26, 27, 28, 29], [6, 7, 8]⟩,
  ⟨some 23, .load false 1 (.t 22), none, [13, 14, 15, 16, 17, 18, 24, 25, 26, 27, 28, 29], [6, 7, 8, 9]⟩,
  ⟨some 24, .mov (.t 0), none, [13, 14, 15, 16, 17, 18, 19, 20, 21, 22, 23, 29], []⟩,
  ⟨some 25, .nck (.t 24), none, [13, 14, 15, 16, 17, 18, 19, 20, 21, 22, 23, 29], [11]⟩,
  ⟨some 26, .fad 0 (.t 25), none, [13, 14, 15, 16, 17, 18, 19, 20, 21, 22, 23, 29], [11, 12]⟩,
  ⟨some 27, .fad 4 (.t 26), none, [13, 14, 15, 16, 17, 18, 19, 20, 21, 22, 23, 29], [11, 12, 13]⟩,
  ⟨some 28, .load false 1 (.t 27), none, [13, 14, 15, 16, 17, 18, 19, 20, 21, 22, 23, 29], [11, 12, 13, 14]⟩,
  ⟨some 29, .mov (.t 1), none, [13, 14, 15, 16, 17, 18, 19, 20, 21, 22, 23, 24, 25, 26, 27, 28], []⟩,
  ⟨some 30, .call true 87 [(.t 18), (.t 23), (.t 28), (.t 29)], none, [13], [1, 2, 3, 4, 5, 6, 7, 8, 9, 10, 11, 12, 13, 14, 15, 16]⟩,
  ⟨some 12, .mov (.t 30), none, [13], [1, 2, 3, 4, 5, 6, 7, 8, 9, 10, 11, 12, 13, 14, 15, 16, 17]⟩,
  ⟨some 31, .ext (.t 12) 0, none, [13, 32], [1, 2, 3, 4, 5, 6, 7, 8, 9, 10, 11, 12, 13, 14, 15, 16, 17, 18]⟩,
  ⟨some 32, .ext (.t 12) 1, none, [0, 13, 31, 33, 34, 35], [1, 2, 3, 4, 5, 6, 7, 8, 9, 10, 11, 12, 13, 14, 15, 16, 17, 18]⟩,
  ⟨some 33, .nck (.t 13), none, [32], [0, 1, 2, 3, 4, 5, 6, 7, 8, 9, 10, 11, 12, 13, 14, 15, 16, 17, 18, 19]⟩,
  ⟨some 34, .fad 7 (.t 33), none, [32], [0, 1, 2, 3, 4, 5, 6, 7, 8, 9, 10, 11, 12, 13, 14, 15, 16, 17, 18, 19, 21]⟩,
  ⟨some 35, .fad 3 (.t 34), none, [32], [0, 1, 2, 3, 4, 5, 6, 7, 8, 9, 10, 11, 12, 13, 14, 15, 16, 17, 18, 19, 21, 22]⟩,
  ⟨none, .store (some 0) 1 (.t 35) (.t 31), none, [32], [0, 1, 2, 3, 4, 5, 6, 7, 8, 9, 10, 11, 12, 13, 14, 15, 16, 17, 18, 19, 21, 22, 23]⟩] true)
 (.seq (.region [⟨some 36, .mov (.t 0), none, [37, 38, 39, 40, 41, 42, 43, 44, 45], []⟩,
  ⟨some 37, .mov (.t 0), none, [36, 42, 43, 44], []⟩,
  ⟨some 38, .nck (.t 37), none, [36, 42, 43, 44], [1]⟩,
  ⟨some 39, .fad 7 (.t 38), none, [36, 42, 43, 44], [1, 2]⟩,
  ⟨some 40, .fad 0 (.t 39), none, [36, 42, 43, 44], [1, 2, 3]⟩,
  ⟨some 41, .load false 1 (.t 40), none, [36, 42, 43, 44], [1, 2, 3, 4]⟩,
  ⟨some 42, .fad 0 (.t 4), none, [36, 37, 38, 39, 40, 41, 44], []⟩,
  ⟨some 43, .load false 1 (.t 42), none, [36, 37, 38, 39, 40, 41, 44], [6]⟩,
  ⟨some 44, .mov (.t 1), none, [36, 37, 38, 39, 40, 41, 42, 43], []⟩,
  ⟨some 45, .build [.int .i64 0, .int .i64 0, .int .i64 0, .int .i64 0, .int .i64 0, .int .i64 0] [(0, 1, (.c (.int .i64 1))), (1, 1, (.t 41)), (2, 1, (.t 43)), (4, 1, (.t 44))], none, [36], [1, 2, 3, 4, 5, 6, 7, 8]⟩,
  ⟨some 46, .callo 55 [(.t 36), (.t 45)], none, [], [0, 1, 2, 3, 4, 5, 6, 7, 8, 9]⟩] true)
 (.seq (.region [⟨some 47, .mov (.t 0), none, [48, 49, 50, 51, 52, 53, 54], []⟩,
  ⟨some 48, .mov (.t 0), none, [47, 52, 53], []⟩,
  ⟨some 49, .nck (.t 48), none, [47, 52, 53], [1]⟩,
  ⟨some 50, .fad 14 (.t 49), none, [47, 52, 53], [1, 2]⟩,
  ⟨some 51, .load false 1 (.t 50), none, [47, 52, 53], [1, 2, 3]⟩,
  ⟨some 52, .load true 2 (.t 4), none, [47, 48, 49, 50, 51], []⟩,
  ⟨some 53, .bsl 29 2 1 [.int .i64 0, .int .i64 0] [(0, (.t 52))], none, [47, 48, 49, 50, 51], [5]⟩,
  ⟨some 54, .app 29 2 16 (.t 51) (.t 53), none, [47], [1, 2, 3, 4, 5, 6]⟩,
  ⟨some 55, .nck (.t 47), none, [], [0, 1, 2, 3, 4, 5, 6, 7]⟩,
  ⟨some 56, .fad 14 (.t 55), none, [], [0, 1, 2, 3, 4, 5, 6, 7, 8]⟩,
  ⟨none, .store none 1 (.t 56) (.t 54), none, [], [0, 1, 2, 3, 4, 5, 6, 7, 8, 9]⟩] true)
 (.seq (.region [⟨some 57, .mov (.t 0), none, [], []⟩,
  ⟨some 58, .nck (.t 57), none, [], []⟩,
  ⟨some 59, .fad 7 (.t 58), none, [], []⟩,
  ⟨some 60, .fad 1 (.t 59), none, [], []⟩,
  ⟨some 61, .load false 1 (.t 60), none, [], []⟩,
  ⟨some 62, .bin .add (.t 61) (.c (.int .i64 1)), none, [], []⟩,
  ⟨some 63, .nck (.t 57), none, [], []⟩,
  ⟨some 64, .fad 7 (.t 63), none, [], []⟩,
  ⟨some 65, .fad 1 (.t 64), none, [], []⟩,
  ⟨none, .store none 1 (.t 65) (.t 62), none, [], []⟩] false)
 (.region [⟨some 66, .mov (.t 0), none, [67, 68, 69, 70, 71, 72, 73, 74, 75, 76, 77], []⟩,
  ⟨some 67, .mov (.t 0), none, [66, 72, 73, 74, 75, 76], []⟩,
  ⟨some 68, .nck (.t 67), none, [66, 72, 73, 74, 75, 76], [1]⟩,
  ⟨some 69, .fad 7 (.t 68), none, [66, 72, 73, 74, 75, 76], [1, 2]⟩,
  ⟨some 70, .fad 2 (.t 69), none, [66, 72, 73, 74, 75, 76], [1, 2, 3]⟩,
  ⟨some 71, .load false 1 (.t 70), none, [66, 72, 73, 74, 75, 76], [1, 2, 3, 4]⟩,
  ⟨some 72, .mov (.t 0), none, [66, 67, 68, 69, 70, 71], []⟩,
  ⟨some 73, .nck (.t 72), none, [66, 67, 68, 69, 70, 71], [6]⟩,
  ⟨some 74, .fad 7 (.t 73), none, [66, 67, 68, 69, 70, 71], [6, 7]⟩,
  ⟨some 75, .fad 1 (.t 74), none, [66, 67, 68, 69, 70, 71], [6, 7, 8]⟩,
  ⟨some 76, .load false 1 (.t 75), none, [66, 67, 68, 69, 70, 71], [6, 7, 8, 9]⟩,
  ⟨some 77, .mx (.t 71) (.t 76), none, [66], [1, 2, 3, 4, 5, 6, 7, 8, 9, 10]⟩,
  ⟨some 78, .nck (.t 66), none, [], [0, 1, 2, 3, 4, 5, 6, 7, 8, 9, 10, 11]⟩,
  ⟨some 79, .fad 7 (.t 78), none, [], [0, 1, 2, 3, 4, 5, 6, 7, 8, 9, 10, 11, 12]⟩,
  ⟨some 80, .fad 2 (.t 79), none, [], [0, 1, 2, 3, 4, 5, 6, 7, 8, 9, 10, 11, 12, 13]⟩,
  ⟨none, .store none 1 (.t 80) (.t 77), none, [], [0, 1, 2, 3, 4, 5, 6, 7, 8, 9, 10, 11, 12, 13, 14]⟩] true))))))
def i52 : F := ⟨2, 81, j52, []⟩
theorem b52 : i52.body = j52 := rfl
theorem q52 : i52.res = [] := rfl
theorem c52 : chkF Tryz.prog Tryz.f52 i52 = true := by kernel_rfl
theorem s52 {m : Model} {E : Nat → Model} (hE : ∀ f, Sound Tryz.prog f (E f)) (hm : ∀ args r, m args = some r → ∃ N, i52.ev E N args = some r) : Sound Tryz.prog 52 m := sound_of i52 Tryz.func52 rfl c52 hE hm
/-- bellwether/flow.within -/
def j50 : C := (.seq (.region [⟨some 2, .mov (.c (.bool false)), none, [], []⟩] false)
 (.seq (.region [⟨some 3, .mov (.t 0), none, [], []⟩,
  ⟨some 4, .bin .geq (.t 3) (.c (.int .i64 1)), none, [], []⟩,
  ⟨some 5, .mov (.t 4), none, [], []⟩,
  ⟨some 6, .mov (.t 0), some (5, true), [], []⟩,
  ⟨some 7, .bin .lss (.t 6) (.c (.int .i64 1073741824)), some (5, true), [], []⟩,
  ⟨some 8, .pick (.t 5) (.t 7) (.c (.bool false)), none, [], []⟩,
  ⟨some 2, .mov (.t 8), none, [], []⟩] false)
 .ret))
def i50 : F := ⟨1, 9, j50, [.t 2]⟩
theorem b50 : i50.body = j50 := rfl
theorem q50 : i50.res = [.t 2] := rfl
theorem c50 : chkF Tryz.prog Tryz.f50 i50 = true := by kernel_rfl
theorem s50 {m : Model} {E : Nat → Model} (hE : ∀ f, Sound Tryz.prog f (E f)) (hm : ∀ args r, m args = some r → ∃ N, i50.ev E N args = some r) : Sound Tryz.prog 50 m := sound_of i50 Tryz.func50 rfl c50 hE hm
/-- bellwether/flow.zero -/
def j98 : C := (.seq (.region [⟨some 1, .box (.t 0), none, [], []⟩,
  ⟨some 2, .mov (.c (.bool false)), none, [], []⟩] false)
 (.seq (.region [⟨some 3, .fad 0 (.t 1), none, [], []⟩,
  ⟨some 4, .load false 1 (.t 3), none, [], []⟩,
  ⟨some 5, .bin .eql (.t 4) (.c (.int .i64 0)), none, [], []⟩,
  ⟨some 6, .mov (.t 5), none, [], []⟩,
  ⟨some 7, .fad 1 (.t 1), some (6, true), [], []⟩,
  ⟨some 8, .load false 1 (.t 7), some (6, true), [], []⟩,
  ⟨some 9, .bin .eql (.t 8) (.c (.int .i64 0)), some (6, true), [], []⟩,
  ⟨some 10, .pick (.t 6) (.t 9) (.c (.bool false)), none, [], []⟩,
  ⟨some 11, .mov (.t 10), none, [], []⟩,
  ⟨some 12, .fad 2 (.t 1), some (11, true), [], []⟩,
  ⟨some 13, .load false 1 (.t 12), some (11, true), [], []⟩,
  ⟨some 14, .bin .eql (.t 13) (.c (.int .i64 0)), some (11, true), [], []⟩,
  ⟨some 15, .pick (.t 11) (.t 14) (.c (.bool false)), none, [], []⟩,
  ⟨some 16, .mov (.t 15), none, [], []⟩,
  ⟨some 17, .fad 3 (.t 1), some (16, true), [], []⟩,
  ⟨some 18, .load false 1 (.t 17), some (16, true), [], []⟩,
  ⟨some 19, .len (.t 18), some (16, true), [], []⟩,
  ⟨some 20, .bin .eql (.t 19) (.c (.int .i64 0)), some (16, true), [], []⟩,
  ⟨some 21, .pick (.t 16) (.t 20) (.c (.bool false)), none, [], []⟩,
  ⟨some 22, .mov (.t 21), none, [], []⟩,
  ⟨some 23, .fad 4 (.t 1), some (22, true), [], []⟩,
  ⟨some 24, .load false 1 (.t 23), some (22, true), [], []⟩,
  ⟨some 25, .len (.t 24), some (22, true), [], []⟩,
  ⟨some 26, .bin .eql (.t 25) (.c (.int .i64 0)), some (22, true), [], []⟩,
  ⟨some 27, .pick (.t 22) (.t 26) (.c (.bool false)), none, [], []⟩,
  ⟨some 2, .mov (.t 27), none, [], []⟩] false)
 .ret))
def i98 : F := ⟨1, 28, j98, [.t 2]⟩
theorem b98 : i98.body = j98 := rfl
theorem q98 : i98.res = [.t 2] := rfl
theorem c98 : chkF Tryz.prog Tryz.f98 i98 = true := by kernel_rfl
theorem s98 {m : Model} {E : Nat → Model} (hE : ∀ f, Sound Tryz.prog f (E f)) (hm : ∀ args r, m args = some r → ∃ N, i98.ev E N args = some r) : Sound Tryz.prog 98 m := sound_of i98 Tryz.func98 rfl c98 hE hm
/-- bellwether/keep.Check -/
def j99 : C := (.seq (.region [⟨some 6, .mov (.c (.int .i64 0)), none, [], []⟩] false)
 (.seq (.seq (.region [⟨some 7, .mov (.t 1), none, [], []⟩,
  ⟨some 8, .call false 46 [(.t 7)], none, [], []⟩,
  ⟨some 9, .un .not (.t 8), none, [], []⟩,
  ⟨some 10, .mov (.t 9), none, [], []⟩,
  ⟨some 11, .mov (.t 2), some (10, false), [], []⟩,
  ⟨some 12, .bin .lss (.t 11) (.c (.int .i64 1)), some (10, false), [], []⟩,
  ⟨some 13, .pick (.t 10) (.c (.bool true)) (.t 12), none, [], []⟩,
  ⟨some 14, .mov (.t 13), none, [], []⟩,
  ⟨some 15, .mov (.t 2), some (14, false), [], []⟩,
  ⟨some 16, .bin .gtr (.t 15) (.c (.int .i64 16)), some (14, false), [], []⟩,
  ⟨some 17, .pick (.t 14) (.c (.bool true)) (.t 16), none, [], []⟩,
  ⟨some 18, .mov (.t 17), none, [], []⟩,
  ⟨some 19, .mov (.t 0), some (18, false), [], []⟩,
  ⟨some 20, .len (.t 19), some (18, false), [], []⟩,
  ⟨some 21, .mov (.t 2), some (18, false), [], []⟩,
  ⟨some 22, .bin .gtr (.t 20) (.t 21), some (18, false), [], []⟩,
  ⟨some 23, .pick (.t 18) (.c (.bool true)) (.t 22), none, [], []⟩,
  ⟨some 24, .mov (.t 23), none, [], []⟩,
  ⟨some 25, .mov (.t 0), some (24, false), [], []⟩,
  ⟨some 26, .mov (.t 1), some (24, false), [], []⟩,
  ⟨some 27, .call false 126 [(.t 25), (.t 26)], some (24, false), [], []⟩,
  ⟨some 28, .un .not (.t 27), some (24, false), [], []⟩,
  ⟨some 29, .pick (.t 24) (.c (.bool true)) (.t 28), none, [], []⟩] false)
 (.cond (.t 29) (.seq (.region [⟨some 6, .mov (.c (.int .i64 1)), none, [], []⟩] false)
 .ret) .skip))
 (.seq (.region [⟨some 6, .mov (.c (.int .i64 0)), none, [], []⟩] false)
 .ret)))
def i99 : F := ⟨3, 30, j99, [.t 6]⟩
theorem b99 : i99.body = j99 := rfl
theorem q99 : i99.res = [.t 6] := rfl
theorem c99 : chkF Tryz.prog Tryz.f99 i99 = true := by kernel_rfl
theorem s99 {m : Model} {E : Nat → Model} (hE : ∀ f, Sound Tryz.prog f (E f)) (hm : ∀ args r, m args = some r → ∃ N, i99.ev E N args = some r) : Sound Tryz.prog 99 m := sound_of i99 Tryz.func99 rfl c99 hE hm
/-- bellwether/keep.Push -/
def j87 : C := (.seq (.region [⟨some 8, .mov (.c (.row [])), none, [], []⟩,
  ⟨some 9, .mov (.c (.int .i64 0)), none, [], []⟩] false)
 (.seq (.region [⟨some 12, .mov (.t 0), none, [], []⟩,
  ⟨some 13, .mov (.t 1), none, [], []⟩,
  ⟨some 14, .mov (.t 2), none, [], []⟩,
  ⟨some 15, .call false 99 [(.t 12), (.t 13), (.t 14)], none, [], []⟩,
  ⟨some 10, .mov (.t 15), none, [], []⟩] false)
 (.seq (.block 0 (.seq (.region [⟨some 17, .mov (.t 10), none, [], []⟩,
  ⟨some 18, .bin .neq (.t 17) (.c (.int .i64 0)), none, [], []⟩,
  ⟨some 19, .mov (.t 18), none, [], []⟩,
  ⟨some 20, .mov (.t 3), some (19, false), [], []⟩,
  ⟨some 21, .call false 51 [(.t 20)], some (19, false), [], []⟩,
  ⟨some 22, .un .not (.t 21), some (19, false), [], []⟩,
  ⟨some 23, .pick (.t 19) (.c (.bool true)) (.t 22), none, [], []⟩,
  ⟨some 16, .mov (.t 23), none, [], []⟩] false)
 (.cond (.t 16) (.seq (.region [⟨some 8, .mov (.c (.row [])), none, [], []⟩,
  ⟨some 9, .mov (.c (.int .i64 1)), none, [], []⟩] false)
 .ret) (.seq (.region [⟨some 25, .mov (.t 1), none, [], []⟩,
  ⟨some 26, .bin .geq (.t 25) (.c (.int .i64 1073741824)), none, [], []⟩,
  ⟨some 24, .mov (.t 26), none, [], []⟩] false)
 (.cond (.t 24) (.seq (.region [⟨some 8, .mov (.c (.row [])), none, [], []⟩,
  ⟨some 9, .mov (.c (.int .i64 11)), none, [], []⟩] false)
 .ret) .skip)))))
 (.seq (.region [⟨some 27, .mov (.t 0), none, [], []⟩,
  ⟨some 28, .call true 85 [(.t 27)], none, [], []⟩,
  ⟨some 29, .mov (.t 1), none, [], []⟩,
  ⟨some 30, .mov (.t 3), none, [], []⟩,
  ⟨some 31, .build [.int .i64 0, .int .i64 0] [(0, 1, (.t 29)), (1, 1, (.t 30))], none, [], []⟩,
  ⟨some 32, .bsl 29 2 1 [.int .i64 0, .int .i64 0] [(0, (.t 31))], none, [], []⟩,
  ⟨some 33, .app 29 2 16 (.t 28) (.t 32), none, [], []⟩,
  ⟨some 11, .mov (.t 33), none, [], []⟩] false)
 (.seq (.region [⟨some 34, .mov (.t 11), none, [], []⟩,
  ⟨some 35, .mov (.t 11), none, [], []⟩,
  ⟨some 36, .len (.t 35), none, [], []⟩,
  ⟨some 37, .mov (.t 2), none, [], []⟩,
  ⟨some 38, .bin .sub (.t 36) (.t 37), none, [], []⟩,
  ⟨some 39, .mx (.t 38) (.c (.int .i64 0)), none, [], []⟩,
  ⟨some 40, .cut 2 (.t 34) (some (.t 39)) none, none, [], []⟩,
  ⟨some 41, .call false 85 [(.t 40)], none, [], []⟩,
  ⟨some 8, .mov (.t 41), none, [], []⟩,
  ⟨some 9, .mov (.c (.int .i64 0)), none, [], []⟩] false)
 .ret)))))
def i87 : F := ⟨4, 42, j87, [.t 8, .t 9]⟩
theorem b87 : i87.body = j87 := rfl
theorem q87 : i87.res = [.t 8, .t 9] := rfl
theorem c87 : chkF Tryz.prog Tryz.f87 i87 = true := by kernel_rfl
theorem s87 {m : Model} {E : Nat → Model} (hE : ∀ f, Sound Tryz.prog f (E f)) (hm : ∀ args r, m args = some r → ∃ N, i87.ev E N args = some r) : Sound Tryz.prog 87 m := sound_of i87 Tryz.func87 rfl c87 hE hm
/-- bellwether/keep.right -/
def j126 : C := (.seq (.region [⟨some 4, .mov (.c (.bool false)), none, [], []⟩] false)
 (.seq (.seq (.region [⟨some 7, .mov (.t 0), none, [], []⟩,
  ⟨some 8, .len (.t 7), none, [], []⟩,
  ⟨some 9, .mov (.c (.int .i64 0)), none, [], []⟩] false)
 (.block 0 (.loop (.keep [0, 1, 7, 8, 9] (.seq (.region [⟨some 10, .bin .lss (.t 9) (.t 8), none, [], []⟩] false)
 (.seq (.cond (.t 10) .skip (.exit 0))
 (.seq (.block 1 (.seq (.region [⟨some 11, .mov (.t 9), none, [], []⟩,
  ⟨some 12, .iad 2 (.t 7) (.t 9), none, [], []⟩,
  ⟨some 13, .load true 2 (.t 12), none, [], []⟩,
  ⟨some 6, .alloc [.int .i64 0, .int .i64 0], none, [], []⟩,
  ⟨some 5, .mov (.t 11), none, [], []⟩,
  ⟨none, .store none 2 (.t 6) (.t 13), none, [], []⟩] false)
 (.seq (.region [⟨some 14, .fad 0 (.t 6), none, [], []⟩,
  ⟨some 15, .load false 1 (.t 14), none, [], []⟩,
  ⟨some 16, .bin .lss (.t 15) (.c (.int .i64 1)), none, [], []⟩,
  ⟨some 17, .mov (.t 16), none, [], []⟩,
  ⟨some 18, .fad 0 (.t 6), some (17, false), [], []⟩,
  ⟨some 19, .load false 1 (.t 18), some (17, false), [], []⟩,
  ⟨some 20, .mov (.t 1), some (17, false), [], []⟩,
  ⟨some 21, .mov (.t 0), some (17, false), [], []⟩,
  ⟨some 22, .len (.t 21), some (17, false), [], []⟩,
  ⟨some 23, .bin .sub (.t 20) (.t 22), some (17, false), [], []⟩,
  ⟨some 24, .mov (.t 5), some (17, false), [], []⟩,
  ⟨some 25, .bin .add (.t 23) (.t 24), some (17, false), [], []⟩,
  ⟨some 26, .bin .neq (.t 19) (.t 25), some (17, false), [], []⟩,
  ⟨some 27, .pick (.t 17) (.c (.bool true)) (.t 26), none, [], []⟩,
  ⟨some 28, .mov (.t 27), none, [], []⟩,
  ⟨some 29, .fad 1 (.t 6), some (28, false), [], []⟩,
  ⟨some 30, .load false 1 (.t 29), some (28, false), [], []⟩,
  ⟨some 31, .call false 51 [(.t 30)], some (28, false), [], []⟩,
  ⟨some 32, .un .not (.t 31), some (28, false), [], []⟩,
  ⟨some 33, .pick (.t 28) (.c (.bool true)) (.t 32), none, [], []⟩] false)
 (.cond (.t 33) (.seq (.region [⟨some 4, .mov (.c (.bool false)), none, [], []⟩] false)
 .ret) .skip))))
 (.region [⟨some 34, .bin .add (.t 9) (.c (.int .i64 1)), none, [], []⟩,
  ⟨some 9, .mov (.t 34), none, [], []⟩] false))))))))
 (.seq (.region [⟨some 4, .mov (.c (.bool true)), none, [], []⟩] false)
 .ret)))
def i126 : F := ⟨2, 35, j126, [.t 4]⟩
theorem b126 : i126.body = j126 := rfl
theorem q126 : i126.res = [.t 4] := rfl
theorem c126 : chkF Tryz.prog Tryz.f126 i126 = true := by kernel_rfl
theorem s126 {m : Model} {E : Nat → Model} (hE : ∀ f, Sound Tryz.prog f (E f)) (hm : ∀ args r, m args = some r → ∃ N, i126.ev E N args = some r) : Sound Tryz.prog 126 m := sound_of i126 Tryz.func126 rfl c126 hE hm
/-- bellwether/bellwetherlaw09.Conf -/
def j68 : C := (.seq (.region [⟨some 2, .alloc [.int .i64 0, .int .i64 0, .int .i64 0, .int .i64 0, .int .i64 0, .int .i64 0, .int .i64 0], none, [], []⟩] false)
 (.seq (.region [⟨some 3, .mov (.t 0), none, [], []⟩,
  ⟨some 4, .conv .u64 (.t 3), none, [], []⟩,
  ⟨some 5, .bin .rem (.t 4) (.c (.int .u64 1000000)), none, [], []⟩,
  ⟨some 6, .conv .i64 (.t 5), none, [], []⟩,
  ⟨some 0, .mov (.t 6), none, [], []⟩] false)
 (.seq (.region [⟨some 7, .mov (.t 0), none, [], []⟩,
  ⟨some 8, .bin .rem (.t 7) (.c (.int .i64 8)), none, [], []⟩,
  ⟨some 9, .bin .add (.c (.int .i64 1)) (.t 8), none, [], []⟩,
  ⟨some 10, .mov (.t 0), none, [], []⟩,
  ⟨some 11, .bin .quo (.t 10) (.c (.int .i64 8)), none, [], []⟩,
  ⟨some 12, .bin .rem (.t 11) (.c (.int .i64 4)), none, [], []⟩,
  ⟨some 13, .bin .add (.c (.int .i64 1)) (.t 12), none, [], []⟩,
  ⟨some 14, .mov (.t 0), none, [], []⟩,
  ⟨some 15, .bin .quo (.t 14) (.c (.int .i64 32)), none, [], []⟩,
  ⟨some 16, .bin .rem (.t 15) (.c (.int .i64 4)), none, [], []⟩,
  ⟨some 17, .bin .add (.c (.int .i64 1)) (.t 16), none, [], []⟩,
  ⟨some 18, .mov (.t 0), none, [], []⟩,
  ⟨some 19, .bin .quo (.t 18) (.c (.int .i64 128)), none, [], []⟩,
  ⟨some 20, .bin .rem (.t 19) (.c (.int .i64 8)), none, [], []⟩,
  ⟨some 21, .bin .add (.c (.int .i64 1)) (.t 20), none, [], []⟩,
  ⟨some 22, .mov (.t 0), none, [], []⟩,
  ⟨some 23, .bin .quo (.t 22) (.c (.int .i64 1024)), none, [], []⟩,
  ⟨some 24, .bin .rem (.t 23) (.c (.int .i64 16)), none, [], []⟩,
  ⟨some 25, .bin .add (.c (.int .i64 1)) (.t 24), none, [], []⟩,
  ⟨some 26, .mov (.t 0), none, [], []⟩,
  ⟨some 27, .bin .quo (.t 26) (.c (.int .i64 16)), none, [], []⟩,
  ⟨some 28, .bin .rem (.t 27) (.c (.int .i64 16)), none, [], []⟩,
  ⟨some 29, .bin .add (.c (.int .i64 1)) (.t 28), none, [], []⟩,
  ⟨some 30, .mov (.t 0), none, [], []⟩,
  ⟨some 31, .bin .quo (.t 30) (.c (.int .i64 64)), none, [], []⟩,
  ⟨some 32, .bin .rem (.t 31) (.c (.int .i64 31)), none, [], []⟩,
  ⟨some 33, .bin .add (.c (.int .i64 2)) (.t 32), none, [], []⟩,
  ⟨some 34, .build [.int .i64 0, .int .i64 0, .int .i64 0, .int .i64 0, .int .i64 0, .int .i64 0, .int .i64 0] [(0, 1, (.t 9)), (1, 1, (.t 13)), (2, 1, (.t 17)), (3, 1, (.t 21)), (4, 1, (.t 25)), (5, 1, (.t 29)), (6, 1, (.t 33))], none, [], []⟩,
  ⟨none, .store none 7 (.t 2) (.t 34), none, [], []⟩] false)
 .ret)))
def i68 : F := ⟨1, 35, j68, [.c 2 7 true]⟩
theorem b68 : i68.body = j68 := rfl
theorem q68 : i68.res = [.c 2 7 true] := rfl
theorem c68 : chkF Tryz.prog Tryz.f68 i68 = true := by kernel_rfl
theorem s68 {m : Model} {E : Nat → Model} (hE : ∀ f, Sound Tryz.prog f (E f)) (hm : ∀ args r, m args = some r → ∃ N, i68.ev E N args = some r) : Sound Tryz.prog 68 m := sound_of i68 Tryz.func68 rfl c68 hE hm
/-- bellwether/bellwetherlaw18.Heavy -/
def j9 : C := (.seq (.region [⟨some 2, .box (.t 0), none, [], []⟩,
  ⟨some 4, .mov (.c (.bool false)), none, [], []⟩] false)
 (.seq (.region [⟨some 5, .fad 3 (.t 2), none, [], []⟩,
  ⟨some 6, .load false 1 (.t 5), none, [], []⟩,
  ⟨some 7, .len (.t 6), none, [], []⟩,
  ⟨some 8, .bin .gtr (.t 7) (.c (.int .i64 30)), none, [], []⟩,
  ⟨some 9, .mov (.t 8), none, [], []⟩,
  ⟨some 10, .fad 4 (.t 2), some (9, false), [], []⟩,
  ⟨some 11, .load false 1 (.t 10), some (9, false), [], []⟩,
  ⟨some 12, .len (.t 11), some (9, false), [], []⟩,
  ⟨some 13, .bin .gtr (.t 12) (.c (.int .i64 30)), some (9, false), [], []⟩,
  ⟨some 14, .pick (.t 9) (.c (.bool true)) (.t 13), none, [], []⟩,
  ⟨some 15, .mov (.t 14), none, [], []⟩,
  ⟨some 16, .mov (.t 1), some (15, false), [], []⟩,
  ⟨some 17, .len (.t 16), some (15, false), [], []⟩,
  ⟨some 18, .bin .gtr (.t 17) (.c (.int .i64 50)), some (15, false), [], []⟩,
  ⟨some 19, .pick (.t 15) (.c (.bool true)) (.t 18), none, [], []⟩,
  ⟨some 4, .mov (.t 19), none, [], []⟩] false)
 .ret))
def i9 : F := ⟨2, 20, j9, [.t 4]⟩
theorem b9 : i9.body = j9 := rfl
theorem q9 : i9.res = [.t 4] := rfl
theorem c9 : chkF Tryz.prog Tryz.f9 i9 = true := by kernel_rfl
theorem s9 {m : Model} {E : Nat → Model} (hE : ∀ f, Sound Tryz.prog f (E f)) (hm : ∀ args r, m args = some r → ∃ N, i9.ev E N args = some r) : Sound Tryz.prog 9 m := sound_of i9 Tryz.func9 rfl c9 hE hm
/-- bellwether/bellwetherlaw18.wakes -/
def j27 : C := (.seq (.region [⟨some 0, .mov (.c (.bool false)), none, [], []⟩] false)
 (.seq (.region [⟨some 15, .call false 68 [(.c (.int .i64 1023))], none, [], []⟩,
  ⟨some 1, .alloc [.int .i64 0, .int .i64 0, .int .i64 0, .int .i64 0, .int .i64 0, .int .i64 0, .int .i64 0], none, [], []⟩,
  ⟨none, .store none 7 (.t 1) (.t 15), none, [], []⟩] false)
 (.seq (.region [⟨some 17, .load true 7 (.t 1), none, [], []⟩,
  ⟨some 18, .build [.int .i64 0, .int .i64 0, .int .i64 0, .row [], .row []] [], none, [], []⟩,
  ⟨some 19, .call false 12 [(.t 17), (.t 18), (.c (.int .i64 16)), (.c (.int .i64 1))], none, [], []⟩,
  ⟨some 16, .mov (.t 19), none, [], []⟩,
  ⟨some 20, .ext (.t 16) 0, none, [], []⟩,
  ⟨some 21, .ext (.t 16) 1, none, [], []⟩,
  ⟨some 2, .alloc [.int .i64 0, .int .i64 0, .int .i64 0, .row [], .row []], none, [], []⟩,
  ⟨none, .store none 5 (.t 2) (.t 20), none, [], []⟩,
  ⟨some 3, .mov (.t 21), none, [], []⟩] false)
 (.seq (.region [⟨some 23, .load true 7 (.t 1), none, [], []⟩,
  ⟨some 24, .load true 5 (.t 2), none, [], []⟩,
  ⟨some 25, .build [.int .i64 0, .int .i64 0] [(0, 1, (.c (.int .i64 2))), (1, 1, (.c (.int .i64 8)))], none, [], []⟩,
  ⟨some 26, .call false 13 [(.t 23), (.t 24), (.c (.bool true)), (.c (.row [])), (.c (.int .i64 16)), (.t 25)], none, [], []⟩,
  ⟨some 22, .mov (.t 26), none, [], []⟩,
  ⟨some 27, .ext (.t 22) 0, none, [], []⟩,
  ⟨some 28, .ext (.t 22) 1, none, [], []⟩,
  ⟨some 29, .ext (.t 22) 2, none, [], []⟩,
  ⟨some 30, .ext (.t 22) 3, none, [], []⟩,
  ⟨none, .store none 5 (.t 2) (.t 27), none, [], []⟩,
  ⟨some 4, .mov (.t 28), none, [], []⟩,
  ⟨some 5, .mov (.t 29), none, [], []⟩,
  ⟨some 6, .mov (.t 30), none, [], []⟩] false)
 (.seq (.region [⟨some 32, .load true 7 (.t 1), none, [], []⟩,
  ⟨some 33, .load true 5 (.t 2), none, [], []⟩,
  ⟨some 34, .mov (.t 4), none, [], []⟩,
  ⟨some 35, .build [.int .i64 0, .int .i64 0] [(0, 1, (.c (.int .i64 1))), (1, 1, (.c (.int .i64 7)))], none, [], []⟩,
  ⟨some 36, .call false 13 [(.t 32), (.t 33), (.c (.bool true)), (.t 34), (.c (.int .i64 16)), (.t 35)], none, [], []⟩,
  ⟨some 31, .mov (.t 36), none, [], []⟩,
  ⟨some 37, .ext (.t 31) 0, none, [], []⟩,
  ⟨some 38, .ext (.t 31) 1, none, [], []⟩,
  ⟨some 39, .ext (.t 31) 2, none, [], []⟩,
  ⟨some 40, .ext (.t 31) 3, none, [], []⟩,
  ⟨some 7, .alloc [.int .i64 0, .int .i64 0, .int .i64 0, .row [], .row []], none, [], []⟩,
  ⟨none, .store none 5 (.t 7) (.t 37), none, [], []⟩,
  ⟨some 8, .mov (.t 38), none, [], []⟩,
  ⟨some 9, .mov (.t 39), none, [], []⟩,
  ⟨some 10, .mov (.t 40), none, [], []⟩] false)
 (.seq (.region [⟨some 42, .load true 7 (.t 1), none, [], []⟩,
  ⟨some 43, .load true 5 (.t 7), none, [], []⟩,
  ⟨some 44, .call false 14 [(.t 42), (.t 43), (.c (.bool false)), (.c (.row [])), (.c (.int .i64 16)), (.c (.int .i64 2)), (.c (.int .i64 5))], none, [], []⟩,
  ⟨some 41, .mov (.t 44), none, [], []⟩,
  ⟨some 45, .ext (.t 41) 0, none, [], []⟩,
  ⟨some 46, .ext (.t 41) 1, none, [], []⟩,
  ⟨some 47, .ext (.t 41) 2, none, [], []⟩,
  ⟨some 48, .ext (.t 41) 3, none, [], []⟩,
  ⟨some 11, .alloc [.int .i64 0, .int .i64 0, .int .i64 0, .row [], .row []], none, [], []⟩,
  ⟨none, .store none 5 (.t 11) (.t 45), none, [], []⟩,
  ⟨some 12, .mov (.t 46), none, [], []⟩,
  ⟨some 13, .mov (.t 47), none, [], []⟩,
  ⟨some 14, .mov (.t 48), none, [], []⟩] false)
 (.seq (.region [⟨some 49, .mov (.t 3), none, [], []⟩,
  ⟨some 50, .bin .eql (.t 49) (.c (.int .i64 0)), none, [], []⟩,
  ⟨some 51, .mov (.t 50), none, [], []⟩,
  ⟨some 52, .mov (.t 6), some (51, true), [], []⟩,
  ⟨some 53, .bin .eql (.t 52) (.c (.int .i64 0)), some (51, true), [], []⟩,
  ⟨some 54, .pick (.t 51) (.t 53) (.c (.bool false)), none, [], []⟩,
  ⟨some 55, .mov (.t 54), none, [], []⟩,
  ⟨some 56, .mov (.t 5), some (55, true), [], []⟩,
  ⟨some 57, .len (.t 56), some (55, true), [], []⟩,
  ⟨some 58, .bin .eql (.t 57) (.c (.int .i64 0)), some (55, true), [], []⟩,
  ⟨some 59, .pick (.t 55) (.t 58) (.c (.bool false)), none, [], []⟩,
  ⟨some 60, .mov (.t 59), none, [], []⟩,
  ⟨some 61, .load true 5 (.t 2), some (60, true), [], []⟩,
  ⟨some 62, .call false 15 [(.t 61)], some (60, true), [], []⟩,
  ⟨some 63, .pick (.t 60) (.t 62) (.c (.bool false)), none, [], []⟩,
  ⟨some 64, .mov (.t 63), none, [], []⟩,
  ⟨some 65, .mov (.t 10), some (64, true), [], []⟩,
  ⟨some 66, .bin .eql (.t 65) (.c (.int .i64 0)), some (64, true), [], []⟩,
  ⟨some 67, .pick (.t 64) (.t 66) (.c (.bool false)), none, [], []⟩,
  ⟨some 68, .mov (.t 67), none, [], []⟩,
  ⟨some 69, .mov (.t 9), some (68, true), [], []⟩,
  ⟨some 70, .build [.int .i64 0, .int .i64 0] [(0, 1, (.c (.int .i64 1))), (1, 1, (.c (.int .i64 7)))], some (68, true), [], []⟩,
  ⟨some 71, .build [.int .i64 0, .int .i64 0] [(0, 1, (.c (.int .i64 2))), (1, 1, (.c (.int .i64 8)))], some (68, true), [], []⟩,
  ⟨some 72, .bsl 29 2 2 [.int .i64 0, .int .i64 0] [(0, (.t 70)), (1, (.t 71))], some (68, true), [], []⟩,
  ⟨some 73, .call false 26 [(.t 69), (.t 72)], some (68, true), [], []⟩,
  ⟨some 74, .pick (.t 68) (.t 73) (.c (.bool false)), none, [], []⟩,
  ⟨some 75, .mov (.t 74), none, [], []⟩,
  ⟨some 76, .fad 1 (.t 7), some (75, true), [], []⟩,
  ⟨some 77, .load false 1 (.t 76), some (75, true), [], []⟩,
  ⟨some 78, .bin .eql (.t 77) (.c (.int .i64 3)), some (75, true), [], []⟩,
  ⟨some 79, .pick (.t 75) (.t 78) (.c (.bool false)), none, [], []⟩,
  ⟨some 80, .mov (.t 79), none, [], []⟩,
  ⟨some 81, .mov (.t 8), some (80, true), [], []⟩,
  ⟨some 82, .len (.t 81), some (80, true), [], []⟩,
  ⟨some 83, .bin .eql (.t 82) (.c (.int .i64 2)), some (80, true), [], []⟩,
  ⟨some 84, .pick (.t 80) (.t 83) (.c (.bool false)), none, [], []⟩,
  ⟨some 85, .mov (.t 84), none, [], []⟩,
  ⟨some 86, .load true 5 (.t 7), some (85, true), [], []⟩,
  ⟨some 87, .call false 15 [(.t 86)], some (85, true), [], []⟩,
  ⟨some 88, .un .not (.t 87), some (85, true), [], []⟩,
  ⟨some 89, .pick (.t 85) (.t 88) (.c (.bool false)), none, [], []⟩,
  ⟨some 90, .mov (.t 89), none, [], []⟩,
  ⟨some 91, .mov (.t 14), some (90, true), [], []⟩,
  ⟨some 92, .bin .eql (.t 91) (.c (.int .i64 0)), some (90, true), [], []⟩,
  ⟨some 93, .pick (.t 90) (.t 92) (.c (.bool false)), none, [], []⟩,
  ⟨some 94, .mov (.t 93), none, [], []⟩,
  ⟨some 95, .fad 1 (.t 11), some (94, true), [], []⟩,
  ⟨some 96, .load false 1 (.t 95), some (94, true), [], []⟩,
  ⟨some 97, .bin .eql (.t 96) (.c (.int .i64 6)), some (94, true), [], []⟩,
  ⟨some 98, .pick (.t 94) (.t 97) (.c (.bool false)), none, [], []⟩,
  ⟨some 99, .mov (.t 98), none, [], []⟩,
  ⟨some 100, .load true 7 (.t 1), some (99, true), [], []⟩,
  ⟨some 101, .build [.int .i64 0, .int .i64 0, .int .i64 0, .row [], .row []] [(0, 1, (.c (.int .i64 16)))], some (99, true), [], []⟩,
  ⟨some 102, .call false 21 [(.t 100), (.t 101), (.c (.row []))], some (99, true), [], []⟩,
  ⟨some 103, .bin .eql (.t 102) (.c (.int .i64 1)), some (99, true), [], []⟩,
  ⟨some 104, .pick (.t 99) (.t 103) (.c (.bool false)), none, [], []⟩,
  ⟨some 0, .mov (.t 104), none, [], []⟩] false)
 .ret)))))))
def i27 : F := ⟨0, 105, j27, [.t 0]⟩
theorem b27 : i27.body = j27 := rfl
theorem q27 : i27.res = [.t 0] := rfl
theorem c27 : chkF Tryz.prog Tryz.f27 i27 = true := by kernel_rfl
theorem s27 {m : Model} {E : Nat → Model} (hE : ∀ f, Sound Tryz.prog f (E f)) (hm : ∀ args r, m args = some r → ∃ N, i27.ev E N args = some r) : Sound Tryz.prog 27 m := sound_of i27 Tryz.func27 rfl c27 hE hm
/-- bellwether/msg.Counted -/
def j46 : C := (.seq (.region [⟨some 2, .mov (.c (.bool false)), none, [], []⟩] false)
 (.seq (.region [⟨some 3, .mov (.t 0), none, [], []⟩,
  ⟨some 4, .call false 84 [(.t 3), (.c (.int .i64 1)), (.c (.int .i64 1073741824))], none, [], []⟩,
  ⟨some 2, .mov (.t 4), none, [], []⟩] false)
 .ret))
def i46 : F := ⟨1, 5, j46, [.t 2]⟩
theorem b46 : i46.body = j46 := rfl
theorem q46 : i46.res = [.t 2] := rfl
theorem c46 : chkF Tryz.prog Tryz.f46 i46 = true := by kernel_rfl
theorem s46 {m : Model} {E : Nat → Model} (hE : ∀ f, Sound Tryz.prog f (E f)) (hm : ∀ args r, m args = some r → ∃ N, i46.ev E N args = some r) : Sound Tryz.prog 46 m := sound_of i46 Tryz.func46 rfl c46 hE hm
/-- bellwether/msg.Value -/
def j51 : C := (.seq (.region [⟨some 2, .mov (.c (.bool false)), none, [], []⟩] false)
 (.seq (.region [⟨some 3, .mov (.t 0), none, [], []⟩,
  ⟨some 4, .call false 84 [(.t 3), (.c (.int .i64 0)), (.c (.int .i64 2147483647))], none, [], []⟩,
  ⟨some 2, .mov (.t 4), none, [], []⟩] false)
 .ret))
def i51 : F := ⟨1, 5, j51, [.t 2]⟩
theorem b51 : i51.body = j51 := rfl
theorem q51 : i51.res = [.t 2] := rfl
theorem c51 : chkF Tryz.prog Tryz.f51 i51 = true := by kernel_rfl
theorem s51 {m : Model} {E : Nat → Model} (hE : ∀ f, Sound Tryz.prog f (E f)) (hm : ∀ args r, m args = some r → ∃ N, i51.ev E N args = some r) : Sound Tryz.prog 51 m := sound_of i51 Tryz.func51 rfl c51 hE hm
/-- bellwether/msg.in -/
def j84 : C := (.seq (.region [⟨some 6, .mov (.c (.bool false)), none, [], []⟩] false)
 (.seq (.region [⟨some 7, .mov (.t 0), none, [], []⟩,
  ⟨some 8, .mov (.t 1), none, [], []⟩,
  ⟨some 9, .bin .geq (.t 7) (.t 8), none, [], []⟩,
  ⟨some 10, .mov (.t 9), none, [], []⟩,
  ⟨some 11, .mov (.t 0), some (10, true), [], []⟩,
  ⟨some 12, .mov (.t 2), some (10, true), [], []⟩,
  ⟨some 13, .bin .leq (.t 11) (.t 12), some (10, true), [], []⟩,
  ⟨some 14, .pick (.t 10) (.t 13) (.c (.bool false)), none, [], []⟩,
  ⟨some 6, .mov (.t 14), none, [], []⟩] false)
 .ret))
def i84 : F := ⟨3, 15, j84, [.t 6]⟩
theorem b84 : i84.body = j84 := rfl
theorem q84 : i84.res = [.t 6] := rfl
theorem c84 : chkF Tryz.prog Tryz.f84 i84 = true := by kernel_rfl
theorem s84 {m : Model} {E : Nat → Model} (hE : ∀ f, Sound Tryz.prog f (E f)) (hm : ∀ args r, m args = some r → ∃ N, i84.ev E N args = some r) : Sound Tryz.prog 84 m := sound_of i84 Tryz.func84 rfl c84 hE hm
/-- bellwether/queue.Check -/
def j64 : C := (.seq (.region [⟨some 4, .mov (.c (.int .i64 0)), none, [], []⟩] false)
 (.seq (.region [⟨some 6, .mov (.t 1), none, [], []⟩,
  ⟨some 7, .bin .lss (.t 6) (.c (.int .i64 2)), none, [], []⟩,
  ⟨some 8, .mov (.t 7), none, [], []⟩,
  ⟨some 9, .mov (.t 1), some (8, false), [], []⟩,
  ⟨some 10, .bin .gtr (.t 9) (.c (.int .i64 32)), some (8, false), [], []⟩,
  ⟨some 11, .pick (.t 8) (.c (.bool true)) (.t 10), none, [], []⟩,
  ⟨some 12, .mov (.t 11), none, [], []⟩,
  ⟨some 13, .mov (.t 0), some (12, false), [], []⟩,
  ⟨some 14, .len (.t 13), some (12, false), [], []⟩,
  ⟨some 15, .mov (.t 1), some (12, false), [], []⟩,
  ⟨some 16, .bin .gtr (.t 14) (.t 15), some (12, false), [], []⟩,
  ⟨some 17, .pick (.t 12) (.c (.bool true)) (.t 16), none, [], []⟩,
  ⟨some 5, .mov (.t 17), none, [], []⟩] false)
 (.seq (.region [⟨some 18, .mov (.t 5), none, [], []⟩,
  ⟨some 19, .mov (.t 18), none, [], []⟩,
  ⟨some 20, .mov (.t 0), some (19, false), [], []⟩,
  ⟨some 21, .call false 100 [(.t 20), (.c (.fn 101 []))], some (19, false), [], []⟩,
  ⟨some 22, .pick (.t 19) (.c (.bool true)) (.t 21), none, [], []⟩,
  ⟨some 5, .mov (.t 22), none, [], []⟩] false)
 (.seq (.seq (.region [⟨some 23, .mov (.t 5), none, [], []⟩,
  ⟨some 24, .mov (.t 23), none, [], []⟩,
  ⟨some 25, .mov (.t 0), some (24, false), [], []⟩,
  ⟨some 26, .len (.t 25), some (24, false), [], []⟩,
  ⟨some 27, .mov (.t 1), some (24, false), [], []⟩,
  ⟨some 28, .bin .eql (.t 26) (.t 27), some (24, false), [], []⟩,
  ⟨some 29, .mov (.t 28), some (24, false), [], []⟩,
  ⟨some 30, .mov (.t 0), some (29, true), [], []⟩,
  ⟨some 31, .mov (.t 1), some (29, true), [], []⟩,
  ⟨some 32, .bin .sub (.t 31) (.c (.int .i64 1)), some (29, true), [], []⟩,
  ⟨some 33, .iad 6 (.t 30) (.t 32), some (29, true), [], []⟩,
  ⟨some 34, .fad 0 (.t 33), some (29, true), [], []⟩,
  ⟨some 35, .load false 1 (.t 34), some (29, true), [], []⟩,
  ⟨some 36, .bin .neq (.t 35) (.c (.int .i64 2)), some (29, true), [], []⟩,
  ⟨some 37, .pick (.t 29) (.t 36) (.c (.bool false)), some (24, false), [], []⟩,
  ⟨some 38, .pick (.t 24) (.c (.bool true)) (.t 37), none, [], []⟩] false)
 (.cond (.t 38) (.seq (.region [⟨some 4, .mov (.c (.int .i64 1)), none, [], []⟩] false)
 .ret) .skip))
 (.seq (.region [⟨some 4, .mov (.c (.int .i64 0)), none, [], []⟩] false)
 .ret)))))
def i64 : F := ⟨2, 39, j64, [.t 4]⟩
theorem b64 : i64.body = j64 := rfl
theorem q64 : i64.res = [.t 4] := rfl
theorem c64 : chkF Tryz.prog Tryz.f64 i64 = true := by kernel_rfl
theorem s64 {m : Model} {E : Nat → Model} (hE : ∀ f, Sound Tryz.prog f (E f)) (hm : ∀ args r, m args = some r → ∃ N, i64.ev E N args = some r) : Sound Tryz.prog 64 m := sound_of i64 Tryz.func64 rfl c64 hE hm
/-- bellwether/queue.Check$1 -/
def j101 : C := (.seq (.region [⟨some 1, .box (.t 0), none, [], []⟩,
  ⟨some 2, .mov (.c (.bool false)), none, [], []⟩] false)
 (.seq (.region [⟨some 3, .load true 6 (.t 1), none, [], []⟩,
  ⟨some 4, .call false 102 [(.t 3)], none, [], []⟩,
  ⟨some 5, .bin .neq (.t 4) (.c (.int .i64 0)), none, [], []⟩,
  ⟨some 2, .mov (.t 5), none, [], []⟩] false)
 .ret))
def i101 : F := ⟨1, 6, j101, [.t 2]⟩
theorem b101 : i101.body = j101 := rfl
theorem q101 : i101.res = [.t 2] := rfl
theorem c101 : chkF Tryz.prog Tryz.f101 i101 = true := by kernel_rfl
theorem s101 {m : Model} {E : Nat → Model} (hE : ∀ f, Sound Tryz.prog f (E f)) (hm : ∀ args r, m args = some r → ∃ N, i101.ev E N args = some r) : Sound Tryz.prog 101 m := sound_of i101 Tryz.func101 rfl c101 hE hm
/-- bellwether/queue.Event -/
def j102 : C := (.seq (.region [⟨some 1, .box (.t 0), none, [], []⟩,
  ⟨some 2, .mov (.c (.int .i64 0)), none, [], []⟩] false)
 (.seq (.region [⟨some 6, .load true 6 (.t 1), none, [], []⟩,
  ⟨some 7, .call false 128 [(.t 6)], none, [], []⟩,
  ⟨some 5, .mov (.t 7), none, [], []⟩,
  ⟨some 8, .ext (.t 5) 0, none, [], []⟩,
  ⟨some 9, .ext (.t 5) 1, none, [], []⟩,
  ⟨some 3, .alloc [.int .i64 0, .int .i64 0, .int .i64 0, .int .i64 0, .int .i64 0, .int .i64 0], none, [], []⟩,
  ⟨none, .store none 6 (.t 3) (.t 8), none, [], []⟩,
  ⟨some 4, .mov (.t 9), none, [], []⟩] false)
 (.seq (.seq (.region [⟨some 10, .mov (.t 4), none, [], []⟩,
  ⟨some 11, .un .not (.t 10), none, [], []⟩,
  ⟨some 12, .mov (.t 11), none, [], []⟩,
  ⟨some 13, .load true 6 (.t 3), some (12, false), [], []⟩,
  ⟨some 14, .fad 0 (.t 1), some (12, false), [], []⟩,
  ⟨some 15, .load false 1 (.t 14), some (12, false), [], []⟩,
  ⟨some 16, .build [.int .i64 0, .int .i64 0, .int .i64 0, .int .i64 0, .int .i64 0, .int .i64 0] [(0, 1, (.t 15))], some (12, false), [], []⟩,
  ⟨some 17, .eqs true [true, true, true, true, true, true] (.t 13) (.t 16), some (12, false), [], []⟩,
  ⟨some 18, .pick (.t 12) (.c (.bool true)) (.t 17), none, [], []⟩] false)
 (.cond (.t 18) (.seq (.region [⟨some 2, .mov (.c (.int .i64 1)), none, [], []⟩] false)
 .ret) .skip))
 (.seq (.region [⟨some 2, .mov (.c (.int .i64 0)), none, [], []⟩] false)
 .ret))))
def i102 : F := ⟨1, 19, j102, [.t 2]⟩
theorem b102 : i102.body = j102 := rfl
theorem q102 : i102.res = [.t 2] := rfl
theorem c102 : chkF Tryz.prog Tryz.f102 i102 = true := by kernel_rfl
theorem s102 {m : Model} {E : Nat → Model} (hE : ∀ f, Sound Tryz.prog f (E f)) (hm : ∀ args r, m args = some r → ∃ N, i102.ev E N args = some r) : Sound Tryz.prog 102 m := sound_of i102 Tryz.func102 rfl c102 hE hm
/-- bellwether/queue.Fit -/
def j94 : C := (.seq (.region [⟨some 5, .box (.t 2), none, [], []⟩,
  ⟨some 6, .mov (.c (.row [])), none, [], []⟩] false)
 (.seq (.region [⟨some 10, .mov (.t 0), none, [], []⟩,
  ⟨some 11, .mov (.t 1), none, [], []⟩,
  ⟨some 12, .load true 6 (.t 5), none, [], []⟩,
  ⟨some 13, .call false 120 [(.t 10), (.t 11), (.t 12)], none, [], []⟩,
  ⟨some 9, .mov (.t 13), none, [], []⟩,
  ⟨some 14, .ext (.t 9) 0, none, [], []⟩,
  ⟨some 15, .ext (.t 9) 1, none, [], []⟩,
  ⟨some 7, .mov (.t 14), none, [], []⟩,
  ⟨some 8, .mov (.t 15), none, [], []⟩] false)
 (.seq (.seq (.region [⟨some 16, .mov (.t 8), none, [], []⟩,
  ⟨some 17, .bin .neq (.t 16) (.c (.int .i64 0)), none, [], []⟩] false)
 (.cond (.t 17) (.seq (.region [⟨some 18, .mov (.t 0), none, [], []⟩,
  ⟨some 19, .call false 86 [(.t 18)], none, [], []⟩,
  ⟨some 6, .mov (.t 19), none, [], []⟩] false)
 .ret) .skip))
 (.seq (.region [⟨some 20, .mov (.t 7), none, [], []⟩,
  ⟨some 6, .mov (.t 20), none, [], []⟩] false)
 .ret))))
def i94 : F := ⟨3, 21, j94, [.t 6]⟩
theorem b94 : i94.body = j94 := rfl
theorem q94 : i94.res = [.t 6] := rfl
theorem c94 : chkF Tryz.prog Tryz.f94 i94 = true := by kernel_rfl
theorem s94 {m : Model} {E : Nat → Model} (hE : ∀ f, Sound Tryz.prog f (E f)) (hm : ∀ args r, m args = some r → ∃ N, i94.ev E N args = some r) : Sound Tryz.prog 94 m := sound_of i94 Tryz.func94 rfl c94 hE hm
/-- bellwether/queue.Put -/
def j120 : C := (.seq (.region [⟨some 5, .box (.t 2), none, [], []⟩,
  ⟨some 6, .nilsl 96 6 0, none, [], []⟩,
  ⟨some 7, .mov (.c (.int .i64 0)), none, [], []⟩] false)
 (.seq (.seq (.region [⟨some 12, .mov (.t 0), none, [], []⟩,
  ⟨some 13, .mov (.t 1), none, [], []⟩,
  ⟨some 14, .call false 64 [(.t 12), (.t 13)], none, [], []⟩,
  ⟨some 15, .bin .neq (.t 14) (.c (.int .i64 0)), none, [], []⟩,
  ⟨some 16, .mov (.t 15), none, [], []⟩,
  ⟨some 17, .load true 6 (.t 5), some (16, false), [], []⟩,
  ⟨some 18, .call false 102 [(.t 17)], some (16, false), [], []⟩,
  ⟨some 19, .bin .neq (.t 18) (.c (.int .i64 0)), some (16, false), [], []⟩,
  ⟨some 20, .pick (.t 16) (.c (.bool true)) (.t 19), none, [], []⟩] false)
 (.cond (.t 20) (.seq (.region [⟨some 6, .nilsl 96 6 1, none, [], []⟩,
  ⟨some 7, .mov (.c (.int .i64 1)), none, [], []⟩] false)
 .ret) .skip))
 (.seq (.region [⟨some 21, .mov (.t 0), none, [], []⟩,
  ⟨some 22, .call true 86 [(.t 21)], none, [], []⟩,
  ⟨some 8, .mov (.t 22), none, [], []⟩] false)
 (.seq (.seq (.region [⟨some 23, .mov (.t 0), none, [], []⟩,
  ⟨some 24, .len (.t 23), none, [], []⟩,
  ⟨some 25, .mov (.t 1), none, [], []⟩,
  ⟨some 26, .bin .sub (.t 25) (.c (.int .i64 1)), none, [], []⟩,
  ⟨some 27, .bin .lss (.t 24) (.t 26), none, [], []⟩] false)
 (.cond (.t 27) (.seq (.region [⟨some 28, .mov (.t 8), none, [], []⟩,
  ⟨some 29, .load true 6 (.t 5), none, [], []⟩,
  ⟨some 30, .bsl 96 6 1 [.int .i64 0, .int .i64 0, .int .i64 0, .int .i64 0, .int .i64 0, .int .i64 0] [(0, (.t 29))], none, [], []⟩,
  ⟨some 31, .app 96 6 48 (.t 28) (.t 30), none, [], []⟩,
  ⟨some 6, .mov (.t 31), none, [], []⟩,
  ⟨some 7, .mov (.c (.int .i64 0)), none, [], []⟩] false)
 .ret) .skip))
 (.seq (.region [⟨some 33, .load true 6 (.t 5), none, [], []⟩,
  ⟨some 34, .call false 137 [(.t 33)], none, [], []⟩,
  ⟨some 32, .mov (.t 34), none, [], []⟩,
  ⟨some 35, .ext (.t 32) 0, none, [], []⟩,
  ⟨some 36, .ext (.t 32) 1, none, [], []⟩,
  ⟨some 9, .alloc [.int .i64 0, .int .i64 0, .int .i64 0, .int .i64 0, .int .i64 0, .int .i64 0], none, [], []⟩,
  ⟨none, .store none 6 (.t 9) (.t 35), none, [], []⟩,
  ⟨some 10, .mov (.t 36), none, [], []⟩] false)
 (.seq (.seq (.region [⟨some 37, .mov (.t 10), none, [], []⟩,
  ⟨some 38, .un .not (.t 37), none, [], []⟩] false)
 (.cond (.t 38) (.seq (.region [⟨some 6, .nilsl 96 6 2, none, [], []⟩,
  ⟨some 7, .mov (.c (.int .i64 6)), none, [], []⟩] false)
 .ret) .skip))
 (.seq (.seq (.region [⟨some 39, .mov (.t 0), none, [], []⟩,
  ⟨some 40, .len (.t 39), none, [], []⟩,
  ⟨some 41, .mov (.t 1), none, [], []⟩,
  ⟨some 42, .bin .lss (.t 40) (.t 41), none, [], []⟩] false)
 (.cond (.t 42) (.seq (.region [⟨some 43, .mov (.t 8), none, [], []⟩,
  ⟨some 44, .load true 6 (.t 9), none, [], []⟩,
  ⟨some 45, .bsl 96 6 1 [.int .i64 0, .int .i64 0, .int .i64 0, .int .i64 0, .int .i64 0, .int .i64 0] [(0, (.t 44))], none, [], []⟩,
  ⟨some 46, .app 96 6 48 (.t 43) (.t 45), none, [], []⟩,
  ⟨some 6, .mov (.t 46), none, [], []⟩,
  ⟨some 7, .mov (.c (.int .i64 0)), none, [], []⟩] false)
 .ret) .skip))
 (.seq (.region [⟨some 47, .mov (.t 8), none, [], []⟩,
  ⟨some 48, .mov (.t 1), none, [], []⟩,
  ⟨some 49, .bin .sub (.t 48) (.c (.int .i64 1)), none, [], []⟩,
  ⟨some 50, .iad 6 (.t 47) (.t 49), none, [], []⟩,
  ⟨some 11, .mov (.t 50), none, [], []⟩] false)
 (.seq (.seq (.region [⟨some 51, .fad 1 (.t 9), none, [53, 54, 55, 56], []⟩,
  ⟨some 52, .load false 1 (.t 51), none, [53, 54, 55, 56], [0]⟩,
  ⟨some 53, .mov (.t 11), none, [51, 52], []⟩,
  ⟨some 54, .nck (.t 53), none, [51, 52], [2]⟩,
  ⟨some 55, .fad 1 (.t 54), none, [51, 52], [2, 3]⟩,
  ⟨some 56, .load false 1 (.t 55), none, [51, 52], [2, 3, 4]⟩,
  ⟨some 57, .bin .neq (.t 52) (.t 56), none, [], [0, 1, 2, 3, 4, 5]⟩,
  ⟨some 58, .mov (.t 57), none, [], [0, 1, 2, 3, 4, 5, 6]⟩,
  ⟨some 59, .fad 2 (.t 9), some (58, false), [61, 62, 63, 64, 65], [0, 1, 2, 3, 4, 5, 6, 7]⟩,
  ⟨some 60, .load false 1 (.t 59), some (58, false), [61, 62, 63, 64, 65], [0, 1, 2, 3, 4, 5, 6, 7, 8]⟩,
  ⟨some 61, .mov (.t 11), some (58, false), [59, 60], [0, 1, 2, 3, 4, 5, 6, 7]⟩,
  ⟨some 62, .nck (.t 61), some (58, false), [59, 60], [0, 1, 2, 3, 4, 5, 6, 7, 10]⟩,
  ⟨some 63, .fad 3 (.t 62), some (58, false), [59, 60], [0, 1, 2, 3, 4, 5, 6, 7, 10, 11]⟩,
  ⟨some 64, .load false 1 (.t 63), some (58, false), [59, 60], [0, 1, 2, 3, 4, 5, 6, 7, 10, 11, 12]⟩,
  ⟨some 65, .bin .add (.t 64) (.c (.int .i64 1)), some (58, false), [59, 60], [0, 1, 2, 3, 4, 5, 6, 7, 10, 11, 12, 13]⟩,
  ⟨some 66, .bin .neq (.t 60) (.t 65), some (58, false), [], [0, 1, 2, 3, 4, 5, 6, 7, 8, 9, 10, 11, 12, 13, 14]⟩,
  ⟨some 67, .pick (.t 58) (.c (.bool true)) (.t 66), none, [], [0, 1, 2, 3, 4, 5, 6, 7, 8, 9, 10, 11, 12, 13, 14, 15]⟩] true)
 (.cond (.t 67) (.seq (.region [⟨some 6, .nilsl 96 6 3, none, [], []⟩,
  ⟨some 7, .mov (.c (.int .i64 6)), none, [], []⟩] false)
 .ret) .skip))
 (.seq (.region [⟨some 68, .mov (.t 11), none, [], []⟩,
  ⟨some 69, .fad 3 (.t 9), none, [], []⟩,
  ⟨some 70, .load false 1 (.t 69), none, [], []⟩,
  ⟨some 71, .nck (.t 68), none, [], []⟩,
  ⟨some 72, .fad 3 (.t 71), none, [], []⟩,
  ⟨none, .store none 1 (.t 72) (.t 70), none, [], []⟩] false)
 (.seq (.region [⟨some 73, .mov (.t 8), none, [], []⟩,
  ⟨some 6, .mov (.t 73), none, [], []⟩,
  ⟨some 7, .mov (.c (.int .i64 0)), none, [], []⟩] false)
 .ret)))))))))))
def i120 : F := ⟨3, 74, j120, [.t 6, .t 7]⟩
theorem b120 : i120.body = j120 := rfl
theorem q120 : i120.res = [.t 6, .t 7] := rfl
theorem c120 : chkF Tryz.prog Tryz.f120 i120 = true := by kernel_rfl
theorem s120 {m : Model} {E : Nat → Model} (hE : ∀ f, Sound Tryz.prog f (E f)) (hm : ∀ args r, m args = some r → ∃ N, i120.ev E N args = some r) : Sound Tryz.prog 120 m := sound_of i120 Tryz.func120 rfl c120 hE hm
/-- bellwether/queue.bare -/
def j128 : C := (.seq (.region [⟨some 1, .box (.t 0), none, [], []⟩,
  ⟨some 2, .alloc [.int .i64 0, .int .i64 0, .int .i64 0, .int .i64 0, .int .i64 0, .int .i64 0], none, [], []⟩,
  ⟨some 3, .mov (.c (.bool false)), none, [], []⟩] false)
 (.seq (.seq (.region [⟨some 4, .fad 0 (.t 1), none, [], []⟩,
  ⟨some 5, .load false 1 (.t 4), none, [], []⟩] false)
 (.block 0 (.seq (.region [⟨some 7, .bin .eql (.t 5) (.c (.int .i64 1)), none, [], []⟩,
  ⟨some 6, .mov (.t 7), none, [], []⟩] false)
 (.cond (.t 6) (.seq (.region [⟨some 8, .load true 6 (.t 1), none, [], []⟩,
  ⟨some 9, .call false 144 [(.t 8)], none, [], []⟩,
  ⟨some 10, .mov (.t 9), none, [], []⟩,
  ⟨some 11, .fad 4 (.t 1), some (10, true), [], []⟩,
  ⟨some 12, .load false 1 (.t 11), some (10, true), [], []⟩,
  ⟨some 13, .call false 51 [(.t 12)], some (10, true), [], []⟩,
  ⟨some 14, .pick (.t 10) (.t 13) (.c (.bool false)), none, [], []⟩,
  ⟨some 3, .mov (.t 14), none, [], []⟩] false)
 (.region [⟨some 15, .fad 1 (.t 1), none, [], []⟩,
  ⟨none, .store none 1 (.t 15) (.c (.int .i64 0)), none, [], []⟩,
  ⟨some 16, .fad 2 (.t 1), none, [], []⟩,
  ⟨none, .store none 1 (.t 16) (.c (.int .i64 0)), none, [], []⟩,
  ⟨some 17, .fad 4 (.t 1), none, [], []⟩,
  ⟨none, .store none 1 (.t 17) (.c (.int .i64 0)), none, [], []⟩] false)) (.seq (.region [⟨some 19, .bin .eql (.t 5) (.c (.int .i64 2)), none, [], []⟩,
  ⟨some 18, .mov (.t 19), none, [], []⟩] false)
 (.cond (.t 18) (.seq (.region [⟨some 20, .load true 6 (.t 1), none, [], []⟩,
  ⟨some 21, .call false 144 [(.t 20)], none, [], []⟩,
  ⟨some 22, .mov (.t 21), none, [], []⟩,
  ⟨some 23, .fad 3 (.t 1), some (22, true), [], []⟩,
  ⟨some 24, .load false 1 (.t 23), some (22, true), [], []⟩,
  ⟨some 25, .fad 2 (.t 1), some (22, true), [], []⟩,
  ⟨some 26, .load false 1 (.t 25), some (22, true), [], []⟩,
  ⟨some 27, .bin .geq (.t 24) (.t 26), some (22, true), [], []⟩,
  ⟨some 28, .pick (.t 22) (.t 27) (.c (.bool false)), none, [], []⟩,
  ⟨some 29, .mov (.t 28), none, [], []⟩,
  ⟨some 30, .fad 3 (.t 1), some (29, true), [], []⟩,
  ⟨some 31, .load false 1 (.t 30), some (29, true), [], []⟩,
  ⟨some 32, .bin .leq (.t 31) (.c (.int .i64 1073741824)), some (29, true), [], []⟩,
  ⟨some 33, .pick (.t 29) (.t 32) (.c (.bool false)), none, [], []⟩,
  ⟨some 3, .mov (.t 33), none, [], []⟩] false)
 (.region [⟨some 34, .fad 1 (.t 1), none, [], []⟩,
  ⟨none, .store none 1 (.t 34) (.c (.int .i64 0)), none, [], []⟩,
  ⟨some 35, .fad 2 (.t 1), none, [], []⟩,
  ⟨none, .store none 1 (.t 35) (.c (.int .i64 0)), none, [], []⟩,
  ⟨some 36, .fad 3 (.t 1), none, [], []⟩,
  ⟨none, .store none 1 (.t 36) (.c (.int .i64 0)), none, [], []⟩] false)) (.seq (.region [⟨some 38, .bin .eql (.t 5) (.c (.int .i64 3)), none, [], []⟩,
  ⟨some 37, .mov (.t 38), none, [], []⟩] false)
 (.cond (.t 37) (.seq (.region [⟨some 39, .fad 5 (.t 1), none, [], []⟩,
  ⟨some 40, .load false 1 (.t 39), none, [], []⟩,
  ⟨some 41, .call false 145 [(.t 40)], none, [], []⟩,
  ⟨some 42, .mov (.t 41), none, [], []⟩,
  ⟨some 43, .fad 4 (.t 1), some (42, true), [], []⟩,
  ⟨some 44, .load false 1 (.t 43), some (42, true), [], []⟩,
  ⟨some 45, .call false 83 [(.t 44)], some (42, true), [], []⟩,
  ⟨some 46, .pick (.t 42) (.t 45) (.c (.bool false)), none, [], []⟩,
  ⟨some 3, .mov (.t 46), none, [], []⟩] false)
 (.region [⟨some 47, .fad 5 (.t 1), none, [], []⟩,
  ⟨none, .store none 1 (.t 47) (.c (.int .i64 0)), none, [], []⟩,
  ⟨some 48, .fad 4 (.t 1), none, [], []⟩,
  ⟨none, .store none 1 (.t 48) (.c (.int .i64 0)), none, [], []⟩] false)) (.seq (.region [⟨some 50, .bin .eql (.t 5) (.c (.int .i64 4)), none, [], []⟩,
  ⟨some 49, .mov (.t 50), none, [], []⟩] false)
 (.cond (.t 49) (.seq (.region [⟨some 51, .fad 5 (.t 1), none, [], []⟩,
  ⟨some 52, .load false 1 (.t 51), none, [], []⟩,
  ⟨some 53, .call false 145 [(.t 52)], none, [], []⟩,
  ⟨some 3, .mov (.t 53), none, [], []⟩] false)
 (.region [⟨some 54, .fad 5 (.t 1), none, [], []⟩,
  ⟨none, .store none 1 (.t 54) (.c (.int .i64 0)), none, [], []⟩] false)) (.seq (.region [⟨some 56, .bin .eql (.t 5) (.c (.int .i64 5)), none, [], []⟩,
  ⟨some 55, .mov (.t 56), none, [], []⟩] false)
 (.cond (.t 55) (.region [⟨some 3, .mov (.c (.bool true)), none, [], []⟩] false) .skip))))))))))))
 (.seq (.region [⟨some 57, .load true 6 (.t 1), none, [], []⟩,
  ⟨some 58, .mov (.t 3), none, [], []⟩,
  ⟨none, .store none 6 (.t 2) (.t 57), none, [], []⟩,
  ⟨some 3, .mov (.t 58), none, [], []⟩] false)
 .ret)))
def i128 : F := ⟨1, 59, j128, [.c 2 6 true, .t 3]⟩
theorem b128 : i128.body = j128 := rfl
theorem q128 : i128.res = [.c 2 6 true, .t 3] := rfl
theorem c128 : chkF Tryz.prog Tryz.f128 i128 = true := by kernel_rfl
theorem s128 {m : Model} {E : Nat → Model} (hE : ∀ f, Sound Tryz.prog f (E f)) (hm : ∀ args r, m args = some r → ∃ N, i128.ev E N args = some r) : Sound Tryz.prog 128 m := sound_of i128 Tryz.func128 rfl c128 hE hm
/-- bellwether/queue.call -/
def j145 : C := (.seq (.region [⟨some 2, .mov (.c (.bool false)), none, [], []⟩] false)
 (.seq (.region [⟨some 3, .mov (.t 0), none, [], []⟩,
  ⟨some 4, .bin .geq (.t 3) (.c (.int .i64 1)), none, [], []⟩,
  ⟨some 5, .mov (.t 4), none, [], []⟩,
  ⟨some 6, .mov (.t 0), some (5, true), [], []⟩,
  ⟨some 7, .bin .leq (.t 6) (.c (.int .i64 40)), some (5, true), [], []⟩,
  ⟨some 8, .pick (.t 5) (.t 7) (.c (.bool false)), none, [], []⟩,
  ⟨some 2, .mov (.t 8), none, [], []⟩] false)
 .ret))
def i145 : F := ⟨1, 9, j145, [.t 2]⟩
theorem b145 : i145.body = j145 := rfl
theorem q145 : i145.res = [.t 2] := rfl
theorem c145 : chkF Tryz.prog Tryz.f145 i145 = true := by kernel_rfl
theorem s145 {m : Model} {E : Nat → Model} (hE : ∀ f, Sound Tryz.prog f (E f)) (hm : ∀ args r, m args = some r → ∃ N, i145.ev E N args = some r) : Sound Tryz.prog 145 m := sound_of i145 Tryz.func145 rfl c145 hE hm
/-- bellwether/queue.gap -/
def j137 : C := (.seq (.region [⟨some 1, .box (.t 0), none, [], []⟩,
  ⟨some 2, .alloc [.int .i64 0, .int .i64 0, .int .i64 0, .int .i64 0, .int .i64 0, .int .i64 0], none, [], []⟩,
  ⟨some 3, .mov (.c (.bool false)), none, [], []⟩] false)
 (.seq (.seq (.region [⟨some 4, .fad 0 (.t 1), none, [], []⟩,
  ⟨some 5, .load false 1 (.t 4), none, [], []⟩] false)
 (.block 0 (.seq (.region [⟨some 7, .bin .eql (.t 5) (.c (.int .i64 1)), none, [], []⟩,
  ⟨some 6, .mov (.t 7), none, [], []⟩] false)
 (.cond (.t 6) (.seq (.region [⟨some 8, .fad 1 (.t 1), none, [], []⟩,
  ⟨some 9, .load false 1 (.t 8), none, [], []⟩,
  ⟨some 10, .fad 2 (.t 1), none, [], []⟩,
  ⟨some 11, .load false 1 (.t 10), none, [], []⟩,
  ⟨some 12, .fad 2 (.t 1), none, [], []⟩,
  ⟨some 13, .load false 1 (.t 12), none, [], []⟩,
  ⟨some 14, .build [.int .i64 0, .int .i64 0, .int .i64 0, .int .i64 0, .int .i64 0, .int .i64 0] [(0, 1, (.c (.int .i64 2))), (1, 1, (.t 9)), (2, 1, (.t 11)), (3, 1, (.t 13))], none, [], []⟩,
  ⟨none, .store none 6 (.t 2) (.t 14), none, [], []⟩,
  ⟨some 3, .mov (.c (.bool true)), none, [], []⟩] false)
 .ret) (.seq (.region [⟨some 16, .bin .eql (.t 5) (.c (.int .i64 2)), none, [], []⟩,
  ⟨some 15, .mov (.t 16), none, [], []⟩] false)
 (.cond (.t 15) (.seq (.region [⟨some 17, .load true 6 (.t 1), none, [], []⟩,
  ⟨none, .store none 6 (.t 2) (.t 17), none, [], []⟩,
  ⟨some 3, .mov (.c (.bool true)), none, [], []⟩] false)
 .ret) .skip))))))
 (.seq (.region [⟨some 18, .build [.int .i64 0, .int .i64 0, .int .i64 0, .int .i64 0, .int .i64 0, .int .i64 0] [], none, [], []⟩,
  ⟨none, .store none 6 (.t 2) (.t 18), none, [], []⟩,
  ⟨some 3, .mov (.c (.bool false)), none, [], []⟩] false)
 .ret)))
def i137 : F := ⟨1, 19, j137, [.c 2 6 true, .t 3]⟩
theorem b137 : i137.body = j137 := rfl
theorem q137 : i137.res = [.c 2 6 true, .t 3] := rfl
theorem c137 : chkF Tryz.prog Tryz.f137 i137 = true := by kernel_rfl
theorem s137 {m : Model} {E : Nat → Model} (hE : ∀ f, Sound Tryz.prog f (E f)) (hm : ∀ args r, m args = some r → ∃ N, i137.ev E N args = some r) : Sound Tryz.prog 137 m := sound_of i137 Tryz.func137 rfl c137 hE hm
/-- bellwether/queue.place -/
def j144 : C := (.seq (.region [⟨some 1, .box (.t 0), none, [], []⟩,
  ⟨some 2, .mov (.c (.bool false)), none, [], []⟩] false)
 (.seq (.region [⟨some 3, .fad 1 (.t 1), none, [], []⟩,
  ⟨some 4, .load false 1 (.t 3), none, [], []⟩,
  ⟨some 5, .call false 45 [(.t 4)], none, [], []⟩,
  ⟨some 6, .bin .eql (.t 5) (.c (.int .i64 0)), none, [], []⟩,
  ⟨some 7, .mov (.t 6), none, [], []⟩,
  ⟨some 8, .fad 2 (.t 1), some (7, true), [], []⟩,
  ⟨some 9, .load false 1 (.t 8), some (7, true), [], []⟩,
  ⟨some 10, .call false 46 [(.t 9)], some (7, true), [], []⟩,
  ⟨some 11, .pick (.t 7) (.t 10) (.c (.bool false)), none, [], []⟩,
  ⟨some 2, .mov (.t 11), none, [], []⟩] false)
 .ret))
def i144 : F := ⟨1, 12, j144, [.t 2]⟩
theorem b144 : i144.body = j144 := rfl
theorem q144 : i144.res = [.t 2] := rfl
theorem c144 : chkF Tryz.prog Tryz.f144 i144 = true := by kernel_rfl
theorem s144 {m : Model} {E : Nat → Model} (hE : ∀ f, Sound Tryz.prog f (E f)) (hm : ∀ args r, m args = some r → ∃ N, i144.ev E N args = some r) : Sound Tryz.prog 144 m := sound_of i144 Tryz.func144 rfl c144 hE hm
/-- bellwether/bellwetherref01.Config -/
def j18 : C := (.seq (.region [⟨some 1, .box (.t 0), none, [], []⟩,
  ⟨some 2, .mov (.c (.bool false)), none, [], []⟩] false)
 (.seq (.region [⟨some 3, .fad 0 (.t 1), none, [], []⟩,
  ⟨some 4, .load false 1 (.t 3), none, [], []⟩,
  ⟨some 5, .call false 56 [(.t 4), (.c (.int .i64 1)), (.c (.int .i64 8))], none, [], []⟩,
  ⟨some 6, .mov (.t 5), none, [], []⟩,
  ⟨some 7, .fad 1 (.t 1), some (6, true), [], []⟩,
  ⟨some 8, .load false 1 (.t 7), some (6, true), [], []⟩,
  ⟨some 9, .call false 56 [(.t 8), (.c (.int .i64 1)), (.c (.int .i64 4))], some (6, true), [], []⟩,
  ⟨some 10, .pick (.t 6) (.t 9) (.c (.bool false)), none, [], []⟩,
  ⟨some 11, .mov (.t 10), none, [], []⟩,
  ⟨some 12, .fad 2 (.t 1), some (11, true), [], []⟩,
  ⟨some 13, .load false 1 (.t 12), some (11, true), [], []⟩,
  ⟨some 14, .call false 56 [(.t 13), (.c (.int .i64 1)), (.c (.int .i64 4))], some (11, true), [], []⟩,
  ⟨some 15, .pick (.t 11) (.t 14) (.c (.bool false)), none, [], []⟩,
  ⟨some 16, .mov (.t 15), none, [], []⟩,
  ⟨some 17, .fad 3 (.t 1), some (16, true), [], []⟩,
  ⟨some 18, .load false 1 (.t 17), some (16, true), [], []⟩,
  ⟨some 19, .call false 56 [(.t 18), (.c (.int .i64 1)), (.c (.int .i64 8))], some (16, true), [], []⟩,
  ⟨some 20, .pick (.t 16) (.t 19) (.c (.bool false)), none, [], []⟩,
  ⟨some 21, .mov (.t 20), none, [], []⟩,
  ⟨some 22, .fad 4 (.t 1), some (21, true), [], []⟩,
  ⟨some 23, .load false 1 (.t 22), some (21, true), [], []⟩,
  ⟨some 24, .call false 56 [(.t 23), (.c (.int .i64 1)), (.c (.int .i64 16))], some (21, true), [], []⟩,
  ⟨some 25, .pick (.t 21) (.t 24) (.c (.bool false)), none, [], []⟩,
  ⟨some 26, .mov (.t 25), none, [], []⟩,
  ⟨some 27, .fad 5 (.t 1), some (26, true), [], []⟩,
  ⟨some 28, .load false 1 (.t 27), some (26, true), [], []⟩,
  ⟨some 29, .call false 56 [(.t 28), (.c (.int .i64 1)), (.c (.int .i64 16))], some (26, true), [], []⟩,
  ⟨some 30, .pick (.t 26) (.t 29) (.c (.bool false)), none, [], []⟩,
  ⟨some 31, .mov (.t 30), none, [], []⟩,
  ⟨some 32, .fad 6 (.t 1), some (31, true), [], []⟩,
  ⟨some 33, .load false 1 (.t 32), some (31, true), [], []⟩,
  ⟨some 34, .call false 56 [(.t 33), (.c (.int .i64 2)), (.c (.int .i64 32))], some (31, true), [], []⟩,
  ⟨some 35, .pick (.t 31) (.t 34) (.c (.bool false)), none, [], []⟩,
  ⟨some 2, .mov (.t 35), none, [], []⟩] false)
 .ret))
def i18 : F := ⟨1, 36, j18, [.t 2]⟩
theorem b18 : i18.body = j18 := rfl
theorem q18 : i18.res = [.t 2] := rfl
theorem c18 : chkF Tryz.prog Tryz.f18 i18 = true := by kernel_rfl
theorem s18 {m : Model} {E : Nat → Model} (hE : ∀ f, Sound Tryz.prog f (E f)) (hm : ∀ args r, m args = some r → ∃ N, i18.ev E N args = some r) : Sound Tryz.prog 18 m := sound_of i18 Tryz.func18 rfl c18 hE hm
/-- bellwether/bellwetherref01.In -/
def j56 : C := (.seq (.region [⟨some 6, .mov (.c (.bool false)), none, [], []⟩] false)
 (.seq (.region [⟨some 7, .mov (.t 0), none, [], []⟩,
  ⟨some 8, .mov (.t 1), none, [], []⟩,
  ⟨some 9, .bin .geq (.t 7) (.t 8), none, [], []⟩,
  ⟨some 10, .mov (.t 9), none, [], []⟩,
  ⟨some 11, .mov (.t 0), some (10, true), [], []⟩,
  ⟨some 12, .mov (.t 2), some (10, true), [], []⟩,
  ⟨some 13, .bin .leq (.t 11) (.t 12), some (10, true), [], []⟩,
  ⟨some 14, .pick (.t 10) (.t 13) (.c (.bool false)), none, [], []⟩,
  ⟨some 6, .mov (.t 14), none, [], []⟩] false)
 .ret))
def i56 : F := ⟨3, 15, j56, [.t 6]⟩
theorem b56 : i56.body = j56 := rfl
theorem q56 : i56.res = [.t 6] := rfl
theorem c56 : chkF Tryz.prog Tryz.f56 i56 = true := by kernel_rfl
theorem s56 {m : Model} {E : Nat → Model} (hE : ∀ f, Sound Tryz.prog f (E f)) (hm : ∀ args r, m args = some r → ∃ N, i56.ev E N args = some r) : Sound Tryz.prog 56 m := sound_of i56 Tryz.func56 rfl c56 hE hm
/-- bellwether/bellwetherref01.IsNode -/
def j121 : C := (.seq (.region [⟨some 2, .mov (.c (.bool false)), none, [], []⟩] false)
 (.seq (.region [⟨some 3, .mov (.t 0), none, [], []⟩,
  ⟨some 4, .call false 56 [(.t 3), (.c (.int .i64 0)), (.c (.int .i64 7))], none, [], []⟩,
  ⟨some 2, .mov (.t 4), none, [], []⟩] false)
 .ret))
def i121 : F := ⟨1, 5, j121, [.t 2]⟩
theorem b121 : i121.body = j121 := rfl
theorem q121 : i121.res = [.t 2] := rfl
theorem c121 : chkF Tryz.prog Tryz.f121 i121 = true := by kernel_rfl
theorem s121 {m : Model} {E : Nat → Model} (hE : ∀ f, Sound Tryz.prog f (E f)) (hm : ∀ args r, m args = some r → ∃ N, i121.ev E N args = some r) : Sound Tryz.prog 121 m := sound_of i121 Tryz.func121 rfl c121 hE hm
/-- bellwether/bellwetherref01.Value -/
def j24 : C := (.seq (.region [⟨some 2, .mov (.c (.bool false)), none, [], []⟩] false)
 (.seq (.region [⟨some 3, .mov (.t 0), none, [], []⟩,
  ⟨some 4, .call false 56 [(.t 3), (.c (.int .i64 0)), (.c (.int .i64 2147483647))], none, [], []⟩,
  ⟨some 2, .mov (.t 4), none, [], []⟩] false)
 .ret))
def i24 : F := ⟨1, 5, j24, [.t 2]⟩
theorem b24 : i24.body = j24 := rfl
theorem q24 : i24.res = [.t 2] := rfl
theorem c24 : chkF Tryz.prog Tryz.f24 i24 = true := by kernel_rfl
theorem s24 {m : Model} {E : Nat → Model} (hE : ∀ f, Sound Tryz.prog f (E f)) (hm : ∀ args r, m args = some r → ∃ N, i24.ev E N args = some r) : Sound Tryz.prog 24 m := sound_of i24 Tryz.func24 rfl c24 hE hm
/-- bellwether/bellwetherref10.Add -/
def j67 : C := (.seq (.region [⟨some 7, .box (.t 3), none, [], []⟩,
  ⟨some 8, .nilsl 29 2 0, none, [], []⟩,
  ⟨some 9, .mov (.c (.int .i64 0)), none, [], []⟩] false)
 (.seq (.seq (.region [⟨some 13, .fad 0 (.t 7), none, [], []⟩,
  ⟨some 14, .load false 1 (.t 13), none, [], []⟩,
  ⟨some 15, .mov (.t 1), none, [], []⟩,
  ⟨some 16, .bin .leq (.t 14) (.t 15), none, [], []⟩,
  ⟨some 17, .mov (.t 16), none, [], []⟩,
  ⟨some 18, .fad 0 (.t 7), some (17, false), [], []⟩,
  ⟨some 19, .load false 1 (.t 18), some (17, false), [], []⟩,
  ⟨some 20, .mov (.t 1), some (17, false), [], []⟩,
  ⟨some 21, .mov (.t 2), some (17, false), [], []⟩,
  ⟨some 22, .bin .add (.t 20) (.t 21), some (17, false), [], []⟩,
  ⟨some 23, .bin .geq (.t 19) (.t 22), some (17, false), [], []⟩,
  ⟨some 24, .pick (.t 17) (.c (.bool true)) (.t 23), none, [], []⟩,
  ⟨some 25, .mov (.t 24), none, [], []⟩,
  ⟨some 26, .fad 0 (.t 7), some (25, false), [], []⟩,
  ⟨some 27, .load false 1 (.t 26), some (25, false), [], []⟩,
  ⟨some 28, .bin .geq (.t 27) (.c (.int .i64 1073741824)), some (25, false), [], []⟩,
  ⟨some 29, .pick (.t 25) (.c (.bool true)) (.t 28), none, [], []⟩] false)
 (.cond (.t 29) (.seq (.region [⟨some 8, .nilsl 29 2 1, none, [], []⟩,
  ⟨some 9, .mov (.c (.int .i64 6)), none, [], []⟩] false)
 .ret) .skip))
 (.seq (.region [⟨some 10, .nilsl 29 2 0, none, [], []⟩] false)
 (.seq (.region [⟨some 11, .mov (.c (.bool false)), none, [], []⟩] false)
 (.seq (.seq (.region [⟨some 12, .mov (.c (.int .i64 0)), none, [], []⟩] false)
 (.block 0 (.loop (.keep [0, 7, 10, 11, 12] (.seq (.seq (.region [⟨some 30, .mov (.t 12), none, [], []⟩,
  ⟨some 31, .mov (.t 0), none, [], []⟩,
  ⟨some 32, .len (.t 31), none, [], []⟩,
  ⟨some 33, .bin .lss (.t 30) (.t 32), none, [], []⟩] false)
 (.cond (.t 33) .skip (.exit 0)))
 (.seq (.block 1 (.seq (.seq (.region [⟨some 36, .mov (.t 0), none, [37, 41, 42], []⟩,
  ⟨some 37, .mov (.t 12), none, [36, 41, 42], []⟩,
  ⟨some 38, .iad 2 (.t 36) (.t 37), none, [41, 42], [0, 1]⟩,
  ⟨some 39, .fad 0 (.t 38), none, [41, 42], [0, 1, 2]⟩,
  ⟨some 40, .load false 1 (.t 39), none, [41, 42], [0, 1, 2, 3]⟩,
  ⟨some 41, .fad 0 (.t 7), none, [36, 37, 38, 39, 40], []⟩,
  ⟨some 42, .load false 1 (.t 41), none, [36, 37, 38, 39, 40], [5]⟩,
  ⟨some 43, .bin .eql (.t 40) (.t 42), none, [], [0, 1, 2, 3, 4, 5, 6]⟩] true)
 (.cond (.t 43) (.seq (.region [⟨some 8, .nilsl 29 2 2, none, [], []⟩,
  ⟨some 9, .mov (.c (.int .i64 8)), none, [], []⟩] false)
 .ret) .skip))
 (.seq (.seq (.region [⟨some 44, .mov (.t 11), none, [], []⟩,
  ⟨some 45, .un .not (.t 44), none, [], [0]⟩,
  ⟨some 46, .mov (.t 45), none, [], [0, 1]⟩,
  ⟨some 47, .fad 0 (.t 7), some (46, true), [49, 50, 51, 52, 53], [0, 1, 2]⟩,
  ⟨some 48, .load false 1 (.t 47), some (46, true), [49, 50, 51, 52, 53], [0, 1, 2, 3]⟩,
  ⟨some 49, .mov (.t 0), some (46, true), [47, 48, 50], [0, 1, 2]⟩,
  ⟨some 50, .mov (.t 12), some (46, true), [47, 48, 49], [0, 1, 2]⟩,
  ⟨some 51, .iad 2 (.t 49) (.t 50), some (46, true), [47, 48], [0, 1, 2, 5, 6]⟩,
  ⟨some 52, .fad 0 (.t 51), some (46, true), [47, 48], [0, 1, 2, 5, 6, 7]⟩,
  ⟨some 53, .load false 1 (.t 52), some (46, true), [47, 48], [0, 1, 2, 5, 6, 7, 8]⟩,
  ⟨some 54, .bin .lss (.t 48) (.t 53), some (46, true), [], [0, 1, 2, 3, 4, 5, 6, 7, 8, 9]⟩,
  ⟨some 55, .pick (.t 46) (.t 54) (.c (.bool false)), none, [], [0, 1, 2, 3, 4, 5, 6, 7, 8, 9, 10]⟩] true)
 (.cond (.t 55) (.region [⟨some 56, .mov (.t 10), none, [], []⟩,
  ⟨some 57, .load true 2 (.t 7), none, [], []⟩,
  ⟨some 58, .bsl 29 2 1 [.int .i64 0, .int .i64 0] [(0, (.t 57))], none, [], []⟩,
  ⟨some 59, .app 29 2 16 (.t 56) (.t 58), none, [], []⟩,
  ⟨some 10, .mov (.t 59), none, [], []⟩,
  ⟨some 11, .mov (.c (.bool true)), none, [], []⟩] false) .skip))
 (.region [⟨some 60, .mov (.t 10), none, [], []⟩,
  ⟨some 61, .mov (.t 0), none, [], []⟩,
  ⟨some 62, .mov (.t 12), none, [], []⟩,
  ⟨some 63, .iad 2 (.t 61) (.t 62), none, [], []⟩,
  ⟨some 64, .load true 2 (.t 63), none, [], []⟩,
  ⟨some 65, .bsl 29 2 1 [.int .i64 0, .int .i64 0] [(0, (.t 64))], none, [], []⟩,
  ⟨some 66, .app 29 2 16 (.t 60) (.t 65), none, [], []⟩,
  ⟨some 10, .mov (.t 66), none, [], []⟩] false))))
 (.region [⟨some 34, .mov (.t 12), none, [], []⟩,
  ⟨some 35, .bin .add (.t 34) (.c (.int .i64 1)), none, [], []⟩,
  ⟨some 12, .mov (.t 35), none, [], []⟩] false)))))))
 (.seq (.seq (.region [⟨some 67, .mov (.t 11), none, [], []⟩,
  ⟨some 68, .un .not (.t 67), none, [], []⟩] false)
 (.cond (.t 68) (.region [⟨some 69, .mov (.t 10), none, [], []⟩,
  ⟨some 70, .load true 2 (.t 7), none, [], []⟩,
  ⟨some 71, .bsl 29 2 1 [.int .i64 0, .int .i64 0] [(0, (.t 70))], none, [], []⟩,
  ⟨some 72, .app 29 2 16 (.t 69) (.t 71), none, [], []⟩,
  ⟨some 10, .mov (.t 72), none, [], []⟩] false) .skip))
 (.seq (.region [⟨some 73, .mov (.t 10), none, [], []⟩,
  ⟨some 8, .mov (.t 73), none, [], []⟩,
  ⟨some 9, .mov (.c (.int .i64 0)), none, [], []⟩] false)
 .ret)))))))
def i67 : F := ⟨4, 74, j67, [.t 8, .t 9]⟩
theorem b67 : i67.body = j67 := rfl
theorem q67 : i67.res = [.t 8, .t 9] := rfl
theorem c67 : chkF Tryz.prog Tryz.f67 i67 = true := by kernel_rfl
theorem s67 {m : Model} {E : Nat → Model} (hE : ∀ f, Sound Tryz.prog f (E f)) (hm : ∀ args r, m args = some r → ∃ N, i67.ev E N args = some r) : Sound Tryz.prog 67 m := sound_of i67 Tryz.func67 rfl c67 hE hm
/-- bellwether/bellwetherref10.Ahead2 -/
def j60 : C := (.seq (.region [⟨some 6, .mov (.c (.bool false)), none, [], []⟩] false)
 (.seq (.seq (.region [⟨some 8, .mov (.t 1), none, [], []⟩,
  ⟨some 9, .call false 58 [(.t 8), (.c (.int .i64 1)), (.c (.int .i64 1073741824))], none, [], []⟩,
  ⟨some 10, .un .not (.t 9), none, [], []⟩,
  ⟨some 11, .mov (.t 10), none, [], []⟩,
  ⟨some 12, .mov (.t 2), some (11, false), [], []⟩,
  ⟨some 13, .call false 58 [(.t 12), (.c (.int .i64 1)), (.c (.int .i64 16))], some (11, false), [], []⟩,
  ⟨some 14, .un .not (.t 13), some (11, false), [], []⟩,
  ⟨some 15, .pick (.t 11) (.c (.bool true)) (.t 14), none, [], []⟩] false)
 (.cond (.t 15) (.seq (.region [⟨some 6, .mov (.c (.bool false)), none, [], []⟩] false)
 .ret) .skip))
 (.seq (.seq (.region [⟨some 7, .mov (.c (.int .i64 0)), none, [], []⟩] false)
 (.block 0 (.loop (.keep [0, 1, 2, 7] (.seq (.seq (.region [⟨some 16, .mov (.t 7), none, [], []⟩,
  ⟨some 17, .mov (.t 0), none, [], []⟩,
  ⟨some 18, .len (.t 17), none, [], []⟩,
  ⟨some 19, .bin .lss (.t 16) (.t 18), none, [], []⟩] false)
 (.cond (.t 19) .skip (.exit 0)))
 (.seq (.block 1 (.seq (.region [⟨some 22, .mov (.t 0), none, [23, 27], []⟩,
  ⟨some 23, .mov (.t 7), none, [22, 27], []⟩,
  ⟨some 24, .iad 2 (.t 22) (.t 23), none, [27], [0, 1]⟩,
  ⟨some 25, .fad 0 (.t 24), none, [27], [0, 1, 2]⟩,
  ⟨some 26, .load false 1 (.t 25), none, [27], [0, 1, 2, 3]⟩,
  ⟨some 27, .mov (.t 1), none, [22, 23, 24, 25, 26], []⟩,
  ⟨some 28, .bin .leq (.t 26) (.t 27), none, [], [0, 1, 2, 3, 4, 5]⟩,
  ⟨some 29, .mov (.t 28), none, [], [0, 1, 2, 3, 4, 5, 6]⟩,
  ⟨some 30, .mov (.t 0), some (29, false), [31, 35, 36, 37], [0, 1, 2, 3, 4, 5, 6, 7]⟩,
  ⟨some 31, .mov (.t 7), some (29, false), [30, 35, 36, 37], [0, 1, 2, 3, 4, 5, 6, 7]⟩,
  ⟨some 32, .iad 2 (.t 30) (.t 31), some (29, false), [35, 36, 37], [0, 1, 2, 3, 4, 5, 6, 7, 8, 9]⟩,
  ⟨some 33, .fad 0 (.t 32), some (29, false), [35, 36, 37], [0, 1, 2, 3, 4, 5, 6, 7, 8, 9, 10]⟩,
  ⟨some 34, .load false 1 (.t 33), some (29, false), [35, 36, 37], [0, 1, 2, 3, 4, 5, 6, 7, 8, 9, 10, 11]⟩,
  ⟨some 35, .mov (.t 1), some (29, false), [30, 31, 32, 33, 34, 36], [0, 1, 2, 3, 4, 5, 6, 7]⟩,
  ⟨some 36, .mov (.t 2), some (29, false), [30, 31, 32, 33, 34, 35], [0, 1, 2, 3, 4, 5, 6, 7]⟩,
  ⟨some 37, .bin .add (.t 35) (.t 36), some (29, false), [30, 31, 32, 33, 34], [0, 1, 2, 3, 4, 5, 6, 7, 13, 14]⟩,
  ⟨some 38, .bin .geq (.t 34) (.t 37), some (29, false), [], [0, 1, 2, 3, 4, 5, 6, 7, 8, 9, 10, 11, 12, 13, 14, 15]⟩,
  ⟨some 39, .pick (.t 29) (.c (.bool true)) (.t 38), none, [], [0, 1, 2, 3, 4, 5, 6, 7, 8, 9, 10, 11, 12, 13, 14, 15, 16]⟩,
  ⟨some 40, .mov (.t 39), none, [], [0, 1, 2, 3, 4, 5, 6, 7, 8, 9, 10, 11, 12, 13, 14, 15, 16, 17]⟩,
  ⟨some 41, .mov (.t 0), some (40, false), [42], [0, 1, 2, 3, 4, 5, 6, 7, 8, 9, 10, 11, 12, 13, 14, 15, 16, 17, 18]⟩,
  ⟨some 42, .mov (.t 7), some (40, false), [41], [0, 1, 2, 3, 4, 5, 6, 7, 8, 9, 10, 11, 12, 13, 14, 15, 16, 17, 18]⟩,
  ⟨some 43, .iad 2 (.t 41) (.t 42), some (40, false), [], [0, 1, 2, 3, 4, 5, 6, 7, 8, 9, 10, 11, 12, 13, 14, 15, 16, 17, 18, 19, 20]⟩,
  ⟨some 44, .fad 0 (.t 43), some (40, false), [], [0, 1, 2, 3, 4, 5, 6, 7, 8, 9, 10, 11, 12, 13, 14, 15, 16, 17, 18, 19, 20, 21]⟩,
  ⟨some 45, .load false 1 (.t 44), some (40, false), [], [0, 1, 2, 3, 4, 5, 6, 7, 8, 9, 10, 11, 12, 13, 14, 15, 16, 17, 18, 19, 20, 21, 22]⟩,
  ⟨some 46, .bin .geq (.t 45) (.c (.int .i64 1073741824)), some (40, false), [], [0, 1, 2, 3, 4, 5, 6, 7, 8, 9, 10, 11, 12, 13, 14, 15, 16, 17, 18, 19, 20, 21, 22, 23]⟩,
  ⟨some 47, .pick (.t 40) (.c (.bool true)) (.t 46), none, [], [0, 1, 2, 3, 4, 5, 6, 7, 8, 9, 10, 11, 12, 13, 14, 15, 16, 17, 18, 19, 20, 21, 22, 23, 24]⟩,
  ⟨some 48, .mov (.t 47), none, [], [0, 1, 2, 3, 4, 5, 6, 7, 8, 9, 10, 11, 12, 13, 14, 15, 16, 17, 18, 19, 20, 21, 22, 23, 24, 25]⟩,
  ⟨some 49, .mov (.t 7), some (48, false), [], [0, 1, 2, 3, 4, 5, 6, 7, 8, 9, 10, 11, 12, 13, 14, 15, 16, 17, 18, 19, 20, 21, 22, 23, 24, 25, 26]⟩,
  ⟨some 50, .bin .gtr (.t 49) (.c (.int .i64 0)), some (48, false), [], [0, 1, 2, 3, 4, 5, 6, 7, 8, 9, 10, 11, 12, 13, 14, 15, 16, 17, 18, 19, 20, 21, 22, 23, 24, 25, 26, 27]⟩,
  ⟨some 51, .mov (.t 50), some (48, false), [], [0, 1, 2, 3, 4, 5, 6, 7, 8, 9, 10, 11, 12, 13, 14, 15, 16, 17, 18, 19, 20, 21, 22, 23, 24, 25, 26, 27, 28]⟩,
  ⟨some 52, .mov (.t 0), some (51, true), [53, 57, 58, 59, 60, 61, 62], [0, 1, 2, 3, 4, 5, 6, 7, 8, 9, 10, 11, 12, 13, 14, 15, 16, 17, 18, 19, 20, 21, 22, 23, 24, 25, 26, 27, 28, 29]⟩,
  ⟨some 53, .mov (.t 7), some (51, true), [52, 57, 58, 59, 60, 61, 62], [0, 1, 2, 3, 4, 5, 6, 7, 8, 9, 10, 11, 12, 13, 14, 15, 16, 17, 18, 19, 20, 21, 22, 23, 24, 25, 26, 27, 28, 29]⟩,
  ⟨some 54, .iad 2 (.t 52) (.t 53), some (51, true), [57, 58, 59, 60, 61, 62], [0, 1, 2, 3, 4, 5, 6, 7, 8, 9, 10, 11, 12, 13, 14, 15, 16, 17, 18, 19, 20, 21, 22, 23, 24, 25, 26, 27, 28, 29, 30, 31]⟩,
  ⟨some 55, .fad 0 (.t 54), some (51, true), [57, 58, 59, 60, 61, 62], [0, 1, 2, 3, 4, 5, 6, 7, 8, 9, 10, 11, 12, 13, 14, 15, 16, 17, 18, 19, 20, 21, 22, 23, 24, 25, 26, 27, 28, 29, 30, 31, 32]⟩,
  ⟨some 56, .load false 1 (.t 55), some (51, true), [57, 58, 59, 60, 61, 62], [0, 1, 2, 3, 4, 5, 6, 7, 8, 9, 10, 11, 12, 13, 14, 15, 16, 17, 18, 19, 20, 21, 22, 23, 24, 25, 26, 27, 28, 29, 30, 31, 32, 33]⟩,
  ⟨some 57, .mov (.t 0), some (51, true), [52, 53, 54, 55, 56, 58, 59], [0, 1, 2, 3, 4, 5, 6, 7, 8, 9, 10, 11, 12, 13, 14, 15, 16, 17, 18, 19, 20, 21, 22, 23, 24, 25, 26, 27, 28, 29]⟩,
  ⟨some 58, .mov (.t 7), some (51, true), [52, 53, 54, 55, 56, 57], [0, 1, 2, 3, 4, 5, 6, 7, 8, 9, 10, 11, 12, 13, 14, 15, 16, 17, 18, 19, 20, 21, 22, 23, 24, 25, 26, 27, 28, 29]⟩,
  ⟨some 59, .bin .sub (.t 58) (.c (.int .i64 1)), some (51, true), [52, 53, 54, 55, 56, 57], [0, 1, 2, 3, 4, 5, 6, 7, 8, 9, 10, 11, 12, 13, 14, 15, 16, 17, 18, 19, 20, 21, 22, 23, 24, 25, 26, 27, 28, 29, 36]⟩,
  ⟨some 60, .iad 2 (.t 57) (.t 59), some (51, true), [52, 53, 54, 55, 56], [0, 1, 2, 3, 4, 5, 6, 7, 8, 9, 10, 11, 12, 13, 14, 15, 16, 17, 18, 19, 20, 21, 22, 23, 24, 25, 26, 27, 28, 29, 35, 36, 37]⟩,
  ⟨some 61, .fad 0 (.t 60), some (51, true), [52, 53, 54, 55, 56], [0, 1, 2, 3, 4, 5, 6, 7, 8, 9, 10, 11, 12, 13, 14, 15, 16, 17, 18, 19, 20, 21, 22, 23, 24, 25, 26, 27, 28, 29, 35, 36, 37, 38]⟩,
  ⟨some 62, .load false 1 (.t 61), some (51, true), [52, 53, 54, 55, 56], [0, 1, 2, 3, 4, 5, 6, 7, 8, 9, 10, 11, 12, 13, 14, 15, 16, 17, 18, 19, 20, 21, 22, 23, 24, 25, 26, 27, 28, 29, 35, 36, 37, 38, 39]⟩,
  ⟨some 63, .bin .leq (.t 56) (.t 62), some (51, true), [], [0, 1, 2, 3, 4, 5, 6, 7, 8, 9, 10, 11, 12, 13, 14, 15, 16, 17, 18, 19, 20, 21, 22, 23, 24, 25, 26, 27, 28, 29, 30, 31, 32, 33, 34, 35, 36, 37, 38, 39, 40]⟩,
  ⟨some 64, .pick (.t 51) (.t 63) (.c (.bool false)), some (48, false), [], [0, 1, 2, 3, 4, 5, 6, 7, 8, 9, 10, 11, 12, 13, 14, 15, 16, 17, 18, 19, 20, 21, 22, 23, 24, 25, 26, 27, 28, 29, 30, 31, 32, 33, 34, 35, 36, 37, 38, 39, 40, 41]⟩,
  ⟨some 65, .pick (.t 48) (.c (.bool true)) (.t 64), none, [], [0, 1, 2, 3, 4, 5, 6, 7, 8, 9, 10, 11, 12, 13, 14, 15, 16, 17, 18, 19, 20, 21, 22, 23, 24, 25, 26, 27, 28, 29, 30, 31, 32, 33, 34, 35, 36, 37, 38, 39, 40, 41, 42]⟩,
  ⟨some 66, .mov (.t 65), none, [], [0, 1, 2, 3, 4, 5, 6, 7, 8, 9, 10, 11, 12, 13, 14, 15, 16, 17, 18, 19, 20, 21, 22, 23, 24, 25, 26, 27, 28, 29, 30, 31, 32, 33, 34, 35, 36, 37, 38, 39, 40, 41, 42, 43]⟩,
  ⟨some 67, .mov (.t 0), some (66, false), [68], [0, 1, 2, 3, 4, 5, 6, 7, 8, 9, 10, 11, 12, 13, 14, 15, 16, 17, 18, 19, 20, 21, 22, 23, 24, 25, 26, 27, 28, 29, 30, 31, 32, 33, 34, 35, 36, 37, 38, 39, 40, 41, 42, 43, 44]⟩,
  ⟨some 68, .mov (.t 7), some (66, false), [67], [0, 1, 2, 3, 4, 5, 6, 7, 8, 9, 10, 11, 12, 13, 14, 15, 16, 17, 18, 19, 20, 21, 22, 23, 24, 25, 26, 27, 28, 29, 30, 31, 32, 33, 34, 35, 36, 37, 38, 39, 40, 41, 42, 43, 44]⟩,
  ⟨some 69, .iad 2 (.t 67) (.t 68), some (66, false), [], [0, 1, 2, 3, 4, 5, 6, 7, 8, 9, 10, 11, 12, 13, 14, 15, 16, 17, 18, 19, 20, 21, 22, 23, 24, 25, 26, 27, 28, 29, 30, 31, 32, 33, 34, 35, 36, 37, 38, 39, 40, 41, 42, 43, 44, 45, 46]⟩,
  ⟨some 70, .fad 1 (.t 69), some (66, false), [], [0, 1, 2, 3, 4, 5, 6, 7, 8, 9, 10, 11, 12, 13, 14, 15, 16, 17, 18, 19, 20, 21, 22, 23, 24, 25, 26, 27, 28, 29, 30, 31, 32, 33, 34, 35, 36, 37, 38, 39, 40, 41, 42, 43, 44, 45, 46, 47]⟩,
  ⟨some 71, .load false 1 (.t 70), some (66, false), [], [0, 1, 2, 3, 4, 5, 6, 7, 8, 9, 10, 11, 12, 13, 14, 15, 16, 17, 18, 19, 20, 21, 22, 23, 24, 25, 26, 27, 28, 29, 30, 31, 32, 33, 34, 35, 36, 37, 38, 39, 40, 41, 42, 43, 44, 45, 46, 47, 48]⟩,
  ⟨some 72, .call false 24 [(.t 71)], some (66, false), [], [0, 1, 2, 3, 4, 5, 6, 7, 8, 9, 10, 11, 12, 13, 14, 15, 16, 17, 18, 19, 20, 21, 22, 23, 24, 25, 26, 27, 28, 29, 30, 31, 32, 33, 34, 35, 36, 37, 38, 39, 40, 41, 42, 43, 44, 45, 46, 47, 48, 49]⟩,
  ⟨some 73, .un .not (.t 72), some (66, false), [], [0, 1, 2, 3, 4, 5, 6, 7, 8, 9, 10, 11, 12, 13, 14, 15, 16, 17, 18, 19, 20, 21, 22, 23, 24, 25, 26, 27, 28, 29, 30, 31, 32, 33, 34, 35, 36, 37, 38, 39, 40, 41, 42, 43, 44, 45, 46, 47, 48, 49, 50]⟩,
  ⟨some 74, .pick (.t 66) (.c (.bool true)) (.t 73), none, [], [0, 1, 2, 3, 4, 5, 6, 7, 8, 9, 10, 11, 12, 13, 14, 15, 16, 17, 18, 19, 20, 21, 22, 23, 24, 25, 26, 27, 28, 29, 30, 31, 32, 33, 34, 35, 36, 37, 38, 39, 40, 41, 42, 43, 44, 45, 46, 47, 48, 49, 50, 51]⟩] true)
 (.cond (.t 74) (.seq (.region [⟨some 6, .mov (.c (.bool false)), none, [], []⟩] false)
 .ret) .skip)))
 (.region [⟨some 20, .mov (.t 7), none, [], []⟩,
  ⟨some 21, .bin .add (.t 20) (.c (.int .i64 1)), none, [], []⟩,
  ⟨some 7, .mov (.t 21), none, [], []⟩] false)))))))
 (.seq (.region [⟨some 6, .mov (.c (.bool true)), none, [], []⟩] false)
 .ret))))
def i60 : F := ⟨3, 75, j60, [.t 6]⟩
theorem b60 : i60.body = j60 := rfl
theorem q60 : i60.res = [.t 6] := rfl
theorem c60 : chkF Tryz.prog Tryz.f60 i60 = true := by kernel_rfl
theorem s60 {m : Model} {E : Nat → Model} (hE : ∀ f, Sound Tryz.prog f (E f)) (hm : ∀ args r, m args = some r → ∃ N, i60.ev E N args = some r) : Sound Tryz.prog 60 m := sound_of i60 Tryz.func60 rfl c60 hE hm
/-- bellwether/bellwetherref10.Begun -/
def j65 : C := (.seq (.region [⟨some 4, .alloc [.int .i64 0, .int .i64 0, .int .i64 0, .row [], .row []], none, [], []⟩] false)
 (.seq (.region [⟨some 5, .mov (.t 0), none, [], []⟩,
  ⟨some 6, .mov (.t 1), none, [], []⟩,
  ⟨some 7, .mov (.t 1), none, [], []⟩,
  ⟨some 8, .build [.int .i64 0, .int .i64 0, .int .i64 0, .row [], .row []] [(0, 1, (.t 5)), (1, 1, (.t 6)), (2, 1, (.t 7))], none, [], []⟩,
  ⟨none, .store none 5 (.t 4) (.t 8), none, [], []⟩] false)
 .ret))
def i65 : F := ⟨2, 9, j65, [.c 4 5 true]⟩
theorem b65 : i65.body = j65 := rfl
theorem q65 : i65.res = [.c 4 5 true] := rfl
theorem c65 : chkF Tryz.prog Tryz.f65 i65 = true := by kernel_rfl
theorem s65 {m : Model} {E : Nat → Model} (hE : ∀ f, Sound Tryz.prog f (E f)) (hm : ∀ args r, m args = some r → ∃ N, i65.ev E N args = some r) : Sound Tryz.prog 65 m := sound_of i65 Tryz.func65 rfl c65 hE hm
/-- bellwether/bellwetherref10.Epoch -/
def j22 : C := (.seq (.region [⟨some 2, .mov (.c (.bool false)), none, [], []⟩] false)
 (.seq (.region [⟨some 3, .mov (.t 0), none, [], []⟩,
  ⟨some 4, .call false 58 [(.t 3), (.c (.int .i64 1)), (.c (.int .i64 1073741824))], none, [], []⟩,
  ⟨some 5, .mov (.t 4), none, [], []⟩,
  ⟨some 6, .mov (.t 0), some (5, true), [], []⟩,
  ⟨some 7, .bin .rem (.t 6) (.c (.int .i64 16)), some (5, true), [], []⟩,
  ⟨some 8, .bin .lss (.t 7) (.c (.int .i64 8)), some (5, true), [], []⟩,
  ⟨some 9, .pick (.t 5) (.t 8) (.c (.bool false)), none, [], []⟩,
  ⟨some 2, .mov (.t 9), none, [], []⟩] false)
 .ret))
def i22 : F := ⟨1, 10, j22, [.t 2]⟩
theorem b22 : i22.body = j22 := rfl
theorem q22 : i22.res = [.t 2] := rfl
theorem c22 : chkF Tryz.prog Tryz.f22 i22 = true := by kernel_rfl
theorem s22 {m : Model} {E : Nat → Model} (hE : ∀ f, Sound Tryz.prog f (E f)) (hm : ∀ args r, m args = some r → ∃ N, i22.ev E N args = some r) : Sound Tryz.prog 22 m := sound_of i22 Tryz.func22 rfl c22 hE hm
/-- bellwether/bellwetherref10.Event -/
def j95 : C := (.seq (.region [⟨some 1, .box (.t 0), none, [], []⟩,
  ⟨some 2, .mov (.c (.bool false)), none, [], []⟩] false)
 (.seq (.region [⟨some 5, .fad 0 (.t 1), none, [], []⟩,
  ⟨some 6, .load false 1 (.t 5), none, [], []⟩,
  ⟨some 7, .build [.int .i64 0, .int .i64 0, .int .i64 0, .int .i64 0, .int .i64 0, .int .i64 0] [(0, 1, (.t 6))], none, [], []⟩,
  ⟨some 3, .alloc [.int .i64 0, .int .i64 0, .int .i64 0, .int .i64 0, .int .i64 0, .int .i64 0], none, [], []⟩,
  ⟨none, .store none 6 (.t 3) (.t 7), none, [], []⟩] false)
 (.seq (.region [⟨some 4, .mov (.c (.bool true)), none, [], []⟩] false)
 (.seq (.seq (.region [⟨some 8, .fad 0 (.t 1), none, [], []⟩,
  ⟨some 9, .load false 1 (.t 8), none, [], []⟩] false)
 (.block 0 (.seq (.region [⟨some 11, .bin .eql (.t 9) (.c (.int .i64 1)), none, [], []⟩,
  ⟨some 10, .mov (.t 11), none, [], []⟩] false)
 (.cond (.t 10) (.seq (.region [⟨some 12, .fad 1 (.t 1), none, [], []⟩,
  ⟨some 13, .load false 1 (.t 12), none, [], []⟩,
  ⟨some 14, .call false 22 [(.t 13)], none, [], []⟩,
  ⟨some 15, .mov (.t 14), none, [], []⟩,
  ⟨some 16, .fad 2 (.t 1), some (15, true), [], []⟩,
  ⟨some 17, .load false 1 (.t 16), some (15, true), [], []⟩,
  ⟨some 18, .call false 57 [(.t 17)], some (15, true), [], []⟩,
  ⟨some 19, .pick (.t 15) (.t 18) (.c (.bool false)), none, [], []⟩,
  ⟨some 20, .mov (.t 19), none, [], []⟩,
  ⟨some 21, .fad 4 (.t 1), some (20, true), [], []⟩,
  ⟨some 22, .load false 1 (.t 21), some (20, true), [], []⟩,
  ⟨some 23, .call false 24 [(.t 22)], some (20, true), [], []⟩,
  ⟨some 24, .pick (.t 20) (.t 23) (.c (.bool false)), none, [], []⟩,
  ⟨some 4, .mov (.t 24), none, [], []⟩] false)
 (.region [⟨some 25, .fad 1 (.t 1), none, [27, 28, 29, 30], []⟩,
  ⟨some 26, .load false 1 (.t 25), none, [27, 28, 29, 30], [0]⟩,
  ⟨some 27, .fad 2 (.t 1), none, [3, 25, 26, 29, 30, 31], []⟩,
  ⟨some 28, .load false 1 (.t 27), none, [3, 25, 26, 29, 30, 31], [2]⟩,
  ⟨some 29, .fad 4 (.t 1), none, [3, 25, 26, 27, 28, 31, 32], []⟩,
  ⟨some 30, .load false 1 (.t 29), none, [3, 25, 26, 27, 28, 31, 32], [4]⟩,
  ⟨some 31, .fad 1 (.t 3), none, [27, 28, 29, 30], [0, 1]⟩,
  ⟨none, .store (some 3) 1 (.t 31) (.t 26), none, [27, 28, 29, 30], [0, 1, 6]⟩,
  ⟨some 32, .fad 2 (.t 3), none, [29, 30], [0, 1, 2, 3, 6, 7]⟩,
  ⟨none, .store (some 3) 1 (.t 32) (.t 28), none, [29, 30], [0, 1, 2, 3, 6, 7, 8]⟩,
  ⟨some 33, .fad 4 (.t 3), none, [], [0, 1, 2, 3, 4, 5, 6, 7, 8, 9]⟩,
  ⟨none, .store none 1 (.t 33) (.t 30), none, [], [0, 1, 2, 3, 4, 5, 6, 7, 8, 9, 10]⟩] true)) (.seq (.region [⟨some 35, .bin .eql (.t 9) (.c (.int .i64 2)), none, [], []⟩,
  ⟨some 34, .mov (.t 35), none, [], []⟩] false)
 (.cond (.t 34) (.seq (.region [⟨some 36, .fad 1 (.t 1), none, [], []⟩,
  ⟨some 37, .load false 1 (.t 36), none, [], []⟩,
  ⟨some 38, .call false 22 [(.t 37)], none, [], []⟩,
  ⟨some 39, .mov (.t 38), none, [], []⟩,
  ⟨some 40, .fad 2 (.t 1), some (39, true), [], []⟩,
  ⟨some 41, .load false 1 (.t 40), some (39, true), [], []⟩,
  ⟨some 42, .call false 57 [(.t 41)], some (39, true), [], []⟩,
  ⟨some 43, .pick (.t 39) (.t 42) (.c (.bool false)), none, [], []⟩,
  ⟨some 44, .mov (.t 43), none, [], []⟩,
  ⟨some 45, .fad 3 (.t 1), some (44, true), [], []⟩,
  ⟨some 46, .load false 1 (.t 45), some (44, true), [], []⟩,
  ⟨some 47, .fad 2 (.t 1), some (44, true), [], []⟩,
  ⟨some 48, .load false 1 (.t 47), some (44, true), [], []⟩,
  ⟨some 49, .call false 58 [(.t 46), (.t 48), (.c (.int .i64 1073741824))], some (44, true), [], []⟩,
  ⟨some 50, .pick (.t 44) (.t 49) (.c (.bool false)), none, [], []⟩,
  ⟨some 4, .mov (.t 50), none, [], []⟩] false)
 (.region [⟨some 51, .fad 1 (.t 1), none, [53, 54, 55, 56], []⟩,
  ⟨some 52, .load false 1 (.t 51), none, [53, 54, 55, 56], [0]⟩,
  ⟨some 53, .fad 2 (.t 1), none, [3, 51, 52, 55, 56, 57], []⟩,
  ⟨some 54, .load false 1 (.t 53), none, [3, 51, 52, 55, 56, 57], [2]⟩,
  ⟨some 55, .fad 3 (.t 1), none, [3, 51, 52, 53, 54, 57, 58], []⟩,
  ⟨some 56, .load false 1 (.t 55), none, [3, 51, 52, 53, 54, 57, 58], [4]⟩,
  ⟨some 57, .fad 1 (.t 3), none, [53, 54, 55, 56], [0, 1]⟩,
  ⟨none, .store (some 3) 1 (.t 57) (.t 52), none, [53, 54, 55, 56], [0, 1, 6]⟩,
  ⟨some 58, .fad 2 (.t 3), none, [55, 56], [0, 1, 2, 3, 6, 7]⟩,
  ⟨none, .store (some 3) 1 (.t 58) (.t 54), none, [55, 56], [0, 1, 2, 3, 6, 7, 8]⟩,
  ⟨some 59, .fad 3 (.t 3), none, [], [0, 1, 2, 3, 4, 5, 6, 7, 8, 9]⟩,
  ⟨none, .store none 1 (.t 59) (.t 56), none, [], [0, 1, 2, 3, 4, 5, 6, 7, 8, 9, 10]⟩] true)) (.seq (.region [⟨some 61, .bin .eql (.t 9) (.c (.int .i64 3)), none, [], []⟩,
  ⟨some 60, .mov (.t 61), none, [], []⟩] false)
 (.cond (.t 60) (.seq (.region [⟨some 62, .fad 5 (.t 1), none, [], []⟩,
  ⟨some 63, .load false 1 (.t 62), none, [], []⟩,
  ⟨some 64, .call false 58 [(.t 63), (.c (.int .i64 1)), (.c (.int .i64 40))], none, [], []⟩,
  ⟨some 65, .mov (.t 64), none, [], []⟩,
  ⟨some 66, .fad 4 (.t 1), some (65, true), [], []⟩,
  ⟨some 67, .load false 1 (.t 66), some (65, true), [], []⟩,
  ⟨some 68, .call false 121 [(.t 67)], some (65, true), [], []⟩,
  ⟨some 69, .pick (.t 65) (.t 68) (.c (.bool false)), none, [], []⟩,
  ⟨some 4, .mov (.t 69), none, [], []⟩] false)
 (.region [⟨some 70, .fad 5 (.t 1), none, [72, 73], []⟩,
  ⟨some 71, .load false 1 (.t 70), none, [72, 73], [0]⟩,
  ⟨some 72, .fad 4 (.t 1), none, [3, 70, 71, 74], []⟩,
  ⟨some 73, .load false 1 (.t 72), none, [3, 70, 71, 74], [2]⟩,
  ⟨some 74, .fad 5 (.t 3), none, [72, 73], [0, 1]⟩,
  ⟨none, .store (some 3) 1 (.t 74) (.t 71), none, [72, 73], [0, 1, 4]⟩,
  ⟨some 75, .fad 4 (.t 3), none, [], [0, 1, 2, 3, 4, 5]⟩,
  ⟨none, .store none 1 (.t 75) (.t 73), none, [], [0, 1, 2, 3, 4, 5, 6]⟩] true)) (.seq (.region [⟨some 77, .bin .eql (.t 9) (.c (.int .i64 4)), none, [], []⟩,
  ⟨some 76, .mov (.t 77), none, [], []⟩] false)
 (.cond (.t 76) (.seq (.region [⟨some 78, .fad 5 (.t 1), none, [], []⟩,
  ⟨some 79, .load false 1 (.t 78), none, [], []⟩,
  ⟨some 80, .call false 58 [(.t 79), (.c (.int .i64 1)), (.c (.int .i64 40))], none, [], []⟩,
  ⟨some 4, .mov (.t 80), none, [], []⟩] false)
 (.region [⟨some 81, .fad 5 (.t 1), none, [], []⟩,
  ⟨some 82, .load false 1 (.t 81), none, [], []⟩,
  ⟨some 83, .fad 5 (.t 3), none, [], []⟩,
  ⟨none, .store none 1 (.t 83) (.t 82), none, [], []⟩] false)) (.seq (.region [⟨some 85, .bin .eql (.t 9) (.c (.int .i64 5)), none, [], []⟩,
  ⟨some 84, .mov (.t 85), none, [], []⟩] false)
 (.cond (.t 84) .skip (.seq (.region [⟨some 2, .mov (.c (.bool false)), none, [], []⟩] false)
 .ret)))))))))))))
 (.seq (.region [⟨some 86, .mov (.t 4), none, [], []⟩,
  ⟨some 87, .mov (.t 86), none, [], []⟩,
  ⟨some 88, .load true 6 (.t 1), some (87, true), [], []⟩,
  ⟨some 89, .load true 6 (.t 3), some (87, true), [], []⟩,
  ⟨some 90, .eqs false [true, true, true, true, true, true] (.t 88) (.t 89), some (87, true), [], []⟩,
  ⟨some 91, .pick (.t 87) (.t 90) (.c (.bool false)), none, [], []⟩,
  ⟨some 2, .mov (.t 91), none, [], []⟩] false)
 .ret)))))
def i95 : F := ⟨1, 92, j95, [.t 2]⟩
theorem b95 : i95.body = j95 := rfl
theorem q95 : i95.res = [.t 2] := rfl
theorem c95 : chkF Tryz.prog Tryz.f95 i95 = true := by kernel_rfl
theorem s95 {m : Model} {E : Nat → Model} (hE : ∀ f, Sound Tryz.prog f (E f)) (hm : ∀ args r, m args = some r → ∃ N, i95.ev E N args = some r) : Sound Tryz.prog 95 m := sound_of i95 Tryz.func95 rfl c95 hE hm
/-- bellwether/bellwetherref10.Flow -/
def j20 : C := (.seq (.region [⟨some 3, .box (.t 0), none, [], []⟩,
  ⟨some 4, .box (.t 1), none, [], []⟩,
  ⟨some 6, .mov (.c (.bool false)), none, [], []⟩] false)
 (.seq (.region [⟨some 7, .load true 7 (.t 3), none, [], []⟩,
  ⟨some 8, .load true 5 (.t 4), none, [], []⟩,
  ⟨some 9, .call false 19 [(.t 7), (.t 8)], none, [], []⟩,
  ⟨some 10, .mov (.t 9), none, [], []⟩,
  ⟨some 11, .mov (.t 2), some (10, true), [], []⟩,
  ⟨some 12, .fad 6 (.t 3), some (10, true), [], []⟩,
  ⟨some 13, .load false 1 (.t 12), some (10, true), [], []⟩,
  ⟨some 14, .call false 61 [(.t 11), (.t 13)], some (10, true), [], []⟩,
  ⟨some 15, .pick (.t 10) (.t 14) (.c (.bool false)), none, [], []⟩,
  ⟨some 6, .mov (.t 15), none, [], []⟩] false)
 .ret))
def i20 : F := ⟨3, 16, j20, [.t 6]⟩
theorem b20 : i20.body = j20 := rfl
theorem q20 : i20.res = [.t 6] := rfl
theorem c20 : chkF Tryz.prog Tryz.f20 i20 = true := by kernel_rfl
theorem s20 {m : Model} {E : Nat → Model} (hE : ∀ f, Sound Tryz.prog f (E f)) (hm : ∀ args r, m args = some r → ∃ N, i20.ev E N args = some r) : Sound Tryz.prog 20 m := sound_of i20 Tryz.func20 rfl c20 hE hm
/-- bellwether/bellwetherref10.Gone -/
def j28 : C := (.seq (.region [⟨some 7, .box (.t 0), none, [], []⟩,
  ⟨some 8, .box (.t 1), none, [], []⟩,
  ⟨some 14, .alloc [.int .i64 0, .int .i64 0, .int .i64 0, .row [], .row []], none, [], []⟩,
  ⟨some 15, .mov (.c (.row [])), none, [], []⟩,
  ⟨some 16, .mov (.c (.row [])), none, [], []⟩] false)
 (.seq (.region [⟨some 22, .load true 5 (.t 8), none, [], []⟩,
  ⟨some 23, .call false 10 [(.t 22)], none, [], []⟩,
  ⟨some 24, .mov (.t 3), none, [], []⟩,
  ⟨some 25, .call false 11 [(.t 24)], none, [], []⟩,
  ⟨some 17, .alloc [.int .i64 0, .int .i64 0, .int .i64 0, .row [], .row []], none, [], []⟩,
  ⟨none, .store none 5 (.t 17) (.t 23), none, [], []⟩,
  ⟨some 18, .mov (.t 25), none, [], []⟩] false)
 (.seq (.seq (.region [⟨some 26, .mov (.t 4), none, [], []⟩,
  ⟨some 27, .fad 0 (.t 17), none, [], []⟩,
  ⟨some 28, .load false 1 (.t 27), none, [], []⟩,
  ⟨some 29, .bin .neq (.t 26) (.t 28), none, [], []⟩,
  ⟨some 30, .mov (.t 29), none, [], []⟩,
  ⟨some 31, .fad 1 (.t 17), some (30, false), [], []⟩,
  ⟨some 32, .load false 1 (.t 31), some (30, false), [], []⟩,
  ⟨some 33, .mov (.t 5), some (30, false), [], []⟩,
  ⟨some 34, .mov (.t 6), some (30, false), [], []⟩,
  ⟨some 35, .call false 58 [(.t 32), (.t 33), (.t 34)], some (30, false), [], []⟩,
  ⟨some 36, .un .not (.t 35), some (30, false), [], []⟩,
  ⟨some 37, .pick (.t 30) (.c (.bool true)) (.t 36), none, [], []⟩] false)
 (.cond (.t 37) (.seq (.region [⟨some 38, .load true 5 (.t 17), none, [], []⟩,
  ⟨some 39, .mov (.t 18), none, [], []⟩,
  ⟨none, .store none 5 (.t 14) (.t 38), none, [], []⟩,
  ⟨some 15, .mov (.t 39), none, [], []⟩,
  ⟨some 16, .mov (.c (.row [])), none, [], []⟩] false)
 .ret) .skip))
 (.seq (.seq (.region [⟨some 40, .mov (.t 2), none, [], []⟩] false)
 (.cond (.t 40) (.region [⟨some 41, .mov (.t 18), none, [], []⟩,
  ⟨some 42, .fad 6 (.t 7), none, [], []⟩,
  ⟨some 43, .load false 1 (.t 42), none, [], []⟩,
  ⟨some 44, .mov (.t 4), none, [], []⟩,
  ⟨some 45, .fad 1 (.t 17), none, [], []⟩,
  ⟨some 46, .load false 1 (.t 45), none, [], []⟩,
  ⟨some 47, .mov (.t 6), none, [], []⟩,
  ⟨some 48, .build [.int .i64 0, .int .i64 0, .int .i64 0, .int .i64 0, .int .i64 0, .int .i64 0] [(0, 1, (.c (.int .i64 2))), (1, 1, (.t 44)), (2, 1, (.t 46)), (3, 1, (.t 47))], none, [], []⟩,
  ⟨some 49, .call false 69 [(.t 41), (.t 43), (.t 48)], none, [], []⟩,
  ⟨some 18, .mov (.t 49), none, [], []⟩] false) .skip))
 (.seq (.region [⟨some 50, .mov (.t 6), none, [], []⟩,
  ⟨some 51, .bin .add (.t 50) (.c (.int .i64 1)), none, [], []⟩,
  ⟨some 52, .fad 1 (.t 17), none, [], []⟩,
  ⟨none, .store none 1 (.t 52) (.t 51), none, [], []⟩,
  ⟨some 53, .fad 3 (.t 17), none, [], []⟩,
  ⟨none, .store none 1 (.t 53) (.c (.row [])), none, [], []⟩] false)
 (.seq (.region [⟨some 54, .fad 2 (.t 17), none, [], []⟩,
  ⟨some 55, .load false 1 (.t 54), none, [], []⟩,
  ⟨some 56, .fad 1 (.t 17), none, [], []⟩,
  ⟨some 57, .load false 1 (.t 56), none, [], []⟩,
  ⟨some 58, .mx (.t 55) (.t 57), none, [], []⟩,
  ⟨some 59, .fad 2 (.t 17), none, [], []⟩,
  ⟨none, .store none 1 (.t 59) (.t 58), none, [], []⟩] false)
 (.seq (.region [⟨some 19, .nilsl 29 2 0, none, [], []⟩] false)
 (.seq (.seq (.region [⟨some 20, .mov (.c (.int .i64 0)), none, [], []⟩] false)
 (.block 0 (.loop (.keep [2, 7, 14, 17, 18, 19, 20] (.seq (.seq (.region [⟨some 60, .mov (.t 20), none, [], []⟩,
  ⟨some 61, .fad 4 (.t 17), none, [], []⟩,
  ⟨some 62, .load false 1 (.t 61), none, [], []⟩,
  ⟨some 63, .len (.t 62), none, [], []⟩,
  ⟨some 64, .bin .lss (.t 60) (.t 63), none, [], []⟩] false)
 (.cond (.t 64) .skip (.exit 0)))
 (.seq (.block 1 (.seq (.region [⟨some 67, .fad 4 (.t 17), none, [69, 73, 74], []⟩,
  ⟨some 68, .load false 1 (.t 67), none, [69, 73, 74], [0]⟩,
  ⟨some 69, .mov (.t 20), none, [67, 68, 73, 74], []⟩,
  ⟨some 70, .iad 2 (.t 68) (.t 69), none, [73, 74], [0, 1, 2]⟩,
  ⟨some 71, .fad 0 (.t 70), none, [73, 74], [0, 1, 2, 3]⟩,
  ⟨some 72, .load false 1 (.t 71), none, [73, 74], [0, 1, 2, 3, 4]⟩,
  ⟨some 73, .fad 1 (.t 17), none, [67, 68, 69, 70, 71, 72], []⟩,
  ⟨some 74, .load false 1 (.t 73), none, [67, 68, 69, 70, 71, 72], [6]⟩,
  ⟨some 75, .bin .geq (.t 72) (.t 74), none, [], [0, 1, 2, 3, 4, 5, 6, 7]⟩] true)
 (.cond (.t 75) (.region [⟨some 76, .mov (.t 19), none, [], []⟩,
  ⟨some 77, .fad 4 (.t 17), none, [], []⟩,
  ⟨some 78, .load false 1 (.t 77), none, [], []⟩,
  ⟨some 79, .mov (.t 20), none, [], []⟩,
  ⟨some 80, .iad 2 (.t 78) (.t 79), none, [], []⟩,
  ⟨some 81, .load true 2 (.t 80), none, [], []⟩,
  ⟨some 82, .bsl 29 2 1 [.int .i64 0, .int .i64 0] [(0, (.t 81))], none, [], []⟩,
  ⟨some 83, .app 29 2 16 (.t 76) (.t 82), none, [], []⟩,
  ⟨some 19, .mov (.t 83), none, [], []⟩] false) .skip)))
 (.region [⟨some 65, .mov (.t 20), none, [], []⟩,
  ⟨some 66, .bin .add (.t 65) (.c (.int .i64 1)), none, [], []⟩,
  ⟨some 20, .mov (.t 66), none, [], []⟩] false)))))))
 (.seq (.frz [19] (.region [⟨some 84, .mov (.t 19), none, [], []⟩,
  ⟨some 85, .fad 4 (.t 17), none, [], []⟩,
  ⟨none, .store none 1 (.t 85) (.t 84), none, [], []⟩] false))
 (.seq (.seq (.region [⟨some 86, .mov (.t 19), none, [], []⟩,
  ⟨some 87, .len (.t 86), none, [], [0]⟩,
  ⟨some 88, .bin .gtr (.t 87) (.c (.int .i64 0)), none, [], [0, 1]⟩,
  ⟨some 89, .mov (.t 88), none, [], [0, 1, 2]⟩,
  ⟨some 90, .mov (.t 19), some (89, true), [94, 95], [0, 1, 2, 3]⟩,
  ⟨some 91, .iad 2 (.t 90) (.c (.int .i64 0)), some (89, true), [94, 95], [0, 1, 2, 3, 4]⟩,
  ⟨some 92, .fad 0 (.t 91), some (89, true), [94, 95], [0, 1, 2, 3, 4, 5]⟩,
  ⟨some 93, .load false 1 (.t 92), some (89, true), [94, 95], [0, 1, 2, 3, 4, 5, 6]⟩,
  ⟨some 94, .fad 1 (.t 17), some (89, true), [90, 91, 92, 93], [0, 1, 2, 3]⟩,
  ⟨some 95, .load false 1 (.t 94), some (89, true), [90, 91, 92, 93], [0, 1, 2, 3, 8]⟩,
  ⟨some 96, .bin .eql (.t 93) (.t 95), some (89, true), [], [0, 1, 2, 3, 4, 5, 6, 7, 8, 9]⟩,
  ⟨some 97, .pick (.t 89) (.t 96) (.c (.bool false)), none, [], [0, 1, 2, 3, 4, 5, 6, 7, 8, 9, 10]⟩] true)
 (.cond (.t 97) (.seq (.region [⟨some 98, .mov (.t 19), none, [], []⟩,
  ⟨some 99, .iad 2 (.t 98) (.c (.int .i64 0)), none, [], []⟩,
  ⟨some 100, .load true 2 (.t 99), none, [], []⟩,
  ⟨some 21, .alloc [.int .i64 0, .int .i64 0], none, [], []⟩,
  ⟨none, .store none 2 (.t 21) (.t 100), none, [], []⟩] false)
 (.seq (.region [⟨some 101, .mov (.t 19), none, [], []⟩,
  ⟨some 102, .cut 2 (.t 101) (some (.c (.int .i64 1))) none, none, [], []⟩,
  ⟨some 103, .fad 4 (.t 17), none, [], []⟩,
  ⟨none, .store none 1 (.t 103) (.t 102), none, [], []⟩] false)
 (.seq (.region [⟨some 104, .load true 7 (.t 7), none, [], []⟩,
  ⟨some 105, .load true 5 (.t 17), none, [], []⟩,
  ⟨some 106, .mov (.t 2), none, [], []⟩,
  ⟨some 107, .mov (.t 18), none, [], []⟩,
  ⟨some 108, .fad 1 (.t 21), none, [], []⟩,
  ⟨some 109, .load false 1 (.t 108), none, [], []⟩,
  ⟨some 110, .call false 66 [(.t 104), (.t 105), (.t 106), (.t 107), (.t 109)], none, [], []⟩,
  ⟨some 111, .ext (.t 110) 0, none, [], []⟩,
  ⟨some 112, .ext (.t 110) 1, none, [], []⟩,
  ⟨some 113, .ext (.t 110) 2, none, [], []⟩,
  ⟨none, .store none 5 (.t 14) (.t 111), none, [], []⟩,
  ⟨some 15, .mov (.t 112), none, [], []⟩,
  ⟨some 16, .mov (.t 113), none, [], []⟩] false)
 .ret))) .skip))
 (.seq (.region [⟨some 114, .load true 5 (.t 17), none, [], []⟩,
  ⟨some 115, .mov (.t 18), none, [], []⟩,
  ⟨none, .store none 5 (.t 14) (.t 114), none, [], []⟩,
  ⟨some 15, .mov (.t 115), none, [], []⟩,
  ⟨some 16, .mov (.c (.row [])), none, [], []⟩] false)
 .ret)))))))))))
def i28 : F := ⟨7, 116, j28, [.c 14 5 true, .t 15, .t 16]⟩
theorem b28 : i28.body = j28 := rfl
theorem q28 : i28.res = [.c 14 5 true, .t 15, .t 16] := rfl
theorem c28 : chkF Tryz.prog Tryz.f28 i28 = true := by kernel_rfl
theorem s28 {m : Model} {E : Nat → Model} (hE : ∀ f, Sound Tryz.prog f (E f)) (hm : ∀ args r, m args = some r → ∃ N, i28.ev E N args = some r) : Sound Tryz.prog 28 m := sound_of i28 Tryz.func28 rfl c28 hE hm
/-- bellwether/bellwetherref10.Item -/
def j25 : C := (.seq (.region [⟨some 6, .box (.t 0), none, [], []⟩,
  ⟨some 7, .box (.t 1), none, [], []⟩,
  ⟨some 11, .box (.t 5), none, [], []⟩,
  ⟨some 12, .alloc [.int .i64 0, .int .i64 0, .int .i64 0, .row [], .row []], none, [], []⟩,
  ⟨some 13, .mov (.c (.row [])), none, [], []⟩,
  ⟨some 14, .mov (.c (.row [])), none, [], []⟩] false)
 (.seq (.region [⟨some 19, .load true 5 (.t 7), none, [], []⟩,
  ⟨some 20, .call false 10 [(.t 19)], none, [], []⟩,
  ⟨some 21, .mov (.t 3), none, [], []⟩,
  ⟨some 22, .call false 11 [(.t 21)], none, [], []⟩,
  ⟨some 15, .alloc [.int .i64 0, .int .i64 0, .int .i64 0, .row [], .row []], none, [], []⟩,
  ⟨none, .store none 5 (.t 15) (.t 20), none, [], []⟩,
  ⟨some 16, .mov (.t 22), none, [], []⟩] false)
 (.seq (.seq (.region [⟨some 23, .mov (.t 4), none, [], []⟩,
  ⟨some 24, .fad 0 (.t 15), none, [], []⟩,
  ⟨some 25, .load false 1 (.t 24), none, [], []⟩,
  ⟨some 26, .bin .lss (.t 23) (.t 25), none, [], []⟩] false)
 (.cond (.t 26) (.seq (.region [⟨some 27, .load true 5 (.t 15), none, [], []⟩,
  ⟨some 28, .mov (.t 16), none, [], []⟩,
  ⟨none, .store none 5 (.t 12) (.t 27), none, [], []⟩,
  ⟨some 13, .mov (.t 28), none, [], []⟩,
  ⟨some 14, .mov (.c (.row [])), none, [], []⟩] false)
 .ret) .skip))
 (.seq (.seq (.region [⟨some 29, .mov (.t 4), none, [], []⟩,
  ⟨some 30, .fad 0 (.t 15), none, [], []⟩,
  ⟨some 31, .load false 1 (.t 30), none, [], []⟩,
  ⟨some 32, .bin .gtr (.t 29) (.t 31), none, [], []⟩] false)
 (.cond (.t 32) (.region [⟨some 33, .mov (.t 4), none, [], []⟩,
  ⟨some 34, .fad 0 (.t 11), none, [], []⟩,
  ⟨some 35, .load false 1 (.t 34), none, [], []⟩,
  ⟨some 36, .call false 65 [(.t 33), (.t 35)], none, [], []⟩,
  ⟨none, .store none 5 (.t 15) (.t 36), none, [], []⟩] false) .skip))
 (.seq (.seq (.region [⟨some 37, .fad 0 (.t 11), none, [], []⟩,
  ⟨some 38, .load false 1 (.t 37), none, [], []⟩,
  ⟨some 39, .fad 1 (.t 15), none, [], []⟩,
  ⟨some 40, .load false 1 (.t 39), none, [], []⟩,
  ⟨some 41, .bin .eql (.t 38) (.t 40), none, [], []⟩] false)
 (.cond (.t 41) (.seq (.region [⟨some 42, .load true 7 (.t 6), none, [], []⟩,
  ⟨some 43, .load true 5 (.t 15), none, [], []⟩,
  ⟨some 44, .mov (.t 2), none, [], []⟩,
  ⟨some 45, .mov (.t 16), none, [], []⟩,
  ⟨some 46, .fad 1 (.t 11), none, [], []⟩,
  ⟨some 47, .load false 1 (.t 46), none, [], []⟩,
  ⟨some 48, .call false 66 [(.t 42), (.t 43), (.t 44), (.t 45), (.t 47)], none, [], []⟩,
  ⟨some 49, .ext (.t 48) 0, none, [], []⟩,
  ⟨some 50, .ext (.t 48) 1, none, [], []⟩,
  ⟨some 51, .ext (.t 48) 2, none, [], []⟩,
  ⟨none, .store none 5 (.t 12) (.t 49), none, [], []⟩,
  ⟨some 13, .mov (.t 50), none, [], []⟩,
  ⟨some 14, .mov (.t 51), none, [], []⟩] false)
 .ret) .skip))
 (.seq (.seq (.region [⟨some 52, .fad 0 (.t 11), none, [], []⟩,
  ⟨some 53, .load false 1 (.t 52), none, [], []⟩,
  ⟨some 54, .fad 1 (.t 15), none, [], []⟩,
  ⟨some 55, .load false 1 (.t 54), none, [], []⟩,
  ⟨some 56, .bin .gtr (.t 53) (.t 55), none, [], []⟩] false)
 (.cond (.t 56) (.seq (.region [⟨some 57, .fad 2 (.t 15), none, [], []⟩,
  ⟨some 58, .load false 1 (.t 57), none, [], []⟩,
  ⟨some 59, .fad 0 (.t 11), none, [], []⟩,
  ⟨some 60, .load false 1 (.t 59), none, [], []⟩,
  ⟨some 61, .bin .add (.t 60) (.c (.int .i64 1)), none, [], []⟩,
  ⟨some 62, .mx (.t 58) (.t 61), none, [], []⟩,
  ⟨some 63, .fad 2 (.t 15), none, [], []⟩,
  ⟨none, .store none 1 (.t 63) (.t 62), none, [], []⟩] false)
 (.seq (.region [⟨some 65, .fad 4 (.t 15), none, [], []⟩,
  ⟨some 66, .load false 1 (.t 65), none, [], []⟩,
  ⟨some 67, .fad 1 (.t 15), none, [], []⟩,
  ⟨some 68, .load false 1 (.t 67), none, [], []⟩,
  ⟨some 69, .fad 5 (.t 6), none, [], []⟩,
  ⟨some 70, .load false 1 (.t 69), none, [], []⟩,
  ⟨some 71, .load true 2 (.t 11), none, [], []⟩,
  ⟨some 72, .call false 67 [(.t 66), (.t 68), (.t 70), (.t 71)], none, [], []⟩,
  ⟨some 64, .mov (.t 72), none, [], []⟩,
  ⟨some 73, .ext (.t 64) 0, none, [], []⟩,
  ⟨some 74, .ext (.t 64) 1, none, [], []⟩,
  ⟨some 17, .mov (.t 73), none, [], []⟩,
  ⟨some 18, .mov (.t 74), none, [], []⟩] false)
 (.seq (.region [⟨some 75, .mov (.t 18), none, [], []⟩,
  ⟨some 76, .bin .eql (.t 75) (.c (.int .i64 0)), none, [], []⟩] false)
 (.cond (.t 76) (.region [⟨some 77, .mov (.t 17), none, [], []⟩,
  ⟨some 78, .fad 4 (.t 15), none, [], []⟩,
  ⟨none, .store none 1 (.t 78) (.t 77), none, [], []⟩] false) .skip)))) .skip))
 (.seq (.region [⟨some 79, .load true 5 (.t 15), none, [], []⟩,
  ⟨some 80, .mov (.t 16), none, [], []⟩,
  ⟨none, .store none 5 (.t 12) (.t 79), none, [], []⟩,
  ⟨some 13, .mov (.t 80), none, [], []⟩,
  ⟨some 14, .mov (.c (.row [])), none, [], []⟩] false)
 .ret)))))))
def i25 : F := ⟨6, 81, j25, [.c 12 5 true, .t 13, .t 14]⟩
theorem b25 : i25.body = j25 := rfl
theorem q25 : i25.res = [.c 12 5 true, .t 13, .t 14] := rfl
theorem c25 : chkF Tryz.prog Tryz.f25 i25 = true := by kernel_rfl
theorem s25 {m : Model} {E : Nat → Model} (hE : ∀ f, Sound Tryz.prog f (E f)) (hm : ∀ args r, m args = some r → ∃ N, i25.ev E N args = some r) : Sound Tryz.prog 25 m := sound_of i25 Tryz.func25 rfl c25 hE hm
/-- bellwether/bellwetherref10.Kept -/
def j59 : C := (.seq (.region [⟨some 6, .mov (.c (.bool false)), none, [], []⟩] false)
 (.seq (.seq (.region [⟨some 8, .mov (.t 1), none, [], []⟩,
  ⟨some 9, .call false 58 [(.t 8), (.c (.int .i64 1)), (.c (.int .i64 1073741824))], none, [], []⟩,
  ⟨some 10, .un .not (.t 9), none, [], []⟩,
  ⟨some 11, .mov (.t 10), none, [], []⟩,
  ⟨some 12, .mov (.t 2), some (11, false), [], []⟩,
  ⟨some 13, .call false 58 [(.t 12), (.c (.int .i64 1)), (.c (.int .i64 16))], some (11, false), [], []⟩,
  ⟨some 14, .un .not (.t 13), some (11, false), [], []⟩,
  ⟨some 15, .pick (.t 11) (.c (.bool true)) (.t 14), none, [], []⟩,
  ⟨some 16, .mov (.t 15), none, [], []⟩,
  ⟨some 17, .mov (.t 0), some (16, false), [], []⟩,
  ⟨some 18, .len (.t 17), some (16, false), [], []⟩,
  ⟨some 19, .mov (.t 2), some (16, false), [], []⟩,
  ⟨some 20, .bin .gtr (.t 18) (.t 19), some (16, false), [], []⟩,
  ⟨some 21, .pick (.t 16) (.c (.bool true)) (.t 20), none, [], []⟩,
  ⟨some 22, .mov (.t 21), none, [], []⟩,
  ⟨some 23, .mov (.t 0), some (22, false), [], []⟩,
  ⟨some 24, .len (.t 23), some (22, false), [], []⟩,
  ⟨some 25, .mov (.t 1), some (22, false), [], []⟩,
  ⟨some 26, .bin .geq (.t 24) (.t 25), some (22, false), [], []⟩,
  ⟨some 27, .pick (.t 22) (.c (.bool true)) (.t 26), none, [], []⟩] false)
 (.cond (.t 27) (.seq (.region [⟨some 6, .mov (.c (.bool false)), none, [], []⟩] false)
 .ret) .skip))
 (.seq (.seq (.region [⟨some 7, .mov (.c (.int .i64 0)), none, [], []⟩] false)
 (.block 0 (.loop (.keep [0, 1, 7] (.seq (.seq (.region [⟨some 28, .mov (.t 7), none, [], []⟩,
  ⟨some 29, .mov (.t 0), none, [], []⟩,
  ⟨some 30, .len (.t 29), none, [], []⟩,
  ⟨some 31, .bin .lss (.t 28) (.t 30), none, [], []⟩] false)
 (.cond (.t 31) .skip (.exit 0)))
 (.seq (.block 1 (.seq (.region [⟨some 34, .mov (.t 0), none, [], []⟩,
  ⟨some 35, .mov (.t 7), none, [], []⟩,
  ⟨some 36, .iad 2 (.t 34) (.t 35), none, [], []⟩,
  ⟨some 37, .fad 0 (.t 36), none, [], []⟩,
  ⟨some 38, .load false 1 (.t 37), none, [], []⟩,
  ⟨some 39, .mov (.t 1), none, [], []⟩,
  ⟨some 40, .mov (.t 0), none, [], []⟩,
  ⟨some 41, .len (.t 40), none, [], []⟩,
  ⟨some 42, .bin .sub (.t 39) (.t 41), none, [], []⟩,
  ⟨some 43, .mov (.t 7), none, [], []⟩,
  ⟨some 44, .bin .add (.t 42) (.t 43), none, [], []⟩,
  ⟨some 45, .bin .neq (.t 38) (.t 44), none, [], []⟩,
  ⟨some 46, .mov (.t 45), none, [], []⟩,
  ⟨some 47, .mov (.t 0), some (46, false), [], []⟩,
  ⟨some 48, .mov (.t 7), some (46, false), [], []⟩,
  ⟨some 49, .iad 2 (.t 47) (.t 48), some (46, false), [], []⟩,
  ⟨some 50, .fad 1 (.t 49), some (46, false), [], []⟩,
  ⟨some 51, .load false 1 (.t 50), some (46, false), [], []⟩,
  ⟨some 52, .call false 24 [(.t 51)], some (46, false), [], []⟩,
  ⟨some 53, .un .not (.t 52), some (46, false), [], []⟩,
  ⟨some 54, .pick (.t 46) (.c (.bool true)) (.t 53), none, [], []⟩] false)
 (.cond (.t 54) (.seq (.region [⟨some 6, .mov (.c (.bool false)), none, [], []⟩] false)
 .ret) .skip)))
 (.region [⟨some 32, .mov (.t 7), none, [], []⟩,
  ⟨some 33, .bin .add (.t 32) (.c (.int .i64 1)), none, [], []⟩,
  ⟨some 7, .mov (.t 33), none, [], []⟩] false)))))))
 (.seq (.region [⟨some 6, .mov (.c (.bool true)), none, [], []⟩] false)
 .ret))))
def i59 : F := ⟨3, 55, j59, [.t 6]⟩
theorem b59 : i59.body = j59 := rfl
theorem q59 : i59.res = [.t 6] := rfl
theorem c59 : chkF Tryz.prog Tryz.f59 i59 = true := by kernel_rfl
theorem s59 {m : Model} {E : Nat → Model} (hE : ∀ f, Sound Tryz.prog f (E f)) (hm : ∀ args r, m args = some r → ∃ N, i59.ev E N args = some r) : Sound Tryz.prog 59 m := sound_of i59 Tryz.func59 rfl c59 hE hm
/-- bellwether/bellwetherref10.Push -/
def j103 : C := (.seq (.region [⟨some 8, .mov (.c (.row [])), none, [], []⟩] false)
 (.seq (.region [⟨some 9, .nilsl 29 2 0, none, [], []⟩] false)
 (.seq (.region [⟨some 10, .mov (.t 9), none, [], []⟩,
  ⟨some 11, .mov (.t 0), none, [], []⟩,
  ⟨some 12, .app 29 2 16 (.t 10) (.t 11), none, [], []⟩,
  ⟨some 9, .mov (.t 12), none, [], []⟩] false)
 (.seq (.region [⟨some 13, .mov (.t 9), none, [], []⟩,
  ⟨some 14, .mov (.t 1), none, [], []⟩,
  ⟨some 15, .mov (.t 3), none, [], []⟩,
  ⟨some 16, .build [.int .i64 0, .int .i64 0] [(0, 1, (.t 14)), (1, 1, (.t 15))], none, [], []⟩,
  ⟨some 17, .bsl 29 2 1 [.int .i64 0, .int .i64 0] [(0, (.t 16))], none, [], []⟩,
  ⟨some 18, .app 29 2 16 (.t 13) (.t 17), none, [], []⟩,
  ⟨some 9, .mov (.t 18), none, [], []⟩] false)
 (.seq (.frz [9] (.region [⟨some 19, .mov (.t 9), none, [], []⟩,
  ⟨some 20, .mov (.t 9), none, [], []⟩,
  ⟨some 21, .len (.t 20), none, [], []⟩,
  ⟨some 22, .mov (.t 2), none, [], []⟩,
  ⟨some 23, .bin .sub (.t 21) (.t 22), none, [], []⟩,
  ⟨some 24, .mx (.t 23) (.c (.int .i64 0)), none, [], []⟩,
  ⟨some 25, .cut 2 (.t 19) (some (.t 24)) none, none, [], []⟩,
  ⟨some 8, .mov (.t 25), none, [], []⟩] false))
 .ret)))))
def i103 : F := ⟨4, 26, j103, [.t 8]⟩
theorem b103 : i103.body = j103 := rfl
theorem q103 : i103.res = [.t 8] := rfl
theorem c103 : chkF Tryz.prog Tryz.f103 i103 = true := by kernel_rfl
theorem s103 {m : Model} {E : Nat → Model} (hE : ∀ f, Sound Tryz.prog f (E f)) (hm : ∀ args r, m args = some r → ∃ N, i103.ev E N args = some r) : Sound Tryz.prog 103 m := sound_of i103 Tryz.func103 rfl c103 hE hm
/-- bellwether/bellwetherref10.Put -/
def j104 : C := (.seq (.region [⟨some 5, .box (.t 2), none, [], []⟩,
  ⟨some 6, .nilsl 96 6 0, none, [], []⟩,
  ⟨some 7, .mov (.c (.bool false)), none, [], []⟩] false)
 (.seq (.region [⟨some 11, .mov (.t 0), none, [], []⟩,
  ⟨some 12, .call true 11 [(.t 11)], none, [], []⟩,
  ⟨some 8, .mov (.t 12), none, [], []⟩] false)
 (.seq (.region [⟨some 13, .mov (.t 0), none, [], []⟩,
  ⟨some 14, .len (.t 13), none, [], []⟩,
  ⟨some 9, .mov (.t 14), none, [], []⟩] false)
 (.seq (.seq (.region [⟨some 15, .mov (.t 9), none, [], []⟩,
  ⟨some 16, .mov (.t 1), none, [], []⟩,
  ⟨some 17, .bin .sub (.t 16) (.c (.int .i64 1)), none, [], []⟩,
  ⟨some 18, .bin .lss (.t 15) (.t 17), none, [], []⟩] false)
 (.cond (.t 18) (.seq (.region [⟨some 19, .mov (.t 8), none, [], []⟩,
  ⟨some 20, .load true 6 (.t 5), none, [], []⟩,
  ⟨some 21, .bsl 96 6 1 [.int .i64 0, .int .i64 0, .int .i64 0, .int .i64 0, .int .i64 0, .int .i64 0] [(0, (.t 20))], none, [], []⟩,
  ⟨some 22, .app 96 6 48 (.t 19) (.t 21), none, [], []⟩,
  ⟨some 6, .mov (.t 22), none, [], []⟩,
  ⟨some 7, .mov (.c (.bool true)), none, [], []⟩] false)
 .ret) .skip))
 (.seq (.seq (.region [⟨some 23, .fad 0 (.t 5), none, [], []⟩,
  ⟨some 24, .load false 1 (.t 23), none, [], []⟩,
  ⟨some 25, .bin .neq (.t 24) (.c (.int .i64 1)), none, [], []⟩,
  ⟨some 26, .mov (.t 25), none, [], []⟩,
  ⟨some 27, .fad 0 (.t 5), some (26, true), [], []⟩,
  ⟨some 28, .load false 1 (.t 27), some (26, true), [], []⟩,
  ⟨some 29, .bin .neq (.t 28) (.c (.int .i64 2)), some (26, true), [], []⟩,
  ⟨some 30, .pick (.t 26) (.t 29) (.c (.bool false)), none, [], []⟩] false)
 (.cond (.t 30) (.seq (.region [⟨some 31, .mov (.t 8), none, [], []⟩,
  ⟨some 6, .mov (.t 31), none, [], []⟩,
  ⟨some 7, .mov (.c (.bool false)), none, [], []⟩] false)
 .ret) .skip))
 (.seq (.region [⟨some 32, .fad 2 (.t 5), none, [], []⟩,
  ⟨some 33, .load false 1 (.t 32), none, [], []⟩,
  ⟨some 10, .mov (.t 33), none, [], []⟩] false)
 (.seq (.seq (.region [⟨some 34, .fad 0 (.t 5), none, [], []⟩,
  ⟨some 35, .load false 1 (.t 34), none, [], []⟩,
  ⟨some 36, .bin .eql (.t 35) (.c (.int .i64 2)), none, [], []⟩] false)
 (.cond (.t 36) (.region [⟨some 37, .fad 3 (.t 5), none, [], []⟩,
  ⟨some 38, .load false 1 (.t 37), none, [], []⟩,
  ⟨some 10, .mov (.t 38), none, [], []⟩] false) .skip))
 (.seq (.seq (.region [⟨some 39, .mov (.t 9), none, [], []⟩,
  ⟨some 40, .mov (.t 1), none, [], []⟩,
  ⟨some 41, .bin .sub (.t 40) (.c (.int .i64 1)), none, [], []⟩,
  ⟨some 42, .bin .eql (.t 39) (.t 41), none, [], []⟩] false)
 (.cond (.t 42) (.seq (.region [⟨some 43, .mov (.t 8), none, [], []⟩,
  ⟨some 44, .fad 1 (.t 5), none, [], []⟩,
  ⟨some 45, .load false 1 (.t 44), none, [], []⟩,
  ⟨some 46, .fad 2 (.t 5), none, [], []⟩,
  ⟨some 47, .load false 1 (.t 46), none, [], []⟩,
  ⟨some 48, .mov (.t 10), none, [], []⟩,
  ⟨some 49, .build [.int .i64 0, .int .i64 0, .int .i64 0, .int .i64 0, .int .i64 0, .int .i64 0] [(0, 1, (.c (.int .i64 2))), (1, 1, (.t 45)), (2, 1, (.t 47)), (3, 1, (.t 48))], none, [], []⟩,
  ⟨some 50, .bsl 96 6 1 [.int .i64 0, .int .i64 0, .int .i64 0, .int .i64 0, .int .i64 0, .int .i64 0] [(0, (.t 49))], none, [], []⟩,
  ⟨some 51, .app 96 6 48 (.t 43) (.t 50), none, [], []⟩,
  ⟨some 6, .mov (.t 51), none, [], []⟩,
  ⟨some 7, .mov (.c (.bool true)), none, [], []⟩] false)
 .ret) .skip))
 (.seq (.seq (.region [⟨some 52, .mov (.t 8), none, [53, 54, 58, 59], []⟩,
  ⟨some 53, .mov (.t 9), none, [52, 58, 59], []⟩,
  ⟨some 54, .bin .sub (.t 53) (.c (.int .i64 1)), none, [52, 58, 59], [1]⟩,
  ⟨some 55, .iad 6 (.t 52) (.t 54), none, [58, 59], [0, 1, 2]⟩,
  ⟨some 56, .fad 1 (.t 55), none, [58, 59], [0, 1, 2, 3]⟩,
  ⟨some 57, .load false 1 (.t 56), none, [58, 59], [0, 1, 2, 3, 4]⟩,
  ⟨some 58, .fad 1 (.t 5), none, [52, 53, 54, 55, 56, 57], []⟩,
  ⟨some 59, .load false 1 (.t 58), none, [52, 53, 54, 55, 56, 57], [6]⟩,
  ⟨some 60, .bin .eql (.t 57) (.t 59), none, [], [0, 1, 2, 3, 4, 5, 6, 7]⟩,
  ⟨some 61, .mov (.t 60), none, [], [0, 1, 2, 3, 4, 5, 6, 7, 8]⟩,
  ⟨some 62, .fad 2 (.t 5), some (61, true), [65, 66, 67, 68, 69, 70], [0, 1, 2, 3, 4, 5, 6, 7, 8, 9]⟩,
  ⟨some 63, .load false 1 (.t 62), some (61, true), [65, 66, 67, 68, 69, 70], [0, 1, 2, 3, 4, 5, 6, 7, 8, 9, 10]⟩,
  ⟨some 64, .bin .sub (.t 63) (.c (.int .i64 1)), some (61, true), [65, 66, 67, 68, 69, 70], [0, 1, 2, 3, 4, 5, 6, 7, 8, 9, 10, 11]⟩,
  ⟨some 65, .mov (.t 8), some (61, true), [62, 63, 64, 66, 67], [0, 1, 2, 3, 4, 5, 6, 7, 8, 9]⟩,
  ⟨some 66, .mov (.t 9), some (61, true), [62, 63, 64, 65], [0, 1, 2, 3, 4, 5, 6, 7, 8, 9]⟩,
  ⟨some 67, .bin .sub (.t 66) (.c (.int .i64 1)), some (61, true), [62, 63, 64, 65], [0, 1, 2, 3, 4, 5, 6, 7, 8, 9, 14]⟩,
  ⟨some 68, .iad 6 (.t 65) (.t 67), some (61, true), [62, 63, 64], [0, 1, 2, 3, 4, 5, 6, 7, 8, 9, 13, 14, 15]⟩,
  ⟨some 69, .fad 3 (.t 68), some (61, true), [62, 63, 64], [0, 1, 2, 3, 4, 5, 6, 7, 8, 9, 13, 14, 15, 16]⟩,
  ⟨some 70, .load false 1 (.t 69), some (61, true), [62, 63, 64], [0, 1, 2, 3, 4, 5, 6, 7, 8, 9, 13, 14, 15, 16, 17]⟩,
  ⟨some 71, .bin .eql (.t 64) (.t 70), some (61, true), [], [0, 1, 2, 3, 4, 5, 6, 7, 8, 9, 10, 11, 12, 13, 14, 15, 16, 17, 18]⟩,
  ⟨some 72, .pick (.t 61) (.t 71) (.c (.bool false)), none, [], [0, 1, 2, 3, 4, 5, 6, 7, 8, 9, 10, 11, 12, 13, 14, 15, 16, 17, 18, 19]⟩] true)
 (.cond (.t 72) (.seq (.region [⟨some 73, .mov (.t 8), none, [], []⟩,
  ⟨some 74, .mov (.t 9), none, [], []⟩,
  ⟨some 75, .bin .sub (.t 74) (.c (.int .i64 1)), none, [], []⟩,
  ⟨some 76, .mov (.t 10), none, [], []⟩,
  ⟨some 77, .iad 6 (.t 73) (.t 75), none, [], []⟩,
  ⟨some 78, .fad 3 (.t 77), none, [], []⟩,
  ⟨none, .store none 1 (.t 78) (.t 76), none, [], []⟩] false)
 (.seq (.region [⟨some 79, .mov (.t 8), none, [], []⟩,
  ⟨some 6, .mov (.t 79), none, [], []⟩,
  ⟨some 7, .mov (.c (.bool true)), none, [], []⟩] false)
 .ret)) .skip))
 (.seq (.region [⟨some 80, .mov (.t 8), none, [], []⟩,
  ⟨some 6, .mov (.t 80), none, [], []⟩,
  ⟨some 7, .mov (.c (.bool false)), none, [], []⟩] false)
 .ret))))))))))
def i104 : F := ⟨3, 81, j104, [.t 6, .t 7]⟩
theorem b104 : i104.body = j104 := rfl
theorem q104 : i104.res = [.t 6, .t 7] := rfl
theorem c104 : chkF Tryz.prog Tryz.f104 i104 = true := by kernel_rfl
theorem s104 {m : Model} {E : Nat → Model} (hE : ∀ f, Sound Tryz.prog f (E f)) (hm : ∀ args r, m args = some r → ∃ N, i104.ev E N args = some r) : Sound Tryz.prog 104 m := sound_of i104 Tryz.func104 rfl c104 hE hm
/-- bellwether/bellwetherref10.Queue -/
def j61 : C := (.seq (.region [⟨some 4, .mov (.c (.bool false)), none, [], []⟩] false)
 (.seq (.seq (.region [⟨some 6, .mov (.t 1), none, [], []⟩,
  ⟨some 7, .call false 58 [(.t 6), (.c (.int .i64 2)), (.c (.int .i64 32))], none, [], []⟩,
  ⟨some 8, .un .not (.t 7), none, [], []⟩,
  ⟨some 9, .mov (.t 8), none, [], []⟩,
  ⟨some 10, .mov (.t 0), some (9, false), [], []⟩,
  ⟨some 11, .len (.t 10), some (9, false), [], []⟩,
  ⟨some 12, .mov (.t 1), some (9, false), [], []⟩,
  ⟨some 13, .bin .gtr (.t 11) (.t 12), some (9, false), [], []⟩,
  ⟨some 14, .pick (.t 9) (.c (.bool true)) (.t 13), none, [], []⟩] false)
 (.cond (.t 14) (.seq (.region [⟨some 4, .mov (.c (.bool false)), none, [], []⟩] false)
 .ret) .skip))
 (.seq (.seq (.region [⟨some 5, .mov (.c (.int .i64 0)), none, [], []⟩] false)
 (.block 0 (.loop (.keep [0, 1, 5] (.seq (.seq (.region [⟨some 15, .mov (.t 5), none, [], []⟩,
  ⟨some 16, .mov (.t 0), none, [], []⟩,
  ⟨some 17, .len (.t 16), none, [], []⟩,
  ⟨some 18, .bin .lss (.t 15) (.t 17), none, [], []⟩] false)
 (.cond (.t 18) .skip (.exit 0)))
 (.seq (.block 1 (.seq (.region [⟨some 21, .mov (.t 0), none, [], []⟩,
  ⟨some 22, .mov (.t 5), none, [], []⟩,
  ⟨some 23, .iad 6 (.t 21) (.t 22), none, [], []⟩,
  ⟨some 24, .load true 6 (.t 23), none, [], []⟩,
  ⟨some 25, .call false 95 [(.t 24)], none, [], []⟩,
  ⟨some 26, .un .not (.t 25), none, [], []⟩] false)
 (.cond (.t 26) (.seq (.region [⟨some 4, .mov (.c (.bool false)), none, [], []⟩] false)
 .ret) .skip)))
 (.region [⟨some 19, .mov (.t 5), none, [], []⟩,
  ⟨some 20, .bin .add (.t 19) (.c (.int .i64 1)), none, [], []⟩,
  ⟨some 5, .mov (.t 20), none, [], []⟩] false)))))))
 (.seq (.region [⟨some 27, .mov (.t 0), none, [], []⟩,
  ⟨some 28, .len (.t 27), none, [], []⟩,
  ⟨some 29, .mov (.t 1), none, [], []⟩,
  ⟨some 30, .bin .lss (.t 28) (.t 29), none, [], []⟩,
  ⟨some 31, .mov (.t 30), none, [], []⟩,
  ⟨some 32, .mov (.t 0), some (31, false), [], []⟩,
  ⟨some 33, .mov (.t 0), some (31, false), [], []⟩,
  ⟨some 34, .len (.t 33), some (31, false), [], []⟩,
  ⟨some 35, .bin .sub (.t 34) (.c (.int .i64 1)), some (31, false), [], []⟩,
  ⟨some 36, .iad 6 (.t 32) (.t 35), some (31, false), [], []⟩,
  ⟨some 37, .fad 0 (.t 36), some (31, false), [], []⟩,
  ⟨some 38, .load false 1 (.t 37), some (31, false), [], []⟩,
  ⟨some 39, .bin .eql (.t 38) (.c (.int .i64 2)), some (31, false), [], []⟩,
  ⟨some 40, .pick (.t 31) (.c (.bool true)) (.t 39), none, [], []⟩,
  ⟨some 4, .mov (.t 40), none, [], []⟩] false)
 .ret))))
def i61 : F := ⟨2, 41, j61, [.t 4]⟩
theorem b61 : i61.body = j61 := rfl
theorem q61 : i61.res = [.t 4] := rfl
theorem c61 : chkF Tryz.prog Tryz.f61 i61 = true := by kernel_rfl
theorem s61 {m : Model} {E : Nat → Model} (hE : ∀ f, Sound Tryz.prog f (E f)) (hm : ∀ args r, m args = some r → ∃ N, i61.ev E N args = some r) : Sound Tryz.prog 61 m := sound_of i61 Tryz.func61 rfl c61 hE hm
/-- bellwether/bellwetherref10.Stream -/
def j19 : C := (.seq (.region [⟨some 2, .box (.t 0), none, [], []⟩,
  ⟨some 3, .box (.t 1), none, [], []⟩,
  ⟨some 4, .mov (.c (.bool false)), none, [], []⟩] false)
 (.seq (.seq (.region [⟨some 5, .load true 5 (.t 3), none, [], []⟩,
  ⟨some 6, .build [.int .i64 0, .int .i64 0, .int .i64 0, .row [], .row []] [], none, [], []⟩,
  ⟨some 7, .call false 16 [(.t 5), (.t 6)], none, [], []⟩] false)
 (.cond (.t 7) (.seq (.region [⟨some 4, .mov (.c (.bool true)), none, [], []⟩] false)
 .ret) .skip))
 (.seq (.region [⟨some 8, .fad 0 (.t 3), none, [], []⟩,
  ⟨some 9, .load false 1 (.t 8), none, [], []⟩,
  ⟨some 10, .call false 22 [(.t 9)], none, [], []⟩,
  ⟨some 11, .mov (.t 10), none, [], []⟩,
  ⟨some 12, .fad 1 (.t 3), some (11, true), [], []⟩,
  ⟨some 13, .load false 1 (.t 12), some (11, true), [], []⟩,
  ⟨some 14, .call false 57 [(.t 13)], some (11, true), [], []⟩,
  ⟨some 15, .pick (.t 11) (.t 14) (.c (.bool false)), none, [], []⟩,
  ⟨some 16, .mov (.t 15), none, [], []⟩,
  ⟨some 17, .fad 2 (.t 3), some (16, true), [], []⟩,
  ⟨some 18, .load false 1 (.t 17), some (16, true), [], []⟩,
  ⟨some 19, .fad 1 (.t 3), some (16, true), [], []⟩,
  ⟨some 20, .load false 1 (.t 19), some (16, true), [], []⟩,
  ⟨some 21, .call false 58 [(.t 18), (.t 20), (.c (.int .i64 1073741824))], some (16, true), [], []⟩,
  ⟨some 22, .pick (.t 16) (.t 21) (.c (.bool false)), none, [], []⟩,
  ⟨some 23, .mov (.t 22), none, [], []⟩,
  ⟨some 24, .fad 3 (.t 3), some (23, true), [], []⟩,
  ⟨some 25, .load false 1 (.t 24), some (23, true), [], []⟩,
  ⟨some 26, .fad 1 (.t 3), some (23, true), [], []⟩,
  ⟨some 27, .load false 1 (.t 26), some (23, true), [], []⟩,
  ⟨some 28, .fad 4 (.t 2), some (23, true), [], []⟩,
  ⟨some 29, .load false 1 (.t 28), some (23, true), [], []⟩,
  ⟨some 30, .call false 59 [(.t 25), (.t 27), (.t 29)], some (23, true), [], []⟩,
  ⟨some 31, .pick (.t 23) (.t 30) (.c (.bool false)), none, [], []⟩,
  ⟨some 32, .mov (.t 31), none, [], []⟩,
  ⟨some 33, .fad 4 (.t 3), some (32, true), [], []⟩,
  ⟨some 34, .load false 1 (.t 33), some (32, true), [], []⟩,
  ⟨some 35, .fad 1 (.t 3), some (32, true), [], []⟩,
  ⟨some 36, .load false 1 (.t 35), some (32, true), [], []⟩,
  ⟨some 37, .fad 5 (.t 2), some (32, true), [], []⟩,
  ⟨some 38, .load false 1 (.t 37), some (32, true), [], []⟩,
  ⟨some 39, .call false 60 [(.t 34), (.t 36), (.t 38)], some (32, true), [], []⟩,
  ⟨some 40, .pick (.t 32) (.t 39) (.c (.bool false)), none, [], []⟩,
  ⟨some 4, .mov (.t 40), none, [], []⟩] false)
 .ret)))
def i19 : F := ⟨2, 41, j19, [.t 4]⟩
theorem b19 : i19.body = j19 := rfl
theorem q19 : i19.res = [.t 4] := rfl
theorem c19 : chkF Tryz.prog Tryz.f19 i19 = true := by kernel_rfl
theorem s19 {m : Model} {E : Nat → Model} (hE : ∀ f, Sound Tryz.prog f (E f)) (hm : ∀ args r, m args = some r → ∃ N, i19.ev E N args = some r) : Sound Tryz.prog 19 m := sound_of i19 Tryz.func19 rfl c19 hE hm
/-- bellwether/bellwetherref10.Told -/
def j23 : C := (.seq (.region [⟨some 3, .box (.t 0), none, [], []⟩,
  ⟨some 6, .alloc [.int .i64 0, .int .i64 0, .int .i64 0, .row [], .row []], none, [], []⟩] false)
 (.seq (.region [⟨some 8, .load true 5 (.t 3), none, [], []⟩,
  ⟨some 9, .call false 10 [(.t 8)], none, [], []⟩,
  ⟨some 7, .alloc [.int .i64 0, .int .i64 0, .int .i64 0, .row [], .row []], none, [], []⟩,
  ⟨none, .store none 5 (.t 7) (.t 9), none, [], []⟩] false)
 (.seq (.block 0 (.seq (.region [⟨some 11, .mov (.t 1), none, [], []⟩,
  ⟨some 12, .fad 0 (.t 3), none, [], []⟩,
  ⟨some 13, .load false 1 (.t 12), none, [], []⟩,
  ⟨some 14, .bin .gtr (.t 11) (.t 13), none, [], []⟩,
  ⟨some 10, .mov (.t 14), none, [], []⟩] false)
 (.cond (.t 10) (.seq (.region [⟨some 15, .mov (.t 1), none, [], []⟩,
  ⟨some 16, .mov (.t 2), none, [], []⟩,
  ⟨some 17, .call false 65 [(.t 15), (.t 16)], none, [], []⟩,
  ⟨none, .store none 5 (.t 6) (.t 17), none, [], []⟩] false)
 .ret) (.seq (.region [⟨some 19, .mov (.t 1), none, [], []⟩,
  ⟨some 20, .fad 0 (.t 3), none, [], []⟩,
  ⟨some 21, .load false 1 (.t 20), none, [], []⟩,
  ⟨some 22, .bin .eql (.t 19) (.t 21), none, [], []⟩,
  ⟨some 18, .mov (.t 22), none, [], []⟩] false)
 (.cond (.t 18) (.region [⟨some 23, .fad 2 (.t 7), none, [], []⟩,
  ⟨some 24, .load false 1 (.t 23), none, [], []⟩,
  ⟨some 25, .mov (.t 2), none, [], []⟩,
  ⟨some 26, .mx (.t 24) (.t 25), none, [], []⟩,
  ⟨some 27, .fad 2 (.t 7), none, [], []⟩,
  ⟨none, .store none 1 (.t 27) (.t 26), none, [], []⟩] false) .skip)))))
 (.seq (.region [⟨some 28, .load true 5 (.t 7), none, [], []⟩,
  ⟨none, .store none 5 (.t 6) (.t 28), none, [], []⟩] false)
 .ret))))
def i23 : F := ⟨3, 29, j23, [.c 6 5 true]⟩
theorem b23 : i23.body = j23 := rfl
theorem q23 : i23.res = [.c 6 5 true] := rfl
theorem c23 : chkF Tryz.prog Tryz.f23 i23 = true := by kernel_rfl
theorem s23 {m : Model} {E : Nat → Model} (hE : ∀ f, Sound Tryz.prog f (E f)) (hm : ∀ args r, m args = some r → ∃ N, i23.ev E N args = some r) : Sound Tryz.prog 23 m := sound_of i23 Tryz.func23 rfl c23 hE hm
/-- bellwether/bellwetherref10.count -/
def j57 : C := (.seq (.region [⟨some 2, .mov (.c (.bool false)), none, [], []⟩] false)
 (.seq (.region [⟨some 3, .mov (.t 0), none, [], []⟩,
  ⟨some 4, .call false 58 [(.t 3), (.c (.int .i64 1)), (.c (.int .i64 1073741824))], none, [], []⟩,
  ⟨some 2, .mov (.t 4), none, [], []⟩] false)
 .ret))
def i57 : F := ⟨1, 5, j57, [.t 2]⟩
theorem b57 : i57.body = j57 := rfl
theorem q57 : i57.res = [.t 2] := rfl
theorem c57 : chkF Tryz.prog Tryz.f57 i57 = true := by kernel_rfl
theorem s57 {m : Model} {E : Nat → Model} (hE : ∀ f, Sound Tryz.prog f (E f)) (hm : ∀ args r, m args = some r → ∃ N, i57.ev E N args = some r) : Sound Tryz.prog 57 m := sound_of i57 Tryz.func57 rfl c57 hE hm
/-- bellwether/bellwetherref10.in -/
def j58 : C := (.seq (.region [⟨some 6, .mov (.c (.bool false)), none, [], []⟩] false)
 (.seq (.region [⟨some 7, .mov (.t 0), none, [], []⟩,
  ⟨some 8, .mov (.t 1), none, [], []⟩,
  ⟨some 9, .bin .geq (.t 7) (.t 8), none, [], []⟩,
  ⟨some 10, .mov (.t 9), none, [], []⟩,
  ⟨some 11, .mov (.t 0), some (10, true), [], []⟩,
  ⟨some 12, .mov (.t 2), some (10, true), [], []⟩,
  ⟨some 13, .bin .leq (.t 11) (.t 12), some (10, true), [], []⟩,
  ⟨some 14, .pick (.t 10) (.t 13) (.c (.bool false)), none, [], []⟩,
  ⟨some 6, .mov (.t 14), none, [], []⟩] false)
 .ret))
def i58 : F := ⟨3, 15, j58, [.t 6]⟩
theorem b58 : i58.body = j58 := rfl
theorem q58 : i58.res = [.t 6] := rfl
theorem c58 : chkF Tryz.prog Tryz.f58 i58 = true := by kernel_rfl
theorem s58 {m : Model} {E : Nat → Model} (hE : ∀ f, Sound Tryz.prog f (E f)) (hm : ∀ args r, m args = some r → ∃ N, i58.ev E N args = some r) : Sound Tryz.prog 58 m := sound_of i58 Tryz.func58 rfl c58 hE hm
/-- bellwether/bellwetherref10.put -/
def j69 : C := (.seq (.region [⟨some 5, .box (.t 2), none, [], []⟩,
  ⟨some 6, .mov (.c (.row [])), none, [], []⟩] false)
 (.seq (.region [⟨some 10, .mov (.t 0), none, [], []⟩,
  ⟨some 11, .mov (.t 1), none, [], []⟩,
  ⟨some 12, .load true 6 (.t 5), none, [], []⟩,
  ⟨some 13, .call false 104 [(.t 10), (.t 11), (.t 12)], none, [], []⟩,
  ⟨some 9, .mov (.t 13), none, [], []⟩,
  ⟨some 14, .ext (.t 9) 0, none, [], []⟩,
  ⟨some 15, .ext (.t 9) 1, none, [], []⟩,
  ⟨some 7, .mov (.t 14), none, [], []⟩,
  ⟨some 8, .mov (.t 15), none, [], []⟩] false)
 (.seq (.region [⟨some 16, .mov (.t 7), none, [], []⟩,
  ⟨some 6, .mov (.t 16), none, [], []⟩] false)
 .ret)))
def i69 : F := ⟨3, 17, j69, [.t 6]⟩
theorem b69 : i69.body = j69 := rfl
theorem q69 : i69.res = [.t 6] := rfl
theorem c69 : chkF Tryz.prog Tryz.f69 i69 = true := by kernel_rfl
theorem s69 {m : Model} {E : Nat → Model} (hE : ∀ f, Sound Tryz.prog f (E f)) (hm : ∀ args r, m args = some r → ∃ N, i69.ev E N args = some r) : Sound Tryz.prog 69 m := sound_of i69 Tryz.func69 rfl c69 hE hm
/-- bellwether/bellwetherref10.taken -/
def j66 : C := (.seq (.region [⟨some 5, .box (.t 0), none, [], []⟩,
  ⟨some 6, .box (.t 1), none, [], []⟩,
  ⟨some 10, .alloc [.int .i64 0, .int .i64 0, .int .i64 0, .row [], .row []], none, [], []⟩,
  ⟨some 11, .mov (.c (.row [])), none, [], []⟩,
  ⟨some 12, .nilsl 29 2 0, none, [], []⟩] false)
 (.seq (.region [⟨some 13, .nilsl 29 2 0, none, [], []⟩] false)
 (.seq (.region [⟨some 15, .fad 1 (.t 6), none, [], []⟩,
  ⟨some 16, .load false 1 (.t 15), none, [], []⟩,
  ⟨some 17, .mov (.t 4), none, [], []⟩,
  ⟨some 18, .build [.int .i64 0, .int .i64 0] [(0, 1, (.t 16)), (1, 1, (.t 17))], none, [], []⟩,
  ⟨some 14, .alloc [.int .i64 0, .int .i64 0], none, [], []⟩,
  ⟨none, .store none 2 (.t 14) (.t 18), none, [], []⟩] false)
 (.block 0 (.loop (.keep [2, 3, 5, 6, 10, 13, 14] (.block 1 (.seq (.region [⟨some 19, .fad 3 (.t 6), none, [], []⟩,
  ⟨some 20, .load false 1 (.t 19), none, [], []⟩,
  ⟨some 21, .fad 1 (.t 6), none, [], []⟩,
  ⟨some 22, .load false 1 (.t 21), none, [], []⟩,
  ⟨some 23, .fad 4 (.t 5), none, [], []⟩,
  ⟨some 24, .load false 1 (.t 23), none, [], []⟩,
  ⟨some 25, .fad 1 (.t 14), none, [], []⟩,
  ⟨some 26, .load false 1 (.t 25), none, [], []⟩,
  ⟨some 27, .call false 103 [(.t 20), (.t 22), (.t 24), (.t 26)], none, [], []⟩,
  ⟨some 28, .fad 3 (.t 6), none, [], []⟩,
  ⟨none, .store none 1 (.t 28) (.t 27), none, [], []⟩] false)
 (.seq (.seq (.region [⟨some 29, .mov (.t 2), none, [], []⟩] false)
 (.cond (.t 29) (.region [⟨some 30, .mov (.t 3), none, [], []⟩,
  ⟨some 31, .fad 6 (.t 5), none, [], []⟩,
  ⟨some 32, .load false 1 (.t 31), none, [], []⟩,
  ⟨some 33, .fad 0 (.t 6), none, [], []⟩,
  ⟨some 34, .load false 1 (.t 33), none, [], []⟩,
  ⟨some 35, .fad 0 (.t 14), none, [], []⟩,
  ⟨some 36, .load false 1 (.t 35), none, [], []⟩,
  ⟨some 37, .fad 1 (.t 14), none, [], []⟩,
  ⟨some 38, .load false 1 (.t 37), none, [], []⟩,
  ⟨some 39, .build [.int .i64 0, .int .i64 0, .int .i64 0, .int .i64 0, .int .i64 0, .int .i64 0] [(0, 1, (.c (.int .i64 1))), (1, 1, (.t 34)), (2, 1, (.t 36)), (4, 1, (.t 38))], none, [], []⟩,
  ⟨some 40, .call false 69 [(.t 30), (.t 32), (.t 39)], none, [], []⟩,
  ⟨some 3, .mov (.t 40), none, [], []⟩] false) .skip))
 (.seq (.region [⟨some 41, .mov (.t 13), none, [], []⟩,
  ⟨some 42, .load true 2 (.t 14), none, [], []⟩,
  ⟨some 43, .bsl 29 2 1 [.int .i64 0, .int .i64 0] [(0, (.t 42))], none, [], []⟩,
  ⟨some 44, .app 29 2 16 (.t 41) (.t 43), none, [], []⟩,
  ⟨some 13, .mov (.t 44), none, [], []⟩] false)
 (.seq (.region [⟨some 45, .fad 1 (.t 6), none, [], []⟩,
  ⟨some 46, .load false 1 (.t 45), none, [], []⟩,
  ⟨some 47, .bin .add (.t 46) (.c (.int .i64 1)), none, [], []⟩,
  ⟨some 48, .fad 1 (.t 6), none, [], []⟩,
  ⟨none, .store none 1 (.t 48) (.t 47), none, [], []⟩] false)
 (.seq (.region [⟨some 49, .fad 2 (.t 6), none, [], []⟩,
  ⟨some 50, .load false 1 (.t 49), none, [], []⟩,
  ⟨some 51, .fad 1 (.t 6), none, [], []⟩,
  ⟨some 52, .load false 1 (.t 51), none, [], []⟩,
  ⟨some 53, .mx (.t 50) (.t 52), none, [], []⟩,
  ⟨some 54, .fad 2 (.t 6), none, [], []⟩,
  ⟨none, .store none 1 (.t 54) (.t 53), none, [], []⟩] false)
 (.seq (.seq (.region [⟨some 55, .fad 4 (.t 6), none, [], []⟩,
  ⟨some 56, .load false 1 (.t 55), none, [], [0]⟩,
  ⟨some 57, .len (.t 56), none, [], [0, 1]⟩,
  ⟨some 58, .bin .eql (.t 57) (.c (.int .i64 0)), none, [], [0, 1, 2]⟩,
  ⟨some 59, .mov (.t 58), none, [], [0, 1, 2, 3]⟩,
  ⟨some 60, .fad 4 (.t 6), some (59, false), [65, 66], [0, 1, 2, 3, 4]⟩,
  ⟨some 61, .load false 1 (.t 60), some (59, false), [65, 66], [0, 1, 2, 3, 4, 5]⟩,
  ⟨some 62, .iad 2 (.t 61) (.c (.int .i64 0)), some (59, false), [65, 66], [0, 1, 2, 3, 4, 5, 6]⟩,
  ⟨some 63, .fad 0 (.t 62), some (59, false), [65, 66], [0, 1, 2, 3, 4, 5, 6, 7]⟩,
  ⟨some 64, .load false 1 (.t 63), some (59, false), [65, 66], [0, 1, 2, 3, 4, 5, 6, 7, 8]⟩,
  ⟨some 65, .fad 1 (.t 6), some (59, false), [60, 61, 62, 63, 64], [0, 1, 2, 3, 4]⟩,
  ⟨some 66, .load false 1 (.t 65), some (59, false), [60, 61, 62, 63, 64], [0, 1, 2, 3, 4, 10]⟩,
  ⟨some 67, .bin .neq (.t 64) (.t 66), some (59, false), [], [0, 1, 2, 3, 4, 5, 6, 7, 8, 9, 10, 11]⟩,
  ⟨some 68, .pick (.t 59) (.c (.bool true)) (.t 67), none, [], [0, 1, 2, 3, 4, 5, 6, 7, 8, 9, 10, 11, 12]⟩] true)
 (.cond (.t 68) (.seq (.region [⟨some 69, .load true 5 (.t 6), none, [], []⟩,
  ⟨some 70, .mov (.t 3), none, [], []⟩,
  ⟨some 71, .mov (.t 13), none, [], []⟩,
  ⟨none, .store none 5 (.t 10) (.t 69), none, [], []⟩,
  ⟨some 11, .mov (.t 70), none, [], []⟩,
  ⟨some 12, .mov (.t 71), none, [], []⟩] false)
 .ret) .skip))
 (.seq (.region [⟨some 72, .fad 4 (.t 6), none, [], []⟩,
  ⟨some 73, .load false 1 (.t 72), none, [], []⟩,
  ⟨some 74, .iad 2 (.t 73) (.c (.int .i64 0)), none, [], []⟩,
  ⟨some 75, .load true 2 (.t 74), none, [], []⟩,
  ⟨none, .store none 2 (.t 14) (.t 75), none, [], []⟩] false)
 (.region [⟨some 76, .fad 4 (.t 6), none, [], []⟩,
  ⟨some 77, .load false 1 (.t 76), none, [], []⟩,
  ⟨some 78, .cut 2 (.t 77) (some (.c (.int .i64 1))) none, none, [], []⟩,
  ⟨some 79, .fad 4 (.t 6), none, [], []⟩,
  ⟨none, .store none 1 (.t 79) (.t 78), none, [], []⟩] false)))))))))))))))
def i66 : F := ⟨5, 80, j66, [.c 10 5 true, .t 11, .t 12]⟩
theorem b66 : i66.body = j66 := rfl
theorem q66 : i66.res = [.c 10 5 true, .t 11, .t 12] := rfl
theorem c66 : chkF Tryz.prog Tryz.f66 i66 = true := by kernel_rfl
theorem s66 {m : Model} {E : Nat → Model} (hE : ∀ f, Sound Tryz.prog f (E f)) (hm : ∀ args r, m args = some r → ∃ N, i66.ev E N args = some r) : Sound Tryz.prog 66 m := sound_of i66 Tryz.func66 rfl c66 hE hm
/-- bellwether/ring.Is -/
def j83 : C := (.seq (.region [⟨some 2, .mov (.c (.bool false)), none, [], []⟩] false)
 (.seq (.region [⟨some 3, .mov (.t 0), none, [], []⟩,
  ⟨some 4, .call false 115 [(.t 3), (.c (.int .i64 8))], none, [], []⟩,
  ⟨some 2, .mov (.t 4), none, [], []⟩] false)
 .ret))
def i83 : F := ⟨1, 5, j83, [.t 2]⟩
theorem b83 : i83.body = j83 := rfl
theorem q83 : i83.res = [.t 2] := rfl
theorem c83 : chkF Tryz.prog Tryz.f83 i83 = true := by kernel_rfl
theorem s83 {m : Model} {E : Nat → Model} (hE : ∀ f, Sound Tryz.prog f (E f)) (hm : ∀ args r, m args = some r → ∃ N, i83.ev E N args = some r) : Sound Tryz.prog 83 m := sound_of i83 Tryz.func83 rfl c83 hE hm
/-- bellwether/ring.in -/
def j115 : C := (.seq (.region [⟨some 4, .mov (.c (.bool false)), none, [], []⟩] false)
 (.seq (.region [⟨some 5, .mov (.t 0), none, [], []⟩,
  ⟨some 6, .bin .geq (.t 5) (.c (.int .i64 0)), none, [], []⟩,
  ⟨some 7, .mov (.t 6), none, [], []⟩,
  ⟨some 8, .mov (.t 0), some (7, true), [], []⟩,
  ⟨some 9, .mov (.t 1), some (7, true), [], []⟩,
  ⟨some 10, .bin .lss (.t 8) (.t 9), some (7, true), [], []⟩,
  ⟨some 11, .pick (.t 7) (.t 10) (.c (.bool false)), none, [], []⟩,
  ⟨some 4, .mov (.t 11), none, [], []⟩] false)
 .ret))
def i115 : F := ⟨2, 12, j115, [.t 4]⟩
theorem b115 : i115.body = j115 := rfl
theorem q115 : i115.res = [.t 4] := rfl
theorem c115 : chkF Tryz.prog Tryz.f115 i115 = true := by kernel_rfl
theorem s115 {m : Model} {E : Nat → Model} (hE : ∀ f, Sound Tryz.prog f (E f)) (hm : ∀ args r, m args = some r → ∃ N, i115.ev E N args = some r) : Sound Tryz.prog 115 m := sound_of i115 Tryz.func115 rfl c115 hE hm
/-- bellwether/script.Config -/
def j62 : C := (.seq (.region [⟨some 1, .box (.t 0), none, [], []⟩,
  ⟨some 2, .mov (.c (.int .i64 0)), none, [], []⟩] false)
 (.seq (.region [⟨some 3, .load true 7 (.t 1), none, [], []⟩,
  ⟨some 4, .call false 97 [(.t 3)], none, [], []⟩,
  ⟨some 5, .call false 96 [(.t 4)], none, [], []⟩,
  ⟨some 2, .mov (.t 5), none, [], []⟩] false)
 .ret))
def i62 : F := ⟨1, 6, j62, [.t 2]⟩
theorem b62 : i62.body = j62 := rfl
theorem q62 : i62.res = [.t 2] := rfl
theorem c62 : chkF Tryz.prog Tryz.f62 i62 = true := by kernel_rfl
theorem s62 {m : Model} {E : Nat → Model} (hE : ∀ f, Sound Tryz.prog f (E f)) (hm : ∀ args r, m args = some r → ∃ N, i62.ev E N args = some r) : Sound Tryz.prog 62 m := sound_of i62 Tryz.func62 rfl c62 hE hm
/-- bellwether/script.config -/
def j97 : C := (.seq (.region [⟨some 1, .box (.t 0), none, [], []⟩,
  ⟨some 2, .mov (.c (.k .nilIface)), none, [], []⟩] false)
 (.seq (.region [⟨some 3, .fad 0 (.t 1), none, [6, 7, 9, 10, 12, 13, 15, 16, 18, 19, 21, 22], []⟩,
  ⟨some 4, .load false 1 (.t 3), none, [6, 7, 9, 10, 12, 13, 15, 16, 18, 19, 21, 22], [0]⟩,
  ⟨some 5, .call false 125 [(.c (.k (.string ⟨#[110, 111, 100, 101, 115]⟩))), (.t 4), (.c (.int .i64 1)), (.c (.int .i64 8)), (.c (.int .i64 13))], none, [6, 7, 9, 10, 12, 13, 15, 16, 18, 19, 21, 22], [0, 1]⟩,
  ⟨some 6, .fad 1 (.t 1), none, [3, 4, 5, 9, 10, 12, 13, 15, 16, 18, 19, 21, 22], []⟩,
  ⟨some 7, .load false 1 (.t 6), none, [3, 4, 5, 9, 10, 12, 13, 15, 16, 18, 19, 21, 22], [3]⟩,
  ⟨some 8, .call false 125 [(.c (.k (.string ⟨#[116, 111, 112, 105, 99, 115]⟩))), (.t 7), (.c (.int .i64 1)), (.c (.int .i64 4)), (.c (.int .i64 13))], none, [9, 10, 12, 13, 15, 16, 18, 19, 21, 22], [0, 1, 2, 3, 4]⟩,
  ⟨some 9, .fad 2 (.t 1), none, [3, 4, 5, 6, 7, 8, 12, 13, 15, 16, 18, 19, 21, 22], []⟩,
  ⟨some 10, .load false 1 (.t 9), none, [3, 4, 5, 6, 7, 8, 12, 13, 15, 16, 18, 19, 21, 22], [6]⟩,
  ⟨some 11, .call false 125 [(.c (.k (.string ⟨#[107, 105, 100, 115]⟩))), (.t 10), (.c (.int .i64 1)), (.c (.int .i64 4)), (.c (.int .i64 13))], none, [12, 13, 15, 16, 18, 19, 21, 22], [0, 1, 2, 3, 4, 5, 6, 7]⟩,
  ⟨some 12, .fad 3 (.t 1), none, [3, 4, 5, 6, 7, 8, 9, 10, 11, 15, 16, 18, 19, 21, 22], []⟩,
  ⟨some 13, .load false 1 (.t 12), none, [3, 4, 5, 6, 7, 8, 9, 10, 11, 15, 16, 18, 19, 21, 22], [9]⟩,
  ⟨some 14, .call false 125 [(.c (.k (.string ⟨#[100, 101, 112, 116, 104]⟩))), (.t 13), (.c (.int .i64 1)), (.c (.int .i64 8)), (.c (.int .i64 13))], none, [15, 16, 18, 19, 21, 22], [0, 1, 2, 3, 4, 5, 6, 7, 8, 9, 10]⟩,
  ⟨some 15, .fad 4 (.t 1), none, [3, 4, 5, 6, 7, 8, 9, 10, 11, 12, 13, 14, 18, 19, 21, 22], []⟩,
  ⟨some 16, .load false 1 (.t 15), none, [3, 4, 5, 6, 7, 8, 9, 10, 11, 12, 13, 14, 18, 19, 21, 22], [12]⟩,
  ⟨some 17, .call false 125 [(.c (.k (.string ⟨#[107, 101, 101, 112]⟩))), (.t 16), (.c (.int .i64 1)), (.c (.int .i64 16)), (.c (.int .i64 13))], none, [18, 19, 21, 22], [0, 1, 2, 3, 4, 5, 6, 7, 8, 9, 10, 11, 12, 13]⟩,
  ⟨some 18, .fad 5 (.t 1), none, [3, 4, 5, 6, 7, 8, 9, 10, 11, 12, 13, 14, 15, 16, 17, 21, 22], []⟩,
  ⟨some 19, .load false 1 (.t 18), none, [3, 4, 5, 6, 7, 8, 9, 10, 11, 12, 13, 14, 15, 16, 17, 21, 22], [15]⟩,
  ⟨some 20, .call false 125 [(.c (.k (.string ⟨#[119, 105, 110, 100, 111, 119]⟩))), (.t 19), (.c (.int .i64 1)), (.c (.int .i64 16)), (.c (.int .i64 13))], none, [21, 22], [0, 1, 2, 3, 4, 5, 6, 7, 8, 9, 10, 11, 12, 13, 14, 15, 16]⟩,
  ⟨some 21, .fad 6 (.t 1), none, [3, 4, 5, 6, 7, 8, 9, 10, 11, 12, 13, 14, 15, 16, 17, 18, 19, 20], []⟩,
  ⟨some 22, .load false 1 (.t 21), none, [3, 4, 5, 6, 7, 8, 9, 10, 11, 12, 13, 14, 15, 16, 17, 18, 19, 20], [18]⟩,
  ⟨some 23, .call false 125 [(.c (.k (.string ⟨#[113, 117, 101, 117, 101]⟩))), (.t 22), (.c (.int .i64 2)), (.c (.int .i64 32)), (.c (.int .i64 13))], none, [], [0, 1, 2, 3, 4, 5, 6, 7, 8, 9, 10, 11, 12, 13, 14, 15, 16, 17, 18, 19]⟩,
  ⟨some 24, .bsr 123 1 7 [.k .nilIface] [(0, (.t 5)), (1, (.t 8)), (2, (.t 11)), (3, (.t 14)), (4, (.t 17)), (5, (.t 20)), (6, (.t 23))], none, [], [0, 1, 2, 3, 4, 5, 6, 7, 8, 9, 10, 11, 12, 13, 14, 15, 16, 17, 18, 19, 20]⟩,
  ⟨some 25, .call false 124 [(.t 24)], none, [], [0, 1, 2, 3, 4, 5, 6, 7, 8, 9, 10, 11, 12, 13, 14, 15, 16, 17, 18, 19, 20, 21]⟩,
  ⟨some 2, .mov (.t 25), none, [], [0, 1, 2, 3, 4, 5, 6, 7, 8, 9, 10, 11, 12, 13, 14, 15, 16, 17, 18, 19, 20, 21, 22]⟩] true)
 .ret))
def i97 : F := ⟨1, 26, j97, [.t 2]⟩
theorem b97 : i97.body = j97 := rfl
theorem q97 : i97.res = [.t 2] := rfl
theorem c97 : chkF Tryz.prog Tryz.f97 i97 = true := by kernel_rfl
theorem s97 {m : Model} {E : Nat → Model} (hE : ∀ f, Sound Tryz.prog f (E f)) (hm : ∀ args r, m args = some r → ∃ N, i97.ev E N args = some r) : Sound Tryz.prog 97 m := sound_of i97 Tryz.func97 rfl c97 hE hm
theorem x96 : Sound Tryz.prog 96 XE.errnoM := XE.errno_ok
/-- bellwether/script.field -/
def j125 : C := (.seq (.region [⟨some 10, .mov (.c (.k .nilIface)), none, [], []⟩] false)
 (.seq (.seq (.region [⟨some 11, .mov (.t 1), none, [], []⟩,
  ⟨some 12, .mov (.t 2), none, [], []⟩,
  ⟨some 13, .bin .lss (.t 11) (.t 12), none, [], []⟩,
  ⟨some 14, .mov (.t 13), none, [], []⟩,
  ⟨some 15, .mov (.t 1), some (14, false), [], []⟩,
  ⟨some 16, .mov (.t 3), some (14, false), [], []⟩,
  ⟨some 17, .bin .gtr (.t 15) (.t 16), some (14, false), [], []⟩,
  ⟨some 18, .pick (.t 14) (.c (.bool true)) (.t 17), none, [], []⟩] false)
 (.cond (.t 18) (.seq (.region [⟨some 19, .mov (.t 0), none, [], []⟩,
  ⟨some 20, .mov (.t 4), none, [], []⟩,
  ⟨some 21, .mki 33 (.t 20), none, [], []⟩,
  ⟨some 22, .build [.k (.string ⟨#[]⟩), .k .nilIface] [(0, 1, (.t 19)), (1, 1, (.t 21))], none, [], []⟩,
  ⟨some 23, .box (.t 22), none, [], []⟩,
  ⟨some 24, .mkp 170 (.t 23), none, [], []⟩,
  ⟨some 10, .mov (.t 24), none, [], []⟩] false)
 .ret) .skip))
 (.seq (.region [⟨some 10, .mov (.c (.k .nilIface)), none, [], []⟩] false)
 .ret)))
def i125 : F := ⟨5, 25, j125, [.t 10]⟩
theorem b125 : i125.body = j125 := rfl
theorem q125 : i125.res = [.t 10] := rfl
theorem c125 : chkF Tryz.prog Tryz.f125 i125 = true := by kernel_rfl
theorem s125 {m : Model} {E : Nat → Model} (hE : ∀ f, Sound Tryz.prog f (E f)) (hm : ∀ args r, m args = some r → ∃ N, i125.ev E N args = some r) : Sound Tryz.prog 125 m := sound_of i125 Tryz.func125 rfl c125 hE hm
def xt : List (Nat × Model) := [(86, cloneM 96 6 48), (85, cloneM 29 2 16), (93, XI.insM 29 2 16), (96, XE.errnoM)]
def tb : List (Nat × F) := [(100, i100), (116, i116), (127, i127), (90, i90), (54, i54), (91, i91), (89, i89), (88, i88), (117, i117), (92, i92), (17, i17), (26, i26), (16, i16), (11, i11), (44, i44), (10, i10), (45, i45), (124, i124), (47, i47), (21, i21), (14, i14), (13, i13), (15, i15), (12, i12), (48, i48), (49, i49), (63, i63), (55, i55), (53, i53), (52, i52), (50, i50), (98, i98), (99, i99), (87, i87), (126, i126), (68, i68), (9, i9), (27, i27), (46, i46), (51, i51), (84, i84), (64, i64), (101, i101), (102, i102), (94, i94), (120, i120), (128, i128), (145, i145), (137, i137), (144, i144), (18, i18), (56, i56), (121, i121), (24, i24), (67, i67), (60, i60), (65, i65), (22, i22), (95, i95), (20, i20), (28, i28), (25, i25), (59, i59), (103, i103), (104, i104), (61, i61), (19, i19), (23, i23), (57, i57), (58, i58), (69, i69), (66, i66), (83, i83), (115, i115), (62, i62), (97, i97), (125, i125)]
theorem xt_ok : ∀ p ∈ xt, Sound Tryz.prog p.1 p.2 := all_cons x86 (all_cons x85 (all_cons x93 (all_cons x96 (all_nil))))
theorem tb_ok (N : Nat) : ∀ p ∈ tb, ∀ E : Nat → Model, (∀ f, Sound Tryz.prog f (E f)) → Sound Tryz.prog p.1 (p.2.ev E N) := all_cons (fun E hE => s100 hE fun _ _ h => ⟨N, h⟩) (all_cons (fun E hE => s116 hE fun _ _ h => ⟨N, h⟩) (all_cons (fun E hE => s127 hE fun _ _ h => ⟨N, h⟩) (all_cons (fun E hE => s90 hE fun _ _ h => ⟨N, h⟩) (all_cons (fun E hE => s54 hE fun _ _ h => ⟨N, h⟩) (all_cons (fun E hE => s91 hE fun _ _ h => ⟨N, h⟩) (all_cons (fun E hE => s89 hE fun _ _ h => ⟨N, h⟩) (all_cons (fun E hE => s88 hE fun _ _ h => ⟨N, h⟩) (all_cons (fun E hE => s117 hE fun _ _ h => ⟨N, h⟩) (all_cons (fun E hE => s92 hE fun _ _ h => ⟨N, h⟩) (all_cons (fun E hE => s17 hE fun _ _ h => ⟨N, h⟩) (all_cons (fun E hE => s26 hE fun _ _ h => ⟨N, h⟩) (all_cons (fun E hE => s16 hE fun _ _ h => ⟨N, h⟩) (all_cons (fun E hE => s11 hE fun _ _ h => ⟨N, h⟩) (all_cons (fun E hE => s44 hE fun _ _ h => ⟨N, h⟩) (all_cons (fun E hE => s10 hE fun _ _ h => ⟨N, h⟩) (all_cons (fun E hE => s45 hE fun _ _ h => ⟨N, h⟩) (all_cons (fun E hE => s124 hE fun _ _ h => ⟨N, h⟩) (all_cons (fun E hE => s47 hE fun _ _ h => ⟨N, h⟩) (all_cons (fun E hE => s21 hE fun _ _ h => ⟨N, h⟩) (all_cons (fun E hE => s14 hE fun _ _ h => ⟨N, h⟩) (all_cons (fun E hE => s13 hE fun _ _ h => ⟨N, h⟩) (all_cons (fun E hE => s15 hE fun _ _ h => ⟨N, h⟩) (all_cons (fun E hE => s12 hE fun _ _ h => ⟨N, h⟩) (all_cons (fun E hE => s48 hE fun _ _ h => ⟨N, h⟩) (all_cons (fun E hE => s49 hE fun _ _ h => ⟨N, h⟩) (all_cons (fun E hE => s63 hE fun _ _ h => ⟨N, h⟩) (all_cons (fun E hE => s55 hE fun _ _ h => ⟨N, h⟩) (all_cons (fun E hE => s53 hE fun _ _ h => ⟨N, h⟩) (all_cons (fun E hE => s52 hE fun _ _ h => ⟨N, h⟩) (all_cons (fun E hE => s50 hE fun _ _ h => ⟨N, h⟩) (all_cons (fun E hE => s98 hE fun _ _ h => ⟨N, h⟩) (all_cons (fun E hE => s99 hE fun _ _ h => ⟨N, h⟩) (all_cons (fun E hE => s87 hE fun _ _ h => ⟨N, h⟩) (all_cons (fun E hE => s126 hE fun _ _ h => ⟨N, h⟩) (all_cons (fun E hE => s68 hE fun _ _ h => ⟨N, h⟩) (all_cons (fun E hE => s9 hE fun _ _ h => ⟨N, h⟩) (all_cons (fun E hE => s27 hE fun _ _ h => ⟨N, h⟩) (all_cons (fun E hE => s46 hE fun _ _ h => ⟨N, h⟩) (all_cons (fun E hE => s51 hE fun _ _ h => ⟨N, h⟩) (all_cons (fun E hE => s84 hE fun _ _ h => ⟨N, h⟩) (all_cons (fun E hE => s64 hE fun _ _ h => ⟨N, h⟩) (all_cons (fun E hE => s101 hE fun _ _ h => ⟨N, h⟩) (all_cons (fun E hE => s102 hE fun _ _ h => ⟨N, h⟩) (all_cons (fun E hE => s94 hE fun _ _ h => ⟨N, h⟩) (all_cons (fun E hE => s120 hE fun _ _ h => ⟨N, h⟩) (all_cons (fun E hE => s128 hE fun _ _ h => ⟨N, h⟩) (all_cons (fun E hE => s145 hE fun _ _ h => ⟨N, h⟩) (all_cons (fun E hE => s137 hE fun _ _ h => ⟨N, h⟩) (all_cons (fun E hE => s144 hE fun _ _ h => ⟨N, h⟩) (all_cons (fun E hE => s18 hE fun _ _ h => ⟨N, h⟩) (all_cons (fun E hE => s56 hE fun _ _ h => ⟨N, h⟩) (all_cons (fun E hE => s121 hE fun _ _ h => ⟨N, h⟩) (all_cons (fun E hE => s24 hE fun _ _ h => ⟨N, h⟩) (all_cons (fun E hE => s67 hE fun _ _ h => ⟨N, h⟩) (all_cons (fun E hE => s60 hE fun _ _ h => ⟨N, h⟩) (all_cons (fun E hE => s65 hE fun _ _ h => ⟨N, h⟩) (all_cons (fun E hE => s22 hE fun _ _ h => ⟨N, h⟩) (all_cons (fun E hE => s95 hE fun _ _ h => ⟨N, h⟩) (all_cons (fun E hE => s20 hE fun _ _ h => ⟨N, h⟩) (all_cons (fun E hE => s28 hE fun _ _ h => ⟨N, h⟩) (all_cons (fun E hE => s25 hE fun _ _ h => ⟨N, h⟩) (all_cons (fun E hE => s59 hE fun _ _ h => ⟨N, h⟩) (all_cons (fun E hE => s103 hE fun _ _ h => ⟨N, h⟩) (all_cons (fun E hE => s104 hE fun _ _ h => ⟨N, h⟩) (all_cons (fun E hE => s61 hE fun _ _ h => ⟨N, h⟩) (all_cons (fun E hE => s19 hE fun _ _ h => ⟨N, h⟩) (all_cons (fun E hE => s23 hE fun _ _ h => ⟨N, h⟩) (all_cons (fun E hE => s57 hE fun _ _ h => ⟨N, h⟩) (all_cons (fun E hE => s58 hE fun _ _ h => ⟨N, h⟩) (all_cons (fun E hE => s69 hE fun _ _ h => ⟨N, h⟩) (all_cons (fun E hE => s66 hE fun _ _ h => ⟨N, h⟩) (all_cons (fun E hE => s83 hE fun _ _ h => ⟨N, h⟩) (all_cons (fun E hE => s115 hE fun _ _ h => ⟨N, h⟩) (all_cons (fun E hE => s62 hE fun _ _ h => ⟨N, h⟩) (all_cons (fun E hE => s97 hE fun _ _ h => ⟨N, h⟩) (all_cons (fun E hE => s125 hE fun _ _ h => ⟨N, h⟩) (all_nil)))))))))))))))))))))))))))))))))))))))))))))))))))))))))))))))))))))))))))))
abbrev TT := T xt tb
theorem TT_ok (N d f : Nat) : Sound Tryz.prog f (TT N d f) := T_ok xt_ok (tb_ok N) d f
theorem t100 (N d : Nat) : TT N (d + 1) 100 = i100.ev (TT N d) N := rfl
theorem t116 (N d : Nat) : TT N (d + 1) 116 = i116.ev (TT N d) N := rfl
theorem t127 (N d : Nat) : TT N (d + 1) 127 = i127.ev (TT N d) N := rfl
theorem t90 (N d : Nat) : TT N (d + 1) 90 = i90.ev (TT N d) N := rfl
theorem t54 (N d : Nat) : TT N (d + 1) 54 = i54.ev (TT N d) N := rfl
theorem t91 (N d : Nat) : TT N (d + 1) 91 = i91.ev (TT N d) N := rfl
theorem t89 (N d : Nat) : TT N (d + 1) 89 = i89.ev (TT N d) N := rfl
theorem t88 (N d : Nat) : TT N (d + 1) 88 = i88.ev (TT N d) N := rfl
theorem t117 (N d : Nat) : TT N (d + 1) 117 = i117.ev (TT N d) N := rfl
theorem t92 (N d : Nat) : TT N (d + 1) 92 = i92.ev (TT N d) N := rfl
theorem t17 (N d : Nat) : TT N (d + 1) 17 = i17.ev (TT N d) N := rfl
theorem t26 (N d : Nat) : TT N (d + 1) 26 = i26.ev (TT N d) N := rfl
theorem t16 (N d : Nat) : TT N (d + 1) 16 = i16.ev (TT N d) N := rfl
theorem t11 (N d : Nat) : TT N (d + 1) 11 = i11.ev (TT N d) N := rfl
theorem t44 (N d : Nat) : TT N (d + 1) 44 = i44.ev (TT N d) N := rfl
theorem t10 (N d : Nat) : TT N (d + 1) 10 = i10.ev (TT N d) N := rfl
theorem t45 (N d : Nat) : TT N (d + 1) 45 = i45.ev (TT N d) N := rfl
theorem t124 (N d : Nat) : TT N (d + 1) 124 = i124.ev (TT N d) N := rfl
theorem t47 (N d : Nat) : TT N (d + 1) 47 = i47.ev (TT N d) N := rfl
theorem t21 (N d : Nat) : TT N (d + 1) 21 = i21.ev (TT N d) N := rfl
theorem t14 (N d : Nat) : TT N (d + 1) 14 = i14.ev (TT N d) N := rfl
theorem t13 (N d : Nat) : TT N (d + 1) 13 = i13.ev (TT N d) N := rfl
theorem t15 (N d : Nat) : TT N (d + 1) 15 = i15.ev (TT N d) N := rfl
theorem t12 (N d : Nat) : TT N (d + 1) 12 = i12.ev (TT N d) N := rfl
theorem t48 (N d : Nat) : TT N (d + 1) 48 = i48.ev (TT N d) N := rfl
theorem t49 (N d : Nat) : TT N (d + 1) 49 = i49.ev (TT N d) N := rfl
theorem t63 (N d : Nat) : TT N (d + 1) 63 = i63.ev (TT N d) N := rfl
theorem t55 (N d : Nat) : TT N (d + 1) 55 = i55.ev (TT N d) N := rfl
theorem t53 (N d : Nat) : TT N (d + 1) 53 = i53.ev (TT N d) N := rfl
theorem t52 (N d : Nat) : TT N (d + 1) 52 = i52.ev (TT N d) N := rfl
theorem t50 (N d : Nat) : TT N (d + 1) 50 = i50.ev (TT N d) N := rfl
theorem t98 (N d : Nat) : TT N (d + 1) 98 = i98.ev (TT N d) N := rfl
theorem t99 (N d : Nat) : TT N (d + 1) 99 = i99.ev (TT N d) N := rfl
theorem t87 (N d : Nat) : TT N (d + 1) 87 = i87.ev (TT N d) N := rfl
theorem t126 (N d : Nat) : TT N (d + 1) 126 = i126.ev (TT N d) N := rfl
theorem t68 (N d : Nat) : TT N (d + 1) 68 = i68.ev (TT N d) N := rfl
theorem t9 (N d : Nat) : TT N (d + 1) 9 = i9.ev (TT N d) N := rfl
theorem t27 (N d : Nat) : TT N (d + 1) 27 = i27.ev (TT N d) N := rfl
theorem t46 (N d : Nat) : TT N (d + 1) 46 = i46.ev (TT N d) N := rfl
theorem t51 (N d : Nat) : TT N (d + 1) 51 = i51.ev (TT N d) N := rfl
theorem t84 (N d : Nat) : TT N (d + 1) 84 = i84.ev (TT N d) N := rfl
theorem t64 (N d : Nat) : TT N (d + 1) 64 = i64.ev (TT N d) N := rfl
theorem t101 (N d : Nat) : TT N (d + 1) 101 = i101.ev (TT N d) N := rfl
theorem t102 (N d : Nat) : TT N (d + 1) 102 = i102.ev (TT N d) N := rfl
theorem t94 (N d : Nat) : TT N (d + 1) 94 = i94.ev (TT N d) N := rfl
theorem t120 (N d : Nat) : TT N (d + 1) 120 = i120.ev (TT N d) N := rfl
theorem t128 (N d : Nat) : TT N (d + 1) 128 = i128.ev (TT N d) N := rfl
theorem t145 (N d : Nat) : TT N (d + 1) 145 = i145.ev (TT N d) N := rfl
theorem t137 (N d : Nat) : TT N (d + 1) 137 = i137.ev (TT N d) N := rfl
theorem t144 (N d : Nat) : TT N (d + 1) 144 = i144.ev (TT N d) N := rfl
theorem t18 (N d : Nat) : TT N (d + 1) 18 = i18.ev (TT N d) N := rfl
theorem t56 (N d : Nat) : TT N (d + 1) 56 = i56.ev (TT N d) N := rfl
theorem t121 (N d : Nat) : TT N (d + 1) 121 = i121.ev (TT N d) N := rfl
theorem t24 (N d : Nat) : TT N (d + 1) 24 = i24.ev (TT N d) N := rfl
theorem t67 (N d : Nat) : TT N (d + 1) 67 = i67.ev (TT N d) N := rfl
theorem t60 (N d : Nat) : TT N (d + 1) 60 = i60.ev (TT N d) N := rfl
theorem t65 (N d : Nat) : TT N (d + 1) 65 = i65.ev (TT N d) N := rfl
theorem t22 (N d : Nat) : TT N (d + 1) 22 = i22.ev (TT N d) N := rfl
theorem t95 (N d : Nat) : TT N (d + 1) 95 = i95.ev (TT N d) N := rfl
theorem t20 (N d : Nat) : TT N (d + 1) 20 = i20.ev (TT N d) N := rfl
theorem t28 (N d : Nat) : TT N (d + 1) 28 = i28.ev (TT N d) N := rfl
theorem t25 (N d : Nat) : TT N (d + 1) 25 = i25.ev (TT N d) N := rfl
theorem t59 (N d : Nat) : TT N (d + 1) 59 = i59.ev (TT N d) N := rfl
theorem t103 (N d : Nat) : TT N (d + 1) 103 = i103.ev (TT N d) N := rfl
theorem t104 (N d : Nat) : TT N (d + 1) 104 = i104.ev (TT N d) N := rfl
theorem t61 (N d : Nat) : TT N (d + 1) 61 = i61.ev (TT N d) N := rfl
theorem t19 (N d : Nat) : TT N (d + 1) 19 = i19.ev (TT N d) N := rfl
theorem t23 (N d : Nat) : TT N (d + 1) 23 = i23.ev (TT N d) N := rfl
theorem t57 (N d : Nat) : TT N (d + 1) 57 = i57.ev (TT N d) N := rfl
theorem t58 (N d : Nat) : TT N (d + 1) 58 = i58.ev (TT N d) N := rfl
theorem t69 (N d : Nat) : TT N (d + 1) 69 = i69.ev (TT N d) N := rfl
theorem t66 (N d : Nat) : TT N (d + 1) 66 = i66.ev (TT N d) N := rfl
theorem t83 (N d : Nat) : TT N (d + 1) 83 = i83.ev (TT N d) N := rfl
theorem t115 (N d : Nat) : TT N (d + 1) 115 = i115.ev (TT N d) N := rfl
theorem t62 (N d : Nat) : TT N (d + 1) 62 = i62.ev (TT N d) N := rfl
theorem t97 (N d : Nat) : TT N (d + 1) 97 = i97.ev (TT N d) N := rfl
theorem t125 (N d : Nat) : TT N (d + 1) 125 = i125.ev (TT N d) N := rfl
theorem t86 (N d : Nat) : TT N (d + 1) 86 = cloneM 96 6 48 := rfl
theorem t85 (N d : Nat) : TT N (d + 1) 85 = cloneM 29 2 16 := rfl
theorem t93 (N d : Nat) : TT N (d + 1) 93 = XI.insM 29 2 16 := rfl
theorem t96 (N d : Nat) : TT N (d + 1) 96 = XE.errnoM := rfl
end Go.Proofs.YtkfcbpbnoeaheaaGreatDoor.IF
