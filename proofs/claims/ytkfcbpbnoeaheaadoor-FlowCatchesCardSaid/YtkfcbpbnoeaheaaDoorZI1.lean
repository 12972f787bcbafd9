/- Texts joined: IF. -/
import Derived.Test.YtkfcbpbnoeaheaaDoorZX1
import Derived.Test.YtkfcbpbnoeaheaaDoorProg
set_option linter.unusedVariables false
set_option linter.unusedSimpArgs false
/- Functions of the program in the evaluator's form, each checked against the program (written by wip/prog/irgen.py). -/
set_option maxRecDepth 100000
namespace Go.Proofs.YtkfcbpbnoeaheaaDoor.IF
open Go Go.Proofs.YtkfcbpbnoeaheaaDoorR
/-- slices.Clone   bellwether/api.Event bellwether/api.Event  -/
def j37 : C := (.seq (.region [⟨some 2, .nilsl 41 6 0, none, [], []⟩] false)
 (.seq (.seq (.region [⟨some 3, .mov (.t 0), none, [], []⟩,
  ⟨some 4, .isnil false (.t 3), none, [], []⟩] false)
 (.cond (.t 4) (.seq (.region [⟨some 2, .nilsl 41 6 1, none, [], []⟩] false)
 .ret) .skip))
 (.seq (.region [⟨some 5, .bsl 41 6 0 [.int .i64 0, .int .i64 0, .int .i64 0, .int .i64 0, .int .i64 0, .int .i64 0] [], none, [], []⟩,
  ⟨some 6, .mov (.t 0), none, [], []⟩,
  ⟨some 7, .app 41 6 48 (.t 5) (.t 6), none, [], []⟩,
  ⟨some 2, .mov (.t 7), none, [], []⟩] false)
 .ret)))
def i37 : F := ⟨1, 8, j37, [.t 2]⟩
theorem b37 : i37.body = j37 := rfl
theorem q37 : i37.res = [.t 2] := rfl
theorem c37 : chkF Tryd.prog Tryd.f37 i37 = true := by kernel_rfl
theorem s37 {m : Model} {E : Nat → Model} (hE : ∀ f, Sound Tryd.prog f (E f)) (hm : ∀ args r, m args = some r → ∃ N, i37.ev E N args = some r) : Sound Tryd.prog 37 m := sound_of i37 Tryd.func37 rfl c37 hE hm
theorem x37 : Sound Tryd.prog 37 (cloneM 41 6 48) := by
  refine clone_ok (r := fun _ => (.undef, [])) (s37 (E := fun _ _ => none) (fun f => Sound.no) fun args r h => ?_) (sound_nil (fun m hm => s37 (E := fun _ _ => none) (fun f => Sound.no) hm) fun A c => ⟨0, ?_⟩)
  · split at h
    · rename_i y ys
      split at h
      · rename_i hc
        cases h
        refine ⟨0, ?_⟩
        rw [F_ev rfl]
        simp only [j37, b37, q37, qq, ww, List.replicate, Nat.reduceBEq, Nat.reduceAdd, Nat.reduceMul, Nat.reduceDiv, Nat.reduceEqDiff, Nat.reduceLeDiff, Nat.reduceLT, Int.reduceEq, Int.reduceNe, Int.reduceLT, Int.reduceLE, Int.reduceAdd, Int.reduceSub, Int.reduceMul, Int.reduceNeg, Int.reduceToNat, Int.reducePow, Nat.reducePow, reduceCtorEq, reduceIte, if_true, if_false, List.replicate, fillR, evE, V.pur1, asRow, List.map_append]
        rw [if_pos ⟨hc.1, by simpa using hc.2⟩]
        simp only [j37, b37, q37, qq, ww, List.replicate, Nat.reduceBEq, Nat.reduceAdd, Nat.reduceMul, Nat.reduceDiv, Nat.reduceEqDiff, Nat.reduceLeDiff, Nat.reduceLT, Int.reduceEq, Int.reduceNe, Int.reduceLT, Int.reduceLE, Int.reduceAdd, Int.reduceSub, Int.reduceMul, Int.reduceNeg, Int.reduceToNat, Int.reducePow, Nat.reducePow, reduceCtorEq, reduceIte, if_true, if_false, S.kill, V.kill, Blk.kill, hand, handSs, handS, handVs, handV, List.contains_nil]
        try simp
      · cases h
    · cases h
  · cases A
    · rw [F_ev rfl]
      simp only [j37, b37, q37, qq, ww, List.replicate, Nat.reduceBEq, Nat.reduceAdd, Nat.reduceMul, Nat.reduceDiv, Nat.reduceEqDiff, Nat.reduceLeDiff, Nat.reduceLT, Int.reduceEq, Int.reduceNe, Int.reduceLT, Int.reduceLE, Int.reduceAdd, Int.reduceSub, Int.reduceMul, Int.reduceNeg, Int.reduceToNat, Int.reducePow, Nat.reducePow, reduceCtorEq, reduceIte, if_true, if_false, hand, handSs, handS, handVs, handV, List.contains_nil, Bool.not_false]
      try simp
    · rw [F_ev rfl]
      simp only [j37, b37, q37, qq, ww, List.replicate, Nat.reduceBEq, Nat.reduceAdd, Nat.reduceMul, Nat.reduceDiv, Nat.reduceEqDiff, Nat.reduceLeDiff, Nat.reduceLT, Int.reduceEq, Int.reduceNe, Int.reduceLT, Int.reduceLE, Int.reduceAdd, Int.reduceSub, Int.reduceMul, Int.reduceNeg, Int.reduceToNat, Int.reducePow, Nat.reducePow, reduceCtorEq, reduceIte, if_true, if_false, List.replicate, fillR, evE, V.pur1, asRow]
      try (rw [if_pos (by simp)]; simp only [j37, b37, q37, qq, ww, List.replicate, Nat.reduceBEq, Nat.reduceAdd, Nat.reduceMul, Nat.reduceDiv, Nat.reduceEqDiff, Nat.reduceLeDiff, Nat.reduceLT, Int.reduceEq, Int.reduceNe, Int.reduceLT, Int.reduceLE, Int.reduceAdd, Int.reduceSub, Int.reduceMul, Int.reduceNeg, Int.reduceToNat, Int.reducePow, Nat.reducePow, reduceCtorEq, reduceIte, if_true, if_false, S.kill, V.kill, Blk.kill, hand, handSs, handS, handVs, handV, List.contains_nil])
      try simp
/-- slices.Clone   bellwether/api.Item bellwether/api.Item  -/
def j34 : C := (.seq (.region [⟨some 2, .nilsl 35 2 0, none, [], []⟩] false)
 (.seq (.seq (.region [⟨some 3, .mov (.t 0), none, [], []⟩,
  ⟨some 4, .isnil false (.t 3), none, [], []⟩] false)
 (.cond (.t 4) (.seq (.region [⟨some 2, .nilsl 35 2 1, none, [], []⟩] false)
 .ret) .skip))
 (.seq (.region [⟨some 5, .bsl 35 2 0 [.int .i64 0, .int .i64 0] [], none, [], []⟩,
  ⟨some 6, .mov (.t 0), none, [], []⟩,
  ⟨some 7, .app 35 2 16 (.t 5) (.t 6), none, [], []⟩,
  ⟨some 2, .mov (.t 7), none, [], []⟩] false)
 .ret)))
def i34 : F := ⟨1, 8, j34, [.t 2]⟩
theorem b34 : i34.body = j34 := rfl
theorem q34 : i34.res = [.t 2] := rfl
theorem c34 : chkF Tryd.prog Tryd.f34 i34 = true := by kernel_rfl
theorem s34 {m : Model} {E : Nat → Model} (hE : ∀ f, Sound Tryd.prog f (E f)) (hm : ∀ args r, m args = some r → ∃ N, i34.ev E N args = some r) : Sound Tryd.prog 34 m := sound_of i34 Tryd.func34 rfl c34 hE hm
theorem x34 : Sound Tryd.prog 34 (cloneM 35 2 16) := by
  refine clone_ok (r := fun _ => (.undef, [])) (s34 (E := fun _ _ => none) (fun f => Sound.no) fun args r h => ?_) (sound_nil (fun m hm => s34 (E := fun _ _ => none) (fun f => Sound.no) hm) fun A c => ⟨0, ?_⟩)
  · split at h
    · rename_i y ys
      split at h
      · rename_i hc
        cases h
        refine ⟨0, ?_⟩
        rw [F_ev rfl]
        simp only [j34, b34, q34, qq, ww, List.replicate, Nat.reduceBEq, Nat.reduceAdd, Nat.reduceMul, Nat.reduceDiv, Nat.reduceEqDiff, Nat.reduceLeDiff, Nat.reduceLT, Int.reduceEq, Int.reduceNe, Int.reduceLT, Int.reduceLE, Int.reduceAdd, Int.reduceSub, Int.reduceMul, Int.reduceNeg, Int.reduceToNat, Int.reducePow, Nat.reducePow, reduceCtorEq, reduceIte, if_true, if_false, List.replicate, fillR, evE, V.pur1, asRow, List.map_append]
        rw [if_pos ⟨hc.1, by simpa using hc.2⟩]
        simp only [j34, b34, q34, qq, ww, List.replicate, Nat.reduceBEq, Nat.reduceAdd, Nat.reduceMul, Nat.reduceDiv, Nat.reduceEqDiff, Nat.reduceLeDiff, Nat.reduceLT, Int.reduceEq, Int.reduceNe, Int.reduceLT, Int.reduceLE, Int.reduceAdd, Int.reduceSub, Int.reduceMul, Int.reduceNeg, Int.reduceToNat, Int.reducePow, Nat.reducePow, reduceCtorEq, reduceIte, if_true, if_false, S.kill, V.kill, Blk.kill, hand, handSs, handS, handVs, handV, List.contains_nil]
        try simp
      · cases h
    · cases h
  · cases A
    · rw [F_ev rfl]
      simp only [j34, b34, q34, qq, ww, List.replicate, Nat.reduceBEq, Nat.reduceAdd, Nat.reduceMul, Nat.reduceDiv, Nat.reduceEqDiff, Nat.reduceLeDiff, Nat.reduceLT, Int.reduceEq, Int.reduceNe, Int.reduceLT, Int.reduceLE, Int.reduceAdd, Int.reduceSub, Int.reduceMul, Int.reduceNeg, Int.reduceToNat, Int.reducePow, Nat.reducePow, reduceCtorEq, reduceIte, if_true, if_false, hand, handSs, handS, handVs, handV, List.contains_nil, Bool.not_false]
      try simp
    · rw [F_ev rfl]
      simp only [j34, b34, q34, qq, ww, List.replicate, Nat.reduceBEq, Nat.reduceAdd, Nat.reduceMul, Nat.reduceDiv, Nat.reduceEqDiff, Nat.reduceLeDiff, Nat.reduceLT, Int.reduceEq, Int.reduceNe, Int.reduceLT, Int.reduceLE, Int.reduceAdd, Int.reduceSub, Int.reduceMul, Int.reduceNeg, Int.reduceToNat, Int.reducePow, Nat.reducePow, reduceCtorEq, reduceIte, if_true, if_false, List.replicate, fillR, evE, V.pur1, asRow]
      try (rw [if_pos (by simp)]; simp only [j34, b34, q34, qq, ww, List.replicate, Nat.reduceBEq, Nat.reduceAdd, Nat.reduceMul, Nat.reduceDiv, Nat.reduceEqDiff, Nat.reduceLeDiff, Nat.reduceLT, Int.reduceEq, Int.reduceNe, Int.reduceLT, Int.reduceLE, Int.reduceAdd, Int.reduceSub, Int.reduceMul, Int.reduceNeg, Int.reduceToNat, Int.reducePow, Nat.reducePow, reduceCtorEq, reduceIte, if_true, if_false, S.kill, V.kill, Blk.kill, hand, handSs, handS, handVs, handV, List.contains_nil])
      try simp
/-- slices.ContainsFunc   bellwether/api.Event bellwether/api.Event  -/
def j48 : C := (.seq (.region [⟨some 4, .mov (.c (.bool false)), none, [], []⟩] false)
 (.seq (.region [⟨some 5, .mov (.t 0), none, [], []⟩,
  ⟨some 6, .mov (.t 1), none, [], []⟩,
  ⟨some 7, .call false 62 [(.t 5), (.t 6)], none, [], []⟩,
  ⟨some 8, .bin .geq (.t 7) (.c (.int .i64 0)), none, [], []⟩,
  ⟨some 4, .mov (.t 8), none, [], []⟩] false)
 .ret))
def i48 : F := ⟨2, 9, j48, [.t 4]⟩
theorem b48 : i48.body = j48 := rfl
theorem q48 : i48.res = [.t 4] := rfl
theorem c48 : chkF Tryd.prog Tryd.f48 i48 = true := by kernel_rfl
theorem s48 {m : Model} {E : Nat → Model} (hE : ∀ f, Sound Tryd.prog f (E f)) (hm : ∀ args r, m args = some r → ∃ N, i48.ev E N args = some r) : Sound Tryd.prog 48 m := sound_of i48 Tryd.func48 rfl c48 hE hm
/-- slices.DeleteFunc   bellwether/api.Item bellwether/api.Item  -/
def j54 : C := (.seq (.region [⟨some 4, .nilsl 35 2 0, none, [], []⟩] false)
 (.seq (.region [⟨some 8, .mov (.t 0), none, [], []⟩,
  ⟨some 9, .mov (.t 1), none, [], []⟩,
  ⟨some 10, .call false 41 [(.t 8), (.t 9)], none, [], []⟩,
  ⟨some 5, .mov (.t 10), none, [], []⟩] false)
 (.seq (.seq (.region [⟨some 11, .mov (.t 5), none, [], []⟩,
  ⟨some 12, .bin .eql (.t 11) (.c (.int .i64 (-1))), none, [], []⟩] false)
 (.cond (.t 12) (.seq (.region [⟨some 13, .mov (.t 0), none, [], []⟩,
  ⟨some 4, .mov (.t 13), none, [], []⟩] false)
 .ret) .skip))
 (.seq (.seq (.region [⟨some 14, .mov (.t 5), none, [], []⟩,
  ⟨some 15, .bin .add (.t 14) (.c (.int .i64 1)), none, [], []⟩,
  ⟨some 6, .mov (.t 15), none, [], []⟩] false)
 (.block 0 (.loop (.keep [0, 1, 5, 6] (.seq (.seq (.region [⟨some 16, .mov (.t 6), none, [], []⟩,
  ⟨some 17, .mov (.t 0), none, [], []⟩,
  ⟨some 18, .len (.t 17), none, [], []⟩,
  ⟨some 19, .bin .lss (.t 16) (.t 18), none, [], []⟩] false)
 (.cond (.t 19) .skip (.exit 0)))
 (.seq (.block 1 (.seq (.region [⟨some 22, .mov (.t 0), none, [], []⟩,
  ⟨some 23, .mov (.t 6), none, [], []⟩,
  ⟨some 24, .iad 2 (.t 22) (.t 23), none, [], []⟩,
  ⟨some 25, .load true 2 (.t 24), none, [], []⟩,
  ⟨some 7, .alloc [.int .i64 0, .int .i64 0], none, [], []⟩,
  ⟨none, .store none 2 (.t 7) (.t 25), none, [], []⟩] false)
 (.seq (.region [⟨some 26, .mov (.t 1), none, [], []⟩,
  ⟨some 27, .load true 2 (.t 7), none, [], []⟩,
  ⟨some 28, .callv false (.t 26) [(.t 27)], none, [], []⟩,
  ⟨some 29, .un .not (.t 28), none, [], []⟩] false)
 (.cond (.t 29) (.seq (.region [⟨some 30, .mov (.t 0), none, [], []⟩,
  ⟨some 31, .mov (.t 5), none, [], []⟩,
  ⟨some 32, .load true 2 (.t 7), none, [], []⟩,
  ⟨some 33, .iad 2 (.t 30) (.t 31), none, [], []⟩,
  ⟨none, .store none 2 (.t 33) (.t 32), none, [], []⟩] false)
 (.region [⟨some 34, .mov (.t 5), none, [], []⟩,
  ⟨some 35, .bin .add (.t 34) (.c (.int .i64 1)), none, [], []⟩,
  ⟨some 5, .mov (.t 35), none, [], []⟩] false)) .skip))))
 (.region [⟨some 20, .mov (.t 6), none, [], []⟩,
  ⟨some 21, .bin .add (.t 20) (.c (.int .i64 1)), none, [], []⟩,
  ⟨some 6, .mov (.t 21), none, [], []⟩] false)))))))
 (.seq (.region [⟨some 36, .mov (.t 0), none, [], []⟩,
  ⟨some 37, .mov (.t 5), none, [], []⟩,
  ⟨some 38, .cut 2 (.t 36) (some (.t 37)) none, none, [], []⟩,
  ⟨none, .clr 35 2 (.t 38), none, [], []⟩] false)
 (.seq (.region [⟨some 39, .mov (.t 0), none, [], []⟩,
  ⟨some 40, .mov (.t 5), none, [], []⟩,
  ⟨some 41, .cut 2 (.t 39) none (some (.t 40)), none, [], []⟩,
  ⟨some 4, .mov (.t 41), none, [], []⟩] false)
 .ret))))))
def i54 : F := ⟨2, 42, j54, [.t 4]⟩
theorem b54 : i54.body = j54 := rfl
theorem q54 : i54.res = [.t 4] := rfl
theorem c54 : chkF Tryd.prog Tryd.f54 i54 = true := by kernel_rfl
theorem s54 {m : Model} {E : Nat → Model} (hE : ∀ f, Sound Tryd.prog f (E f)) (hm : ∀ args r, m args = some r → ∃ N, i54.ev E N args = some r) : Sound Tryd.prog 54 m := sound_of i54 Tryd.func54 rfl c54 hE hm
/-- slices.IndexFunc   bellwether/api.Event bellwether/api.Event  -/
def j62 : C := (.seq (.region [⟨some 4, .mov (.c (.int .i64 0)), none, [], []⟩] false)
 (.seq (.seq (.region [⟨some 6, .mov (.t 0), none, [], []⟩,
  ⟨some 7, .len (.t 6), none, [], []⟩,
  ⟨some 8, .mov (.c (.int .i64 0)), none, [], []⟩] false)
 (.block 0 (.loop (.keep [0, 1, 7, 8] (.seq (.region [⟨some 9, .bin .lss (.t 8) (.t 7), none, [], []⟩] false)
 (.seq (.cond (.t 9) .skip (.exit 0))
 (.seq (.block 1 (.seq (.region [⟨some 10, .mov (.t 8), none, [], []⟩,
  ⟨some 5, .mov (.t 10), none, [], []⟩] false)
 (.seq (.region [⟨some 11, .mov (.t 1), none, [], []⟩,
  ⟨some 12, .mov (.t 0), none, [], []⟩,
  ⟨some 13, .mov (.t 5), none, [], []⟩,
  ⟨some 14, .iad 6 (.t 12) (.t 13), none, [], []⟩,
  ⟨some 15, .load true 6 (.t 14), none, [], []⟩,
  ⟨some 16, .callv false (.t 11) [(.t 15)], none, [], []⟩] false)
 (.cond (.t 16) (.seq (.region [⟨some 17, .mov (.t 5), none, [], []⟩,
  ⟨some 4, .mov (.t 17), none, [], []⟩] false)
 .ret) .skip))))
 (.region [⟨some 18, .bin .add (.t 8) (.c (.int .i64 1)), none, [], []⟩,
  ⟨some 8, .mov (.t 18), none, [], []⟩] false))))))))
 (.seq (.region [⟨some 4, .mov (.c (.int .i64 (-1))), none, [], []⟩] false)
 .ret)))
def i62 : F := ⟨2, 19, j62, [.t 4]⟩
theorem b62 : i62.body = j62 := rfl
theorem q62 : i62.res = [.t 4] := rfl
theorem c62 : chkF Tryd.prog Tryd.f62 i62 = true := by kernel_rfl
theorem s62 {m : Model} {E : Nat → Model} (hE : ∀ f, Sound Tryd.prog f (E f)) (hm : ∀ args r, m args = some r → ∃ N, i62.ev E N args = some r) : Sound Tryd.prog 62 m := sound_of i62 Tryd.func62 rfl c62 hE hm
/-- slices.IndexFunc   bellwether/api.Item bellwether/api.Item  -/
def j41 : C := (.seq (.region [⟨some 4, .mov (.c (.int .i64 0)), none, [], []⟩] false)
 (.seq (.seq (.region [⟨some 6, .mov (.t 0), none, [], []⟩,
  ⟨some 7, .len (.t 6), none, [], []⟩,
  ⟨some 8, .mov (.c (.int .i64 0)), none, [], []⟩] false)
 (.block 0 (.loop (.keep [0, 1, 7, 8] (.seq (.region [⟨some 9, .bin .lss (.t 8) (.t 7), none, [], []⟩] false)
 (.seq (.cond (.t 9) .skip (.exit 0))
 (.seq (.block 1 (.seq (.region [⟨some 10, .mov (.t 8), none, [], []⟩,
  ⟨some 5, .mov (.t 10), none, [], []⟩] false)
 (.seq (.region [⟨some 11, .mov (.t 1), none, [], []⟩,
  ⟨some 12, .mov (.t 0), none, [], []⟩,
  ⟨some 13, .mov (.t 5), none, [], []⟩,
  ⟨some 14, .iad 2 (.t 12) (.t 13), none, [], []⟩,
  ⟨some 15, .load true 2 (.t 14), none, [], []⟩,
  ⟨some 16, .callv false (.t 11) [(.t 15)], none, [], []⟩] false)
 (.cond (.t 16) (.seq (.region [⟨some 17, .mov (.t 5), none, [], []⟩,
  ⟨some 4, .mov (.t 17), none, [], []⟩] false)
 .ret) .skip))))
 (.region [⟨some 18, .bin .add (.t 8) (.c (.int .i64 1)), none, [], []⟩,
  ⟨some 8, .mov (.t 18), none, [], []⟩] false))))))))
 (.seq (.region [⟨some 4, .mov (.c (.int .i64 (-1))), none, [], []⟩] false)
 .ret)))
def i41 : F := ⟨2, 19, j41, [.t 4]⟩
theorem b41 : i41.body = j41 := rfl
theorem q41 : i41.res = [.t 4] := rfl
theorem c41 : chkF Tryd.prog Tryd.f41 i41 = true := by kernel_rfl
theorem s41 {m : Model} {E : Nat → Model} (hE : ∀ f, Sound Tryd.prog f (E f)) (hm : ∀ args r, m args = some r → ∃ N, i41.ev E N args = some r) : Sound Tryd.prog 41 m := sound_of i41 Tryd.func41 rfl c41 hE hm
theorem x44 : Sound Tryd.prog 44 (XI.insM 35 2 16) := XI.ins_ok
/-- bellwether/ahead.Add -/
def j28 : C := (.seq (.region [⟨some 7, .box (.t 3), none, [], []⟩,
  ⟨some 8, .nilsl 35 2 0, none, [], []⟩,
  ⟨some 9, .mov (.c (.int .i64 0)), none, [], []⟩] false)
 (.seq (.region [⟨some 12, .mov (.t 0), none, [], []⟩,
  ⟨some 13, .mov (.t 1), none, [], []⟩,
  ⟨some 14, .mov (.t 2), none, [], []⟩,
  ⟨some 15, .call false 40 [(.t 12), (.t 13), (.t 14)], none, [], []⟩,
  ⟨some 10, .mov (.t 15), none, [], []⟩] false)
 (.seq (.frz [7] (.region [⟨some 16, .mov (.t 0), none, [], []⟩,
  ⟨some 17, .mkf 42 [(.t 7)], none, [], []⟩,
  ⟨some 18, .call false 41 [(.t 16), (.t 17)], none, [], []⟩,
  ⟨some 11, .mov (.t 18), none, [], []⟩] false))
 (.seq (.block 0 (.seq (.region [⟨some 20, .mov (.t 10), none, [], []⟩,
  ⟨some 21, .bin .neq (.t 20) (.c (.int .i64 0)), none, [], []⟩,
  ⟨some 22, .mov (.t 21), none, [], []⟩,
  ⟨some 23, .fad 1 (.t 7), some (22, false), [], []⟩,
  ⟨some 24, .load false 1 (.t 23), some (22, false), [], []⟩,
  ⟨some 25, .call false 25 [(.t 24)], some (22, false), [], []⟩,
  ⟨some 26, .un .not (.t 25), some (22, false), [], []⟩,
  ⟨some 27, .pick (.t 22) (.c (.bool true)) (.t 26), none, [], []⟩,
  ⟨some 19, .mov (.t 27), none, [], []⟩] false)
 (.cond (.t 19) (.seq (.region [⟨some 8, .nilsl 35 2 1, none, [], []⟩,
  ⟨some 9, .mov (.c (.int .i64 1)), none, [], []⟩] false)
 .ret) (.seq (.region [⟨some 29, .fad 0 (.t 7), none, [], []⟩,
  ⟨some 30, .load false 1 (.t 29), none, [], []⟩,
  ⟨some 31, .mov (.t 1), none, [], []⟩,
  ⟨some 32, .mov (.t 2), none, [], []⟩,
  ⟨some 33, .call false 43 [(.t 30), (.t 31), (.t 32)], none, [], []⟩,
  ⟨some 34, .un .not (.t 33), none, [], []⟩,
  ⟨some 28, .mov (.t 34), none, [], []⟩] false)
 (.cond (.t 28) (.seq (.region [⟨some 8, .nilsl 35 2 2, none, [], []⟩,
  ⟨some 9, .mov (.c (.int .i64 6)), none, [], []⟩] false)
 .ret) (.seq (.region [⟨some 36, .mov (.t 11), none, [], []⟩,
  ⟨some 37, .bin .lss (.t 36) (.c (.int .i64 0)), none, [], []⟩,
  ⟨some 35, .mov (.t 37), none, [], []⟩] false)
 (.cond (.t 35) (.seq (.region [⟨some 38, .mov (.t 0), none, [40, 41], []⟩,
  ⟨some 39, .call true 34 [(.t 38)], none, [40, 41], [0]⟩,
  ⟨some 40, .load true 2 (.t 7), none, [38, 39], []⟩,
  ⟨some 41, .bsl 35 2 1 [.int .i64 0, .int .i64 0] [(0, (.t 40))], none, [38, 39], [2]⟩,
  ⟨some 42, .app 35 2 16 (.t 39) (.t 41), none, [], [0, 1, 2, 3]⟩,
  ⟨some 8, .mov (.t 42), none, [], [0, 1, 2, 3, 4]⟩,
  ⟨some 9, .mov (.c (.int .i64 0)), none, [], [0, 1, 2, 3, 4, 5]⟩] true)
 .ret) (.seq (.region [⟨some 44, .mov (.t 0), none, [45, 49, 50], []⟩,
  ⟨some 45, .mov (.t 11), none, [44, 49, 50], []⟩,
  ⟨some 46, .iad 2 (.t 44) (.t 45), none, [49, 50], [0, 1]⟩,
  ⟨some 47, .fad 0 (.t 46), none, [49, 50], [0, 1, 2]⟩,
  ⟨some 48, .load false 1 (.t 47), none, [49, 50], [0, 1, 2, 3]⟩,
  ⟨some 49, .fad 0 (.t 7), none, [44, 45, 46, 47, 48], []⟩,
  ⟨some 50, .load false 1 (.t 49), none, [44, 45, 46, 47, 48], [5]⟩,
  ⟨some 51, .bin .eql (.t 48) (.t 50), none, [], [0, 1, 2, 3, 4, 5, 6]⟩,
  ⟨some 43, .mov (.t 51), none, [], [0, 1, 2, 3, 4, 5, 6, 7]⟩] true)
 (.cond (.t 43) (.seq (.region [⟨some 8, .nilsl 35 2 3, none, [], []⟩,
  ⟨some 9, .mov (.c (.int .i64 8)), none, [], []⟩] false)
 .ret) .skip)))))))))
 (.seq (.region [⟨some 52, .mov (.t 0), none, [54, 55, 56], []⟩,
  ⟨some 53, .call true 34 [(.t 52)], none, [54, 55, 56], [0]⟩,
  ⟨some 54, .mov (.t 11), none, [52, 53, 55, 56], []⟩,
  ⟨some 55, .load true 2 (.t 7), none, [52, 53, 54], []⟩,
  ⟨some 56, .bsl 35 2 1 [.int .i64 0, .int .i64 0] [(0, (.t 55))], none, [52, 53, 54], [3]⟩,
  ⟨some 57, .callo 44 [(.t 53), (.t 54), (.t 56)], none, [], [0, 1, 2, 3, 4]⟩,
  ⟨some 8, .mov (.t 57), none, [], [0, 1, 2, 3, 4, 5]⟩,
  ⟨some 9, .mov (.c (.int .i64 0)), none, [], [0, 1, 2, 3, 4, 5, 6]⟩] true)
 .ret)))))
def i28 : F := ⟨4, 58, j28, [.t 8, .t 9]⟩
theorem b28 : i28.body = j28 := rfl
theorem q28 : i28.res = [.t 8, .t 9] := rfl
theorem c28 : chkF Tryd.prog Tryd.f28 i28 = true := by kernel_rfl
theorem s28 {m : Model} {E : Nat → Model} (hE : ∀ f, Sound Tryd.prog f (E f)) (hm : ∀ args r, m args = some r → ∃ N, i28.ev E N args = some r) : Sound Tryd.prog 28 m := sound_of i28 Tryd.func28 rfl c28 hE hm
/-- bellwether/ahead.Add$1 -/
def j42 : C := (.seq (.region [⟨some 2, .box (.t 0), none, [], []⟩,
  ⟨some 3, .mov (.c (.bool false)), none, [], []⟩] false)
 (.seq (.region [⟨some 4, .fad 0 (.t 2), none, [], []⟩,
  ⟨some 5, .load false 1 (.t 4), none, [], []⟩,
  ⟨some 6, .fad 0 (.t 1), none, [], []⟩,
  ⟨some 7, .load false 1 (.t 6), none, [], []⟩,
  ⟨some 8, .bin .geq (.t 5) (.t 7), none, [], []⟩,
  ⟨some 3, .mov (.t 8), none, [], []⟩] false)
 .ret))
def i42 : F := ⟨2, 9, j42, [.t 3]⟩
theorem b42 : i42.body = j42 := rfl
theorem q42 : i42.res = [.t 3] := rfl
theorem c42 : chkF Tryd.prog Tryd.f42 i42 = true := by kernel_rfl
theorem s42 {m : Model} {E : Nat → Model} (hE : ∀ f, Sound Tryd.prog f (E f)) (hm : ∀ args r, m args = some r → ∃ N, i42.ev E N args = some r) : Sound Tryd.prog 42 m := sound_of i42 Tryd.func42 rfl c42 hE hm
/-- bellwether/ahead.Check -/
def j40 : C := (.seq (.region [⟨some 6, .mov (.c (.int .i64 0)), none, [], []⟩] false)
 (.seq (.seq (.region [⟨some 9, .mov (.t 1), none, [], []⟩,
  ⟨some 10, .call false 20 [(.t 9)], none, [], []⟩,
  ⟨some 11, .un .not (.t 10), none, [], []⟩,
  ⟨some 12, .mov (.t 11), none, [], []⟩,
  ⟨some 13, .mov (.t 2), some (12, false), [], []⟩,
  ⟨some 14, .bin .lss (.t 13) (.c (.int .i64 1)), some (12, false), [], []⟩,
  ⟨some 15, .pick (.t 12) (.c (.bool true)) (.t 14), none, [], []⟩,
  ⟨some 16, .mov (.t 15), none, [], []⟩,
  ⟨some 17, .mov (.t 2), some (16, false), [], []⟩,
  ⟨some 18, .bin .gtr (.t 17) (.c (.int .i64 16)), some (16, false), [], []⟩,
  ⟨some 19, .pick (.t 16) (.c (.bool true)) (.t 18), none, [], []⟩] false)
 (.cond (.t 19) (.seq (.region [⟨some 6, .mov (.c (.int .i64 1)), none, [], []⟩] false)
 .ret) .skip))
 (.seq (.seq (.region [⟨some 20, .mov (.t 0), none, [], []⟩,
  ⟨some 21, .len (.t 20), none, [], []⟩,
  ⟨some 22, .mov (.c (.int .i64 0)), none, [], []⟩] false)
 (.block 0 (.loop (.keep [0, 1, 2, 20, 21, 22] (.seq (.region [⟨some 23, .bin .lss (.t 22) (.t 21), none, [], []⟩] false)
 (.seq (.cond (.t 23) .skip (.exit 0))
 (.seq (.block 1 (.seq (.region [⟨some 24, .mov (.t 22), none, [], []⟩,
  ⟨some 25, .iad 2 (.t 20) (.t 22), none, [], []⟩,
  ⟨some 26, .load true 2 (.t 25), none, [], []⟩,
  ⟨some 8, .alloc [.int .i64 0, .int .i64 0], none, [], []⟩,
  ⟨some 7, .mov (.t 24), none, [], []⟩,
  ⟨none, .store none 2 (.t 8) (.t 26), none, [], []⟩] false)
 (.seq (.region [⟨some 27, .fad 0 (.t 8), none, [29, 30], []⟩,
  ⟨some 28, .load false 1 (.t 27), none, [29, 30], [0]⟩,
  ⟨some 29, .mov (.t 1), none, [27, 28, 30], []⟩,
  ⟨some 30, .mov (.t 2), none, [27, 28, 29], []⟩,
  ⟨some 31, .call false 43 [(.t 28), (.t 29), (.t 30)], none, [], [0, 1, 2, 3]⟩,
  ⟨some 32, .un .not (.t 31), none, [], [0, 1, 2, 3, 4]⟩,
  ⟨some 33, .mov (.t 32), none, [], [0, 1, 2, 3, 4, 5]⟩,
  ⟨some 34, .fad 1 (.t 8), some (33, false), [], [0, 1, 2, 3, 4, 5, 6]⟩,
  ⟨some 35, .load false 1 (.t 34), some (33, false), [], [0, 1, 2, 3, 4, 5, 6, 7]⟩,
  ⟨some 36, .call false 25 [(.t 35)], some (33, false), [], [0, 1, 2, 3, 4, 5, 6, 7, 8]⟩,
  ⟨some 37, .un .not (.t 36), some (33, false), [], [0, 1, 2, 3, 4, 5, 6, 7, 8, 9]⟩,
  ⟨some 38, .pick (.t 33) (.c (.bool true)) (.t 37), none, [], [0, 1, 2, 3, 4, 5, 6, 7, 8, 9, 10]⟩,
  ⟨some 39, .mov (.t 38), none, [], [0, 1, 2, 3, 4, 5, 6, 7, 8, 9, 10, 11]⟩,
  ⟨some 40, .mov (.t 7), some (39, false), [], [0, 1, 2, 3, 4, 5, 6, 7, 8, 9, 10, 11, 12]⟩,
  ⟨some 41, .bin .gtr (.t 40) (.c (.int .i64 0)), some (39, false), [], [0, 1, 2, 3, 4, 5, 6, 7, 8, 9, 10, 11, 12, 13]⟩,
  ⟨some 42, .mov (.t 41), some (39, false), [], [0, 1, 2, 3, 4, 5, 6, 7, 8, 9, 10, 11, 12, 13, 14]⟩,
  ⟨some 43, .mov (.t 0), some (42, true), [44, 45, 49, 50], [0, 1, 2, 3, 4, 5, 6, 7, 8, 9, 10, 11, 12, 13, 14, 15]⟩,
  ⟨some 44, .mov (.t 7), some (42, true), [43, 49, 50], [0, 1, 2, 3, 4, 5, 6, 7, 8, 9, 10, 11, 12, 13, 14, 15]⟩,
  ⟨some 45, .bin .sub (.t 44) (.c (.int .i64 1)), some (42, true), [43, 49, 50], [0, 1, 2, 3, 4, 5, 6, 7, 8, 9, 10, 11, 12, 13, 14, 15, 17]⟩,
  ⟨some 46, .iad 2 (.t 43) (.t 45), some (42, true), [49, 50], [0, 1, 2, 3, 4, 5, 6, 7, 8, 9, 10, 11, 12, 13, 14, 15, 16, 17, 18]⟩,
  ⟨some 47, .fad 0 (.t 46), some (42, true), [49, 50], [0, 1, 2, 3, 4, 5, 6, 7, 8, 9, 10, 11, 12, 13, 14, 15, 16, 17, 18, 19]⟩,
  ⟨some 48, .load false 1 (.t 47), some (42, true), [49, 50], [0, 1, 2, 3, 4, 5, 6, 7, 8, 9, 10, 11, 12, 13, 14, 15, 16, 17, 18, 19, 20]⟩,
  ⟨some 49, .fad 0 (.t 8), some (42, true), [43, 44, 45, 46, 47, 48], [0, 1, 2, 3, 4, 5, 6, 7, 8, 9, 10, 11, 12, 13, 14, 15]⟩,
  ⟨some 50, .load false 1 (.t 49), some (42, true), [43, 44, 45, 46, 47, 48], [0, 1, 2, 3, 4, 5, 6, 7, 8, 9, 10, 11, 12, 13, 14, 15, 22]⟩,
  ⟨some 51, .bin .geq (.t 48) (.t 50), some (42, true), [], [0, 1, 2, 3, 4, 5, 6, 7, 8, 9, 10, 11, 12, 13, 14, 15, 16, 17, 18, 19, 20, 21, 22, 23]⟩,
  ⟨some 52, .pick (.t 42) (.t 51) (.c (.bool false)), some (39, false), [], [0, 1, 2, 3, 4, 5, 6, 7, 8, 9, 10, 11, 12, 13, 14, 15, 16, 17, 18, 19, 20, 21, 22, 23, 24]⟩,
  ⟨some 53, .pick (.t 39) (.c (.bool true)) (.t 52), none, [], [0, 1, 2, 3, 4, 5, 6, 7, 8, 9, 10, 11, 12, 13, 14, 15, 16, 17, 18, 19, 20, 21, 22, 23, 24, 25]⟩] true)
 (.cond (.t 53) (.seq (.region [⟨some 6, .mov (.c (.int .i64 1)), none, [], []⟩] false)
 .ret) .skip))))
 (.region [⟨some 54, .bin .add (.t 22) (.c (.int .i64 1)), none, [], []⟩,
  ⟨some 22, .mov (.t 54), none, [], []⟩] false))))))))
 (.seq (.region [⟨some 6, .mov (.c (.int .i64 0)), none, [], []⟩] false)
 .ret))))
def i40 : F := ⟨3, 55, j40, [.t 6]⟩
theorem b40 : i40.body = j40 := rfl
theorem q40 : i40.res = [.t 6] := rfl
theorem c40 : chkF Tryd.prog Tryd.f40 i40 = true := by kernel_rfl
theorem s40 {m : Model} {E : Nat → Model} (hE : ∀ f, Sound Tryd.prog f (E f)) (hm : ∀ args r, m args = some r → ∃ N, i40.ev E N args = some r) : Sound Tryd.prog 40 m := sound_of i40 Tryd.func40 rfl c40 hE hm
/-- bellwether/ahead.Take -/
def j39 : C := (.seq (.region [⟨some 3, .box (.t 1), none, [], []⟩,
  ⟨some 4, .mov (.c (.row [])), none, [], []⟩,
  ⟨some 5, .mov (.c (.row [])), none, [], []⟩] false)
 (.seq (.frz [3] (.region [⟨some 7, .mov (.t 0), none, [], []⟩,
  ⟨some 8, .call true 34 [(.t 7)], none, [], []⟩,
  ⟨some 9, .mkf 55 [(.t 3)], none, [], []⟩,
  ⟨some 10, .callo 54 [(.t 8), (.t 9)], none, [], []⟩,
  ⟨some 0, .mov (.t 10), none, [], []⟩] false))
 (.seq (.region [⟨some 6, .mov (.c (.int .i64 0)), none, [], []⟩] false)
 (.seq (.block 0 (.loop (.keep [0, 3, 6] (.seq (.seq (.region [⟨some 11, .mov (.t 6), none, [12, 13], []⟩,
  ⟨some 12, .mov (.t 0), none, [11], []⟩,
  ⟨some 13, .len (.t 12), none, [11], [1]⟩,
  ⟨some 14, .bin .lss (.t 11) (.t 13), none, [], [0, 1, 2]⟩,
  ⟨some 15, .mov (.t 14), none, [], [0, 1, 2, 3]⟩,
  ⟨some 16, .mov (.t 0), some (15, true), [17, 21, 23], [0, 1, 2, 3, 4]⟩,
  ⟨some 17, .mov (.t 6), some (15, true), [16, 21, 23], [0, 1, 2, 3, 4]⟩,
  ⟨some 18, .iad 2 (.t 16) (.t 17), some (15, true), [21, 23], [0, 1, 2, 3, 4, 5, 6]⟩,
  ⟨some 19, .fad 0 (.t 18), some (15, true), [21, 23], [0, 1, 2, 3, 4, 5, 6, 7]⟩,
  ⟨some 20, .load false 1 (.t 19), some (15, true), [21, 23], [0, 1, 2, 3, 4, 5, 6, 7, 8]⟩,
  ⟨some 21, .load false 1 (.t 3), some (15, true), [16, 17, 18, 19, 20, 23], [0, 1, 2, 3, 4]⟩,
  ⟨some 22, .bin .sub (.t 20) (.t 21), some (15, true), [23], [0, 1, 2, 3, 4, 5, 6, 7, 8, 9, 10]⟩,
  ⟨some 23, .mov (.t 6), some (15, true), [16, 17, 18, 19, 20, 21, 22], [0, 1, 2, 3, 4]⟩,
  ⟨some 24, .bin .eql (.t 22) (.t 23), some (15, true), [], [0, 1, 2, 3, 4, 5, 6, 7, 8, 9, 10, 11, 12]⟩,
  ⟨some 25, .pick (.t 15) (.t 24) (.c (.bool false)), none, [], [0, 1, 2, 3, 4, 5, 6, 7, 8, 9, 10, 11, 12, 13]⟩] true)
 (.cond (.t 25) .skip (.exit 0)))
 (.block 1 (.region [⟨some 26, .mov (.t 6), none, [], []⟩,
  ⟨some 27, .bin .add (.t 26) (.c (.int .i64 1)), none, [], []⟩,
  ⟨some 6, .mov (.t 27), none, [], []⟩] false))))))
 (.seq (.region [⟨some 28, .mov (.t 0), none, [29, 32, 33, 34], []⟩,
  ⟨some 29, .mov (.t 6), none, [28, 32, 33, 34], []⟩,
  ⟨some 30, .cut 2 (.t 28) none (some (.t 29)), none, [32, 33, 34], [0, 1]⟩,
  ⟨some 31, .call false 34 [(.t 30)], none, [32, 33, 34], [0, 1, 2]⟩,
  ⟨some 32, .mov (.t 0), none, [28, 29, 30, 31, 33], []⟩,
  ⟨some 33, .mov (.t 6), none, [28, 29, 30, 31, 32], []⟩,
  ⟨some 34, .cut 2 (.t 32) (some (.t 33)) none, none, [28, 29, 30, 31], [4, 5]⟩,
  ⟨some 35, .call false 34 [(.t 34)], none, [], [0, 1, 2, 3, 4, 5, 6]⟩,
  ⟨some 4, .mov (.t 31), none, [], [0, 1, 2, 3, 4, 5, 6, 7]⟩,
  ⟨some 5, .mov (.t 35), none, [], [0, 1, 2, 3, 4, 5, 6, 7, 8]⟩] true)
 .ret)))))
def i39 : F := ⟨2, 36, j39, [.t 4, .t 5]⟩
theorem b39 : i39.body = j39 := rfl
theorem q39 : i39.res = [.t 4, .t 5] := rfl
theorem c39 : chkF Tryd.prog Tryd.f39 i39 = true := by kernel_rfl
theorem s39 {m : Model} {E : Nat → Model} (hE : ∀ f, Sound Tryd.prog f (E f)) (hm : ∀ args r, m args = some r → ∃ N, i39.ev E N args = some r) : Sound Tryd.prog 39 m := sound_of i39 Tryd.func39 rfl c39 hE hm
/-- bellwether/ahead.Take$1 -/
def j55 : C := (.seq (.region [⟨some 2, .box (.t 0), none, [], []⟩,
  ⟨some 3, .mov (.c (.bool false)), none, [], []⟩] false)
 (.seq (.region [⟨some 4, .fad 0 (.t 2), none, [], []⟩,
  ⟨some 5, .load false 1 (.t 4), none, [], []⟩,
  ⟨some 6, .load false 1 (.t 1), none, [], []⟩,
  ⟨some 7, .bin .lss (.t 5) (.t 6), none, [], []⟩,
  ⟨some 3, .mov (.t 7), none, [], []⟩] false)
 .ret))
def i55 : F := ⟨2, 8, j55, [.t 3]⟩
theorem b55 : i55.body = j55 := rfl
theorem q55 : i55.res = [.t 3] := rfl
theorem c55 : chkF Tryd.prog Tryd.f55 i55 = true := by kernel_rfl
theorem s55 {m : Model} {E : Nat → Model} (hE : ∀ f, Sound Tryd.prog f (E f)) (hm : ∀ args r, m args = some r → ∃ N, i55.ev E N args = some r) : Sound Tryd.prog 55 m := sound_of i55 Tryd.func55 rfl c55 hE hm
/-- bellwether/ahead.fits -/
def j43 : C := (.seq (.region [⟨some 6, .mov (.c (.bool false)), none, [], []⟩] false)
 (.seq (.region [⟨some 7, .mov (.t 0), none, [], []⟩,
  ⟨some 8, .mov (.t 1), none, [], []⟩,
  ⟨some 9, .bin .gtr (.t 7) (.t 8), none, [], []⟩,
  ⟨some 10, .mov (.t 9), none, [], []⟩,
  ⟨some 11, .mov (.t 0), some (10, true), [], []⟩,
  ⟨some 12, .mov (.t 1), some (10, true), [], []⟩,
  ⟨some 13, .mov (.t 2), some (10, true), [], []⟩,
  ⟨some 14, .bin .add (.t 12) (.t 13), some (10, true), [], []⟩,
  ⟨some 15, .bin .lss (.t 11) (.t 14), some (10, true), [], []⟩,
  ⟨some 16, .pick (.t 10) (.t 15) (.c (.bool false)), none, [], []⟩,
  ⟨some 17, .mov (.t 16), none, [], []⟩,
  ⟨some 18, .mov (.t 0), some (17, true), [], []⟩,
  ⟨some 19, .bin .lss (.t 18) (.c (.int .i64 1073741824)), some (17, true), [], []⟩,
  ⟨some 20, .pick (.t 17) (.t 19) (.c (.bool false)), none, [], []⟩,
  ⟨some 6, .mov (.t 20), none, [], []⟩] false)
 .ret))
def i43 : F := ⟨3, 21, j43, [.t 6]⟩
theorem b43 : i43.body = j43 := rfl
theorem q43 : i43.res = [.t 6] := rfl
theorem c43 : chkF Tryd.prog Tryd.f43 i43 = true := by kernel_rfl
theorem s43 {m : Model} {E : Nat → Model} (hE : ∀ f, Sound Tryd.prog f (E f)) (hm : ∀ args r, m args = some r → ∃ N, i43.ev E N args = some r) : Sound Tryd.prog 43 m := sound_of i43 Tryd.func43 rfl c43 hE hm
/-- bellwether/bellwetherkeep.Events -/
def j17 : C := (.seq (.region [⟨some 4, .mov (.c (.bool false)), none, [], []⟩] false)
 (.seq (.seq (.region [⟨some 6, .mov (.t 0), none, [], []⟩,
  ⟨some 7, .len (.t 6), none, [], []⟩,
  ⟨some 8, .mov (.t 1), none, [], []⟩,
  ⟨some 9, .len (.t 8), none, [], []⟩,
  ⟨some 10, .bin .neq (.t 7) (.t 9), none, [], []⟩] false)
 (.cond (.t 10) (.seq (.region [⟨some 4, .mov (.c (.bool false)), none, [], []⟩] false)
 .ret) .skip))
 (.seq (.seq (.region [⟨some 5, .mov (.c (.int .i64 0)), none, [], []⟩] false)
 (.block 0 (.loop (.keep [0, 1, 5] (.seq (.seq (.region [⟨some 11, .mov (.t 5), none, [], []⟩,
  ⟨some 12, .mov (.t 0), none, [], []⟩,
  ⟨some 13, .len (.t 12), none, [], []⟩,
  ⟨some 14, .bin .lss (.t 11) (.t 13), none, [], []⟩] false)
 (.cond (.t 14) .skip (.exit 0)))
 (.seq (.block 1 (.seq (.region [⟨some 17, .mov (.t 0), none, [18, 21, 22, 23, 24], []⟩,
  ⟨some 18, .mov (.t 5), none, [17, 21, 22, 23, 24], []⟩,
  ⟨some 19, .iad 6 (.t 17) (.t 18), none, [21, 22, 23, 24], [0, 1]⟩,
  ⟨some 20, .load true 6 (.t 19), none, [21, 22, 23, 24], [0, 1, 2]⟩,
  ⟨some 21, .mov (.t 1), none, [17, 18, 19, 20, 22], []⟩,
  ⟨some 22, .mov (.t 5), none, [17, 18, 19, 20, 21], []⟩,
  ⟨some 23, .iad 6 (.t 21) (.t 22), none, [17, 18, 19, 20], [4, 5]⟩,
  ⟨some 24, .load true 6 (.t 23), none, [17, 18, 19, 20], [4, 5, 6]⟩,
  ⟨some 25, .eqs true [true, true, true, true, true, true] (.t 20) (.t 24), none, [], [0, 1, 2, 3, 4, 5, 6, 7]⟩] true)
 (.cond (.t 25) (.seq (.region [⟨some 4, .mov (.c (.bool false)), none, [], []⟩] false)
 .ret) .skip)))
 (.region [⟨some 15, .mov (.t 5), none, [], []⟩,
  ⟨some 16, .bin .add (.t 15) (.c (.int .i64 1)), none, [], []⟩,
  ⟨some 5, .mov (.t 16), none, [], []⟩] false)))))))
 (.seq (.region [⟨some 4, .mov (.c (.bool true)), none, [], []⟩] false)
 .ret))))
def i17 : F := ⟨2, 26, j17, [.t 4]⟩
theorem b17 : i17.body = j17 := rfl
theorem q17 : i17.res = [.t 4] := rfl
theorem c17 : chkF Tryd.prog Tryd.f17 i17 = true := by kernel_rfl
theorem s17 {m : Model} {E : Nat → Model} (hE : ∀ f, Sound Tryd.prog f (E f)) (hm : ∀ args r, m args = some r → ∃ N, i17.ev E N args = some r) : Sound Tryd.prog 17 m := sound_of i17 Tryd.func17 rfl c17 hE hm
/-- bellwether/bellwetherkeep.Items -/
def j16 : C := (.seq (.region [⟨some 4, .mov (.c (.bool false)), none, [], []⟩] false)
 (.seq (.seq (.region [⟨some 6, .mov (.t 0), none, [], []⟩,
  ⟨some 7, .len (.t 6), none, [], []⟩,
  ⟨some 8, .mov (.t 1), none, [], []⟩,
  ⟨some 9, .len (.t 8), none, [], []⟩,
  ⟨some 10, .bin .neq (.t 7) (.t 9), none, [], []⟩] false)
 (.cond (.t 10) (.seq (.region [⟨some 4, .mov (.c (.bool false)), none, [], []⟩] false)
 .ret) .skip))
 (.seq (.seq (.region [⟨some 5, .mov (.c (.int .i64 0)), none, [], []⟩] false)
 (.block 0 (.loop (.keep [0, 1, 5] (.seq (.seq (.region [⟨some 11, .mov (.t 5), none, [], []⟩,
  ⟨some 12, .mov (.t 0), none, [], []⟩,
  ⟨some 13, .len (.t 12), none, [], []⟩,
  ⟨some 14, .bin .lss (.t 11) (.t 13), none, [], []⟩] false)
 (.cond (.t 14) .skip (.exit 0)))
 (.seq (.block 1 (.seq (.region [⟨some 17, .mov (.t 0), none, [18, 21, 22, 23, 24], []⟩,
  ⟨some 18, .mov (.t 5), none, [17, 21, 22, 23, 24], []⟩,
  ⟨some 19, .iad 2 (.t 17) (.t 18), none, [21, 22, 23, 24], [0, 1]⟩,
  ⟨some 20, .load true 2 (.t 19), none, [21, 22, 23, 24], [0, 1, 2]⟩,
  ⟨some 21, .mov (.t 1), none, [17, 18, 19, 20, 22], []⟩,
  ⟨some 22, .mov (.t 5), none, [17, 18, 19, 20, 21], []⟩,
  ⟨some 23, .iad 2 (.t 21) (.t 22), none, [17, 18, 19, 20], [4, 5]⟩,
  ⟨some 24, .load true 2 (.t 23), none, [17, 18, 19, 20], [4, 5, 6]⟩,
  ⟨some 25, .eqs true [true, true] (.t 20) (.t 24), none, [], [0, 1, 2, 3, 4, 5, 6, 7]⟩] true)
 (.cond (.t 25) (.seq (.region [⟨some 4, .mov (.c (.bool false)), none, [], []⟩] false)
 .ret) .skip)))
 (.region [⟨some 15, .mov (.t 5), none, [], []⟩,
  ⟨some 16, .bin .add (.t 15) (.c (.int .i64 1)), none, [], []⟩,
  ⟨some 5, .mov (.t 16), none, [], []⟩] false)))))))
 (.seq (.region [⟨some 4, .mov (.c (.bool true)), none, [], []⟩] false)
 .ret))))
def i16 : F := ⟨2, 26, j16, [.t 4]⟩
theorem b16 : i16.body = j16 := rfl
theorem q16 : i16.res = [.t 4] := rfl
theorem c16 : chkF Tryd.prog Tryd.f16 i16 = true := by kernel_rfl
theorem s16 {m : Model} {E : Nat → Model} (hE : ∀ f, Sound Tryd.prog f (E f)) (hm : ∀ args r, m args = some r → ∃ N, i16.ev E N args = some r) : Sound Tryd.prog 16 m := sound_of i16 Tryd.func16 rfl c16 hE hm
/-- bellwether/bellwetherkeep.Stream -/
def j14 : C := (.seq (.region [⟨some 2, .box (.t 0), none, [], []⟩,
  ⟨some 3, .box (.t 1), none, [], []⟩,
  ⟨some 4, .mov (.c (.bool false)), none, [], []⟩] false)
 (.seq (.region [⟨some 5, .fad 0 (.t 2), none, [], []⟩,
  ⟨some 6, .load false 1 (.t 5), none, [], []⟩,
  ⟨some 7, .fad 0 (.t 3), none, [], []⟩,
  ⟨some 8, .load false 1 (.t 7), none, [], []⟩,
  ⟨some 9, .bin .eql (.t 6) (.t 8), none, [], []⟩,
  ⟨some 10, .mov (.t 9), none, [], []⟩,
  ⟨some 11, .fad 1 (.t 2), some (10, true), [], []⟩,
  ⟨some 12, .load false 1 (.t 11), some (10, true), [], []⟩,
  ⟨some 13, .fad 1 (.t 3), some (10, true), [], []⟩,
  ⟨some 14, .load false 1 (.t 13), some (10, true), [], []⟩,
  ⟨some 15, .bin .eql (.t 12) (.t 14), some (10, true), [], []⟩,
  ⟨some 16, .pick (.t 10) (.t 15) (.c (.bool false)), none, [], []⟩,
  ⟨some 17, .mov (.t 16), none, [], []⟩,
  ⟨some 18, .fad 2 (.t 2), some (17, true), [], []⟩,
  ⟨some 19, .load false 1 (.t 18), some (17, true), [], []⟩,
  ⟨some 20, .fad 2 (.t 3), some (17, true), [], []⟩,
  ⟨some 21, .load false 1 (.t 20), some (17, true), [], []⟩,
  ⟨some 22, .bin .eql (.t 19) (.t 21), some (17, true), [], []⟩,
  ⟨some 23, .pick (.t 17) (.t 22) (.c (.bool false)), none, [], []⟩,
  ⟨some 24, .mov (.t 23), none, [], []⟩,
  ⟨some 25, .fad 3 (.t 2), some (24, true), [], []⟩,
  ⟨some 26, .load false 1 (.t 25), some (24, true), [], []⟩,
  ⟨some 27, .fad 3 (.t 3), some (24, true), [], []⟩,
  ⟨some 28, .load false 1 (.t 27), some (24, true), [], []⟩,
  ⟨some 29, .call false 16 [(.t 26), (.t 28)], some (24, true), [], []⟩,
  ⟨some 30, .pick (.t 24) (.t 29) (.c (.bool false)), none, [], []⟩,
  ⟨some 31, .mov (.t 30), none, [], []⟩,
  ⟨some 32, .fad 4 (.t 2), some (31, true), [], []⟩,
  ⟨some 33, .load false 1 (.t 32), some (31, true), [], []⟩,
  ⟨some 34, .fad 4 (.t 3), some (31, true), [], []⟩,
  ⟨some 35, .load false 1 (.t 34), some (31, true), [], []⟩,
  ⟨some 36, .call false 16 [(.t 33), (.t 35)], some (31, true), [], []⟩,
  ⟨some 37, .pick (.t 31) (.t 36) (.c (.bool false)), none, [], []⟩,
  ⟨some 4, .mov (.t 37), none, [], []⟩] false)
 .ret))
def i14 : F := ⟨2, 38, j14, [.t 4]⟩
theorem b14 : i14.body = j14 := rfl
theorem q14 : i14.res = [.t 4] := rfl
theorem c14 : chkF Tryd.prog Tryd.f14 i14 = true := by kernel_rfl
theorem s14 {m : Model} {E : Nat → Model} (hE : ∀ f, Sound Tryd.prog f (E f)) (hm : ∀ args r, m args = some r → ∃ N, i14.ev E N args = some r) : Sound Tryd.prog 14 m := sound_of i14 Tryd.func14 rfl c14 hE hm
/-- bellwether/epoch.Check -/
def j19 : C := (.seq (.region [⟨some 2, .mov (.c (.int .i64 0)), none, [], []⟩] false)
 (.seq (.seq (.region [⟨some 3, .mov (.t 0), none, [], []⟩,
  ⟨some 4, .bin .lss (.t 3) (.c (.int .i64 1)), none, [], []⟩,
  ⟨some 5, .mov (.t 4), none, [], []⟩,
  ⟨some 6, .mov (.t 0), some (5, false), [], []⟩,
  ⟨some 7, .bin .gtr (.t 6) (.c (.int .i64 1073741824)), some (5, false), [], []⟩,
  ⟨some 8, .pick (.t 5) (.c (.bool true)) (.t 7), none, [], []⟩,
  ⟨some 9, .mov (.t 8), none, [], []⟩,
  ⟨some 10, .mov (.t 0), some (9, false), [], []⟩,
  ⟨some 11, .bin .rem (.t 10) (.c (.int .i64 16)), some (9, false), [], []⟩,
  ⟨some 12, .call false 35 [(.t 11)], some (9, false), [], []⟩,
  ⟨some 13, .un .not (.t 12), some (9, false), [], []⟩,
  ⟨some 14, .pick (.t 9) (.c (.bool true)) (.t 13), none, [], []⟩] false)
 (.cond (.t 14) (.seq (.region [⟨some 2, .mov (.c (.int .i64 1)), none, [], []⟩] false)
 .ret) .skip))
 (.seq (.region [⟨some 2, .mov (.c (.int .i64 0)), none, [], []⟩] false)
 .ret)))
def i19 : F := ⟨1, 15, j19, [.t 2]⟩
theorem b19 : i19.body = j19 := rfl
theorem q19 : i19.res = [.t 2] := rfl
theorem c19 : chkF Tryd.prog Tryd.f19 i19 = true := by kernel_rfl
theorem s19 {m : Model} {E : Nat → Model} (hE : ∀ f, Sound Tryd.prog f (E f)) (hm : ∀ args r, m args = some r → ∃ N, i19.ev E N args = some r) : Sound Tryd.prog 19 m := sound_of i19 Tryd.func19 rfl c19 hE hm
/-- errors.Join -/
def j60 : C := (.seq (.region [⟨some 2, .mov (.c (.k .nilIface)), none, [], []⟩] false)
 (.seq (.region [⟨some 3, .mov (.c (.int .i64 0)), none, [], []⟩] false)
 (.seq (.seq (.region [⟨some 9, .mov (.t 0), none, [], []⟩,
  ⟨some 10, .len (.t 9), none, [], []⟩,
  ⟨some 11, .mov (.c (.int .i64 0)), none, [], []⟩] false)
 (.block 0 (.loop (.keep [0, 3, 9, 10, 11] (.seq (.region [⟨some 12, .bin .lss (.t 11) (.t 10), none, [], []⟩] false)
 (.seq (.cond (.t 12) .skip (.exit 0))
 (.seq (.block 1 (.seq (.region [⟨some 13, .iad 1 (.t 9) (.t 11), none, [], []⟩,
  ⟨some 14, .load false 1 (.t 13), none, [], []⟩,
  ⟨some 5, .mov (.t 14), none, [], []⟩] false)
 (.seq (.region [⟨some 15, .mov (.t 5), none, [], []⟩,
  ⟨some 16, .ifn true (.t 15), none, [], []⟩] false)
 (.cond (.t 16) (.region [⟨some 17, .mov (.t 3), none, [], []⟩,
  ⟨some 18, .bin .add (.t 17) (.c (.int .i64 1)), none, [], []⟩,
  ⟨some 3, .mov (.t 18), none, [], []⟩] false) .skip))))
 (.region [⟨some 19, .bin .add (.t 11) (.c (.int .i64 1)), none, [], []⟩,
  ⟨some 11, .mov (.t 19), none, [], []⟩] false))))))))
 (.seq (.seq (.region [⟨some 20, .mov (.t 3), none, [], []⟩,
  ⟨some 21, .bin .eql (.t 20) (.c (.int .i64 0)), none, [], []⟩] false)
 (.cond (.t 21) (.seq (.region [⟨some 2, .mov (.c (.k .nilIface)), none, [], []⟩] false)
 .ret) .skip))
 (.seq (.region [⟨some 22, .mov (.t 3), none, [], []⟩,
  ⟨some 23, .mkz 83 1 16 [.k .nilIface] (.t 22), none, [], []⟩,
  ⟨some 24, .build [.row []] [(0, 1, (.t 23))], none, [], []⟩,
  ⟨some 25, .box (.t 24), none, [], []⟩,
  ⟨some 6, .mov (.t 25), none, [], []⟩] false)
 (.seq (.seq (.region [⟨some 26, .mov (.t 0), none, [], []⟩,
  ⟨some 27, .len (.t 26), none, [], []⟩,
  ⟨some 28, .mov (.c (.int .i64 0)), none, [], []⟩] false)
 (.block 2 (.loop (.keep [6, 26, 27, 28] (.seq (.region [⟨some 29, .bin .lss (.t 28) (.t 27), none, [], []⟩] false)
 (.seq (.cond (.t 29) .skip (.exit 2))
 (.seq (.block 3 (.seq (.region [⟨some 30, .iad 1 (.t 26) (.t 28), none, [], []⟩,
  ⟨some 31, .load false 1 (.t 30), none, [], []⟩,
  ⟨some 8, .mov (.t 31), none, [], []⟩] false)
 (.seq (.region [⟨some 32, .mov (.t 8), none, [], []⟩,
  ⟨some 33, .ifn true (.t 32), none, [], []⟩] false)
 (.cond (.t 33) (.region [⟨some 34, .mov (.t 6), none, [], []⟩,
  ⟨some 35, .mov (.t 6), none, [], []⟩,
  ⟨some 36, .nck (.t 35), none, [], []⟩,
  ⟨some 37, .fad 0 (.t 36), none, [], []⟩,
  ⟨some 38, .load false 1 (.t 37), none, [], []⟩,
  ⟨some 39, .mov (.t 8), none, [], []⟩,
  ⟨some 40, .bsl 83 1 1 [.k .nilIface] [(0, (.t 39))], none, [], []⟩,
  ⟨some 41, .app 83 1 16 (.t 38) (.t 40), none, [], []⟩,
  ⟨some 42, .nck (.t 34), none, [], []⟩,
  ⟨some 43, .fad 0 (.t 42), none, [], []⟩,
  ⟨none, .store none 1 (.t 43) (.t 41), none, [], []⟩] false) .skip))))
 (.region [⟨some 44, .bin .add (.t 28) (.c (.int .i64 1)), none, [], []⟩,
  ⟨some 28, .mov (.t 44), none, [], []⟩] false))))))))
 (.seq (.region [⟨some 45, .mov (.t 6), none, [], []⟩,
  ⟨some 46, .mkp 118 (.t 45), none, [], []⟩,
  ⟨some 2, .mov (.t 46), none, [], []⟩] false)
 .ret)))))))
def i60 : F := ⟨1, 47, j60, [.t 2]⟩
theorem b60 : i60.body = j60 := rfl
theorem q60 : i60.res = [.t 2] := rfl
theorem c60 : chkF Tryd.prog Tryd.f60 i60 = true := by kernel_rfl
theorem s60 {m : Model} {E : Nat → Model} (hE : ∀ f, Sound Tryd.prog f (E f)) (hm : ∀ args r, m args = some r → ∃ N, i60.ev E N args = some r) : Sound Tryd.prog 60 m := sound_of i60 Tryd.func60 rfl c60 hE hm
/-- bellwether/flow.Begun -/
def j21 : C := (.seq (.region [⟨some 4, .alloc [.int .i64 0, .int .i64 0, .int .i64 0, .row [], .row []], none, [], []⟩] false)
 (.seq (.region [⟨some 5, .mov (.t 0), none, [], []⟩,
  ⟨some 6, .mov (.t 1), none, [], []⟩,
  ⟨some 7, .mov (.t 1), none, [], []⟩,
  ⟨some 8, .build [.int .i64 0, .int .i64 0, .int .i64 0, .row [], .row []] [(0, 1, (.t 5)), (1, 1, (.t 6)), (2, 1, (.t 7))], none, [], []⟩,
  ⟨none, .store none 5 (.t 4) (.t 8), none, [], []⟩] false)
 .ret))
def i21 : F := ⟨2, 9, j21, [.c 4 5 true]⟩
theorem b21 : i21.body = j21 := rfl
theorem q21 : i21.res = [.c 4 5 true] := rfl
theorem c21 : chkF Tryd.prog Tryd.f21 i21 = true := by kernel_rfl
theorem s21 {m : Model} {E : Nat → Model} (hE : ∀ f, Sound Tryd.prog f (E f)) (hm : ∀ args r, m args = some r → ∃ N, i21.ev E N args = some r) : Sound Tryd.prog 21 m := sound_of i21 Tryd.func21 rfl c21 hE hm
/-- bellwether/flow.Check -/
def j10 : C := (.seq (.region [⟨some 3, .box (.t 0), none, [], []⟩,
  ⟨some 4, .box (.t 1), none, [], []⟩,
  ⟨some 6, .mov (.c (.int .i64 0)), none, [], []⟩] false)
 (.seq (.region [⟨some 8, .load true 7 (.t 3), none, [], []⟩,
  ⟨some 9, .call false 29 [(.t 8)], none, [], []⟩,
  ⟨some 7, .mov (.t 9), none, [], []⟩] false)
 (.seq (.block 0 (.seq (.region [⟨some 11, .mov (.t 7), none, [], []⟩,
  ⟨some 12, .bin .neq (.t 11) (.c (.int .i64 0)), none, [], []⟩,
  ⟨some 10, .mov (.t 12), none, [], []⟩] false)
 (.cond (.t 10) (.seq (.region [⟨some 13, .mov (.t 7), none, [], []⟩,
  ⟨some 6, .mov (.t 13), none, [], []⟩] false)
 .ret) (.seq (.region [⟨some 15, .load true 7 (.t 3), none, [], []⟩,
  ⟨some 16, .load true 5 (.t 4), none, [], []⟩,
  ⟨some 17, .call false 30 [(.t 15), (.t 16)], none, [], []⟩,
  ⟨some 18, .un .not (.t 17), none, [], []⟩,
  ⟨some 19, .mov (.t 18), none, [], []⟩,
  ⟨some 20, .mov (.t 2), some (19, false), [], []⟩,
  ⟨some 21, .fad 6 (.t 3), some (19, false), [], []⟩,
  ⟨some 22, .load false 1 (.t 21), some (19, false), [], []⟩,
  ⟨some 23, .call false 31 [(.t 20), (.t 22)], some (19, false), [], []⟩,
  ⟨some 24, .bin .neq (.t 23) (.c (.int .i64 0)), some (19, false), [], []⟩,
  ⟨some 25, .pick (.t 19) (.c (.bool true)) (.t 24), none, [], []⟩,
  ⟨some 14, .mov (.t 25), none, [], []⟩] false)
 (.cond (.t 14) (.seq (.region [⟨some 6, .mov (.c (.int .i64 1)), none, [], []⟩] false)
 .ret) .skip)))))
 (.seq (.region [⟨some 6, .mov (.c (.int .i64 0)), none, [], []⟩] false)
 .ret))))
def i10 : F := ⟨3, 26, j10, [.t 6]⟩
theorem b10 : i10.body = j10 := rfl
theorem q10 : i10.res = [.t 6] := rfl
theorem c10 : chkF Tryd.prog Tryd.f10 i10 = true := by kernel_rfl
theorem s10 {m : Model} {E : Nat → Model} (hE : ∀ f, Sound Tryd.prog f (E f)) (hm : ∀ args r, m args = some r → ∃ N, i10.ev E N args = some r) : Sound Tryd.prog 10 m := sound_of i10 Tryd.func10 rfl c10 hE hm
/-- bellwether/flow.Gone -/
def j13 : C := (.seq (.region [⟨some 7, .box (.t 0), none, [], []⟩,
  ⟨some 8, .box (.t 1), none, [], []⟩,
  ⟨some 14, .alloc [.int .i64 0, .int .i64 0, .int .i64 0, .row [], .row []], none, [], []⟩,
  ⟨some 15, .mov (.c (.row [])), none, [], []⟩,
  ⟨some 16, .mov (.c (.row [])), none, [], []⟩,
  ⟨some 17, .mov (.c (.int .i64 0)), none, [], []⟩] false)
 (.seq (.region [⟨some 20, .load true 7 (.t 7), none, [], []⟩,
  ⟨some 21, .load true 5 (.t 8), none, [], []⟩,
  ⟨some 22, .mov (.t 2), none, [], []⟩,
  ⟨some 23, .mov (.t 3), none, [], []⟩,
  ⟨some 24, .call true 23 [(.t 20), (.t 21), (.t 22), (.t 23)], none, [], []⟩,
  ⟨some 19, .mov (.t 24), none, [], []⟩,
  ⟨some 25, .ext (.t 19) 0, none, [], []⟩,
  ⟨some 26, .ext (.t 19) 1, none, [], []⟩,
  ⟨some 18, .mov (.t 25), none, [], []⟩,
  ⟨some 17, .mov (.t 26), none, [], []⟩] false)
 (.seq (.seq (.region [⟨some 27, .mov (.t 17), none, [], []⟩,
  ⟨some 28, .bin .eql (.t 27) (.c (.int .i64 0)), none, [], []⟩,
  ⟨some 29, .mov (.t 28), none, [], []⟩,
  ⟨some 30, .mov (.t 4), some (29, true), [], []⟩,
  ⟨some 31, .call false 19 [(.t 30)], some (29, true), [], []⟩,
  ⟨some 32, .bin .neq (.t 31) (.c (.int .i64 0)), some (29, true), [], []⟩,
  ⟨some 33, .mov (.t 32), some (29, true), [], []⟩,
  ⟨some 34, .mov (.t 5), some (33, false), [], []⟩,
  ⟨some 35, .bin .lss (.t 34) (.c (.int .i64 1)), some (33, false), [], []⟩,
  ⟨some 36, .pick (.t 33) (.c (.bool true)) (.t 35), some (29, true), [], []⟩,
  ⟨some 37, .mov (.t 36), some (29, true), [], []⟩,
  ⟨some 38, .mov (.t 6), some (37, false), [], []⟩,
  ⟨some 39, .mov (.t 5), some (37, false), [], []⟩,
  ⟨some 40, .bin .lss (.t 38) (.t 39), some (37, false), [], []⟩,
  ⟨some 41, .pick (.t 37) (.c (.bool true)) (.t 40), some (29, true), [], []⟩,
  ⟨some 42, .mov (.t 41), some (29, true), [], []⟩,
  ⟨some 43, .mov (.t 6), some (42, false), [], []⟩,
  ⟨some 44, .call false 24 [(.t 43)], some (42, false), [], []⟩,
  ⟨some 45, .un .not (.t 44), some (42, false), [], []⟩,
  ⟨some 46, .pick (.t 42) (.c (.bool true)) (.t 45), some (29, true), [], []⟩,
  ⟨some 47, .pick (.t 29) (.t 46) (.c (.bool false)), none, [], []⟩] false)
 (.cond (.t 47) (.region [⟨some 17, .mov (.c (.int .i64 1)), none, [], []⟩] false) .skip))
 (.seq (.seq (.region [⟨some 48, .mov (.t 17), none, [], []⟩,
  ⟨some 49, .bin .neq (.t 48) (.c (.int .i64 0)), none, [], []⟩] false)
 (.cond (.t 49) (.seq (.region [⟨some 50, .build [.int .i64 0, .int .i64 0, .int .i64 0, .row [], .row []] [], none, [], []⟩,
  ⟨some 51, .mov (.t 17), none, [], []⟩,
  ⟨none, .store none 5 (.t 14) (.t 50), none, [], []⟩,
  ⟨some 15, .mov (.c (.row [])), none, [], []⟩,
  ⟨some 16, .mov (.c (.row [])), none, [], []⟩,
  ⟨some 17, .mov (.t 51), none, [], []⟩] false)
 .ret) .skip))
 (.seq (.seq (.region [⟨some 52, .mov (.t 4), none, [], []⟩,
  ⟨some 53, .fad 0 (.t 8), none, [], []⟩,
  ⟨some 54, .load false 1 (.t 53), none, [], []⟩,
  ⟨some 55, .bin .eql (.t 52) (.t 54), none, [], []⟩,
  ⟨some 56, .mov (.t 55), none, [], []⟩,
  ⟨some 57, .fad 1 (.t 8), some (56, true), [], []⟩,
  ⟨some 58, .load false 1 (.t 57), some (56, true), [], []⟩,
  ⟨some 59, .mov (.t 5), some (56, true), [], []⟩,
  ⟨some 60, .bin .geq (.t 58) (.t 59), some (56, true), [], []⟩,
  ⟨some 61, .pick (.t 56) (.t 60) (.c (.bool false)), none, [], []⟩,
  ⟨some 62, .mov (.t 61), none, [], []⟩,
  ⟨some 63, .fad 1 (.t 8), some (62, true), [], []⟩,
  ⟨some 64, .load false 1 (.t 63), some (62, true), [], []⟩,
  ⟨some 65, .mov (.t 6), some (62, true), [], []⟩,
  ⟨some 66, .bin .leq (.t 64) (.t 65), some (62, true), [], []⟩,
  ⟨some 67, .pick (.t 62) (.t 66) (.c (.bool false)), none, [], []⟩] false)
 (.cond (.t 67) (.seq (.region [⟨some 68, .mov (.t 18), none, [], []⟩,
  ⟨some 69, .mov (.t 4), none, [], []⟩,
  ⟨some 70, .fad 1 (.t 8), none, [], []⟩,
  ⟨some 71, .load false 1 (.t 70), none, [], []⟩,
  ⟨some 72, .mov (.t 6), none, [], []⟩,
  ⟨some 73, .build [.int .i64 0, .int .i64 0, .int .i64 0, .int .i64 0, .int .i64 0, .int .i64 0] [(0, 1, (.c (.int .i64 2))), (1, 1, (.t 69)), (2, 1, (.t 71)), (3, 1, (.t 72))], none, [], []⟩,
  ⟨some 74, .callo 32 [(.t 68), (.t 73)], none, [], []⟩] false)
 (.seq (.region [⟨some 75, .mov (.t 18), none, [], []⟩,
  ⟨some 76, .mov (.t 18), none, [], []⟩,
  ⟨some 77, .mov (.t 6), none, [], []⟩,
  ⟨some 78, .bin .add (.t 77) (.c (.int .i64 1)), none, [], []⟩,
  ⟨some 79, .nck (.t 75), none, [], []⟩,
  ⟨some 80, .fad 7 (.t 79), none, [], []⟩,
  ⟨some 81, .fad 1 (.t 80), none, [], []⟩,
  ⟨none, .store none 1 (.t 81) (.t 78), none, [], []⟩,
  ⟨some 82, .nck (.t 76), none, [], []⟩,
  ⟨some 83, .fad 7 (.t 82), none, [], []⟩,
  ⟨some 84, .fad 3 (.t 83), none, [], []⟩,
  ⟨none, .store none 1 (.t 84) (.c (.row [])), none, [], []⟩] false)
 (.seq (.region [⟨some 85, .mov (.t 18), none, [86, 87, 88, 89, 90, 91, 92, 93, 94, 95, 96], []⟩,
  ⟨some 86, .mov (.t 18), none, [85, 91, 92, 93, 94, 95], []⟩,
  ⟨some 87, .nck (.t 86), none, [85, 91, 92, 93, 94, 95], [1]⟩,
  ⟨some 88, .fad 7 (.t 87), none, [85, 91, 92, 93, 94, 95], [1, 2]⟩,
  ⟨some 89, .fad 2 (.t 88), none, [85, 91, 92, 93, 94, 95], [1, 2, 3]⟩,
  ⟨some 90, .load false 1 (.t 89), none, [85, 91, 92, 93, 94, 95], [1, 2, 3, 4]⟩,
  ⟨some 91, .mov (.t 18), none, [85, 86, 87, 88, 89, 90], []⟩,
  ⟨some 92, .nck (.t 91), none, [85, 86, 87, 88, 89, 90], [6]⟩,
  ⟨some 93, .fad 7 (.t 92), none, [85, 86, 87, 88, 89, 90], [6, 7]⟩,
  ⟨some 94, .fad 1 (.t 93), none, [85, 86, 87, 88, 89, 90], [6, 7, 8]⟩,
  ⟨some 95, .load false 1 (.t 94), none, [85, 86, 87, 88, 89, 90], [6, 7, 8, 9]⟩,
  ⟨some 96, .mx (.t 90) (.t 95), none, [85], [1, 2, 3, 4, 5, 6, 7, 8, 9, 10]⟩,
  ⟨some 97, .nck (.t 85), none, [], [0, 1, 2, 3, 4, 5, 6, 7, 8, 9, 10, 11]⟩,
  ⟨some 98, .fad 7 (.t 97), none, [], [0, 1, 2, 3, 4, 5, 6, 7, 8, 9, 10, 11, 12]⟩,
  ⟨some 99, .fad 2 (.t 98), none, [], [0, 1, 2, 3, 4, 5, 6, 7, 8, 9, 10, 11, 12, 13]⟩,
  ⟨none, .store none 1 (.t 99) (.t 96), none, [], [0, 1, 2, 3, 4, 5, 6, 7, 8, 9, 10, 11, 12, 13, 14]⟩] true)
 (.region [⟨some 100, .mov (.t 18), none, [], []⟩,
  ⟨some 101, .callo 27 [(.t 100)], none, [], []⟩] false)))) .skip))
 (.seq (.region [⟨some 102, .mov (.t 18), none, [106, 107, 108, 109, 110, 111, 112, 113], []⟩,
  ⟨some 103, .nck (.t 102), none, [106, 107, 108, 109, 110, 111, 112, 113], [0]⟩,
  ⟨some 104, .fad 7 (.t 103), none, [106, 107, 108, 109, 110, 111, 112, 113], [0, 1]⟩,
  ⟨some 105, .load true 5 (.t 104), none, [106, 107, 108, 109, 110, 111, 112, 113], [0, 1, 2]⟩,
  ⟨some 106, .mov (.t 18), none, [14, 102, 103, 104, 105, 110, 111, 112, 113], []⟩,
  ⟨some 107, .nck (.t 106), none, [14, 102, 103, 104, 105, 110, 111, 112, 113], [4]⟩,
  ⟨some 108, .fad 13 (.t 107), none, [14, 102, 103, 104, 105, 110, 111, 112, 113], [4, 5]⟩,
  ⟨some 109, .load false 1 (.t 108), none, [14, 102, 103, 104, 105, 110, 111, 112, 113], [4, 5, 6]⟩,
  ⟨some 110, .mov (.t 18), none, [14, 15, 102, 103, 104, 105, 106, 107, 108, 109], []⟩,
  ⟨some 111, .nck (.t 110), none, [14, 15, 102, 103, 104, 105, 106, 107, 108, 109], [8]⟩,
  ⟨some 112, .fad 14 (.t 111), none, [14, 15, 102, 103, 104, 105, 106, 107, 108, 109], [8, 9]⟩,
  ⟨some 113, .load false 1 (.t 112), none, [14, 15, 102, 103, 104, 105, 106, 107, 108, 109], [8, 9, 10]⟩,
  ⟨none, .store (some 14) 5 (.t 14) (.t 105), none, [106, 107, 108, 109, 110, 111, 112, 113], [0, 1, 2, 3]⟩,
  ⟨some 15, .mov (.t 109), none, [110, 111, 112, 113], [0, 1, 2, 3, 4, 5, 6, 7, 12]⟩,
  ⟨some 16, .mov (.t 113), none, [], [0, 1, 2, 3, 4, 5, 6, 7, 8, 9, 10, 11, 12, 13]⟩,
  ⟨some 17, .mov (.c (.int .i64 0)), none, [], [0, 1, 2, 3, 4, 5, 6, 7, 8, 9, 10, 11, 12, 13, 14]⟩] true)
 .ret))))))
def i13 : F := ⟨7, 114, j13, [.c 14 5 true, .t 15, .t 16, .t 17]⟩
theorem b13 : i13.body = j13 := rfl
theorem q13 : i13.res = [.c 14 5 true, .t 15, .t 16, .t 17] := rfl
theorem c13 : chkF Tryd.prog Tryd.f13 i13 = true := by kernel_rfl
theorem s13 {m : Model} {E : Nat → Model} (hE : ∀ f, Sound Tryd.prog f (E f)) (hm : ∀ args r, m args = some r → ∃ N, i13.ev E N args = some r) : Sound Tryd.prog 13 m := sound_of i13 Tryd.func13 rfl c13 hE hm
/-- bellwether/flow.Item -/
def j9 : C := (.seq (.region [⟨some 6, .box (.t 0), none, [], []⟩,
  ⟨some 7, .box (.t 1), none, [], []⟩,
  ⟨some 11, .box (.t 5), none, [], []⟩,
  ⟨some 12, .alloc [.int .i64 0, .int .i64 0, .int .i64 0, .row [], .row []], none, [], []⟩,
  ⟨some 13, .mov (.c (.row [])), none, [], []⟩,
  ⟨some 14, .mov (.c (.row [])), none, [], []⟩,
  ⟨some 15, .mov (.c (.int .i64 0)), none, [], []⟩] false)
 (.seq (.region [⟨some 20, .load true 7 (.t 6), none, [], []⟩,
  ⟨some 21, .load true 5 (.t 7), none, [], []⟩,
  ⟨some 22, .mov (.t 2), none, [], []⟩,
  ⟨some 23, .mov (.t 3), none, [], []⟩,
  ⟨some 24, .call true 23 [(.t 20), (.t 21), (.t 22), (.t 23)], none, [], []⟩,
  ⟨some 19, .mov (.t 24), none, [], []⟩,
  ⟨some 25, .ext (.t 19) 0, none, [], []⟩,
  ⟨some 26, .ext (.t 19) 1, none, [], []⟩,
  ⟨some 16, .mov (.t 25), none, [], []⟩,
  ⟨some 15, .mov (.t 26), none, [], []⟩] false)
 (.seq (.seq (.region [⟨some 27, .mov (.t 15), none, [], []⟩,
  ⟨some 28, .bin .eql (.t 27) (.c (.int .i64 0)), none, [], []⟩,
  ⟨some 29, .mov (.t 28), none, [], []⟩,
  ⟨some 30, .mov (.t 4), some (29, true), [], []⟩,
  ⟨some 31, .call false 19 [(.t 30)], some (29, true), [], []⟩,
  ⟨some 32, .bin .neq (.t 31) (.c (.int .i64 0)), some (29, true), [], []⟩,
  ⟨some 33, .mov (.t 32), some (29, true), [], []⟩,
  ⟨some 34, .fad 0 (.t 11), some (33, false), [], []⟩,
  ⟨some 35, .load false 1 (.t 34), some (33, false), [], []⟩,
  ⟨some 36, .call false 24 [(.t 35)], some (33, false), [], []⟩,
  ⟨some 37, .un .not (.t 36), some (33, false), [], []⟩,
  ⟨some 38, .pick (.t 33) (.c (.bool true)) (.t 37), some (29, true), [], []⟩,
  ⟨some 39, .mov (.t 38), some (29, true), [], []⟩,
  ⟨some 40, .fad 1 (.t 11), some (39, false), [], []⟩,
  ⟨some 41, .load false 1 (.t 40), some (39, false), [], []⟩,
  ⟨some 42, .call false 25 [(.t 41)], some (39, false), [], []⟩,
  ⟨some 43, .un .not (.t 42), some (39, false), [], []⟩,
  ⟨some 44, .pick (.t 39) (.c (.bool true)) (.t 43), some (29, true), [], []⟩,
  ⟨some 45, .pick (.t 29) (.t 44) (.c (.bool false)), none, [], []⟩] false)
 (.cond (.t 45) (.region [⟨some 15, .mov (.c (.int .i64 1)), none, [], []⟩] false) .skip))
 (.seq (.seq (.region [⟨some 46, .mov (.t 15), none, [], []⟩,
  ⟨some 47, .bin .neq (.t 46) (.c (.int .i64 0)), none, [], []⟩] false)
 (.cond (.t 47) (.seq (.region [⟨some 48, .build [.int .i64 0, .int .i64 0, .int .i64 0, .row [], .row []] [], none, [], []⟩,
  ⟨some 49, .mov (.t 15), none, [], []⟩,
  ⟨none, .store none 5 (.t 12) (.t 48), none, [], []⟩,
  ⟨some 13, .mov (.c (.row [])), none, [], []⟩,
  ⟨some 14, .mov (.c (.row [])), none, [], []⟩,
  ⟨some 15, .mov (.t 49), none, [], []⟩] false)
 .ret) .skip))
 (.seq (.seq (.region [⟨some 50, .mov (.t 4), none, [], []⟩,
  ⟨some 51, .fad 0 (.t 7), none, [], []⟩,
  ⟨some 52, .load false 1 (.t 51), none, [], []⟩,
  ⟨some 53, .bin .gtr (.t 50) (.t 52), none, [], []⟩] false)
 (.cond (.t 53) (.region [⟨some 54, .mov (.t 16), none, [], []⟩,
  ⟨some 55, .mov (.t 4), none, [], []⟩,
  ⟨some 56, .fad 0 (.t 11), none, [], []⟩,
  ⟨some 57, .load false 1 (.t 56), none, [], []⟩,
  ⟨some 58, .call false 21 [(.t 55), (.t 57)], none, [], []⟩,
  ⟨some 59, .nck (.t 54), none, [], []⟩,
  ⟨some 60, .fad 7 (.t 59), none, [], []⟩,
  ⟨none, .store none 5 (.t 60) (.t 58), none, [], []⟩] false) .skip))
 (.seq (.block 0 (.seq (.region [⟨some 99, .mov (.t 4), none, [100, 101], []⟩,
  ⟨some 100, .fad 0 (.t 7), none, [99], []⟩,
  ⟨some 101, .load false 1 (.t 100), none, [99], [1]⟩,
  ⟨some 102, .bin .lss (.t 99) (.t 101), none, [], [0, 1, 2]⟩,
  ⟨some 103, .mov (.t 102), none, [], [0, 1, 2, 3]⟩,
  ⟨some 104, .fad 0 (.t 11), some (103, false), [106, 107, 108, 109, 110], [0, 1, 2, 3, 4]⟩,
  ⟨some 105, .load false 1 (.t 104), some (103, false), [106, 107, 108, 109, 110], [0, 1, 2, 3, 4, 5]⟩,
  ⟨some 106, .mov (.t 16), some (103, false), [104, 105], [0, 1, 2, 3, 4]⟩,
  ⟨some 107, .nck (.t 106), some (103, false), [104, 105], [0, 1, 2, 3, 4, 7]⟩,
  ⟨some 108, .fad 7 (.t 107), some (103, false), [104, 105], [0, 1, 2, 3, 4, 7, 8]⟩,
  ⟨some 109, .fad 1 (.t 108), some (103, false), [104, 105], [0, 1, 2, 3, 4, 7, 8, 9]⟩,
  ⟨some 110, .load false 1 (.t 109), some (103, false), [104, 105], [0, 1, 2, 3, 4, 7, 8, 9, 10]⟩,
  ⟨some 111, .bin .lss (.t 105) (.t 110), some (103, false), [], [0, 1, 2, 3, 4, 5, 6, 7, 8, 9, 10, 11]⟩,
  ⟨some 112, .pick (.t 103) (.c (.bool true)) (.t 111), none, [], [0, 1, 2, 3, 4, 5, 6, 7, 8, 9, 10, 11, 12]⟩,
  ⟨some 98, .mov (.t 112), none, [], [0, 1, 2, 3, 4, 5, 6, 7, 8, 9, 10, 11, 12, 13]⟩] true)
 (.cond (.t 98) .skip (.seq (.region [⟨some 114, .fad 0 (.t 11), none, [116, 117, 118, 119, 120], []⟩,
  ⟨some 115, .load false 1 (.t 114), none, [116, 117, 118, 119, 120], [0]⟩,
  ⟨some 116, .mov (.t 16), none, [114, 115], []⟩,
  ⟨some 117, .nck (.t 116), none, [114, 115], [2]⟩,
  ⟨some 118, .fad 7 (.t 117), none, [114, 115], [2, 3]⟩,
  ⟨some 119, .fad 1 (.t 118), none, [114, 115], [2, 3, 4]⟩,
  ⟨some 120, .load false 1 (.t 119), none, [114, 115], [2, 3, 4, 5]⟩,
  ⟨some 121, .bin .eql (.t 115) (.t 120), none, [], [0, 1, 2, 3, 4, 5, 6]⟩,
  ⟨some 113, .mov (.t 121), none, [], [0, 1, 2, 3, 4, 5, 6, 7]⟩] true)
 (.cond (.t 113) (.seq (.region [⟨some 122, .mov (.t 16), none, [], []⟩,
  ⟨some 123, .fad 1 (.t 11), none, [], []⟩,
  ⟨some 124, .load false 1 (.t 123), none, [], []⟩,
  ⟨some 125, .callo 26 [(.t 122), (.t 124)], none, [], []⟩] false)
 (.region [⟨some 126, .mov (.t 16), none, [], []⟩,
  ⟨some 127, .callo 27 [(.t 126)], none, [], []⟩] false)) (.seq (.region [⟨some 61, .mov (.t 16), none, [62, 63, 64, 65, 66, 67, 68, 69, 70], []⟩,
  ⟨some 62, .mov (.t 16), none, [61, 67, 68, 69], []⟩,
  ⟨some 63, .nck (.t 62), none, [61, 67, 68, 69], [1]⟩,
  ⟨some 64, .fad 7 (.t 63), none, [61, 67, 68, 69], [1, 2]⟩,
  ⟨some 65, .fad 2 (.t 64), none, [61, 67, 68, 69], [1, 2, 3]⟩,
  ⟨some 66, .load false 1 (.t 65), none, [61, 67, 68, 69], [1, 2, 3, 4]⟩,
  ⟨some 67, .fad 0 (.t 11), none, [61, 62, 63, 64, 65, 66], []⟩,
  ⟨some 68, .load false 1 (.t 67), none, [61, 62, 63, 64, 65, 66], [6]⟩,
  ⟨some 69, .bin .add (.t 68) (.c (.int .i64 1)), none, [61, 62, 63, 64, 65, 66], [6, 7]⟩,
  ⟨some 70, .mx (.t 66) (.t 69), none, [61], [1, 2, 3, 4, 5, 6, 7, 8]⟩,
  ⟨some 71, .nck (.t 61), none, [], [0, 1, 2, 3, 4, 5, 6, 7, 8, 9]⟩,
  ⟨some 72, .fad 7 (.t 71), none, [], [0, 1, 2, 3, 4, 5, 6, 7, 8, 9, 10]⟩,
  ⟨some 73, .fad 2 (.t 72), none, [], [0, 1, 2, 3, 4, 5, 6, 7, 8, 9, 10, 11]⟩,
  ⟨none, .store none 1 (.t 73) (.t 70), none, [], [0, 1, 2, 3, 4, 5, 6, 7, 8, 9, 10, 11, 12]⟩] true)
 (.seq (.region [⟨some 75, .mov (.t 16), none, [80, 81, 82, 83, 84, 85, 86, 87], []⟩,
  ⟨some 76, .nck (.t 75), none, [80, 81, 82, 83, 84, 85, 86, 87], [0]⟩,
  ⟨some 77, .fad 7 (.t 76), none, [80, 81, 82, 83, 84, 85, 86, 87], [0, 1]⟩,
  ⟨some 78, .fad 4 (.t 77), none, [80, 81, 82, 83, 84, 85, 86, 87], [0, 1, 2]⟩,
  ⟨some 79, .load false 1 (.t 78), none, [80, 81, 82, 83, 84, 85, 86, 87], [0, 1, 2, 3]⟩,
  ⟨some 80, .mov (.t 16), none, [75, 76, 77, 78, 79, 85, 86, 87], []⟩,
  ⟨some 81, .nck (.t 80), none, [75, 76, 77, 78, 79, 85, 86, 87], [5]⟩,
  ⟨some 82, .fad 7 (.t 81), none, [75, 76, 77, 78, 79, 85, 86, 87], [5, 6]⟩,
  ⟨some 83, .fad 1 (.t 82), none, [75, 76, 77, 78, 79, 85, 86, 87], [5, 6, 7]⟩,
  ⟨some 84, .load false 1 (.t 83), none, [75, 76, 77, 78, 79, 85, 86, 87], [5, 6, 7, 8]⟩,
  ⟨some 85, .fad 5 (.t 6), none, [75, 76, 77, 78, 79, 80, 81, 82, 83, 84, 87], []⟩,
  ⟨some 86, .load false 1 (.t 85), none, [75, 76, 77, 78, 79, 80, 81, 82, 83, 84, 87], [10]⟩,
  ⟨some 87, .load true 2 (.t 11), none, [75, 76, 77, 78, 79, 80, 81, 82, 83, 84, 85, 86], []⟩,
  ⟨some 88, .call false 28 [(.t 79), (.t 84), (.t 86), (.t 87)], none, [], [0, 1, 2, 3, 4, 5, 6, 7, 8, 9, 10, 11, 12]⟩,
  ⟨some 74, .mov (.t 88), none, [], [0, 1, 2, 3, 4, 5, 6, 7, 8, 9, 10, 11, 12, 13]⟩,
  ⟨some 89, .ext (.t 74) 0, none, [90], [0, 1, 2, 3, 4, 5, 6, 7, 8, 9, 10, 11, 12, 13, 14]⟩,
  ⟨some 90, .ext (.t 74) 1, none, [17, 89], [0, 1, 2, 3, 4, 5, 6, 7, 8, 9, 10, 11, 12, 13, 14]⟩,
  ⟨some 17, .mov (.t 89), none, [90], [0, 1, 2, 3, 4, 5, 6, 7, 8, 9, 10, 11, 12, 13, 14, 15]⟩,
  ⟨some 18, .mov (.t 90), none, [], [0, 1, 2, 3, 4, 5, 6, 7, 8, 9, 10, 11, 12, 13, 14, 15, 16, 17]⟩] true)
 (.seq (.region [⟨some 91, .mov (.t 18), none, [], []⟩,
  ⟨some 92, .bin .eql (.t 91) (.c (.int .i64 0)), none, [], []⟩] false)
 (.cond (.t 92) (.region [⟨some 93, .mov (.t 16), none, [], []⟩,
  ⟨some 94, .mov (.t 17), none, [], []⟩,
  ⟨some 95, .nck (.t 93), none, [], []⟩,
  ⟨some 96, .fad 7 (.t 95), none, [], []⟩,
  ⟨some 97, .fad 4 (.t 96), none, [], []⟩,
  ⟨none, .store none 1 (.t 97) (.t 94), none, [], []⟩] false) .skip)))))))))
 (.seq (.region [⟨some 128, .mov (.t 16), none, [132, 133, 134, 135, 136, 137, 138, 139], []⟩,
  ⟨some 129, .nck (.t 128), none, [132, 133, 134, 135, 136, 137, 138, 139], [0]⟩,
  ⟨some 130, .fad 7 (.t 129), none, [132, 133, 134, 135, 136, 137, 138, 139], [0, 1]⟩,
  ⟨some 131, .load true 5 (.t 130), none, [132, 133, 134, 135, 136, 137, 138, 139], [0, 1, 2]⟩,
  ⟨some 132, .mov (.t 16), none, [12, 128, 129, 130, 131, 136, 137, 138, 139], []⟩,
  ⟨some 133, .nck (.t 132), none, [12, 128, 129, 130, 131, 136, 137, 138, 139], [4]⟩,
  ⟨some 134, .fad 13 (.t 133), none, [12, 128, 129, 130, 131, 136, 137, 138, 139], [4, 5]⟩,
  ⟨some 135, .load false 1 (.t 134), none, [12, 128, 129, 130, 131, 136, 137, 138, 139], [4, 5, 6]⟩,
  ⟨some 136, .mov (.t 16), none, [12, 13, 128, 129, 130, 131, 132, 133, 134, 135], []⟩,
  ⟨some 137, .nck (.t 136), none, [12, 13, 128, 129, 130, 131, 132, 133, 134, 135], [8]⟩,
  ⟨some 138, .fad 14 (.t 137), none, [12, 13, 128, 129, 130, 131, 132, 133, 134, 135], [8, 9]⟩,
  ⟨some 139, .load false 1 (.t 138), none, [12, 13, 128, 129, 130, 131, 132, 133, 134, 135], [8, 9, 10]⟩,
  ⟨none, .store (some 12) 5 (.t 12) (.t 131), none, [132, 133, 134, 135, 136, 137, 138, 139], [0, 1, 2, 3]⟩,
  ⟨some 13, .mov (.t 135), none, [136, 137, 138, 139], [0, 1, 2, 3, 4, 5, 6, 7, 12]⟩,
  ⟨some 14, .mov (.t 139), none, [], [0, 1, 2, 3, 4, 5, 6, 7, 8, 9, 10, 11, 12, 13]⟩,
  ⟨some 15, .mov (.c (.int .i64 0)), none, [], [0, 1, 2, 3, 4, 5, 6, 7, 8, 9, 10, 11, 12, 13, 14]⟩] true)
 .ret)))))))
def i9 : F := ⟨6, 140, j9, [.c 12 5 true, .t 13, .t 14, .t 15]⟩
theorem b9 : i9.body = j9 := rfl
theorem q9 : i9.res = [.c 12 5 true, .t 13, .t 14, .t 15] := rfl
theorem c9 : chkF Tryd.prog Tryd.f9 i9 = true := by kernel_rfl
theorem s9 {m : Model} {E : Nat → Model} (hE : ∀ f, Sound Tryd.prog f (E f)) (hm : ∀ args r, m args = some r → ∃ N, i9.ev E N args = some r) : Sound Tryd.prog 9 m := sound_of i9 Tryd.func9 rfl c9 hE hm
/-- bellwether/flow.Lacks -/
def j11 : C := (.seq (.region [⟨some 1, .box (.t 0), none, [], []⟩,
  ⟨some 2, .mov (.c (.bool false)), none, [], []⟩] false)
 (.seq (.region [⟨some 3, .fad 2 (.t 1), none, [], []⟩,
  ⟨some 4, .load false 1 (.t 3), none, [], []⟩,
  ⟨some 5, .fad 1 (.t 1), none, [], []⟩,
  ⟨some 6, .load false 1 (.t 5), none, [], []⟩,
  ⟨some 7, .bin .gtr (.t 4) (.t 6), none, [], []⟩,
  ⟨some 2, .mov (.t 7), none, [], []⟩] false)
 .ret))
def i11 : F := ⟨1, 8, j11, [.t 2]⟩
theorem b11 : i11.body = j11 := rfl
theorem q11 : i11.res = [.t 2] := rfl
theorem c11 : chkF Tryd.prog Tryd.f11 i11 = true := by kernel_rfl
theorem s11 {m : Model} {E : Nat → Model} (hE : ∀ f, Sound Tryd.prog f (E f)) (hm : ∀ args r, m args = some r → ∃ N, i11.ev E N args = some r) : Sound Tryd.prog 11 m := sound_of i11 Tryd.func11 rfl c11 hE hm
/-- bellwether/flow.Told -/
def j8 : C := (.seq (.region [⟨some 4, .box (.t 0), none, [], []⟩,
  ⟨some 5, .box (.t 1), none, [], []⟩,
  ⟨some 8, .alloc [.int .i64 0, .int .i64 0, .int .i64 0, .row [], .row []], none, [], []⟩,
  ⟨some 9, .mov (.c (.int .i64 0)), none, [], []⟩] false)
 (.seq (.region [⟨some 12, .load true 7 (.t 4), none, [], []⟩,
  ⟨some 13, .load true 5 (.t 5), none, [], []⟩,
  ⟨some 14, .call false 10 [(.t 12), (.t 13), (.c (.row []))], none, [], []⟩,
  ⟨some 10, .mov (.t 14), none, [], []⟩] false)
 (.seq (.block 0 (.seq (.region [⟨some 16, .mov (.t 10), none, [], []⟩,
  ⟨some 17, .bin .neq (.t 16) (.c (.int .i64 0)), none, [], []⟩,
  ⟨some 15, .mov (.t 17), none, [], []⟩] false)
 (.cond (.t 15) (.seq (.region [⟨some 18, .build [.int .i64 0, .int .i64 0, .int .i64 0, .row [], .row []] [], none, [], []⟩,
  ⟨some 19, .mov (.t 10), none, [], []⟩,
  ⟨none, .store none 5 (.t 8) (.t 18), none, [], []⟩,
  ⟨some 9, .mov (.t 19), none, [], []⟩] false)
 .ret) (.seq (.region [⟨some 21, .mov (.t 2), none, [], []⟩,
  ⟨some 22, .call false 19 [(.t 21)], none, [], []⟩,
  ⟨some 23, .bin .neq (.t 22) (.c (.int .i64 0)), none, [], []⟩,
  ⟨some 24, .mov (.t 23), none, [], []⟩,
  ⟨some 25, .mov (.t 3), some (24, false), [], []⟩,
  ⟨some 26, .call false 20 [(.t 25)], some (24, false), [], []⟩,
  ⟨some 27, .un .not (.t 26), some (24, false), [], []⟩,
  ⟨some 28, .pick (.t 24) (.c (.bool true)) (.t 27), none, [], []⟩,
  ⟨some 20, .mov (.t 28), none, [], []⟩] false)
 (.cond (.t 20) (.seq (.region [⟨some 29, .build [.int .i64 0, .int .i64 0, .int .i64 0, .row [], .row []] [], none, [], []⟩,
  ⟨none, .store none 5 (.t 8) (.t 29), none, [], []⟩,
  ⟨some 9, .mov (.c (.int .i64 1)), none, [], []⟩] false)
 .ret) (.seq (.region [⟨some 31, .mov (.t 2), none, [], []⟩,
  ⟨some 32, .fad 0 (.t 5), none, [], []⟩,
  ⟨some 33, .load false 1 (.t 32), none, [], []⟩,
  ⟨some 34, .bin .gtr (.t 31) (.t 33), none, [], []⟩,
  ⟨some 30, .mov (.t 34), none, [], []⟩] false)
 (.cond (.t 30) (.seq (.region [⟨some 35, .mov (.t 2), none, [], []⟩,
  ⟨some 36, .mov (.t 3), none, [], []⟩,
  ⟨some 37, .call false 21 [(.t 35), (.t 36)], none, [], []⟩,
  ⟨none, .store none 5 (.t 8) (.t 37), none, [], []⟩,
  ⟨some 9, .mov (.c (.int .i64 0)), none, [], []⟩] false)
 .ret) .skip)))))))
 (.seq (.region [⟨some 38, .load true 5 (.t 5), none, [], []⟩,
  ⟨some 39, .call false 22 [(.t 38)], none, [], []⟩,
  ⟨some 11, .alloc [.int .i64 0, .int .i64 0, .int .i64 0, .row [], .row []], none, [], []⟩,
  ⟨none, .store none 5 (.t 11) (.t 39), none, [], []⟩] false)
 (.seq (.seq (.region [⟨some 40, .mov (.t 2), none, [], []⟩,
  ⟨some 41, .fad 0 (.t 5), none, [], []⟩,
  ⟨some 42, .load false 1 (.t 41), none, [], []⟩,
  ⟨some 43, .bin .eql (.t 40) (.t 42), none, [], []⟩] false)
 (.cond (.t 43) (.region [⟨some 44, .fad 2 (.t 11), none, [], []⟩,
  ⟨some 45, .load false 1 (.t 44), none, [], []⟩,
  ⟨some 46, .mov (.t 3), none, [], []⟩,
  ⟨some 47, .mx (.t 45) (.t 46), none, [], []⟩,
  ⟨some 48, .fad 2 (.t 11), none, [], []⟩,
  ⟨none, .store none 1 (.t 48) (.t 47), none, [], []⟩] false) .skip))
 (.seq (.region [⟨some 49, .load true 5 (.t 11), none, [], []⟩,
  ⟨none, .store none 5 (.t 8) (.t 49), none, [], []⟩,
  ⟨some 9, .mov (.c (.int .i64 0)), none, [], []⟩] false)
 .ret))))))
def i8 : F := ⟨4, 50, j8, [.c 8 5 true, .t 9]⟩
theorem b8 : i8.body = j8 := rfl
theorem q8 : i8.res = [.c 8 5 true, .t 9] := rfl
theorem c8 : chkF Tryd.prog Tryd.f8 i8 = true := by kernel_rfl
theorem s8 {m : Model} {E : Nat → Model} (hE : ∀ f, Sound Tryd.prog f (E f)) (hm : ∀ args r, m args = some r → ∃ N, i8.ev E N args = some r) : Sound Tryd.prog 8 m := sound_of i8 Tryd.func8 rfl c8 hE hm
/-- bellwether/flow.Twin -/
def j22 : C := (.seq (.region [⟨some 1, .box (.t 0), none, [], []⟩,
  ⟨some 2, .alloc [.int .i64 0, .int .i64 0, .int .i64 0, .row [], .row []], none, [], []⟩] false)
 (.seq (.region [⟨some 3, .fad 3 (.t 1), none, [6, 7], []⟩,
  ⟨some 4, .load false 1 (.t 3), none, [6, 7], [0]⟩,
  ⟨some 5, .call false 34 [(.t 4)], none, [6, 7], [0, 1]⟩,
  ⟨some 6, .fad 4 (.t 1), none, [3, 4, 5], []⟩,
  ⟨some 7, .load false 1 (.t 6), none, [3, 4, 5], [3]⟩,
  ⟨some 8, .call false 34 [(.t 7)], none, [9], [0, 1, 2, 3, 4]⟩,
  ⟨some 9, .fad 3 (.t 1), none, [8], [0, 1, 2, 3, 4]⟩,
  ⟨none, .store none 1 (.t 9) (.t 5), none, [], [0, 1, 2, 3, 4, 5, 6]⟩,
  ⟨some 10, .fad 4 (.t 1), none, [], [0, 1, 2, 3, 4, 5, 6, 7]⟩,
  ⟨none, .store none 1 (.t 10) (.t 8), none, [], [0, 1, 2, 3, 4, 5, 6, 7, 8]⟩] true)
 (.seq (.region [⟨some 11, .load true 5 (.t 1), none, [], []⟩,
  ⟨none, .store none 5 (.t 2) (.t 11), none, [], []⟩] false)
 .ret)))
def i22 : F := ⟨1, 12, j22, [.c 2 5 true]⟩
theorem b22 : i22.body = j22 := rfl
theorem q22 : i22.res = [.c 2 5 true] := rfl
theorem c22 : chkF Tryd.prog Tryd.f22 i22 = true := by kernel_rfl
theorem s22 {m : Model} {E : Nat → Model} (hE : ∀ f, Sound Tryd.prog f (E f)) (hm : ∀ args r, m args = some r → ∃ N, i22.ev E N args = some r) : Sound Tryd.prog 22 m := sound_of i22 Tryd.func22 rfl c22 hE hm
/-- bellwether/flow.begin -/
def j23 : C := (.seq (.region [⟨some 4, .box (.t 0), none, [], []⟩,
  ⟨some 5, .box (.t 1), none, [], []⟩,
  ⟨some 8, .mov (.c (.k (.pointer none))), none, [], []⟩,
  ⟨some 9, .mov (.c (.int .i64 0)), none, [], []⟩] false)
 (.seq (.region [⟨some 11, .load true 7 (.t 4), none, [], []⟩,
  ⟨some 12, .load true 5 (.t 5), none, [], []⟩,
  ⟨some 13, .mov (.t 3), none, [], []⟩,
  ⟨some 14, .call false 10 [(.t 11), (.t 12), (.t 13)], none, [], []⟩,
  ⟨some 10, .mov (.t 14), none, [], []⟩] false)
 (.seq (.seq (.region [⟨some 15, .mov (.t 10), none, [], []⟩,
  ⟨some 16, .bin .neq (.t 15) (.c (.int .i64 0)), none, [], []⟩] false)
 (.cond (.t 16) (.seq (.region [⟨some 17, .mov (.t 10), none, [], []⟩,
  ⟨some 8, .mov (.c (.k (.pointer none))), none, [], []⟩,
  ⟨some 9, .mov (.t 17), none, [], []⟩] false)
 .ret) .skip))
 (.seq (.region [⟨some 18, .load true 7 (.t 4), none, [19, 20, 21, 22, 23], []⟩,
  ⟨some 19, .load true 5 (.t 5), none, [18, 21, 22], []⟩,
  ⟨some 20, .call false 22 [(.t 19)], none, [18, 21, 22], [1]⟩,
  ⟨some 21, .mov (.t 2), none, [18, 19, 20, 22, 23], []⟩,
  ⟨some 22, .mov (.t 3), none, [18, 19, 20, 21], []⟩,
  ⟨some 23, .call false 37 [(.t 22)], none, [18, 21], [1, 2, 4]⟩,
  ⟨some 24, .build [.int .i64 0, .int .i64 0, .int .i64 0, .int .i64 0, .int .i64 0, .int .i64 0, .int .i64 0, .int .i64 0, .int .i64 0, .int .i64 0, .row [], .row [], .bool false, .row [], .k (.slice none 0 0)] [(0, 7, (.t 18)), (7, 5, (.t 20)), (12, 1, (.t 21)), (13, 1, (.t 23))], none, [], [0, 1, 2, 3, 4, 5]⟩,
  ⟨some 25, .bxo (.t 24) [(14, 35, 2)], none, [], [0, 1, 2, 3, 4, 5, 6]⟩,
  ⟨some 8, .mov (.t 25), none, [], [0, 1, 2, 3, 4, 5, 6, 7]⟩,
  ⟨some 9, .mov (.c (.int .i64 0)), none, [], [0, 1, 2, 3, 4, 5, 6, 7, 8]⟩] true)
 .ret))))
def i23 : F := ⟨4, 26, j23, [.t 8, .t 9]⟩
theorem b23 : i23.body = j23 := rfl
theorem q23 : i23.res = [.t 8, .t 9] := rfl
theorem c23 : chkF Tryd.prog Tryd.f23 i23 = true := by kernel_rfl
theorem s23 {m : Model} {E : Nat → Model} (hE : ∀ f, Sound Tryd.prog f (E f)) (hm : ∀ args r, m args = some r → ∃ N, i23.ev E N args = some r) : Sound Tryd.prog 23 m := sound_of i23 Tryd.func23 rfl c23 hE hm
/-- bellwether/flow.right -/
def j30 : C := (.seq (.region [⟨some 2, .box (.t 0), none, [], []⟩,
  ⟨some 3, .box (.t 1), none, [], []⟩,
  ⟨some 4, .mov (.c (.bool false)), none, [], []⟩] false)
 (.seq (.seq (.region [⟨some 5, .load true 5 (.t 3), none, [], []⟩,
  ⟨some 6, .call false 47 [(.t 5)], none, [], []⟩] false)
 (.cond (.t 6) (.seq (.region [⟨some 4, .mov (.c (.bool true)), none, [], []⟩] false)
 .ret) .skip))
 (.seq (.region [⟨some 7, .fad 0 (.t 3), none, [], []⟩,
  ⟨some 8, .load false 1 (.t 7), none, [], []⟩,
  ⟨some 9, .call false 19 [(.t 8)], none, [], []⟩,
  ⟨some 10, .bin .eql (.t 9) (.c (.int .i64 0)), none, [], []⟩,
  ⟨some 11, .mov (.t 10), none, [], []⟩,
  ⟨some 12, .fad 1 (.t 3), some (11, true), [], []⟩,
  ⟨some 13, .load false 1 (.t 12), some (11, true), [], []⟩,
  ⟨some 14, .call false 20 [(.t 13)], some (11, true), [], []⟩,
  ⟨some 15, .pick (.t 11) (.t 14) (.c (.bool false)), none, [], []⟩,
  ⟨some 16, .mov (.t 15), none, [], []⟩,
  ⟨some 17, .fad 2 (.t 3), some (16, true), [], []⟩,
  ⟨some 18, .load false 1 (.t 17), some (16, true), [], []⟩,
  ⟨some 19, .fad 1 (.t 3), some (16, true), [], []⟩,
  ⟨some 20, .load false 1 (.t 19), some (16, true), [], []⟩,
  ⟨some 21, .bin .geq (.t 18) (.t 20), some (16, true), [], []⟩,
  ⟨some 22, .pick (.t 16) (.t 21) (.c (.bool false)), none, [], []⟩,
  ⟨some 23, .mov (.t 22), none, [], []⟩,
  ⟨some 24, .fad 2 (.t 3), some (23, true), [], []⟩,
  ⟨some 25, .load false 1 (.t 24), some (23, true), [], []⟩,
  ⟨some 26, .bin .leq (.t 25) (.c (.int .i64 1073741824)), some (23, true), [], []⟩,
  ⟨some 27, .pick (.t 23) (.t 26) (.c (.bool false)), none, [], []⟩,
  ⟨some 28, .mov (.t 27), none, [], []⟩,
  ⟨some 29, .fad 3 (.t 3), some (28, true), [], []⟩,
  ⟨some 30, .load false 1 (.t 29), some (28, true), [], []⟩,
  ⟨some 31, .fad 1 (.t 3), some (28, true), [], []⟩,
  ⟨some 32, .load false 1 (.t 31), some (28, true), [], []⟩,
  ⟨some 33, .fad 4 (.t 2), some (28, true), [], []⟩,
  ⟨some 34, .load false 1 (.t 33), some (28, true), [], []⟩,
  ⟨some 35, .call false 33 [(.t 30), (.t 32), (.t 34)], some (28, true), [], []⟩,
  ⟨some 36, .bin .eql (.t 35) (.c (.int .i64 0)), some (28, true), [], []⟩,
  ⟨some 37, .pick (.t 28) (.t 36) (.c (.bool false)), none, [], []⟩,
  ⟨some 38, .mov (.t 37), none, [], []⟩,
  ⟨some 39, .fad 4 (.t 3), some (38, true), [], []⟩,
  ⟨some 40, .load false 1 (.t 39), some (38, true), [], []⟩,
  ⟨some 41, .fad 1 (.t 3), some (38, true), [], []⟩,
  ⟨some 42, .load false 1 (.t 41), some (38, true), [], []⟩,
  ⟨some 43, .fad 5 (.t 2), some (38, true), [], []⟩,
  ⟨some 44, .load false 1 (.t 43), some (38, true), [], []⟩,
  ⟨some 45, .call false 40 [(.t 40), (.t 42), (.t 44)], some (38, true), [], []⟩,
  ⟨some 46, .bin .eql (.t 45) (.c (.int .i64 0)), some (38, true), [], []⟩,
  ⟨some 47, .pick (.t 38) (.t 46) (.c (.bool false)), none, [], []⟩,
  ⟨some 4, .mov (.t 47), none, [], []⟩] false)
 .ret)))
def i30 : F := ⟨2, 48, j30, [.t 4]⟩
theorem b30 : i30.body = j30 := rfl
theorem q30 : i30.res = [.t 4] := rfl
theorem c30 : chkF Tryd.prog Tryd.f30 i30 = true := by kernel_rfl
theorem s30 {m : Model} {E : Nat → Model} (hE : ∀ f, Sound Tryd.prog f (E f)) (hm : ∀ args r, m args = some r → ∃ N, i30.ev E N args = some r) : Sound Tryd.prog 30 m := sound_of i30 Tryd.func30 rfl c30 hE hm
/--   bellwether/flow.taker .event -/
def j32 : C := (.seq (.region [⟨some 3, .box (.t 1), none, [], []⟩] false)
 (.seq (.region [⟨some 4, .mov (.t 0), none, [], []⟩,
  ⟨some 5, .nck (.t 4), none, [], []⟩,
  ⟨some 6, .fad 12 (.t 5), none, [], []⟩,
  ⟨some 7, .load false 1 (.t 6), none, [], []⟩] false)
 (.cond (.t 7) (.region [⟨some 8, .mov (.t 0), none, [9, 10, 11, 12, 13, 14, 15, 16, 17, 18, 19], []⟩,
  ⟨some 9, .mov (.t 0), none, [8, 13, 14, 15, 16, 17, 18], []⟩,
  ⟨some 10, .nck (.t 9), none, [8, 13, 14, 15, 16, 17, 18], [1]⟩,
  ⟨some 11, .fad 13 (.t 10), none, [8, 13, 14, 15, 16, 17, 18], [1, 2]⟩,
  ⟨some 12, .load false 1 (.t 11), none, [8, 13, 14, 15, 16, 17, 18], [1, 2, 3]⟩,
  ⟨some 13, .mov (.t 0), none, [8, 9, 10, 11, 12, 18], []⟩,
  ⟨some 14, .nck (.t 13), none, [8, 9, 10, 11, 12, 18], [5]⟩,
  ⟨some 15, .fad 0 (.t 14), none, [8, 9, 10, 11, 12, 18], [5, 6]⟩,
  ⟨some 16, .fad 6 (.t 15), none, [8, 9, 10, 11, 12, 18], [5, 6, 7]⟩,
  ⟨some 17, .load false 1 (.t 16), none, [8, 9, 10, 11, 12, 18], [5, 6, 7, 8]⟩,
  ⟨some 18, .load true 6 (.t 3), none, [8, 9, 10, 11, 12, 13, 14, 15, 16, 17], []⟩,
  ⟨some 19, .call false 51 [(.t 12), (.t 17), (.t 18)], none, [8], [1, 2, 3, 4, 5, 6, 7, 8, 9, 10]⟩,
  ⟨some 20, .nck (.t 8), none, [], [0, 1, 2, 3, 4, 5, 6, 7, 8, 9, 10, 11]⟩,
  ⟨some 21, .fad 13 (.t 20), none, [], [0, 1, 2, 3, 4, 5, 6, 7, 8, 9, 10, 11, 12]⟩,
  ⟨none, .store none 1 (.t 21) (.t 19), none, [], [0, 1, 2, 3, 4, 5, 6, 7, 8, 9, 10, 11, 12, 13]⟩] true) .skip)))
def i32 : F := ⟨2, 22, j32, []⟩
theorem b32 : i32.body = j32 := rfl
theorem q32 : i32.res = [] := rfl
theorem c32 : chkF Tryd.prog Tryd.f32 i32 = true := by kernel_rfl
theorem s32 {m : Model} {E : Nat → Model} (hE : ∀ f, Sound Tryd.prog f (E f)) (hm : ∀ args r, m args = some r → ∃ N, i32.ev E N args = some r) : Sound Tryd.prog 32 m := sound_of i32 Tryd.func32 rfl c32 hE hm
/--   bellwether/flow.taker .more -/
def j27 : C := (.seq (.region [⟨some 7, .mov (.t 0), none, [12, 13, 14, 15, 16], []⟩,
  ⟨some 8, .nck (.t 7), none, [12, 13, 14, 15, 16], [0]⟩,
  ⟨some 9, .fad 7 (.t 8), none, [12, 13, 14, 15, 16], [0, 1]⟩,
  ⟨some 10, .fad 4 (.t 9), none, [12, 13, 14, 15, 16], [0, 1, 2]⟩,
  ⟨some 11, .load false 1 (.t 10), none, [12, 13, 14, 15, 16], [0, 1, 2, 3]⟩,
  ⟨some 12, .mov (.t 0), none, [7, 8, 9, 10, 11], []⟩,
  ⟨some 13, .nck (.t 12), none, [7, 8, 9, 10, 11], [5]⟩,
  ⟨some 14, .fad 7 (.t 13), none, [7, 8, 9, 10, 11], [5, 6]⟩,
  ⟨some 15, .fad 1 (.t 14), none, [7, 8, 9, 10, 11], [5, 6, 7]⟩,
  ⟨some 16, .load false 1 (.t 15), none, [7, 8, 9, 10, 11], [5, 6, 7, 8]⟩,
  ⟨some 17, .call false 39 [(.t 11), (.t 16)], none, [], [0, 1, 2, 3, 4, 5, 6, 7, 8, 9]⟩,
  ⟨some 6, .mov (.t 17), none, [], [0, 1, 2, 3, 4, 5, 6, 7, 8, 9, 10]⟩,
  ⟨some 18, .ext (.t 6) 0, none, [19], [0, 1, 2, 3, 4, 5, 6, 7, 8, 9, 10, 11]⟩,
  ⟨some 19, .ext (.t 6) 1, none, [2, 18], [0, 1, 2, 3, 4, 5, 6, 7, 8, 9, 10, 11]⟩,
  ⟨some 2, .mov (.t 18), none, [19], [0, 1, 2, 3, 4, 5, 6, 7, 8, 9, 10, 11, 12]⟩,
  ⟨some 3, .mov (.t 19), none, [], [0, 1, 2, 3, 4, 5, 6, 7, 8, 9, 10, 11, 12, 13, 14]⟩] true)
 (.seq (.seq (.region [⟨some 20, .mov (.t 2), none, [], []⟩,
  ⟨some 21, .len (.t 20), none, [], []⟩,
  ⟨some 22, .mov (.c (.int .i64 0)), none, [], []⟩] false)
 (.block 0 (.loop (.keep [0, 3, 20, 21, 22] (.seq (.region [⟨some 23, .bin .lss (.t 22) (.t 21), none, [], []⟩] false)
 (.seq (.cond (.t 23) .skip (.exit 0))
 (.seq (.block 1 (.seq (.region [⟨some 24, .iad 2 (.t 20) (.t 22), none, [], []⟩,
  ⟨some 25, .load true 2 (.t 24), none, [], []⟩,
  ⟨some 5, .alloc [.int .i64 0, .int .i64 0], none, [], []⟩,
  ⟨none, .store none 2 (.t 5) (.t 25), none, [], []⟩] false)
 (.region [⟨some 26, .mov (.t 0), none, [], []⟩,
  ⟨some 27, .fad 1 (.t 5), none, [], []⟩,
  ⟨some 28, .load false 1 (.t 27), none, [], []⟩,
  ⟨some 29, .callo 26 [(.t 26), (.t 28)], none, [], []⟩] false)))
 (.region [⟨some 30, .bin .add (.t 22) (.c (.int .i64 1)), none, [], []⟩,
  ⟨some 22, .mov (.t 30), none, [], []⟩] false))))))))
 (.region [⟨some 31, .mov (.t 0), none, [], []⟩,
  ⟨some 32, .mov (.t 3), none, [], []⟩,
  ⟨some 33, .nck (.t 31), none, [], []⟩,
  ⟨some 34, .fad 7 (.t 33), none, [], []⟩,
  ⟨some 35, .fad 4 (.t 34), none, [], []⟩,
  ⟨none, .store none 1 (.t 35) (.t 32), none, [], []⟩] false)))
def i27 : F := ⟨1, 36, j27, []⟩
theorem b27 : i27.body = j27 := rfl
theorem q27 : i27.res = [] := rfl
theorem c27 : chkF Tryd.prog Tryd.f27 i27 = true := by kernel_rfl
theorem s27 {m : Model} {E : Nat → Model} (hE : ∀ f, Sound Tryd.prog f (E f)) (hm : ∀ args r, m args = some r → ∃ N, i27.ev E N args = some r) : Sound Tryd.prog 27 m := sound_of i27 Tryd.func27 rfl c27 hE hm
/--   bellwether/flow.taker .one -/
def j26 : C := (.seq (.region [⟨some 5, .mov (.t 0), none, [], []⟩,
  ⟨some 6, .nck (.t 5), none, [], []⟩,
  ⟨some 7, .fad 7 (.t 6), none, [], []⟩,
  ⟨some 8, .fad 1 (.t 7), none, [], []⟩,
  ⟨some 9, .load false 1 (.t 8), none, [], []⟩,
  ⟨some 10, .mov (.t 1), none, [], []⟩,
  ⟨some 11, .build [.int .i64 0, .int .i64 0] [(0, 1, (.t 9)), (1, 1, (.t 10))], none, [], []⟩,
  ⟨some 4, .alloc [.int .i64 0, .int .i64 0], none, [], []⟩,
  ⟨none, .store none 2 (.t 4) (.t 11), none, [], []⟩] false)
 (.seq (.region [⟨some 13, .mov (.t 0), none, [12, 14, 15, 16, 17, 18, 19, 20, 21, 22, 23, 24, 25, 26, 27, 28, 29, 30, 31, 32], []⟩,
  ⟨some 14, .mov (.t 0), none, [13, 19, 20, 21, 22, 23, 24, 25, 26, 27, 28, 29], []⟩,
  ⟨some 15, .nck (.t 14), none, [13, 19, 20, 21, 22, 23, 24, 25, 26, 27, 28, 29], [1]⟩,
  ⟨some 16, .fad 7 (.t 15), none, [13, 19, 20, 21, 22, 23, 24, 25, 26, 27, 28, 29], [1, 2]⟩,
  ⟨some 17, .fad 3 (.t 16), none, [13, 19, 20, 21, 22, 23, 24, 25, 26, 27, 28, 29], [1, 2, 3]⟩,
  ⟨some 18, .load false 1 (.t 17), none, [13, 19, 20, 21, 22, 23, 24, 25, 26, 27, 28, 29], [1, 2, 3, 4]⟩,
  ⟨some 19, .mov (.t 0), none, [13, 14, 15, 16, 17, 18, 24, 25, 26, 27, 28, 29], []⟩,
  ⟨some 20, .nck (.t 19), none, [13, 14, 15, 16, 17, 18, 24, 25, 26, 27, 28, 29], [6]⟩,
  ⟨some 21, .fad 7 (.t 20), none, [13, 14, 15, 16, 17, 18, 24, 25, 26, 27, 28, 29], [6, 7]⟩,
  ⟨some 22, .fad 1 (.t 21), none, [13, 14, 15, 16, 17, 18, 24, 25, 26, 27, 28, 29], [6, 7, 8]⟩,
  ⟨some 23, .load false 1 (.t 22), none, [13, 14, 15, 16, 17, 18, 24, 25, 26, 27, 28, 29], [6, 7, 8, 9]⟩,
  ⟨some 24, .mov (.t 0), none, [13, 14, 15, 16, 17, 18, 19, 20, 21, 22, 23, 29], []⟩,
  ⟨some 25, .nck (.t 24), none, [13, 14, 15, 16, 17, 18, 19, 20, 21, 22, 23, 29], [11]⟩,
  ⟨some 26, .fad 0 (.t 25), none, [13, 14, 15, 16, 17, 18, 19, 20, 21, 22, 23, 29], [11, 12]⟩,
  ⟨some 27, .fad 4 (.t 26), none, [13, 14, 15, 16, 17, 18, 19, 20, 21, 22, 23, 29], [11, 12, 13]⟩,
  ⟨some 28, .load false 1 (.t 27), none, [13, 14, 15, 16, 17, 18, 19, 20, 21, 22, 23, 29], [11, 12, 13, 14]⟩,
  ⟨some 29, .mov (.t 1), none, [13, 14, 15, 16, 17, 18, 19, 20, 21, 22, 23, 24, 25, 26, 27, 28], []⟩,
  ⟨some 30, .call true 38 [(.t 18), (.t 23), (.t 28), (.t 29)], none, [13], [1, 2, 3, 4, 5, 6, 7, 8, 9, 10, 11, 12, 13, 14, 15, 16]⟩,
  ⟨some 12, .mov (.t 30), none, [13], [1, 2, 3, 4, 5, 6, 7, 8, 9, 10, 11, 12, 13, 14, 15, 16, 17]⟩,
  ⟨some 31, .ext (.t 12) 0, none, [13, 32], [1, 2, 3, 4, 5, 6, 7, 8, 9, 10, 11, 12, 13, 14, 15, 16, 17, 18]⟩,
  ⟨some 32, .ext (.t 12) 1, none, [0, 13, 31, 33, 34, 35], [1, 2, 3, 4, 5, 6, 7, 8, 9, 10, 11, 12, 13, 14, 15, 16, 17, 18]⟩,
  ⟨some 33, .nck (.t 13), none, [32], [0, 1, 2, 3, 4, 5, 6, 7, 8, 9, 10, 11, 12, 13, 14, 15, 16, 17, 18, 19]⟩,
  ⟨some 34, .fad 7 (.t 33), none, [32], [0, 1, 2, 3, 4, 5, 6, 7, 8, 9, 10, 11, 12, 13, 14, 15, 16, 17, 18, 19, 21]⟩,
  ⟨some 35, .fad 3 (.t 34), none, [32], [0, 1, 2, 3, 4, 5, 6, 7, 8, 9, 10, 11, 12, 13, 14, 15, 16, 17, 18, 19, 21, 22]⟩,
  ⟨none, .store (some 0) 1 (.t 35) (.t 31), none, [32], [0, 1, 2, 3, 4, 5, 6, 7, 8, 9, 10, 11, 12, 13, 14, 15, 16, 17, 18, 19, 21, 22, 23]⟩] true)
 (.seq (.region [⟨some 36, .mov (.t 0), none, [37, 38, 39, 40, 41, 42, 43, 44, 45], []⟩,
  ⟨some 37, .mov (.t 0), none, [36, 42, 43, 44], []⟩,
  ⟨some 38, .nck (.t 37), none, [36, 42, 43, 44], [1]⟩,
  ⟨some 39, .fad 7 (.t 38), none, [36, 42, 43, 44], [1, 2]⟩,
  ⟨some 40, .fad 0 (.t 39), none, [36, 42, 43, 44], [1, 2, 3]⟩,
  ⟨some 41, .load false 1 (.t 40), none, [36, 42, 43, 44], [1, 2, 3, 4]⟩,
  ⟨some 42, .fad 0 (.t 4), none, [36, 37, 38, 39, 40, 41, 44], []⟩,
  ⟨some 43, .load false 1 (.t 42), none, [36, 37, 38, 39, 40, 41, 44], [6]⟩,
  ⟨some 44, .mov (.t 1), none, [36, 37, 38, 39, 40, 41, 42, 43], []⟩,
  ⟨some 45, .build [.int .i64 0, .int .i64 0, .int .i64 0, .int .i64 0, .int .i64 0, .int .i64 0] [(0, 1, (.c (.int .i64 1))), (1, 1, (.t 41)), (2, 1, (.t 43)), (4, 1, (.t 44))], none, [36], [1, 2, 3, 4, 5, 6, 7, 8]⟩,
  ⟨some 46, .callo 32 [(.t 36), (.t 45)], none, [], [0, 1, 2, 3, 4, 5, 6, 7, 8, 9]⟩] true)
 (.seq (.region [⟨some 47, .mov (.t 0), none, [48, 49, 50, 51, 52, 53, 54], []⟩,
  ⟨some 48, .mov (.t 0), none, [47, 52, 53], []⟩,
  ⟨some 49, .nck (.t 48), none, [47, 52, 53], [1]⟩,
  ⟨some 50, .fad 14 (.t 49), none, [47, 52, 53], [1, 2]⟩,
  ⟨some 51, .load false 1 (.t 50), none, [47, 52, 53], [1, 2, 3]⟩,
  ⟨some 52, .load true 2 (.t 4), none, [47, 48, 49, 50, 51], []⟩,
  ⟨some 53, .bsl 35 2 1 [.int .i64 0, .int .i64 0] [(0, (.t 52))], none, [47, 48, 49, 50, 51], [5]⟩,
  ⟨some 54, .app 35 2 16 (.t 51) (.t 53), none, [47], [1, 2, 3, 4, 5, 6]⟩,
  ⟨some 55, .nck (.t 47), none, [], [0, 1, 2, 3, 4, 5, 6, 7]⟩,
  ⟨some 56, .fad 14 (.t 55), none, [], [0, 1, 2, 3, 4, 5, 6, 7, 8]⟩,
  ⟨none, .store none 1 (.t 56) (.t 54), none, [], [0, 1, 2, 3, 4, 5, 6, 7, 8, 9]⟩] true)
 (.seq (.region [⟨some 57, .mov (.t 0), none, [], []⟩,
  ⟨some 58, .nck (.t 57), none, [], []⟩,
  ⟨some 59, .fad 7 (.t 58), none, [], []⟩,
  ⟨some 60, .fad 1 (.t 59), none, [], []⟩,
  ⟨some 61, .load false 1 (.t 60), none, [], []⟩,
  ⟨some 62, .bin .add (.t 61) (.c (.int .i64 1)), none, [], []⟩,
  ⟨some 63, .nck (.t 57), none, [], []⟩,
  ⟨some 64, .fad 7 (.t 63), none, [], []⟩,
  ⟨some 65, .fad 1 (.t 64), none, [], []⟩,
  ⟨none, .store none 1 (.t 65) (.t 62), none, [], []⟩] false)
 (.region [⟨some 66, .mov (.t 0), none, [67, 68, 69, 70, 71, 72, 73, 74, 75, 76, 77], []⟩,
  ⟨some 67, .mov (.t 0), none, [66, 72, 73, 74, 75, 76], []⟩,
  ⟨some 68, .nck (.t 67), none, [66, 72, 73, 74, 75, 76], [1]⟩,
  ⟨some 69, .fad 7 (.t 68), none, [66, 72, 73, 74, 75, 76], [1, 2]⟩,
  ⟨some 70, .fad 2 (.t 69), none, [66, 72, 73, 74, 75, 76], [1, 2, 3]⟩,
  ⟨some 71, .load false 1 (.t 70), none, [66, 72, 73, 74, 75, 76], [1, 2, 3, 4]⟩,
  ⟨some 72, .mov (.t 0), none, [66, 67, 68, 69, 70, 71], []⟩,
  ⟨some 73, .nck (.t 72), none, [66, 67, 68, 69, 70, 71], [6]⟩,
  ⟨some 74, .fad 7 (.t 73), none, [66, 67, 68, 69, 70, 71], [6, 7]⟩,
  ⟨some 75, .fad 1 (.t 74), none, [66, 67, 68, 69, 70, 71], [6, 7, 8]⟩,
  ⟨some 76, .load false 1 (.t 75), none, [66, 67, 68, 69, 70, 71], [6, 7, 8, 9]⟩,
  ⟨some 77, .mx (.t 71) (.t 76), none, [66], [1, 2, 3, 4, 5, 6, 7, 8, 9, 10]⟩,
  ⟨some 78, .nck (.t 66), none, [], [0, 1, 2, 3, 4, 5, 6, 7, 8, 9, 10, 11]⟩,
  ⟨some 79, .fad 7 (.t 78), none, [], [0, 1, 2, 3, 4, 5, 6, 7, 8, 9, 10, 11, 12]⟩,
  ⟨some 80, .fad 2 (.t 79), none, [], [0, 1, 2, 3, 4, 5, 6, 7, 8, 9, 10, 11, 12, 13]⟩,
  ⟨none, .store none 1 (.t 80) (.t 77), none, [], [0, 1, 2, 3, 4, 5, 6, 7, 8, 9, 10, 11, 12, 13, 14]⟩] true))))))
def i26 : F := ⟨2, 81, j26, []⟩
theorem b26 : i26.body = j26 := rfl
theorem q26 : i26.res = [] := rfl
theorem c26 : chkF Tryd.prog Tryd.f26 i26 = true := by kernel_rfl
theorem s26 {m : Model} {E : Nat → Model} (hE : ∀ f, Sound Tryd.prog f (E f)) (hm : ∀ args r, m args = some r → ∃ N, i26.ev E N args = some r) : Sound Tryd.prog 26 m := sound_of i26 Tryd.func26 rfl c26 hE hm
/-- bellwether/flow.within -/
def j24 : C := (.seq (.region [⟨some 2, .mov (.c (.bool false)), none, [], []⟩] false)
 (.seq (.region [⟨some 3, .mov (.t 0), none, [], []⟩,
  ⟨some 4, .bin .geq (.t 3) (.c (.int .i64 1)), none, [], []⟩,
  ⟨some 5, .mov (.t 4), none, [], []⟩,
  ⟨some 6, .mov (.t 0), some (5, true), [], []⟩,
  ⟨some 7, .bin .lss (.t 6) (.c (.int .i64 1073741824)), some (5, true), [], []⟩,
  ⟨some 8, .pick (.t 5) (.t 7) (.c (.bool false)), none, [], []⟩,
  ⟨some 2, .mov (.t 8), none, [], []⟩] false)
 .ret))
def i24 : F := ⟨1, 9, j24, [.t 2]⟩
theorem b24 : i24.body = j24 := rfl
theorem q24 : i24.res = [.t 2] := rfl
theorem c24 : chkF Tryd.prog Tryd.f24 i24 = true := by kernel_rfl
theorem s24 {m : Model} {E : Nat → Model} (hE : ∀ f, Sound Tryd.prog f (E f)) (hm : ∀ args r, m args = some r → ∃ N, i24.ev E N args = some r) : Sound Tryd.prog 24 m := sound_of i24 Tryd.func24 rfl c24 hE hm
/-- bellwether/flow.zero -/
def j47 : C := (.seq (.region [⟨some 1, .box (.t 0), none, [], []⟩,
  ⟨some 2, .mov (.c (.bool false)), none, [], []⟩] false)
 (.seq (.region [⟨some 3, .fad 0 (.t 1), none, [], []⟩,
  ⟨some 4, .load false 1 (.t 3), none, [], []⟩,
  ⟨some 5, .bin .eql (.t 4) (.c (.int .i64 0)), none, [], []⟩,
  ⟨some 6, .mov (.t 5), none, [], []⟩,
  ⟨some 7, .fad 1 (.t 1), some (6, true), [], []⟩,
  ⟨some 8, .load false 1 (.t 7), some (6, true), [], []⟩,
  ⟨some 9, .bin .eql (.t 8) (.c (.int .i64 0)), some (6, true), [], []⟩,
  ⟨some 10, .pick (.t 6) (.t 9) (.c (.bool false)), none, [], []⟩,
  ⟨some 11, .mov (.t 10), none, [], []⟩,
  ⟨some 12, .fad 2 (.t 1), some (11, true), [], []⟩,
  ⟨some 13, .load false 1 (.t 12), some (11, true), [], []⟩,
  ⟨some 14, .bin .eql (.t 13) (.c (.int .i64 0)), some (11, true), [], []⟩,
  ⟨some 15, .pick (.t 11) (.t 14) (.c (.bool false)), none, [], []⟩,
  ⟨some 16, .mov (.t 15), none, [], []⟩,
  ⟨some 17, .fad 3 (.t 1), some (16, true), [], []⟩,
  ⟨some 18, .load false 1 (.t 17), some (16, true), [], []⟩,
  ⟨some 19, .len (.t 18), some (16, true), [], []⟩,
  ⟨some 20, .bin .eql (.t 19) (.c (.int .i64 0)), some (16, true), [], []⟩,
  ⟨some 21, .pick (.t 16) (.t 20) (.c (.bool false)), none, [], []⟩,
  ⟨some 22, .mov (.t 21), none, [], []⟩,
  ⟨some 23, .fad 4 (.t 1), some (22, true), [], []⟩,
  ⟨some 24, .load false 1 (.t 23), some (22, true), [], []⟩,
  ⟨some 25, .len (.t 24), some (22, true), [], []⟩,
  ⟨some 26, .bin .eql (.t 25) (.c (.int .i64 0)), some (22, true), [], []⟩,
  ⟨some 27, .pick (.t 22) (.t 26) (.c (.bool false)), none, [], []⟩,
  ⟨some 2, .mov (.t 27), none, [], []⟩] false)
 .ret))
def i47 : F := ⟨1, 28, j47, [.t 2]⟩
theorem b47 : i47.body = j47 := rfl
theorem q47 : i47.res = [.t 2] := rfl
theorem c47 : chkF Tryd.prog Tryd.f47 i47 = true := by kernel_rfl
theorem s47 {m : Model} {E : Nat → Model} (hE : ∀ f, Sound Tryd.prog f (E f)) (hm : ∀ args r, m args = some r → ∃ N, i47.ev E N args = some r) : Sound Tryd.prog 47 m := sound_of i47 Tryd.func47 rfl c47 hE hm
/-- bellwether/keep.Again -/
def j18 : C := (.seq (.region [⟨some 8, .mov (.c (.int .i64 0)), none, [], []⟩,
  ⟨some 9, .mov (.c (.row [])), none, [], []⟩,
  ⟨some 10, .mov (.c (.int .i64 0)), none, [], []⟩] false)
 (.seq (.region [⟨some 13, .mov (.t 0), none, [], []⟩,
  ⟨some 14, .mov (.t 1), none, [], []⟩,
  ⟨some 15, .mov (.t 2), none, [], []⟩,
  ⟨some 16, .call false 33 [(.t 13), (.t 14), (.t 15)], none, [], []⟩,
  ⟨some 10, .mov (.t 16), none, [], []⟩] false)
 (.seq (.block 0 (.seq (.region [⟨some 18, .mov (.t 10), none, [], []⟩,
  ⟨some 19, .bin .neq (.t 18) (.c (.int .i64 0)), none, [], []⟩,
  ⟨some 20, .mov (.t 19), none, [], []⟩,
  ⟨some 21, .mov (.t 3), some (20, false), [], []⟩,
  ⟨some 22, .bin .lss (.t 21) (.c (.int .i64 1)), some (20, false), [], []⟩,
  ⟨some 23, .pick (.t 20) (.c (.bool true)) (.t 22), none, [], []⟩,
  ⟨some 17, .mov (.t 23), none, [], []⟩] false)
 (.cond (.t 17) (.seq (.region [⟨some 8, .mov (.c (.int .i64 0)), none, [], []⟩,
  ⟨some 9, .mov (.c (.row [])), none, [], []⟩,
  ⟨some 10, .mov (.c (.int .i64 1)), none, [], []⟩] false)
 .ret) (.seq (.region [⟨some 25, .mov (.t 3), none, [], []⟩,
  ⟨some 26, .mov (.t 1), none, [], []⟩,
  ⟨some 27, .bin .geq (.t 25) (.t 26), none, [], []⟩,
  ⟨some 24, .mov (.t 27), none, [], []⟩] false)
 (.cond (.t 24) (.seq (.region [⟨some 8, .mov (.c (.int .i64 0)), none, [], []⟩,
  ⟨some 9, .mov (.c (.row [])), none, [], []⟩,
  ⟨some 10, .mov (.c (.int .i64 0)), none, [], []⟩] false)
 .ret) .skip)))))
 (.seq (.region [⟨some 28, .mov (.t 1), none, [], []⟩,
  ⟨some 29, .mov (.t 0), none, [], []⟩,
  ⟨some 30, .len (.t 29), none, [], []⟩,
  ⟨some 31, .bin .sub (.t 28) (.t 30), none, [], []⟩,
  ⟨some 11, .mov (.t 31), none, [], []⟩] false)
 (.seq (.seq (.region [⟨some 32, .mov (.t 3), none, [], []⟩,
  ⟨some 33, .mov (.t 11), none, [], []⟩,
  ⟨some 34, .bin .lss (.t 32) (.t 33), none, [], []⟩] false)
 (.cond (.t 34) (.region [⟨some 35, .mov (.t 11), none, [], []⟩,
  ⟨some 36, .bin .sub (.t 35) (.c (.int .i64 1)), none, [], []⟩,
  ⟨some 8, .mov (.t 36), none, [], []⟩] false) .skip))
 (.seq (.region [⟨some 37, .mov (.t 0), none, [], []⟩,
  ⟨some 38, .mov (.t 3), none, [], []⟩,
  ⟨some 39, .mov (.t 11), none, [], []⟩,
  ⟨some 40, .bin .sub (.t 38) (.t 39), none, [], []⟩,
  ⟨some 41, .mx (.t 40) (.c (.int .i64 0)), none, [], []⟩,
  ⟨some 42, .cut 2 (.t 37) (some (.t 41)) none, none, [], []⟩,
  ⟨some 12, .mov (.t 42), none, [], []⟩] false)
 (.seq (.region [⟨some 43, .mov (.t 8), none, [], []⟩,
  ⟨some 44, .mov (.t 12), none, [], []⟩,
  ⟨some 45, .mov (.t 12), none, [], []⟩,
  ⟨some 46, .len (.t 45), none, [], []⟩,
  ⟨some 47, .mn (.t 46) (.c (.int .i64 8)), none, [], []⟩,
  ⟨some 48, .cut 2 (.t 44) none (some (.t 47)), none, [], []⟩,
  ⟨some 49, .call false 34 [(.t 48)], none, [], []⟩,
  ⟨some 8, .mov (.t 43), none, [], []⟩,
  ⟨some 9, .mov (.t 49), none, [], []⟩,
  ⟨some 10, .mov (.c (.int .i64 0)), none, [], []⟩] false)
 .ret)))))))
def i18 : F := ⟨4, 50, j18, [.t 8, .t 9, .t 10]⟩
theorem b18 : i18.body = j18 := rfl
theorem q18 : i18.res = [.t 8, .t 9, .t 10] := rfl
theorem c18 : chkF Tryd.prog Tryd.f18 i18 = true := by kernel_rfl
theorem s18 {m : Model} {E : Nat → Model} (hE : ∀ f, Sound Tryd.prog f (E f)) (hm : ∀ args r, m args = some r → ∃ N, i18.ev E N args = some r) : Sound Tryd.prog 18 m := sound_of i18 Tryd.func18 rfl c18 hE hm
/-- bellwether/keep.Check -/
def j33 : C := (.seq (.region [⟨some 6, .mov (.c (.int .i64 0)), none, [], []⟩] false)
 (.seq (.seq (.region [⟨some 7, .mov (.t 1), none, [], []⟩,
  ⟨some 8, .call false 20 [(.t 7)], none, [], []⟩,
  ⟨some 9, .un .not (.t 8), none, [], []⟩,
  ⟨some 10, .mov (.t 9), none, [], []⟩,
  ⟨some 11, .mov (.t 2), some (10, false), [], []⟩,
  ⟨some 12, .bin .lss (.t 11) (.c (.int .i64 1)), some (10, false), [], []⟩,
  ⟨some 13, .pick (.t 10) (.c (.bool true)) (.t 12), none, [], []⟩,
  ⟨some 14, .mov (.t 13), none, [], []⟩,
  ⟨some 15, .mov (.t 2), some (14, false), [], []⟩,
  ⟨some 16, .bin .gtr (.t 15) (.c (.int .i64 16)), some (14, false), [], []⟩,
  ⟨some 17, .pick (.t 14) (.c (.bool true)) (.t 16), none, [], []⟩,
  ⟨some 18, .mov (.t 17), none, [], []⟩,
  ⟨some 19, .mov (.t 0), some (18, false), [], []⟩,
  ⟨some 20, .len (.t 19), some (18, false), [], []⟩,
  ⟨some 21, .mov (.t 2), some (18, false), [], []⟩,
  ⟨some 22, .bin .gtr (.t 20) (.t 21), some (18, false), [], []⟩,
  ⟨some 23, .pick (.t 18) (.c (.bool true)) (.t 22), none, [], []⟩,
  ⟨some 24, .mov (.t 23), none, [], []⟩,
  ⟨some 25, .mov (.t 0), some (24, false), [], []⟩,
  ⟨some 26, .mov (.t 1), some (24, false), [], []⟩,
  ⟨some 27, .call false 52 [(.t 25), (.t 26)], some (24, false), [], []⟩,
  ⟨some 28, .un .not (.t 27), some (24, false), [], []⟩,
  ⟨some 29, .pick (.t 24) (.c (.bool true)) (.t 28), none, [], []⟩] false)
 (.cond (.t 29) (.seq (.region [⟨some 6, .mov (.c (.int .i64 1)), none, [], []⟩] false)
 .ret) .skip))
 (.seq (.region [⟨some 6, .mov (.c (.int .i64 0)), none, [], []⟩] false)
 .ret)))
def i33 : F := ⟨3, 30, j33, [.t 6]⟩
theorem b33 : i33.body = j33 := rfl
theorem q33 : i33.res = [.t 6] := rfl
theorem c33 : chkF Tryd.prog Tryd.f33 i33 = true := by kernel_rfl
theorem s33 {m : Model} {E : Nat → Model} (hE : ∀ f, Sound Tryd.prog f (E f)) (hm : ∀ args r, m args = some r → ∃ N, i33.ev E N args = some r) : Sound Tryd.prog 33 m := sound_of i33 Tryd.func33 rfl c33 hE hm
/-- bellwether/keep.Push -/
def j38 : C := (.seq (.region [⟨some 8, .mov (.c (.row [])), none, [], []⟩,
  ⟨some 9, .mov (.c (.int .i64 0)), none, [], []⟩] false)
 (.seq (.region [⟨some 12, .mov (.t 0), none, [], []⟩,
  ⟨some 13, .mov (.t 1), none, [], []⟩,
  ⟨some 14, .mov (.t 2), none, [], []⟩,
  ⟨some 15, .call false 33 [(.t 12), (.t 13), (.t 14)], none, [], []⟩,
  ⟨some 10, .mov (.t 15), none, [], []⟩] false)
 (.seq (.block 0 (.seq (.region [⟨some 17, .mov (.t 10), none, [], []⟩,
  ⟨some 18, .bin .neq (.t 17) (.c (.int .i64 0)), none, [], []⟩,
  ⟨some 19, .mov (.t 18), none, [], []⟩,
  ⟨some 20, .mov (.t 3), some (19, false), [], []⟩,
  ⟨some 21, .call false 25 [(.t 20)], some (19, false), [], []⟩,
  ⟨some 22, .un .not (.t 21), some (19, false), [], []⟩,
  ⟨some 23, .pick (.t 19) (.c (.bool true)) (.t 22), none, [], []⟩,
  ⟨some 16, .mov (.t 23), none, [], []⟩] false)
 (.cond (.t 16) (.seq (.region [⟨some 8, .mov (.c (.row [])), none, [], []⟩,
  ⟨some 9, .mov (.c (.int .i64 1)), none, [], []⟩] false)
 .ret) (.seq (.region [⟨some 25, .mov (.t 1), none, [], []⟩,
  ⟨some 26, .bin .geq (.t 25) (.c (.int .i64 1073741824)), none, [], []⟩,
  ⟨some 24, .mov (.t 26), none, [], []⟩] false)
 (.cond (.t 24) (.seq (.region [⟨some 8, .mov (.c (.row [])), none, [], []⟩,
  ⟨some 9, .mov (.c (.int .i64 11)), none, [], []⟩] false)
 .ret) .skip)))))
 (.seq (.region [⟨some 27, .mov (.t 0), none, [], []⟩,
  ⟨some 28, .call true 34 [(.t 27)], none, [], []⟩,
  ⟨some 29, .mov (.t 1), none, [], []⟩,
  ⟨some 30, .mov (.t 3), none, [], []⟩,
  ⟨some 31, .build [.int .i64 0, .int .i64 0] [(0, 1, (.t 29)), (1, 1, (.t 30))], none, [], []⟩,
  ⟨some 32, .bsl 35 2 1 [.int .i64 0, .int .i64 0] [(0, (.t 31))], none, [], []⟩,
  ⟨some 33, .app 35 2 16 (.t 28) (.t 32), none, [], []⟩,
  ⟨some 11, .mov (.t 33), none, [], []⟩] false)
 (.seq (.region [⟨some 34, .mov (.t 11), none, [], []⟩,
  ⟨some 35, .mov (.t 11), none, [], []⟩,
  ⟨some 36, .len (.t 35), none, [], []⟩,
  ⟨some 37, .mov (.t 2), none, [], []⟩,
  ⟨some 38, .bin .sub (.t 36) (.t 37), none, [], []⟩,
  ⟨some 39, .mx (.t 38) (.c (.int .i64 0)), none, [], []⟩,
  ⟨some 40, .cut 2 (.t 34) (some (.t 39)) none, none, [], []⟩,
  ⟨some 41, .call false 34 [(.t 40)], none, [], []⟩,
  ⟨some 8, .mov (.t 41), none, [], []⟩,
  ⟨some 9, .mov (.c (.int .i64 0)), none, [], []⟩] false)
 .ret)))))
def i38 : F := ⟨4, 42, j38, [.t 8, .t 9]⟩
theorem b38 : i38.body = j38 := rfl
theorem q38 : i38.res = [.t 8, .t 9] := rfl
theorem c38 : chkF Tryd.prog Tryd.f38 i38 = true := by kernel_rfl
theorem s38 {m : Model} {E : Nat → Model} (hE : ∀ f, Sound Tryd.prog f (E f)) (hm : ∀ args r, m args = some r → ∃ N, i38.ev E N args = some r) : Sound Tryd.prog 38 m := sound_of i38 Tryd.func38 rfl c38 hE hm
/-- bellwether/keep.right -/
def j52 : C := (.seq (.region [⟨some 4, .mov (.c (.bool false)), none, [], []⟩] false)
 (.seq (.seq (.region [⟨some 7, .mov (.t 0), none, [], []⟩,
  ⟨some 8, .len (.t 7), none, [], []⟩,
  ⟨some 9, .mov (.c (.int .i64 0)), none, [], []⟩] false)
 (.block 0 (.loop (.keep [0, 1, 7, 8, 9] (.seq (.region [⟨some 10, .bin .lss (.t 9) (.t 8), none, [], []⟩] false)
 (.seq (.cond (.t 10) .skip (.exit 0))
 (.seq (.block 1 (.seq (.region [⟨some 11, .mov (.t 9), none, [], []⟩,
  ⟨some 12, .iad 2 (.t 7) (.t 9), none, [], []⟩,
  ⟨some 13, .load true 2 (.t 12), none, [], []⟩,
  ⟨some 6, .alloc [.int .i64 0, .int .i64 0], none, [], []⟩,
  ⟨some 5, .mov (.t 11), none, [], []⟩,
  ⟨none, .store none 2 (.t 6) (.t 13), none, [], []⟩] false)
 (.seq (.region [⟨some 14, .fad 0 (.t 6), none, [], []⟩,
  ⟨some 15, .load false 1 (.t 14), none, [], []⟩,
  ⟨some 16, .bin .lss (.t 15) (.c (.int .i64 1)), none, [], []⟩,
  ⟨some 17, .mov (.t 16), none, [], []⟩,
  ⟨some 18, .fad 0 (.t 6), some (17, false), [], []⟩,
  ⟨some 19, .load false 1 (.t 18), some (17, false), [], []⟩,
  ⟨some 20, .mov (.t 1), some (17, false), [], []⟩,
  ⟨some 21, .mov (.t 0), some (17, false), [], []⟩,
  ⟨some 22, .len (.t 21), some (17, false), [], []⟩,
  ⟨some 23, .bin .sub (.t 20) (.t 22), some (17, false), [], []⟩,
  ⟨some 24, .mov (.t 5), some (17, false), [], []⟩,
  ⟨some 25, .bin .add (.t 23) (.t 24), some (17, false), [], []⟩,
  ⟨some 26, .bin .neq (.t 19) (.t 25), some (17, false), [], []⟩,
  ⟨some 27, .pick (.t 17) (.c (.bool true)) (.t 26), none, [], []⟩,
  ⟨some 28, .mov (.t 27), none, [], []⟩,
  ⟨some 29, .fad 1 (.t 6), some (28, false), [], []⟩,
  ⟨some 30, .load false 1 (.t 29), some (28, false), [], []⟩,
  ⟨some 31, .call false 25 [(.t 30)], some (28, false), [], []⟩,
  ⟨some 32, .un .not (.t 31), some (28, false), [], []⟩,
  ⟨some 33, .pick (.t 28) (.c (.bool true)) (.t 32), none, [], []⟩] false)
 (.cond (.t 33) (.seq (.region [⟨some 4, .mov (.c (.bool false)), none, [], []⟩] false)
 .ret) .skip))))
 (.region [⟨some 34, .bin .add (.t 9) (.c (.int .i64 1)), none, [], []⟩,
  ⟨some 9, .mov (.t 34), none, [], []⟩] false))))))))
 (.seq (.region [⟨some 4, .mov (.c (.bool true)), none, [], []⟩] false)
 .ret)))
def i52 : F := ⟨2, 35, j52, [.t 4]⟩
theorem b52 : i52.body = j52 := rfl
theorem q52 : i52.res = [.t 4] := rfl
theorem c52 : chkF Tryd.prog Tryd.f52 i52 = true := by kernel_rfl
theorem s52 {m : Model} {E : Nat → Model} (hE : ∀ f, Sound Tryd.prog f (E f)) (hm : ∀ args r, m args = some r → ∃ N, i52.ev E N args = some r) : Sound Tryd.prog 52 m := sound_of i52 Tryd.func52 rfl c52 hE hm
/-- bellwether/bellwetherlaw09.Conf -/
def j7 : C := (.seq (.region [⟨some 2, .alloc [.int .i64 0, .int .i64 0, .int .i64 0, .int .i64 0, .int .i64 0, .int .i64 0, .int .i64 0], none, [], []⟩] false)
 (.seq (.region [⟨some 3, .mov (.t 0), none, [], []⟩,
  ⟨some 4, .conv .u64 (.t 3), none, [], []⟩,
  ⟨some 5, .bin .rem (.t 4) (.c (.int .u64 1000000)), none, [], []⟩,
  ⟨some 6, .conv .i64 (.t 5), none, [], []⟩,
  ⟨some 0, .mov (.t 6), none, [], []⟩] false)
 (.seq (.region [⟨some 7, .mov (.t 0), none, [], []⟩,
  ⟨some 8, .bin .rem (.t 7) (.c (.int .i64 8)), none, [], []⟩,
  ⟨some 9, .bin .add (.c (.int .i64 1)) (.t 8), none, [], []⟩,
  ⟨some 10, .mov (.t 0), none, [], []⟩,
  ⟨some 11, .bin .quo (.t 10) (.c (.int .i64 8)), none, [], []⟩,
  ⟨some 12, .bin .rem (.t 11) (.c (.int .i64 4)), none, [], []⟩,
  ⟨some 13, .bin .add (.c (.int .i64 1)) (.t 12), none, [], []⟩,
  ⟨some 14, .mov (.t 0), none, [], []⟩,
  ⟨some 15, .bin .quo (.t 14) (.c (.int .i64 32)), none, [], []⟩,
  ⟨some 16, .bin .rem (.t 15) (.c (.int .i64 4)), none, [], []⟩,
  ⟨some 17, .bin .add (.c (.int .i64 1)) (.t 16), none, [], []⟩,
  ⟨some 18, .mov (.t 0), none, [], []⟩,
  ⟨some 19, .bin .quo (.t 18) (.c (.int .i64 128)), none, [], []⟩,
  ⟨some 20, .bin .rem (.t 19) (.c (.int .i64 8)), none, [], []⟩,
  ⟨some 21, .bin .add (.c (.int .i64 1)) (.t 20), none, [], []⟩,
  ⟨some 22, .mov (.t 0), none, [], []⟩,
  ⟨some 23, .bin .quo (.t 22) (.c (.int .i64 1024)), none, [], []⟩,
  ⟨some 24, .bin .rem (.t 23) (.c (.int .i64 16)), none, [], []⟩,
  ⟨some 25, .bin .add (.c (.int .i64 1)) (.t 24), none, [], []⟩,
  ⟨some 26, .mov (.t 0), none, [], []⟩,
  ⟨some 27, .bin .quo (.t 26) (.c (.int .i64 16)), none, [], []⟩,
  ⟨some 28, .bin .rem (.t 27) (.c (.int .i64 16)), none, [], []⟩,
  ⟨some 29, .bin .add (.c (.int .i64 1)) (.t 28), none, [], []⟩,
  ⟨some 30, .mov (.t 0), none, [], []⟩,
  ⟨some 31, .bin .quo (.t 30) (.c (.int .i64 64)), none, [], []⟩,
  ⟨some 32, .bin .rem (.t 31) (.c (.int .i64 31)), none, [], []⟩,
  ⟨some 33, .bin .add (.c (.int .i64 2)) (.t 32), none, [], []⟩,
  ⟨some 34, .build [.int .i64 0, .int .i64 0, .int .i64 0, .int .i64 0, .int .i64 0, .int .i64 0, .int .i64 0] [(0, 1, (.t 9)), (1, 1, (.t 13)), (2, 1, (.t 17)), (3, 1, (.t 21)), (4, 1, (.t 25)), (5, 1, (.t 29)), (6, 1, (.t 33))], none, [], []⟩,
  ⟨none, .store none 7 (.t 2) (.t 34), none, [], []⟩] false)
 .ret)))
def i7 : F := ⟨1, 35, j7, [.c 2 7 true]⟩
theorem b7 : i7.body = j7 := rfl
theorem q7 : i7.res = [.c 2 7 true] := rfl
theorem c7 : chkF Tryd.prog Tryd.f7 i7 = true := by kernel_rfl
theorem s7 {m : Model} {E : Nat → Model} (hE : ∀ f, Sound Tryd.prog f (E f)) (hm : ∀ args r, m args = some r → ∃ N, i7.ev E N args = some r) : Sound Tryd.prog 7 m := sound_of i7 Tryd.func7 rfl c7 hE hm
/-- bellwether/bellwetherlaw18.Heavy -/
def j15 : C := (.seq (.region [⟨some 2, .box (.t 0), none, [], []⟩,
  ⟨some 4, .mov (.c (.bool false)), none, [], []⟩] false)
 (.seq (.region [⟨some 5, .fad 3 (.t 2), none, [], []⟩,
  ⟨some 6, .load false 1 (.t 5), none, [], []⟩,
  ⟨some 7, .len (.t 6), none, [], []⟩,
  ⟨some 8, .bin .gtr (.t 7) (.c (.int .i64 30)), none, [], []⟩,
  ⟨some 9, .mov (.t 8), none, [], []⟩,
  ⟨some 10, .fad 4 (.t 2), some (9, false), [], []⟩,
  ⟨some 11, .load false 1 (.t 10), some (9, false), [], []⟩,
  ⟨some 12, .len (.t 11), some (9, false), [], []⟩,
  ⟨some 13, .bin .gtr (.t 12) (.c (.int .i64 30)), some (9, false), [], []⟩,
  ⟨some 14, .pick (.t 9) (.c (.bool true)) (.t 13), none, [], []⟩,
  ⟨some 15, .mov (.t 14), none, [], []⟩,
  ⟨some 16, .mov (.t 1), some (15, false), [], []⟩,
  ⟨some 17, .len (.t 16), some (15, false), [], []⟩,
  ⟨some 18, .bin .gtr (.t 17) (.c (.int .i64 50)), some (15, false), [], []⟩,
  ⟨some 19, .pick (.t 15) (.c (.bool true)) (.t 18), none, [], []⟩,
  ⟨some 4, .mov (.t 19), none, [], []⟩] false)
 .ret))
def i15 : F := ⟨2, 20, j15, [.t 4]⟩
theorem b15 : i15.body = j15 := rfl
theorem q15 : i15.res = [.t 4] := rfl
theorem c15 : chkF Tryd.prog Tryd.f15 i15 = true := by kernel_rfl
theorem s15 {m : Model} {E : Nat → Model} (hE : ∀ f, Sound Tryd.prog f (E f)) (hm : ∀ args r, m args = some r → ∃ N, i15.ev E N args = some r) : Sound Tryd.prog 15 m := sound_of i15 Tryd.func15 rfl c15 hE hm
/-- bellwether/bellwetherlaw18.wakes -/
def j12 : C := (.seq (.region [⟨some 0, .mov (.c (.bool false)), none, [], []⟩] false)
 (.seq (.region [⟨some 15, .call false 7 [(.c (.int .i64 1023))], none, [], []⟩,
  ⟨some 1, .alloc [.int .i64 0, .int .i64 0, .int .i64 0, .int .i64 0, .int .i64 0, .int .i64 0, .int .i64 0], none, [], []⟩,
  ⟨none, .store none 7 (.t 1) (.t 15), none, [], []⟩] false)
 (.seq (.region [⟨some 17, .load true 7 (.t 1), none, [], []⟩,
  ⟨some 18, .build [.int .i64 0, .int .i64 0, .int .i64 0, .row [], .row []] [], none, [], []⟩,
  ⟨some 19, .call false 8 [(.t 17), (.t 18), (.c (.int .i64 16)), (.c (.int .i64 1))], none, [], []⟩,
  ⟨some 16, .mov (.t 19), none, [], []⟩,
  ⟨some 20, .ext (.t 16) 0, none, [], []⟩,
  ⟨some 21, .ext (.t 16) 1, none, [], []⟩,
  ⟨some 2, .alloc [.int .i64 0, .int .i64 0, .int .i64 0, .row [], .row []], none, [], []⟩,
  ⟨none, .store none 5 (.t 2) (.t 20), none, [], []⟩,
  ⟨some 3, .mov (.t 21), none, [], []⟩] false)
 (.seq (.region [⟨some 23, .load true 7 (.t 1), none, [], []⟩,
  ⟨some 24, .load true 5 (.t 2), none, [], []⟩,
  ⟨some 25, .build [.int .i64 0, .int .i64 0] [(0, 1, (.c (.int .i64 2))), (1, 1, (.c (.int .i64 8)))], none, [], []⟩,
  ⟨some 26, .call false 9 [(.t 23), (.t 24), (.c (.bool true)), (.c (.row [])), (.c (.int .i64 16)), (.t 25)], none, [], []⟩,
  ⟨some 22, .mov (.t 26), none, [], []⟩,
  ⟨some 27, .ext (.t 22) 0, none, [], []⟩,
  ⟨some 28, .ext (.t 22) 1, none, [], []⟩,
  ⟨some 29, .ext (.t 22) 2, none, [], []⟩,
  ⟨some 30, .ext (.t 22) 3, none, [], []⟩,
  ⟨none, .store none 5 (.t 2) (.t 27), none, [], []⟩,
  ⟨some 4, .mov (.t 28), none, [], []⟩,
  ⟨some 5, .mov (.t 29), none, [], []⟩,
  ⟨some 6, .mov (.t 30), none, [], []⟩] false)
 (.seq (.region [⟨some 32, .load true 7 (.t 1), none, [], []⟩,
  ⟨some 33, .load true 5 (.t 2), none, [], []⟩,
  ⟨some 34, .mov (.t 4), none, [], []⟩,
  ⟨some 35, .build [.int .i64 0, .int .i64 0] [(0, 1, (.c (.int .i64 1))), (1, 1, (.c (.int .i64 7)))], none, [], []⟩,
  ⟨some 36, .call false 9 [(.t 32), (.t 33), (.c (.bool true)), (.t 34), (.c (.int .i64 16)), (.t 35)], none, [], []⟩,
  ⟨some 31, .mov (.t 36), none, [], []⟩,
  ⟨some 37, .ext (.t 31) 0, none, [], []⟩,
  ⟨some 38, .ext (.t 31) 1, none, [], []⟩,
  ⟨some 39, .ext (.t 31) 2, none, [], []⟩,
  ⟨some 40, .ext (.t 31) 3, none, [], []⟩,
  ⟨some 7, .alloc [.int .i64 0, .int .i64 0, .int .i64 0, .row [], .row []], none, [], []⟩,
  ⟨none, .store none 5 (.t 7) (.t 37), none, [], []⟩,
  ⟨some 8, .mov (.t 38), none, [], []⟩,
  ⟨some 9, .mov (.t 39), none, [], []⟩,
  ⟨some 10, .mov (.t 40), none, [], []⟩] false)
 (.seq (.region [⟨some 42, .load true 7 (.t 1), none, [], []⟩,
  ⟨some 43, .load true 5 (.t 7), none, [], []⟩,
  ⟨some 44, .call false 13 [(.t 42), (.t 43), (.c (.bool false)), (.c (.row [])), (.c (.int .i64 16)), (.c (.int .i64 2)), (.c (.int .i64 5))], none, [], []⟩,
  ⟨some 41, .mov (.t 44), none, [], []⟩,
  ⟨some 45, .ext (.t 41) 0, none, [], []⟩,
  ⟨some 46, .ext (.t 41) 1, none, [], []⟩,
  ⟨some 47, .ext (.t 41) 2, none, [], []⟩,
  ⟨some 48, .ext (.t 41) 3, none, [], []⟩,
  ⟨some 11, .alloc [.int .i64 0, .int .i64 0, .int .i64 0, .row [], .row []], none, [], []⟩,
  ⟨none, .store none 5 (.t 11) (.t 45), none, [], []⟩,
  ⟨some 12, .mov (.t 46), none, [], []⟩,
  ⟨some 13, .mov (.t 47), none, [], []⟩,
  ⟨some 14, .mov (.t 48), none, [], []⟩] false)
 (.seq (.region [⟨some 49, .mov (.t 3), none, [], []⟩,
  ⟨some 50, .bin .eql (.t 49) (.c (.int .i64 0)), none, [], []⟩,
  ⟨some 51, .mov (.t 50), none, [], []⟩,
  ⟨some 52, .mov (.t 6), some (51, true), [], []⟩,
  ⟨some 53, .bin .eql (.t 52) (.c (.int .i64 0)), some (51, true), [], []⟩,
  ⟨some 54, .pick (.t 51) (.t 53) (.c (.bool false)), none, [], []⟩,
  ⟨some 55, .mov (.t 54), none, [], []⟩,
  ⟨some 56, .mov (.t 5), some (55, true), [], []⟩,
  ⟨some 57, .len (.t 56), some (55, true), [], []⟩,
  ⟨some 58, .bin .eql (.t 57) (.c (.int .i64 0)), some (55, true), [], []⟩,
  ⟨some 59, .pick (.t 55) (.t 58) (.c (.bool false)), none, [], []⟩,
  ⟨some 60, .mov (.t 59), none, [], []⟩,
  ⟨some 61, .load true 5 (.t 2), some (60, true), [], []⟩,
  ⟨some 62, .call false 11 [(.t 61)], some (60, true), [], []⟩,
  ⟨some 63, .pick (.t 60) (.t 62) (.c (.bool false)), none, [], []⟩,
  ⟨some 64, .mov (.t 63), none, [], []⟩,
  ⟨some 65, .mov (.t 10), some (64, true), [], []⟩,
  ⟨some 66, .bin .eql (.t 65) (.c (.int .i64 0)), some (64, true), [], []⟩,
  ⟨some 67, .pick (.t 64) (.t 66) (.c (.bool false)), none, [], []⟩,
  ⟨some 68, .mov (.t 67), none, [], []⟩,
  ⟨some 69, .mov (.t 9), some (68, true), [], []⟩,
  ⟨some 70, .build [.int .i64 0, .int .i64 0] [(0, 1, (.c (.int .i64 1))), (1, 1, (.c (.int .i64 7)))], some (68, true), [], []⟩,
  ⟨some 71, .build [.int .i64 0, .int .i64 0] [(0, 1, (.c (.int .i64 2))), (1, 1, (.c (.int .i64 8)))], some (68, true), [], []⟩,
  ⟨some 72, .bsl 35 2 2 [.int .i64 0, .int .i64 0] [(0, (.t 70)), (1, (.t 71))], some (68, true), [], []⟩,
  ⟨some 73, .call false 16 [(.t 69), (.t 72)], some (68, true), [], []⟩,
  ⟨some 74, .pick (.t 68) (.t 73) (.c (.bool false)), none, [], []⟩,
  ⟨some 75, .mov (.t 74), none, [], []⟩,
  ⟨some 76, .fad 1 (.t 7), some (75, true), [], []⟩,
  ⟨some 77, .load false 1 (.t 76), some (75, true), [], []⟩,
  ⟨some 78, .bin .eql (.t 77) (.c (.int .i64 3)), some (75, true), [], []⟩,
  ⟨some 79, .pick (.t 75) (.t 78) (.c (.bool false)), none, [], []⟩,
  ⟨some 80, .mov (.t 79), none, [], []⟩,
  ⟨some 81, .mov (.t 8), some (80, true), [], []⟩,
  ⟨some 82, .len (.t 81), some (80, true), [], []⟩,
  ⟨some 83, .bin .eql (.t 82) (.c (.int .i64 2)), some (80, true), [], []⟩,
  ⟨some 84, .pick (.t 80) (.t 83) (.c (.bool false)), none, [], []⟩,
  ⟨some 85, .mov (.t 84), none, [], []⟩,
  ⟨some 86, .load true 5 (.t 7), some (85, true), [], []⟩,
  ⟨some 87, .call false 11 [(.t 86)], some (85, true), [], []⟩,
  ⟨some 88, .un .not (.t 87), some (85, true), [], []⟩,
  ⟨some 89, .pick (.t 85) (.t 88) (.c (.bool false)), none, [], []⟩,
  ⟨some 90, .mov (.t 89), none, [], []⟩,
  ⟨some 91, .mov (.t 14), some (90, true), [], []⟩,
  ⟨some 92, .bin .eql (.t 91) (.c (.int .i64 0)), some (90, true), [], []⟩,
  ⟨some 93, .pick (.t 90) (.t 92) (.c (.bool false)), none, [], []⟩,
  ⟨some 94, .mov (.t 93), none, [], []⟩,
  ⟨some 95, .fad 1 (.t 11), some (94, true), [], []⟩,
  ⟨some 96, .load false 1 (.t 95), some (94, true), [], []⟩,
  ⟨some 97, .bin .eql (.t 96) (.c (.int .i64 6)), some (94, true), [], []⟩,
  ⟨some 98, .pick (.t 94) (.t 97) (.c (.bool false)), none, [], []⟩,
  ⟨some 99, .mov (.t 98), none, [], []⟩,
  ⟨some 100, .load true 7 (.t 1), some (99, true), [], []⟩,
  ⟨some 101, .build [.int .i64 0, .int .i64 0, .int .i64 0, .row [], .row []] [(0, 1, (.c (.int .i64 16)))], some (99, true), [], []⟩,
  ⟨some 102, .call false 10 [(.t 100), (.t 101), (.c (.row []))], some (99, true), [], []⟩,
  ⟨some 103, .bin .eql (.t 102) (.c (.int .i64 1)), some (99, true), [], []⟩,
  ⟨some 104, .pick (.t 99) (.t 103) (.c (.bool false)), none, [], []⟩,
  ⟨some 0, .mov (.t 104), none, [], []⟩] false)
 .ret)))))))
def i12 : F := ⟨0, 105, j12, [.t 0]⟩
theorem b12 : i12.body = j12 := rfl
theorem q12 : i12.res = [.t 0] := rfl
theorem c12 : chkF Tryd.prog Tryd.f12 i12 = true := by kernel_rfl
theorem s12 {m : Model} {E : Nat → Model} (hE : ∀ f, Sound Tryd.prog f (E f)) (hm : ∀ args r, m args = some r → ∃ N, i12.ev E N args = some r) : Sound Tryd.prog 12 m := sound_of i12 Tryd.func12 rfl c12 hE hm
/-- bellwether/msg.Counted -/
def j20 : C := (.seq (.region [⟨some 2, .mov (.c (.bool false)), none, [], []⟩] false)
 (.seq (.region [⟨some 3, .mov (.t 0), none, [], []⟩,
  ⟨some 4, .call false 36 [(.t 3), (.c (.int .i64 1)), (.c (.int .i64 1073741824))], none, [], []⟩,
  ⟨some 2, .mov (.t 4), none, [], []⟩] false)
 .ret))
def i20 : F := ⟨1, 5, j20, [.t 2]⟩
theorem b20 : i20.body = j20 := rfl
theorem q20 : i20.res = [.t 2] := rfl
theorem c20 : chkF Tryd.prog Tryd.f20 i20 = true := by kernel_rfl
theorem s20 {m : Model} {E : Nat → Model} (hE : ∀ f, Sound Tryd.prog f (E f)) (hm : ∀ args r, m args = some r → ∃ N, i20.ev E N args = some r) : Sound Tryd.prog 20 m := sound_of i20 Tryd.func20 rfl c20 hE hm
/-- bellwether/msg.Value -/
def j25 : C := (.seq (.region [⟨some 2, .mov (.c (.bool false)), none, [], []⟩] false)
 (.seq (.region [⟨some 3, .mov (.t 0), none, [], []⟩,
  ⟨some 4, .call false 36 [(.t 3), (.c (.int .i64 0)), (.c (.int .i64 2147483647))], none, [], []⟩,
  ⟨some 2, .mov (.t 4), none, [], []⟩] false)
 .ret))
def i25 : F := ⟨1, 5, j25, [.t 2]⟩
theorem b25 : i25.body = j25 := rfl
theorem q25 : i25.res = [.t 2] := rfl
theorem c25 : chkF Tryd.prog Tryd.f25 i25 = true := by kernel_rfl
theorem s25 {m : Model} {E : Nat → Model} (hE : ∀ f, Sound Tryd.prog f (E f)) (hm : ∀ args r, m args = some r → ∃ N, i25.ev E N args = some r) : Sound Tryd.prog 25 m := sound_of i25 Tryd.func25 rfl c25 hE hm
/-- bellwether/msg.in -/
def j36 : C := (.seq (.region [⟨some 6, .mov (.c (.bool false)), none, [], []⟩] false)
 (.seq (.region [⟨some 7, .mov (.t 0), none, [], []⟩,
  ⟨some 8, .mov (.t 1), none, [], []⟩,
  ⟨some 9, .bin .geq (.t 7) (.t 8), none, [], []⟩,
  ⟨some 10, .mov (.t 9), none, [], []⟩,
  ⟨some 11, .mov (.t 0), some (10, true), [], []⟩,
  ⟨some 12, .mov (.t 2), some (10, true), [], []⟩,
  ⟨some 13, .bin .leq (.t 11) (.t 12), some (10, true), [], []⟩,
  ⟨some 14, .pick (.t 10) (.t 13) (.c (.bool false)), none, [], []⟩,
  ⟨some 6, .mov (.t 14), none, [], []⟩] false)
 .ret))
def i36 : F := ⟨3, 15, j36, [.t 6]⟩
theorem b36 : i36.body = j36 := rfl
theorem q36 : i36.res = [.t 6] := rfl
theorem c36 : chkF Tryd.prog Tryd.f36 i36 = true := by kernel_rfl
theorem s36 {m : Model} {E : Nat → Model} (hE : ∀ f, Sound Tryd.prog f (E f)) (hm : ∀ args r, m args = some r → ∃ N, i36.ev E N args = some r) : Sound Tryd.prog 36 m := sound_of i36 Tryd.func36 rfl c36 hE hm
/-- bellwether/queue.Check -/
def j31 : C := (.seq (.region [⟨some 4, .mov (.c (.int .i64 0)), none, [], []⟩] false)
 (.seq (.region [⟨some 6, .mov (.t 1), none, [], []⟩,
  ⟨some 7, .bin .lss (.t 6) (.c (.int .i64 2)), none, [], []⟩,
  ⟨some 8, .mov (.t 7), none, [], []⟩,
  ⟨some 9, .mov (.t 1), some (8, false), [], []⟩,
  ⟨some 10, .bin .gtr (.t 9) (.c (.int .i64 32)), some (8, false), [], []⟩,
  ⟨some 11, .pick (.t 8) (.c (.bool true)) (.t 10), none, [], []⟩,
  ⟨some 12, .mov (.t 11), none, [], []⟩,
  ⟨some 13, .mov (.t 0), some (12, false), [], []⟩,
  ⟨some 14, .len (.t 13), some (12, false), [], []⟩,
  ⟨some 15, .mov (.t 1), some (12, false), [], []⟩,
  ⟨some 16, .bin .gtr (.t 14) (.t 15), some (12, false), [], []⟩,
  ⟨some 17, .pick (.t 12) (.c (.bool true)) (.t 16), none, [], []⟩,
  ⟨some 5, .mov (.t 17), none, [], []⟩] false)
 (.seq (.region [⟨some 18, .mov (.t 5), none, [], []⟩,
  ⟨some 19, .mov (.t 18), none, [], []⟩,
  ⟨some 20, .mov (.t 0), some (19, false), [], []⟩,
  ⟨some 21, .call false 48 [(.t 20), (.c (.fn 49 []))], some (19, false), [], []⟩,
  ⟨some 22, .pick (.t 19) (.c (.bool true)) (.t 21), none, [], []⟩,
  ⟨some 5, .mov (.t 22), none, [], []⟩] false)
 (.seq (.seq (.region [⟨some 23, .mov (.t 5), none, [], []⟩,
  ⟨some 24, .mov (.t 23), none, [], []⟩,
  ⟨some 25, .mov (.t 0), some (24, false), [], []⟩,
  ⟨some 26, .len (.t 25), some (24, false), [], []⟩,
  ⟨some 27, .mov (.t 1), some (24, false), [], []⟩,
  ⟨some 28, .bin .eql (.t 26) (.t 27), some (24, false), [], []⟩,
  ⟨some 29, .mov (.t 28), some (24, false), [], []⟩,
  ⟨some 30, .mov (.t 0), some (29, true), [], []⟩,
  ⟨some 31, .mov (.t 1), some (29, true), [], []⟩,
  ⟨some 32, .bin .sub (.t 31) (.c (.int .i64 1)), some (29, true), [], []⟩,
  ⟨some 33, .iad 6 (.t 30) (.t 32), some (29, true), [], []⟩,
  ⟨some 34, .fad 0 (.t 33), some (29, true), [], []⟩,
  ⟨some 35, .load false 1 (.t 34), some (29, true), [], []⟩,
  ⟨some 36, .bin .neq (.t 35) (.c (.int .i64 2)), some (29, true), [], []⟩,
  ⟨some 37, .pick (.t 29) (.t 36) (.c (.bool false)), some (24, false), [], []⟩,
  ⟨some 38, .pick (.t 24) (.c (.bool true)) (.t 37), none, [], []⟩] false)
 (.cond (.t 38) (.seq (.region [⟨some 4, .mov (.c (.int .i64 1)), none, [], []⟩] false)
 .ret) .skip))
 (.seq (.region [⟨some 4, .mov (.c (.int .i64 0)), none, [], []⟩] false)
 .ret)))))
def i31 : F := ⟨2, 39, j31, [.t 4]⟩
theorem b31 : i31.body = j31 := rfl
theorem q31 : i31.res = [.t 4] := rfl
theorem c31 : chkF Tryd.prog Tryd.f31 i31 = true := by kernel_rfl
theorem s31 {m : Model} {E : Nat → Model} (hE : ∀ f, Sound Tryd.prog f (E f)) (hm : ∀ args r, m args = some r → ∃ N, i31.ev E N args = some r) : Sound Tryd.prog 31 m := sound_of i31 Tryd.func31 rfl c31 hE hm
/-- bellwether/queue.Check$1 -/
def j49 : C := (.seq (.region [⟨some 1, .box (.t 0), none, [], []⟩,
  ⟨some 2, .mov (.c (.bool false)), none, [], []⟩] false)
 (.seq (.region [⟨some 3, .load true 6 (.t 1), none, [], []⟩,
  ⟨some 4, .call false 50 [(.t 3)], none, [], []⟩,
  ⟨some 5, .bin .neq (.t 4) (.c (.int .i64 0)), none, [], []⟩,
  ⟨some 2, .mov (.t 5), none, [], []⟩] false)
 .ret))
def i49 : F := ⟨1, 6, j49, [.t 2]⟩
theorem b49 : i49.body = j49 := rfl
theorem q49 : i49.res = [.t 2] := rfl
theorem c49 : chkF Tryd.prog Tryd.f49 i49 = true := by kernel_rfl
theorem s49 {m : Model} {E : Nat → Model} (hE : ∀ f, Sound Tryd.prog f (E f)) (hm : ∀ args r, m args = some r → ∃ N, i49.ev E N args = some r) : Sound Tryd.prog 49 m := sound_of i49 Tryd.func49 rfl c49 hE hm
/-- bellwether/queue.Event -/
def j50 : C := (.seq (.region [⟨some 1, .box (.t 0), none, [], []⟩,
  ⟨some 2, .mov (.c (.int .i64 0)), none, [], []⟩] false)
 (.seq (.region [⟨some 6, .load true 6 (.t 1), none, [], []⟩,
  ⟨some 7, .call false 63 [(.t 6)], none, [], []⟩,
  ⟨some 5, .mov (.t 7), none, [], []⟩,
  ⟨some 8, .ext (.t 5) 0, none, [], []⟩,
  ⟨some 9, .ext (.t 5) 1, none, [], []⟩,
  ⟨some 3, .alloc [.int .i64 0, .int .i64 0, .int .i64 0, .int .i64 0, .int .i64 0, .int .i64 0], none, [], []⟩,
  ⟨none, .store none 6 (.t 3) (.t 8), none, [], []⟩,
  ⟨some 4, .mov (.t 9), none, [], []⟩] false)
 (.seq (.seq (.region [⟨some 10, .mov (.t 4), none, [], []⟩,
  ⟨some 11, .un .not (.t 10), none, [], []⟩,
  ⟨some 12, .mov (.t 11), none, [], []⟩,
  ⟨some 13, .load true 6 (.t 3), some (12, false), [], []⟩,
  ⟨some 14, .fad 0 (.t 1), some (12, false), [], []⟩,
  ⟨some 15, .load false 1 (.t 14), some (12, false), [], []⟩,
  ⟨some 16, .build [.int .i64 0, .int .i64 0, .int .i64 0, .int .i64 0, .int .i64 0, .int .i64 0] [(0, 1, (.t 15))], some (12, false), [], []⟩,
  ⟨some 17, .eqs true [true, true, true, true, true, true] (.t 13) (.t 16), some (12, false), [], []⟩,
  ⟨some 18, .pick (.t 12) (.c (.bool true)) (.t 17), none, [], []⟩] false)
 (.cond (.t 18) (.seq (.region [⟨some 2, .mov (.c (.int .i64 1)), none, [], []⟩] false)
 .ret) .skip))
 (.seq (.region [⟨some 2, .mov (.c (.int .i64 0)), none, [], []⟩] false)
 .ret))))
def i50 : F := ⟨1, 19, j50, [.t 2]⟩
theorem b50 : i50.body = j50 := rfl
theorem q50 : i50.res = [.t 2] := rfl
theorem c50 : chkF Tryd.prog Tryd.f50 i50 = true := by kernel_rfl
theorem s50 {m : Model} {E : Nat → Model} (hE : ∀ f, Sound Tryd.prog f (E f)) (hm : ∀ args r, m args = some r → ∃ N, i50.ev E N args = some r) : Sound Tryd.prog 50 m := sound_of i50 Tryd.func50 rfl c50 hE hm
/-- bellwether/queue.Fit -/
def j51 : C := (.seq (.region [⟨some 5, .box (.t 2), none, [], []⟩,
  ⟨some 6, .mov (.c (.row [])), none, [], []⟩] false)
 (.seq (.region [⟨some 10, .mov (.t 0), none, [], []⟩,
  ⟨some 11, .mov (.t 1), none, [], []⟩,
  ⟨some 12, .load true 6 (.t 5), none, [], []⟩,
  ⟨some 13, .call false 64 [(.t 10), (.t 11), (.t 12)], none, [], []⟩,
  ⟨some 9, .mov (.t 13), none, [], []⟩,
  ⟨some 14, .ext (.t 9) 0, none, [], []⟩,
  ⟨some 15, .ext (.t 9) 1, none, [], []⟩,
  ⟨some 7, .mov (.t 14), none, [], []⟩,
  ⟨some 8, .mov (.t 15), none, [], []⟩] false)
 (.seq (.seq (.region [⟨some 16, .mov (.t 8), none, [], []⟩,
  ⟨some 17, .bin .neq (.t 16) (.c (.int .i64 0)), none, [], []⟩] false)
 (.cond (.t 17) (.seq (.region [⟨some 18, .mov (.t 0), none, [], []⟩,
  ⟨some 19, .call false 37 [(.t 18)], none, [], []⟩,
  ⟨some 6, .mov (.t 19), none, [], []⟩] false)
 .ret) .skip))
 (.seq (.region [⟨some 20, .mov (.t 7), none, [], []⟩,
  ⟨some 6, .mov (.t 20), none, [], []⟩] false)
 .ret))))
def i51 : F := ⟨3, 21, j51, [.t 6]⟩
theorem b51 : i51.body = j51 := rfl
theorem q51 : i51.res = [.t 6] := rfl
theorem c51 : chkF Tryd.prog Tryd.f51 i51 = true := by kernel_rfl
theorem s51 {m : Model} {E : Nat → Model} (hE : ∀ f, Sound Tryd.prog f (E f)) (hm : ∀ args r, m args = some r → ∃ N, i51.ev E N args = some r) : Sound Tryd.prog 51 m := sound_of i51 Tryd.func51 rfl c51 hE hm
/-- bellwether/queue.Put -/
def j64 : C := (.seq (.region [⟨some 5, .box (.t 2), none, [], []⟩,
  ⟨some 6, .nilsl 41 6 0, none, [], []⟩,
  ⟨some 7, .mov (.c (.int .i64 0)), none, [], []⟩] false)
 (.seq (.seq (.region [⟨some 12, .mov (.t 0), none, [], []⟩,
  ⟨some 13, .mov (.t 1), none, [], []⟩,
  ⟨some 14, .call false 31 [(.t 12), (.t 13)], none, [], []⟩,
  ⟨some 15, .bin .neq (.t 14) (.c (.int .i64 0)), none, [], []⟩,
  ⟨some 16, .mov (.t 15), none, [], []⟩,
  ⟨some 17, .load true 6 (.t 5), some (16, false), [], []⟩,
  ⟨some 18, .call false 50 [(.t 17)], some (16, false), [], []⟩,
  ⟨some 19, .bin .neq (.t 18) (.c (.int .i64 0)), some (16, false), [], []⟩,
  ⟨some 20, .pick (.t 16) (.c (.bool true)) (.t 19), none, [], []⟩] false)
 (.cond (.t 20) (.seq (.region [⟨some 6, .nilsl 41 6 1, none, [], []⟩,
  ⟨some 7, .mov (.c (.int .i64 1)), none, [], []⟩] false)
 .ret) .skip))
 (.seq (.region [⟨some 21, .mov (.t 0), none, [], []⟩,
  ⟨some 22, .call true 37 [(.t 21)], none, [], []⟩,
  ⟨some 8, .mov (.t 22), none, [], []⟩] false)
 (.seq (.seq (.region [⟨some 23, .mov (.t 0), none, [], []⟩,
  ⟨some 24, .len (.t 23), none, [], []⟩,
  ⟨some 25, .mov (.t 1), none, [], []⟩,
  ⟨some 26, .bin .sub (.t 25) (.c (.int .i64 1)), none, [], []⟩,
  ⟨some 27, .bin .lss (.t 24) (.t 26), none, [], []⟩] false)
 (.cond (.t 27) (.seq (.region [⟨some 28, .mov (.t 8), none, [], []⟩,
  ⟨some 29, .load true 6 (.t 5), none, [], []⟩,
  ⟨some 30, .bsl 41 6 1 [.int .i64 0, .int .i64 0, .int .i64 0, .int .i64 0, .int .i64 0, .int .i64 0] [(0, (.t 29))], none, [], []⟩,
  ⟨some 31, .app 41 6 48 (.t 28) (.t 30), none, [], []⟩,
  ⟨some 6, .mov (.t 31), none, [], []⟩,
  ⟨some 7, .mov (.c (.int .i64 0)), none, [], []⟩] false)
 .ret) .skip))
 (.seq (.region [⟨some 33, .load true 6 (.t 5), none, [], []⟩,
  ⟨some 34, .call false 74 [(.t 33)], none, [], []⟩,
  ⟨some 32, .mov (.t 34), none, [], []⟩,
  ⟨some 35, .ext (.t 32) 0, none, [], []⟩,
  ⟨some 36, .ext (.t 32) 1, none, [], []⟩,
  ⟨some 9, .alloc [.int .i64 0, .int .i64 0, .int .i64 0, .int .i64 0, .int .i64 0, .int .i64 0], none, [], []⟩,
  ⟨none, .store none 6 (.t 9) (.t 35), none, [], []⟩,
  ⟨some 10, .mov (.t 36), none, [], []⟩] false)
 (.seq (.seq (.region [⟨some 37, .mov (.t 10), none, [], []⟩,
  ⟨some 38, .un .not (.t 37), none, [], []⟩] false)
 (.cond (.t 38) (.seq (.region [⟨some 6, .nilsl 41 6 2, none, [], []⟩,
  ⟨some 7, .mov (.c (.int .i64 6)), none, [], []⟩] false)
 .ret) .skip))
 (.seq (.seq (.region [⟨some 39, .mov (.t 0), none, [], []⟩,
  ⟨some 40, .len (.t 39), none, [], []⟩,
  ⟨some 41, .mov (.t 1), none, [], []⟩,
  ⟨some 42, .bin .lss (.t 40) (.t 41), none, [], []⟩] false)
 (.cond (.t 42) (.seq (.region [⟨some 43, .mov (.t 8), none, [], []⟩,
  ⟨some 44, .load true 6 (.t 9), none, [], []⟩,
  ⟨some 45, .bsl 41 6 1 [.int .i64 0, .int .i64 0, .int .i64 0, .int .i64 0, .int .i64 0, .int .i64 0] [(0, (.t 44))], none, [], []⟩,
  ⟨some 46, .app 41 6 48 (.t 43) (.t 45), none, [], []⟩,
  ⟨some 6, .mov (.t 46), none, [], []⟩,
  ⟨some 7, .mov (.c (.int .i64 0)), none, [], []⟩] false)
 .ret) .skip))
 (.seq (.region [⟨some 47, .mov (.t 8), none, [], []⟩,
  ⟨some 48, .mov (.t 1), none, [], []⟩,
  ⟨some 49, .bin .sub (.t 48) (.c (.int .i64 1)), none, [], []⟩,
  ⟨some 50, .iad 6 (.t 47) (.t 49), none, [], []⟩,
  ⟨some 11, .mov (.t 50), none, [], []⟩] false)
 (.seq (.seq (.region [⟨some 51, .fad 1 (.t 9), none, [53, 54, 55, 56], []⟩,
  ⟨some 52, .load false 1 (.t 51), none, [53, 54, 55, 56], [0]⟩,
  ⟨some 53, .mov (.t 11), none, [51, 52], []⟩,
  ⟨some 54, .nck (.t 53), none, [51, 52], [2]⟩,
  ⟨some 55, .fad 1 (.t 54), none, [51, 52], [2, 3]⟩,
  ⟨some 56, .load false 1 (.t 55), none, [51, 52], [2, 3, 4]⟩,
  ⟨some 57, .bin .neq (.t 52) (.t 56), none, [], [0, 1, 2, 3, 4, 5]⟩,
  ⟨some 58, .mov (.t 57), none, [], [0, 1, 2, 3, 4, 5, 6]⟩,
  ⟨some 59, .fad 2 (.t 9), some (58, false), [61, 62, 63, 64, 65], [0, 1, 2, 3, 4, 5, 6, 7]⟩,
  ⟨some 60, .load false 1 (.t 59), some (58, false), [61, 62, 63, 64, 65], [0, 1, 2, 3, 4, 5, 6, 7, 8]⟩,
  ⟨some 61, .mov (.t 11), some (58, false), [59, 60], [0, 1, 2, 3, 4, 5, 6, 7]⟩,
  ⟨some 62, .nck (.t 61), some (58, false), [59, 60], [0, 1, 2, 3, 4, 5, 6, 7, 10]⟩,
  ⟨some 63, .fad 3 (.t 62), some (58, false), [59, 60], [0, 1, 2, 3, 4, 5, 6, 7, 10, 11]⟩,
  ⟨some 64, .load false 1 (.t 63), some (58, false), [59, 60], [0, 1, 2, 3, 4, 5, 6, 7, 10, 11, 12]⟩,
  ⟨some 65, .bin .add (.t 64) (.c (.int .i64 1)), some (58, false), [59, 60], [0, 1, 2, 3, 4, 5, 6, 7, 10, 11, 12, 13]⟩,
  ⟨some 66, .bin .neq (.t 60) (.t 65), some (58, false), [], [0, 1, 2, 3, 4, 5, 6, 7, 8, 9, 10, 11, 12, 13, 14]⟩,
  ⟨some 67, .pick (.t 58) (.c (.bool true)) (.t 66), none, [], [0, 1, 2, 3, 4, 5, 6, 7, 8, 9, 10, 11, 12, 13, 14, 15]⟩] true)
 (.cond (.t 67) (.seq (.region [⟨some 6, .nilsl 41 6 3, none, [], []⟩,
  ⟨some 7, .mov (.c (.int .i64 6)), none, [], []⟩] false)
 .ret) .skip))
 (.seq (.region [⟨some 68, .mov (.t 11), none, [], []⟩,
  ⟨some 69, .fad 3 (.t 9), none, [], []⟩,
  ⟨some 70, .load false 1 (.t 69), none, [], []⟩,
  ⟨some 71, .nck (.t 68), none, [], []⟩,
  ⟨some 72, .fad 3 (.t 71), none, [], []⟩,
  ⟨none, .store none 1 (.t 72) (.t 70), none, [], []⟩] false)
 (.seq (.region [⟨some 73, .mov (.t 8), none, [], []⟩,
  ⟨some 6, .mov (.t 73), none, [], []⟩,
  ⟨some 7, .mov (.c (.int .i64 0)), none, [], []⟩] false)
 .ret)))))))))))
def i64 : F := ⟨3, 74, j64, [.t 6, .t 7]⟩
theorem b64 : i64.body = j64 := rfl
theorem q64 : i64.res = [.t 6, .t 7] := rfl
theorem c64 : chkF Tryd.prog Tryd.f64 i64 = true := by kernel_rfl
theorem s64 {m : Model} {E : Nat → Model} (hE : ∀ f, Sound Tryd.prog f (E f)) (hm : ∀ args r, m args = some r → ∃ N, i64.ev E N args = some r) : Sound Tryd.prog 64 m := sound_of i64 Tryd.func64 rfl c64 hE hm
/-- bellwether/queue.bare -/
def j63 : C := (.seq (.region [⟨some 1, .box (.t 0), none, [], []⟩,
  ⟨some 2, .alloc [.int .i64 0, .int .i64 0, .int .i64 0, .int .i64 0, .int .i64 0, .int .i64 0], none, [], []⟩,
  ⟨some 3, .mov (.c (.bool false)), none, [], []⟩] false)
 (.seq (.seq (.region [⟨some 4, .fad 0 (.t 1), none, [], []⟩,
  ⟨some 5, .load false 1 (.t 4), none, [], []⟩] false)
 (.block 0 (.seq (.region [⟨some 7, .bin .eql (.t 5) (.c (.int .i64 1)), none, [], []⟩,
  ⟨some 6, .mov (.t 7), none, [], []⟩] false)
 (.cond (.t 6) (.seq (.region [⟨some 8, .load true 6 (.t 1), none, [], []⟩,
  ⟨some 9, .call false 72 [(.t 8)], none, [], []⟩,
  ⟨some 10, .mov (.t 9), none, [], []⟩,
  ⟨some 11, .fad 4 (.t 1), some (10, true), [], []⟩,
  ⟨some 12, .load false 1 (.t 11), some (10, true), [], []⟩,
  ⟨some 13, .call false 25 [(.t 12)], some (10, true), [], []⟩,
  ⟨some 14, .pick (.t 10) (.t 13) (.c (.bool false)), none, [], []⟩,
  ⟨some 3, .mov (.t 14), none, [], []⟩] false)
 (.region [⟨some 15, .fad 1 (.t 1), none, [], []⟩,
  ⟨none, .store none 1 (.t 15) (.c (.int .i64 0)), none, [], []⟩,
  ⟨some 16, .fad 2 (.t 1), none, [], []⟩,
  ⟨none, .store none 1 (.t 16) (.c (.int .i64 0)), none, [], []⟩,
  ⟨some 17, .fad 4 (.t 1), none, [], []⟩,
  ⟨none, .store none 1 (.t 17) (.c (.int .i64 0)), none, [], []⟩] false)) (.seq (.region [⟨some 19, .bin .eql (.t 5) (.c (.int .i64 2)), none, [], []⟩,
  ⟨some 18, .mov (.t 19), none, [], []⟩] false)
 (.cond (.t 18) (.seq (.region [⟨some 20, .load true 6 (.t 1), none, [], []⟩,
  ⟨some 21, .call false 72 [(.t 20)], none, [], []⟩,
  ⟨some 22, .mov (.t 21), none, [], []⟩,
  ⟨some 23, .fad 3 (.t 1), some (22, true), [], []⟩,
  ⟨some 24, .load false 1 (.t 23), some (22, true), [], []⟩,
  ⟨some 25, .fad 2 (.t 1), some (22, true), [], []⟩,
  ⟨some 26, .load false 1 (.t 25), some (22, true), [], []⟩,
  ⟨some 27, .bin .geq (.t 24) (.t 26), some (22, true), [], []⟩,
  ⟨some 28, .pick (.t 22) (.t 27) (.c (.bool false)), none, [], []⟩,
  ⟨some 29, .mov (.t 28), none, [], []⟩,
  ⟨some 30, .fad 3 (.t 1), some (29, true), [], []⟩,
  ⟨some 31, .load false 1 (.t 30), some (29, true), [], []⟩,
  ⟨some 32, .bin .leq (.t 31) (.c (.int .i64 1073741824)), some (29, true), [], []⟩,
  ⟨some 33, .pick (.t 29) (.t 32) (.c (.bool false)), none, [], []⟩,
  ⟨some 3, .mov (.t 33), none, [], []⟩] false)
 (.region [⟨some 34, .fad 1 (.t 1), none, [], []⟩,
  ⟨none, .store none 1 (.t 34) (.c (.int .i64 0)), none, [], []⟩,
  ⟨some 35, .fad 2 (.t 1), none, [], []⟩,
  ⟨none, .store none 1 (.t 35) (.c (.int .i64 0)), none, [], []⟩,
  ⟨some 36, .fad 3 (.t 1), none, [], []⟩,
  ⟨none, .store none 1 (.t 36) (.c (.int .i64 0)), none, [], []⟩] false)) (.seq (.region [⟨some 38, .bin .eql (.t 5) (.c (.int .i64 3)), none, [], []⟩,
  ⟨some 37, .mov (.t 38), none, [], []⟩] false)
 (.cond (.t 37) (.seq (.region [⟨some 39, .fad 5 (.t 1), none, [], []⟩,
  ⟨some 40, .load false 1 (.t 39), none, [], []⟩,
  ⟨some 41, .call false 73 [(.t 40)], none, [], []⟩,
  ⟨some 42, .mov (.t 41), none, [], []⟩,
  ⟨some 43, .fad 4 (.t 1), some (42, true), [], []⟩,
  ⟨some 44, .load false 1 (.t 43), some (42, true), [], []⟩,
  ⟨some 45, .call false 35 [(.t 44)], some (42, true), [], []⟩,
  ⟨some 46, .pick (.t 42) (.t 45) (.c (.bool false)), none, [], []⟩,
  ⟨some 3, .mov (.t 46), none, [], []⟩] false)
 (.region [⟨some 47, .fad 5 (.t 1), none, [], []⟩,
  ⟨none, .store none 1 (.t 47) (.c (.int .i64 0)), none, [], []⟩,
  ⟨some 48, .fad 4 (.t 1), none, [], []⟩,
  ⟨none, .store none 1 (.t 48) (.c (.int .i64 0)), none, [], []⟩] false)) (.seq (.region [⟨some 50, .bin .eql (.t 5) (.c (.int .i64 4)), none, [], []⟩,
  ⟨some 49, .mov (.t 50), none, [], []⟩] false)
 (.cond (.t 49) (.seq (.region [⟨some 51, .fad 5 (.t 1), none, [], []⟩,
  ⟨some 52, .load false 1 (.t 51), none, [], []⟩,
  ⟨some 53, .call false 73 [(.t 52)], none, [], []⟩,
  ⟨some 3, .mov (.t 53), none, [], []⟩] false)
 (.region [⟨some 54, .fad 5 (.t 1), none, [], []⟩,
  ⟨none, .store none 1 (.t 54) (.c (.int .i64 0)), none, [], []⟩] false)) (.seq (.region [⟨some 56, .bin .eql (.t 5) (.c (.int .i64 5)), none, [], []⟩,
  ⟨some 55, .mov (.t 56), none, [], []⟩] false)
 (.cond (.t 55) (.region [⟨some 3, .mov (.c (.bool true)), none, [], []⟩] false) .skip))))))))))))
 (.seq (.region [⟨some 57, .load true 6 (.t 1), none, [], []⟩,
  ⟨some 58, .mov (.t 3), none, [], []⟩,
  ⟨none, .store none 6 (.t 2) (.t 57), none, [], []⟩,
  ⟨some 3, .mov (.t 58), none, [], []⟩] false)
 .ret)))
def i63 : F := ⟨1, 59, j63, [.c 2 6 true, .t 3]⟩
theorem b63 : i63.body = j63 := rfl
theorem q63 : i63.res = [.c 2 6 true, .t 3] := rfl
theorem c63 : chkF Tryd.prog Tryd.f63 i63 = true := by kernel_rfl
theorem s63 {m : Model} {E : Nat → Model} (hE : ∀ f, Sound Tryd.prog f (E f)) (hm : ∀ args r, m args = some r → ∃ N, i63.ev E N args = some r) : Sound Tryd.prog 63 m := sound_of i63 Tryd.func63 rfl c63 hE hm
/-- bellwether/queue.call -/
def j73 : C := (.seq (.region [⟨some 2, .mov (.c (.bool false)), none, [], []⟩] false)
 (.seq (.region [⟨some 3, .mov (.t 0), none, [], []⟩,
  ⟨some 4, .bin .geq (.t 3) (.c (.int .i64 1)), none, [], []⟩,
  ⟨some 5, .mov (.t 4), none, [], []⟩,
  ⟨some 6, .mov (.t 0), some (5, true), [], []⟩,
  ⟨some 7, .bin .leq (.t 6) (.c (.int .i64 40)), some (5, true), [], []⟩,
  ⟨some 8, .pick (.t 5) (.t 7) (.c (.bool false)), none, [], []⟩,
  ⟨some 2, .mov (.t 8), none, [], []⟩] false)
 .ret))
def i73 : F := ⟨1, 9, j73, [.t 2]⟩
theorem b73 : i73.body = j73 := rfl
theorem q73 : i73.res = [.t 2] := rfl
theorem c73 : chkF Tryd.prog Tryd.f73 i73 = true := by kernel_rfl
theorem s73 {m : Model} {E : Nat → Model} (hE : ∀ f, Sound Tryd.prog f (E f)) (hm : ∀ args r, m args = some r → ∃ N, i73.ev E N args = some r) : Sound Tryd.prog 73 m := sound_of i73 Tryd.func73 rfl c73 hE hm
/-- bellwether/queue.gap -/
def j74 : C := (.seq (.region [⟨some 1, .box (.t 0), none, [], []⟩,
  ⟨some 2, .alloc [.int .i64 0, .int .i64 0, .int .i64 0, .int .i64 0, .int .i64 0, .int .i64 0], none, [], []⟩,
  ⟨some 3, .mov (.c (.bool false)), none, [], []⟩] false)
 (.seq (.seq (.region [⟨some 4, .fad 0 (.t 1), none, [], []⟩,
  ⟨some 5, .load false 1 (.t 4), none, [], []⟩] false)
 (.block 0 (.seq (.region [⟨some 7, .bin .eql (.t 5) (.c (.int .i64 1)), none, [], []⟩,
  ⟨some 6, .mov (.t 7), none, [], []⟩] false)
 (.cond (.t 6) (.seq (.region [⟨some 8, .fad 1 (.t 1), none, [], []⟩,
  ⟨some 9, .load false 1 (.t 8), none, [], []⟩,
  ⟨some 10, .fad 2 (.t 1), none, [], []⟩,
  ⟨some 11, .load false 1 (.t 10), none, [], []⟩,
  ⟨some 12, .fad 2 (.t 1), none, [], []⟩,
  ⟨some 13, .load false 1 (.t 12), none, [], []⟩,
  ⟨some 14, .build [.int .i64 0, .int .i64 0, .int .i64 0, .int .i64 0, .int .i64 0, .int .i64 0] [(0, 1, (.c (.int .i64 2))), (1, 1, (.t 9)), (2, 1, (.t 11)), (3, 1, (.t 13))], none, [], []⟩,
  ⟨none, .store none 6 (.t 2) (.t 14), none, [], []⟩,
  ⟨some 3, .mov (.c (.bool true)), none, [], []⟩] false)
 .ret) (.seq (.region [⟨some 16, .bin .eql (.t 5) (.c (.int .i64 2)), none, [], []⟩,
  ⟨some 15, .mov (.t 16), none, [], []⟩] false)
 (.cond (.t 15) (.seq (.region [⟨some 17, .load true 6 (.t 1), none, [], []⟩,
  ⟨none, .store none 6 (.t 2) (.t 17), none, [], []⟩,
  ⟨some 3, .mov (.c (.bool true)), none, [], []⟩] false)
 .ret) .skip))))))
 (.seq (.region [⟨some 18, .build [.int .i64 0, .int .i64 0, .int .i64 0, .int .i64 0, .int .i64 0, .int .i64 0] [], none, [], []⟩,
  ⟨none, .store none 6 (.t 2) (.t 18), none, [], []⟩,
  ⟨some 3, .mov (.c (.bool false)), none, [], []⟩] false)
 .ret)))
def i74 : F := ⟨1, 19, j74, [.c 2 6 true, .t 3]⟩
theorem b74 : i74.body = j74 := rfl
theorem q74 : i74.res = [.c 2 6 true, .t 3] := rfl
theorem c74 : chkF Tryd.prog Tryd.f74 i74 = true := by kernel_rfl
theorem s74 {m : Model} {E : Nat → Model} (hE : ∀ f, Sound Tryd.prog f (E f)) (hm : ∀ args r, m args = some r → ∃ N, i74.ev E N args = some r) : Sound Tryd.prog 74 m := sound_of i74 Tryd.func74 rfl c74 hE hm
/-- bellwether/queue.place -/
def j72 : C := (.seq (.region [⟨some 1, .box (.t 0), none, [], []⟩,
  ⟨some 2, .mov (.c (.bool false)), none, [], []⟩] false)
 (.seq (.region [⟨some 3, .fad 1 (.t 1), none, [], []⟩,
  ⟨some 4, .load false 1 (.t 3), none, [], []⟩,
  ⟨some 5, .call false 19 [(.t 4)], none, [], []⟩,
  ⟨some 6, .bin .eql (.t 5) (.c (.int .i64 0)), none, [], []⟩,
  ⟨some 7, .mov (.t 6), none, [], []⟩,
  ⟨some 8, .fad 2 (.t 1), some (7, true), [], []⟩,
  ⟨some 9, .load false 1 (.t 8), some (7, true), [], []⟩,
  ⟨some 10, .call false 20 [(.t 9)], some (7, true), [], []⟩,
  ⟨some 11, .pick (.t 7) (.t 10) (.c (.bool false)), none, [], []⟩,
  ⟨some 2, .mov (.t 11), none, [], []⟩] false)
 .ret))
def i72 : F := ⟨1, 12, j72, [.t 2]⟩
theorem b72 : i72.body = j72 := rfl
theorem q72 : i72.res = [.t 2] := rfl
theorem c72 : chkF Tryd.prog Tryd.f72 i72 = true := by kernel_rfl
theorem s72 {m : Model} {E : Nat → Model} (hE : ∀ f, Sound Tryd.prog f (E f)) (hm : ∀ args r, m args = some r → ∃ N, i72.ev E N args = some r) : Sound Tryd.prog 72 m := sound_of i72 Tryd.func72 rfl c72 hE hm
/-- bellwether/ring.Is -/
def j35 : C := (.seq (.region [⟨some 2, .mov (.c (.bool false)), none, [], []⟩] false)
 (.seq (.region [⟨some 3, .mov (.t 0), none, [], []⟩,
  ⟨some 4, .call false 53 [(.t 3), (.c (.int .i64 8))], none, [], []⟩,
  ⟨some 2, .mov (.t 4), none, [], []⟩] false)
 .ret))
def i35 : F := ⟨1, 5, j35, [.t 2]⟩
theorem b35 : i35.body = j35 := rfl
theorem q35 : i35.res = [.t 2] := rfl
theorem c35 : chkF Tryd.prog Tryd.f35 i35 = true := by kernel_rfl
theorem s35 {m : Model} {E : Nat → Model} (hE : ∀ f, Sound Tryd.prog f (E f)) (hm : ∀ args r, m args = some r → ∃ N, i35.ev E N args = some r) : Sound Tryd.prog 35 m := sound_of i35 Tryd.func35 rfl c35 hE hm
/-- bellwether/ring.in -/
def j53 : C := (.seq (.region [⟨some 4, .mov (.c (.bool false)), none, [], []⟩] false)
 (.seq (.region [⟨some 5, .mov (.t 0), none, [], []⟩,
  ⟨some 6, .bin .geq (.t 5) (.c (.int .i64 0)), none, [], []⟩,
  ⟨some 7, .mov (.t 6), none, [], []⟩,
  ⟨some 8, .mov (.t 0), some (7, true), [], []⟩,
  ⟨some 9, .mov (.t 1), some (7, true), [], []⟩,
  ⟨some 10, .bin .lss (.t 8) (.t 9), some (7, true), [], []⟩,
  ⟨some 11, .pick (.t 7) (.t 10) (.c (.bool false)), none, [], []⟩,
  ⟨some 4, .mov (.t 11), none, [], []⟩] false)
 .ret))
def i53 : F := ⟨2, 12, j53, [.t 4]⟩
theorem b53 : i53.body = j53 := rfl
theorem q53 : i53.res = [.t 4] := rfl
theorem c53 : chkF Tryd.prog Tryd.f53 i53 = true := by kernel_rfl
theorem s53 {m : Model} {E : Nat → Model} (hE : ∀ f, Sound Tryd.prog f (E f)) (hm : ∀ args r, m args = some r → ∃ N, i53.ev E N args = some r) : Sound Tryd.prog 53 m := sound_of i53 Tryd.func53 rfl c53 hE hm
/-- bellwether/script.Config -/
def j29 : C := (.seq (.region [⟨some 1, .box (.t 0), none, [], []⟩,
  ⟨some 2, .mov (.c (.int .i64 0)), none, [], []⟩] false)
 (.seq (.region [⟨some 3, .load true 7 (.t 1), none, [], []⟩,
  ⟨some 4, .call false 46 [(.t 3)], none, [], []⟩,
  ⟨some 5, .call false 45 [(.t 4)], none, [], []⟩,
  ⟨some 2, .mov (.t 5), none, [], []⟩] false)
 .ret))
def i29 : F := ⟨1, 6, j29, [.t 2]⟩
theorem b29 : i29.body = j29 := rfl
theorem q29 : i29.res = [.t 2] := rfl
theorem c29 : chkF Tryd.prog Tryd.f29 i29 = true := by kernel_rfl
theorem s29 {m : Model} {E : Nat → Model} (hE : ∀ f, Sound Tryd.prog f (E f)) (hm : ∀ args r, m args = some r → ∃ N, i29.ev E N args = some r) : Sound Tryd.prog 29 m := sound_of i29 Tryd.func29 rfl c29 hE hm
/-- bellwether/script.config -/
def j46 : C := (.seq (.region [⟨some 1, .box (.t 0), none, [], []⟩,
  ⟨some 2, .mov (.c (.k .nilIface)), none, [], []⟩] false)
 (.seq (.region [⟨some 3, .fad 0 (.t 1), none, [6, 7, 9, 10, 12, 13, 15, 16, 18, 19, 21, 22], []⟩,
  ⟨some 4, .load false 1 (.t 3), none, [6, 7, 9, 10, 12, 13, 15, 16, 18, 19, 21, 22], [0]⟩,
  ⟨some 5, .call false 61 [(.c (.k (.string ⟨#[110, 111, 100, 101, 115]⟩))), (.t 4), (.c (.int .i64 1)), (.c (.int .i64 8)), (.c (.int .i64 13))], none, [6, 7, 9, 10, 12, 13, 15, 16, 18, 19, 21, 22], [0, 1]⟩,
  ⟨some 6, .fad 1 (.t 1), none, [3, 4, 5, 9, 10, 12, 13, 15, 16, 18, 19, 21, 22], []⟩,
  ⟨some 7, .load false 1 (.t 6), none, [3, 4, 5, 9, 10, 12, 13, 15, 16, 18, 19, 21, 22], [3]⟩,
  ⟨some 8, .call false 61 [(.c (.k (.string ⟨#[116, 111, 112, 105, 99, 115]⟩))), (.t 7), (.c (.int .i64 1)), (.c (.int .i64 4)), (.c (.int .i64 13))], none, [9, 10, 12, 13, 15, 16, 18, 19, 21, 22], [0, 1, 2, 3, 4]⟩,
  ⟨some 9, .fad 2 (.t 1), none, [3, 4, 5, 6, 7, 8, 12, 13, 15, 16, 18, 19, 21, 22], []⟩,
  ⟨some 10, .load false 1 (.t 9), none, [3, 4, 5, 6, 7, 8, 12, 13, 15, 16, 18, 19, 21, 22], [6]⟩,
  ⟨some 11, .call false 61 [(.c (.k (.string ⟨#[107, 105, 100, 115]⟩))), (.t 10), (.c (.int .i64 1)), (.c (.int .i64 4)), (.c (.int .i64 13))], none, [12, 13, 15, 16, 18, 19, 21, 22], [0, 1, 2, 3, 4, 5, 6, 7]⟩,
  ⟨some 12, .fad 3 (.t 1), none, [3, 4, 5, 6, 7, 8, 9, 10, 11, 15, 16, 18, 19, 21, 22], []⟩,
  ⟨some 13, .load false 1 (.t 12), none, [3, 4, 5, 6, 7, 8, 9, 10, 11, 15, 16, 18, 19, 21, 22], [9]⟩,
  ⟨some 14, .call false 61 [(.c (.k (.string ⟨#[100, 101, 112, 116, 104]⟩))), (.t 13), (.c (.int .i64 1)), (.c (.int .i64 8)), (.c (.int .i64 13))], none, [15, 16, 18, 19, 21, 22], [0, 1, 2, 3, 4, 5, 6, 7, 8, 9, 10]⟩,
  ⟨some 15, .fad 4 (.t 1), none, [3, 4, 5, 6, 7, 8, 9, 10, 11, 12, 13, 14, 18, 19, 21, 22], []⟩,
  ⟨some 16, .load false 1 (.t 15), none, [3, 4, 5, 6, 7, 8, 9, 10, 11, 12, 13, 14, 18, 19, 21, 22], [12]⟩,
  ⟨some 17, .call false 61 [(.c (.k (.string ⟨#[107, 101, 101, 112]⟩))), (.t 16), (.c (.int .i64 1)), (.c (.int .i64 16)), (.c (.int .i64 13))], none, [18, 19, 21, 22], [0, 1, 2, 3, 4, 5, 6, 7, 8, 9, 10, 11, 12, 13]⟩,
  ⟨some 18, .fad 5 (.t 1), none, [3, 4, 5, 6, 7, 8, 9, 10, 11, 12, 13, 14, 15, 16, 17, 21, 22], []⟩,
  ⟨some 19, .load false 1 (.t 18), none, [3, 4, 5, 6, 7, 8, 9, 10, 11, 12, 13, 14, 15, 16, 17, 21, 22], [15]⟩,
  ⟨some 20, .call false 61 [(.c (.k (.string ⟨#[119, 105, 110, 100, 111, 119]⟩))), (.t 19), (.c (.int .i64 1)), (.c (.int .i64 16)), (.c (.int .i64 13))], none, [21, 22], [0, 1, 2, 3, 4, 5, 6, 7, 8, 9, 10, 11, 12, 13, 14, 15, 16]⟩,
  ⟨some 21, .fad 6 (.t 1), none, [3, 4, 5, 6, 7, 8, 9, 10, 11, 12, 13, 14, 15, 16, 17, 18, 19, 20], []⟩,
  ⟨some 22, .load false 1 (.t 21), none, [3, 4, 5, 6, 7, 8, 9, 10, 11, 12, 13, 14, 15, 16, 17, 18, 19, 20], [18]⟩,
  ⟨some 23, .call false 61 [(.c (.k (.string ⟨#[113, 117, 101, 117, 101]⟩))), (.t 22), (.c (.int .i64 2)), (.c (.int .i64 32)), (.c (.int .i64 13))], none, [], [0, 1, 2, 3, 4, 5, 6, 7, 8, 9, 10, 11, 12, 13, 14, 15, 16, 17, 18, 19]⟩,
  ⟨some 24, .bsr 83 1 7 [.k .nilIface] [(0, (.t 5)), (1, (.t 8)), (2, (.t 11)), (3, (.t 14)), (4, (.t 17)), (5, (.t 20)), (6, (.t 23))], none, [], [0, 1, 2, 3, 4, 5, 6, 7, 8, 9, 10, 11, 12, 13, 14, 15, 16, 17, 18, 19, 20]⟩,
  ⟨some 25, .call false 60 [(.t 24)], none, [], [0, 1, 2, 3, 4, 5, 6, 7, 8, 9, 10, 11, 12, 13, 14, 15, 16, 17, 18, 19, 20, 21]⟩,
  ⟨some 2, .mov (.t 25), none, [], [0, 1, 2, 3, 4, 5, 6, 7, 8, 9, 10, 11, 12, 13, 14, 15, 16, 17, 18, 19, 20, 21, 22]⟩] true)
 .ret))
def i46 : F := ⟨1, 26, j46, [.t 2]⟩
theorem b46 : i46.body = j46 := rfl
theorem q46 : i46.res = [.t 2] := rfl
theorem c46 : chkF Tryd.prog Tryd.f46 i46 = true := by kernel_rfl
theorem s46 {m : Model} {E : Nat → Model} (hE : ∀ f, Sound Tryd.prog f (E f)) (hm : ∀ args r, m args = some r → ∃ N, i46.ev E N args = some r) : Sound Tryd.prog 46 m := sound_of i46 Tryd.func46 rfl c46 hE hm
theorem x45 : Sound Tryd.prog 45 XE.errnoM := XE.errno_ok
/-- bellwether/script.field -/
def j61 : C := (.seq (.region [⟨some 10, .mov (.c (.k .nilIface)), none, [], []⟩] false)
 (.seq (.seq (.region [⟨some 11, .mov (.t 1), none, [], []⟩,
  ⟨some 12, .mov (.t 2), none, [], []⟩,
  ⟨some 13, .bin .lss (.t 11) (.t 12), none, [], []⟩,
  ⟨some 14, .mov (.t 13), none, [], []⟩,
  ⟨some 15, .mov (.t 1), some (14, false), [], []⟩,
  ⟨some 16, .mov (.t 3), some (14, false), [], []⟩,
  ⟨some 17, .bin .gtr (.t 15) (.t 16), some (14, false), [], []⟩,
  ⟨some 18, .pick (.t 14) (.c (.bool true)) (.t 17), none, [], []⟩] false)
 (.cond (.t 18) (.seq (.region [⟨some 19, .mov (.t 0), none, [], []⟩,
  ⟨some 20, .mov (.t 4), none, [], []⟩,
  ⟨some 21, .mki 30 (.t 20), none, [], []⟩,
  ⟨some 22, .build [.k (.string ⟨#[]⟩), .k .nilIface] [(0, 1, (.t 19)), (1, 1, (.t 21))], none, [], []⟩,
  ⟨some 23, .box (.t 22), none, [], []⟩,
  ⟨some 24, .mkp 121 (.t 23), none, [], []⟩,
  ⟨some 10, .mov (.t 24), none, [], []⟩] false)
 .ret) .skip))
 (.seq (.region [⟨some 10, .mov (.c (.k .nilIface)), none, [], []⟩] false)
 .ret)))
def i61 : F := ⟨5, 25, j61, [.t 10]⟩
theorem b61 : i61.body = j61 := rfl
theorem q61 : i61.res = [.t 10] := rfl
theorem c61 : chkF Tryd.prog Tryd.f61 i61 = true := by kernel_rfl
theorem s61 {m : Model} {E : Nat → Model} (hE : ∀ f, Sound Tryd.prog f (E f)) (hm : ∀ args r, m args = some r → ∃ N, i61.ev E N args = some r) : Sound Tryd.prog 61 m := sound_of i61 Tryd.func61 rfl c61 hE hm
def xt : List (Nat × Model) := [(37, cloneM 41 6 48), (34, cloneM 35 2 16), (44, XI.insM 35 2 16), (45, XE.errnoM)]
def tb : List (Nat × F) := [(48, i48), (54, i54), (62, i62), (41, i41), (28, i28), (42, i42), (40, i40), (39, i39), (55, i55), (43, i43), (17, i17), (16, i16), (14, i14), (19, i19), (60, i60), (21, i21), (10, i10), (13, i13), (9, i9), (11, i11), (8, i8), (22, i22), (23, i23), (30, i30), (32, i32), (27, i27), (26, i26), (24, i24), (47, i47), (18, i18), (33, i33), (38, i38), (52, i52), (7, i7), (15, i15), (12, i12), (20, i20), (25, i25), (36, i36), (31, i31), (49, i49), (50, i50), (51, i51), (64, i64), (63, i63), (73, i73), (74, i74), (72, i72), (35, i35), (53, i53), (29, i29), (46, i46), (61, i61)]
theorem xt_ok : ∀ p ∈ xt, Sound Tryd.prog p.1 p.2 := all_cons x37 (all_cons x34 (all_cons x44 (all_cons x45 (all_nil))))
theorem tb_ok (N : Nat) : ∀ p ∈ tb, ∀ E : Nat → Model, (∀ f, Sound Tryd.prog f (E f)) → Sound Tryd.prog p.1 (p.2.ev E N) := all_cons (fun E hE => s48 hE fun _ _ h => ⟨N, h⟩) (all_cons (fun E hE => s54 hE fun _ _ h => ⟨N, h⟩) (all_cons (fun E hE => s62 hE fun _ _ h => ⟨N, h⟩) (all_cons (fun E hE => s41 hE fun _ _ h => ⟨N, h⟩) (all_cons (fun E hE => s28 hE fun _ _ h => ⟨N, h⟩) (all_cons (fun E hE => s42 hE fun _ _ h => ⟨N, h⟩) (all_cons (fun E hE => s40 hE fun _ _ h => ⟨N, h⟩) (all_cons (fun E hE => s39 hE fun _ _ h => ⟨N, h⟩) (all_cons (fun E hE => s55 hE fun _ _ h => ⟨N, h⟩) (all_cons (fun E hE => s43 hE fun _ _ h => ⟨N, h⟩) (all_cons (fun E hE => s17 hE fun _ _ h => ⟨N, h⟩) (all_cons (fun E hE => s16 hE fun _ _ h => ⟨N, h⟩) (all_cons (fun E hE => s14 hE fun _ _ h => ⟨N, h⟩) (all_cons (fun E hE => s19 hE fun _ _ h => ⟨N, h⟩) (all_cons (fun E hE => s60 hE fun _ _ h => ⟨N, h⟩) (all_cons (fun E hE => s21 hE fun _ _ h => ⟨N, h⟩) (all_cons (fun E hE => s10 hE fun _ _ h => ⟨N, h⟩) (all_cons (fun E hE => s13 hE fun _ _ h => ⟨N, h⟩) (all_cons (fun E hE => s9 hE fun _ _ h => ⟨N, h⟩) (all_cons (fun E hE => s11 hE fun _ _ h => ⟨N, h⟩) (all_cons (fun E hE => s8 hE fun _ _ h => ⟨N, h⟩) (all_cons (fun E hE => s22 hE fun _ _ h => ⟨N, h⟩) (all_cons (fun E hE => s23 hE fun _ _ h => ⟨N, h⟩) (all_cons (fun E hE => s30 hE fun _ _ h => ⟨N, h⟩) (all_cons (fun E hE => s32 hE fun _ _ h => ⟨N, h⟩) (all_cons (fun E hE => s27 hE fun _ _ h => ⟨N, h⟩) (all_cons (fun E hE => s26 hE fun _ _ h => ⟨N, h⟩) (all_cons (fun E hE => s24 hE fun _ _ h => ⟨N, h⟩) (all_cons (fun E hE => s47 hE fun _ _ h => ⟨N, h⟩) (all_cons (fun E hE => s18 hE fun _ _ h => ⟨N, h⟩) (all_cons (fun E hE => s33 hE fun _ _ h => ⟨N, h⟩) (all_cons (fun E hE => s38 hE fun _ _ h => ⟨N, h⟩) (all_cons (fun E hE => s52 hE fun _ _ h => ⟨N, h⟩) (all_cons (fun E hE => s7 hE fun _ _ h => ⟨N, h⟩) (all_cons (fun E hE => s15 hE fun _ _ h => ⟨N, h⟩) (all_cons (fun E hE => s12 hE fun _ _ h => ⟨N, h⟩) (all_cons (fun E hE => s20 hE fun _ _ h => ⟨N, h⟩) (all_cons (fun E hE => s25 hE fun _ _ h => ⟨N, h⟩) (all_cons (fun E hE => s36 hE fun _ _ h => ⟨N, h⟩) (all_cons (fun E hE => s31 hE fun _ _ h => ⟨N, h⟩) (all_cons (fun E hE => s49 hE fun _ _ h => ⟨N, h⟩) (all_cons (fun E hE => s50 hE fun _ _ h => ⟨N, h⟩) (all_cons (fun E hE => s51 hE fun _ _ h => ⟨N, h⟩) (all_cons (fun E hE => s64 hE fun _ _ h => ⟨N, h⟩) (all_cons (fun E hE => s63 hE fun _ _ h => ⟨N, h⟩) (all_cons (fun E hE => s73 hE fun _ _ h => ⟨N, h⟩) (all_cons (fun E hE => s74 hE fun _ _ h => ⟨N, h⟩) (all_cons (fun E hE => s72 hE fun _ _ h => ⟨N, h⟩) (all_cons (fun E hE => s35 hE fun _ _ h => ⟨N, h⟩) (all_cons (fun E hE => s53 hE fun _ _ h => ⟨N, h⟩) (all_cons (fun E hE => s29 hE fun _ _ h => ⟨N, h⟩) (all_cons (fun E hE => s46 hE fun _ _ h => ⟨N, h⟩) (all_cons (fun E hE => s61 hE fun _ _ h => ⟨N, h⟩) (all_nil)))))))))))))))))))))))))))))))))))))))))))))))))))))
abbrev TT := T xt tb
theorem TT_ok (N d f : Nat) : Sound Tryd.prog f (TT N d f) := T_ok xt_ok (tb_ok N) d f
theorem t48 (N d : Nat) : TT N (d + 1) 48 = i48.ev (TT N d) N := rfl
theorem t54 (N d : Nat) : TT N (d + 1) 54 = i54.ev (TT N d) N := rfl
theorem t62 (N d : Nat) : TT N (d + 1) 62 = i62.ev (TT N d) N := rfl
theorem t41 (N d : Nat) : TT N (d + 1) 41 = i41.ev (TT N d) N := rfl
theorem t28 (N d : Nat) : TT N (d + 1) 28 = i28.ev (TT N d) N := rfl
theorem t42 (N d : Nat) : TT N (d + 1) 42 = i42.ev (TT N d) N := rfl
theorem t40 (N d : Nat) : TT N (d + 1) 40 = i40.ev (TT N d) N := rfl
theorem t39 (N d : Nat) : TT N (d + 1) 39 = i39.ev (TT N d) N := rfl
theorem t55 (N d : Nat) : TT N (d + 1) 55 = i55.ev (TT N d) N := rfl
theorem t43 (N d : Nat) : TT N (d + 1) 43 = i43.ev (TT N d) N := rfl
theorem t17 (N d : Nat) : TT N (d + 1) 17 = i17.ev (TT N d) N := rfl
theorem t16 (N d : Nat) : TT N (d + 1) 16 = i16.ev (TT N d) N := rfl
theorem t14 (N d : Nat) : TT N (d + 1) 14 = i14.ev (TT N d) N := rfl
theorem t19 (N d : Nat) : TT N (d + 1) 19 = i19.ev (TT N d) N := rfl
theorem t60 (N d : Nat) : TT N (d + 1) 60 = i60.ev (TT N d) N := rfl
theorem t21 (N d : Nat) : TT N (d + 1) 21 = i21.ev (TT N d) N := rfl
theorem t10 (N d : Nat) : TT N (d + 1) 10 = i10.ev (TT N d) N := rfl
theorem t13 (N d : Nat) : TT N (d + 1) 13 = i13.ev (TT N d) N := rfl
theorem t9 (N d : Nat) : TT N (d + 1) 9 = i9.ev (TT N d) N := rfl
theorem t11 (N d : Nat) : TT N (d + 1) 11 = i11.ev (TT N d) N := rfl
theorem t8 (N d : Nat) : TT N (d + 1) 8 = i8.ev (TT N d) N := rfl
theorem t22 (N d : Nat) : TT N (d + 1) 22 = i22.ev (TT N d) N := rfl
theorem t23 (N d : Nat) : TT N (d + 1) 23 = i23.ev (TT N d) N := rfl
theorem t30 (N d : Nat) : TT N (d + 1) 30 = i30.ev (TT N d) N := rfl
theorem t32 (N d : Nat) : TT N (d + 1) 32 = i32.ev (TT N d) N := rfl
theorem t27 (N d : Nat) : TT N (d + 1) 27 = i27.ev (TT N d) N := rfl
theorem t26 (N d : Nat) : TT N (d + 1) 26 = i26.ev (TT N d) N := rfl
theorem t24 (N d : Nat) : TT N (d + 1) 24 = i24.ev (TT N d) N := rfl
theorem t47 (N d : Nat) : TT N (d + 1) 47 = i47.ev (TT N d) N := rfl
theorem t18 (N d : Nat) : TT N (d + 1) 18 = i18.ev (TT N d) N := rfl
theorem t33 (N d : Nat) : TT N (d + 1) 33 = i33.ev (TT N d) N := rfl
theorem t38 (N d : Nat) : TT N (d + 1) 38 = i38.ev (TT N d) N := rfl
theorem t52 (N d : Nat) : TT N (d + 1) 52 = i52.ev (TT N d) N := rfl
theorem t7 (N d : Nat) : TT N (d + 1) 7 = i7.ev (TT N d) N := rfl
theorem t15 (N d : Nat) : TT N (d + 1) 15 = i15.ev (TT N d) N := rfl
theorem t12 (N d : Nat) : TT N (d + 1) 12 = i12.ev (TT N d) N := rfl
theorem t20 (N d : Nat) : TT N (d + 1) 20 = i20.ev (TT N d) N := rfl
theorem t25 (N d : Nat) : TT N (d + 1) 25 = i25.ev (TT N d) N := rfl
theorem t36 (N d : Nat) : TT N (d + 1) 36 = i36.ev (TT N d) N := rfl
theorem t31 (N d : Nat) : TT N (d + 1) 31 = i31.ev (TT N d) N := rfl
theorem t49 (N d : Nat) : TT N (d + 1) 49 = i49.ev (TT N d) N := rfl
theorem t50 (N d : Nat) : TT N (d + 1) 50 = i50.ev (TT N d) N := rfl
theorem t51 (N d : Nat) : TT N (d + 1) 51 = i51.ev (TT N d) N := rfl
theorem t64 (N d : Nat) : TT N (d + 1) 64 = i64.ev (TT N d) N := rfl
theorem t63 (N d : Nat) : TT N (d + 1) 63 = i63.ev (TT N d) N := rfl
theorem t73 (N d : Nat) : TT N (d + 1) 73 = i73.ev (TT N d) N := rfl
theorem t74 (N d : Nat) : TT N (d + 1) 74 = i74.ev (TT N d) N := rfl
theorem t72 (N d : Nat) : TT N (d + 1) 72 = i72.ev (TT N d) N := rfl
theorem t35 (N d : Nat) : TT N (d + 1) 35 = i35.ev (TT N d) N := rfl
theorem t53 (N d : Nat) : TT N (d + 1) 53 = i53.ev (TT N d) N := rfl
theorem t29 (N d : Nat) : TT N (d + 1) 29 = i29.ev (TT N d) N := rfl
theorem t46 (N d : Nat) : TT N (d + 1) 46 = i46.ev (TT N d) N := rfl
theorem t61 (N d : Nat) : TT N (d + 1) 61 = i61.ev (TT N d) N := rfl
theorem t37 (N d : Nat) : TT N (d + 1) 37 = cloneM 41 6 48 := rfl
theorem t34 (N d : Nat) : TT N (d + 1) 34 = cloneM 35 2 16 := rfl
theorem t44 (N d : Nat) : TT N (d + 1) 44 = XI.insM 35 2 16 := rfl
theorem t45 (N d : Nat) : TT N (d + 1) 45 = XE.errnoM := rfl
end Go.Proofs.YtkfcbpbnoeaheaaDoor.IF
