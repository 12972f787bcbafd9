/- Functions of the program in the evaluator's form, each checked against the program (written by wip/prog/irgen.py). -/
import Derived.Test.YtjafaefiigingaaProg
import Derived.Test.YtjafaefiigingaaR21
import Derived.Test.YtjafaefiigingaaXJ
set_option maxRecDepth 100000
set_option linter.unusedSimpArgs false
set_option linter.unusedVariables false
namespace Go.Proofs.Ytjafaefiigingaa.IA
open Go Go.Proofs.YtjafaefiigingaaR
/-- bellwether/bellwetherlaw16.AheadExact -/
def j10 : C := (.seq (.region [⟨some 7, .box (.t 3), none, [], []⟩,
  ⟨some 8, .mov (.c (.bool false)), none, [], []⟩] false)
 (.seq (.seq (.region [⟨some 18, .mov (.t 0), none, [], []⟩,
  ⟨some 19, .len (.t 18), none, [], []⟩,
  ⟨some 20, .bin .gtr (.t 19) (.c (.int .i64 40)), none, [], []⟩] false)
 (.cond (.t 20) (.seq (.region [⟨some 8, .mov (.c (.bool true)), none, [], []⟩] false)
 .ret) .skip))
 (.seq (.region [⟨some 21, .mov (.t 0), none, [], []⟩,
  ⟨some 22, .call false 36 [(.t 21)], none, [], []⟩,
  ⟨some 9, .mov (.t 22), none, [], []⟩] false)
 (.seq (.region [⟨some 24, .mov (.t 9), none, [], []⟩,
  ⟨some 25, .mov (.t 1), none, [], []⟩,
  ⟨some 26, .mov (.t 2), none, [], []⟩,
  ⟨some 27, .load true 2 (.t 7), none, [], []⟩,
  ⟨some 28, .call false 37 [(.t 24), (.t 25), (.t 26), (.t 27)], none, [], []⟩,
  ⟨some 23, .mov (.t 28), none, [], []⟩,
  ⟨some 29, .ext (.t 23) 0, none, [], []⟩,
  ⟨some 30, .ext (.t 23) 1, none, [], []⟩,
  ⟨some 10, .mov (.t 29), none, [], []⟩,
  ⟨some 11, .mov (.t 30), none, [], []⟩] false)
 (.seq (.region [⟨some 32, .mov (.t 9), none, [], []⟩,
  ⟨some 33, .mov (.t 1), none, [], []⟩,
  ⟨some 34, .call false 38 [(.t 32), (.t 33)], none, [], []⟩,
  ⟨some 31, .mov (.t 34), none, [], []⟩,
  ⟨some 35, .ext (.t 31) 0, none, [], []⟩,
  ⟨some 36, .ext (.t 31) 1, none, [], []⟩,
  ⟨some 12, .mov (.t 35), none, [], []⟩,
  ⟨some 13, .mov (.t 36), none, [], []⟩] false)
 (.seq (.region [⟨some 38, .mov (.t 0), none, [], []⟩,
  ⟨some 39, .mov (.t 1), none, [], []⟩,
  ⟨some 40, .call false 39 [(.t 38), (.t 39)], none, [], []⟩,
  ⟨some 37, .mov (.t 40), none, [], []⟩,
  ⟨some 41, .ext (.t 37) 0, none, [], []⟩,
  ⟨some 42, .ext (.t 37) 1, none, [], []⟩,
  ⟨some 14, .mov (.t 41), none, [], []⟩,
  ⟨some 15, .mov (.t 42), none, [], []⟩] false)
 (.seq (.seq (.region [⟨some 43, .mov (.t 12), none, [], []⟩,
  ⟨some 44, .mov (.t 14), none, [], []⟩,
  ⟨some 45, .call false 40 [(.t 43), (.t 44)], none, [], []⟩,
  ⟨some 46, .un .not (.t 45), none, [], []⟩,
  ⟨some 47, .mov (.t 46), none, [], []⟩,
  ⟨some 48, .mov (.t 13), some (47, false), [], []⟩,
  ⟨some 49, .mov (.t 15), some (47, false), [], []⟩,
  ⟨some 50, .call false 40 [(.t 48), (.t 49)], some (47, false), [], []⟩,
  ⟨some 51, .un .not (.t 50), some (47, false), [], []⟩,
  ⟨some 52, .pick (.t 47) (.c (.bool true)) (.t 51), none, [], []⟩,
  ⟨some 53, .mov (.t 52), none, [], []⟩,
  ⟨some 54, .mov (.t 9), some (53, false), [], []⟩,
  ⟨some 55, .mov (.t 0), some (53, false), [], []⟩,
  ⟨some 56, .call false 40 [(.t 54), (.t 55)], some (53, false), [], []⟩,
  ⟨some 57, .un .not (.t 56), some (53, false), [], []⟩,
  ⟨some 58, .pick (.t 53) (.c (.bool true)) (.t 57), none, [], []⟩] false)
 (.cond (.t 58) (.seq (.region [⟨some 8, .mov (.c (.bool false)), none, [], []⟩] false)
 .ret) .skip))
 (.seq (.seq (.region [⟨some 59, .mov (.t 0), none, [], []⟩,
  ⟨some 60, .mov (.t 1), none, [], []⟩,
  ⟨some 61, .mov (.t 2), none, [], []⟩,
  ⟨some 62, .call false 41 [(.t 59), (.t 60), (.t 61)], none, [], []⟩,
  ⟨some 63, .un .not (.t 62), none, [], []⟩] false)
 (.cond (.t 63) (.seq (.region [⟨some 64, .mov (.t 9), none, [], []⟩,
  ⟨some 65, .mov (.t 1), none, [], []⟩,
  ⟨some 66, .mov (.t 2), none, [], []⟩,
  ⟨some 67, .call false 42 [(.t 64), (.t 65), (.t 66)], none, [], []⟩,
  ⟨some 68, .bin .eql (.t 67) (.c (.int .i64 1)), none, [], []⟩,
  ⟨some 69, .mov (.t 68), none, [], []⟩,
  ⟨some 70, .mov (.t 11), some (69, true), [], []⟩,
  ⟨some 71, .bin .eql (.t 70) (.c (.int .i64 1)), some (69, true), [], []⟩,
  ⟨some 72, .pick (.t 69) (.t 71) (.c (.bool false)), none, [], []⟩,
  ⟨some 73, .mov (.t 72), none, [], []⟩,
  ⟨some 74, .mov (.t 10), some (73, true), [], []⟩,
  ⟨some 75, .len (.t 74), some (73, true), [], []⟩,
  ⟨some 76, .bin .eql (.t 75) (.c (.int .i64 0)), some (73, true), [], []⟩,
  ⟨some 77, .pick (.t 73) (.t 76) (.c (.bool false)), none, [], []⟩,
  ⟨some 78, .mov (.t 77), none, [], []⟩,
  ⟨some 79, .call false 43 [], some (78, true), [], []⟩,
  ⟨some 80, .pick (.t 78) (.t 79) (.c (.bool false)), none, [], []⟩,
  ⟨some 8, .mov (.t 80), none, [], []⟩] false)
 .ret) .skip))
 (.seq (.seq (.region [⟨some 81, .mov (.t 9), none, [], []⟩,
  ⟨some 82, .mov (.t 1), none, [], []⟩,
  ⟨some 83, .mov (.t 2), none, [], []⟩,
  ⟨some 84, .call false 42 [(.t 81), (.t 82), (.t 83)], none, [], []⟩,
  ⟨some 85, .bin .neq (.t 84) (.c (.int .i64 0)), none, [], []⟩] false)
 (.cond (.t 85) (.seq (.region [⟨some 8, .mov (.c (.bool false)), none, [], []⟩] false)
 .ret) .skip))
 (.seq (.seq (.region [⟨some 86, .fad 1 (.t 7), none, [], []⟩,
  ⟨some 87, .load false 1 (.t 86), none, [], []⟩,
  ⟨some 88, .call false 44 [(.t 87)], none, [], []⟩,
  ⟨some 89, .un .not (.t 88), none, [], []⟩] false)
 (.cond (.t 89) (.seq (.region [⟨some 90, .mov (.t 11), none, [], []⟩,
  ⟨some 91, .bin .eql (.t 90) (.c (.int .i64 1)), none, [], []⟩,
  ⟨some 92, .mov (.t 91), none, [], []⟩,
  ⟨some 93, .mov (.t 10), some (92, true), [], []⟩,
  ⟨some 94, .len (.t 93), some (92, true), [], []⟩,
  ⟨some 95, .bin .eql (.t 94) (.c (.int .i64 0)), some (92, true), [], []⟩,
  ⟨some 96, .pick (.t 92) (.t 95) (.c (.bool false)), none, [], []⟩,
  ⟨some 97, .mov (.t 96), none, [], []⟩,
  ⟨some 98, .call false 43 [], some (97, true), [], []⟩,
  ⟨some 99, .pick (.t 97) (.t 98) (.c (.bool false)), none, [], []⟩,
  ⟨some 8, .mov (.t 99), none, [], []⟩] false)
 .ret) .skip))
 (.seq (.region [⟨some 101, .mov (.t 0), none, [], []⟩,
  ⟨some 102, .mov (.t 1), none, [], []⟩,
  ⟨some 103, .mov (.t 2), none, [], []⟩,
  ⟨some 104, .load true 2 (.t 7), none, [], []⟩,
  ⟨some 105, .call false 45 [(.t 101), (.t 102), (.t 103), (.t 104)], none, [], []⟩,
  ⟨some 100, .mov (.t 105), none, [], []⟩,
  ⟨some 106, .ext (.t 100) 0, none, [], []⟩,
  ⟨some 107, .ext (.t 100) 1, none, [], []⟩,
  ⟨some 16, .mov (.t 106), none, [], []⟩,
  ⟨some 17, .mov (.t 107), none, [], []⟩] false)
 (.seq (.region [⟨some 108, .mov (.t 11), none, [], []⟩,
  ⟨some 109, .mov (.t 17), none, [], []⟩,
  ⟨some 110, .bin .eql (.t 108) (.t 109), none, [], []⟩,
  ⟨some 111, .mov (.t 110), none, [], []⟩,
  ⟨some 112, .mov (.t 10), some (111, true), [], []⟩,
  ⟨some 113, .mov (.t 16), some (111, true), [], []⟩,
  ⟨some 114, .call false 40 [(.t 112), (.t 113)], some (111, true), [], []⟩,
  ⟨some 115, .pick (.t 111) (.t 114) (.c (.bool false)), none, [], []⟩,
  ⟨some 116, .mov (.t 115), none, [], []⟩,
  ⟨some 117, .call false 43 [], some (116, true), [], []⟩,
  ⟨some 118, .pick (.t 116) (.t 117) (.c (.bool false)), none, [], []⟩,
  ⟨some 8, .mov (.t 118), none, [], []⟩] false)
 .ret))))))))))))
def i10 : F := ⟨4, 119, j10, [.t 8]⟩
theorem b10 : i10.body = j10 := rfl
theorem q10 : i10.res = [.t 8] := rfl
theorem c10 : chkF Try.prog Try.f10 i10 = true := by kernel_rfl
theorem s10 {m : Model} {E : Nat → Model} (hE : ∀ f, Sound Try.prog f (E f)) (hm : ∀ args r, m args = some r → ∃ N, i10.ev E N args = some r) : Sound Try.prog 10 m := sound_of i10 Try.func10 rfl c10 hE hm
/-- bellwether/bellwetherlaw16.AheadTakes -/
def j11 : C := (.seq (.region [⟨some 6, .mov (.c (.bool false)), none, [], []⟩] false)
 (.seq (.seq (.region [⟨some 19, .mov (.t 2), none, [], []⟩,
  ⟨some 20, .len (.t 19), none, [], []⟩,
  ⟨some 21, .bin .gtr (.t 20) (.c (.int .i64 40)), none, [], []⟩] false)
 (.cond (.t 21) (.seq (.region [⟨some 6, .mov (.c (.bool true)), none, [], []⟩] false)
 .ret) .skip))
 (.seq (.region [⟨some 22, .mov (.t 0), none, [], []⟩,
  ⟨some 23, .conv .u64 (.t 22), none, [], []⟩,
  ⟨some 24, .bin .rem (.t 23) (.c (.int .u64 1000)), none, [], []⟩,
  ⟨some 25, .conv .i64 (.t 24), none, [], []⟩,
  ⟨some 26, .bin .add (.c (.int .i64 1)) (.t 25), none, [], []⟩,
  ⟨some 27, .mov (.t 1), none, [], []⟩,
  ⟨some 28, .conv .u64 (.t 27), none, [], []⟩,
  ⟨some 29, .bin .rem (.t 28) (.c (.int .u64 16)), none, [], []⟩,
  ⟨some 30, .conv .i64 (.t 29), none, [], []⟩,
  ⟨some 31, .bin .add (.c (.int .i64 1)) (.t 30), none, [], []⟩,
  ⟨some 0, .mov (.t 26), none, [], []⟩,
  ⟨some 1, .mov (.t 31), none, [], []⟩] false)
 (.seq (.region [⟨some 7, .mov (.c (.row [])), none, [], []⟩] false)
 (.seq (.region [⟨some 32, .mks 4 1 1 [.bool false] (.c (.int .i64 40)) (.c (.int .i64 40)), none, [], []⟩,
  ⟨some 8, .mov (.t 32), none, [], []⟩] false)
 (.seq (.seq (.region [⟨some 9, .mov (.c (.int .i64 0)), none, [], []⟩] false)
 (.block 0 (.loop (.keep [0, 1, 2, 7, 8, 9] (.seq (.seq (.region [⟨some 33, .mov (.t 9), none, [], []⟩,
  ⟨some 34, .mov (.t 2), none, [], []⟩,
  ⟨some 35, .len (.t 34), none, [], []⟩,
  ⟨some 36, .bin .lss (.t 33) (.t 35), none, [], []⟩] false)
 (.cond (.t 36) .skip (.exit 0)))
 (.seq (.block 1 (.seq (.region [⟨some 39, .mov (.t 2), none, [], []⟩,
  ⟨some 40, .mov (.t 9), none, [], []⟩,
  ⟨some 41, .iad 1 (.t 39) (.t 40), none, [], []⟩,
  ⟨some 42, .load false 1 (.t 41), none, [], []⟩,
  ⟨some 43, .conv .u64 (.t 42), none, [], []⟩,
  ⟨some 44, .bin .rem (.t 43) (.c (.int .u64 20)), none, [], []⟩,
  ⟨some 45, .conv .i64 (.t 44), none, [], []⟩,
  ⟨some 10, .mov (.t 45), none, [], []⟩] false)
 (.seq (.region [⟨some 47, .mov (.t 7), none, [], []⟩,
  ⟨some 48, .mov (.t 0), none, [], []⟩,
  ⟨some 49, .mov (.t 1), none, [], []⟩,
  ⟨some 50, .mov (.t 0), none, [], []⟩,
  ⟨some 51, .mov (.t 10), none, [], []⟩,
  ⟨some 52, .bin .add (.t 50) (.t 51), none, [], []⟩,
  ⟨some 53, .mov (.t 10), none, [], []⟩,
  ⟨some 54, .build [.int .i64 0, .int .i64 0] [(0, 1, (.t 52)), (1, 1, (.t 53))], none, [], []⟩,
  ⟨some 55, .call false 37 [(.t 47), (.t 48), (.t 49), (.t 54)], none, [], []⟩,
  ⟨some 46, .mov (.t 55), none, [], []⟩,
  ⟨some 56, .ext (.t 46) 0, none, [], []⟩,
  ⟨some 57, .ext (.t 46) 1, none, [], []⟩,
  ⟨some 11, .mov (.t 56), none, [], []⟩,
  ⟨some 12, .mov (.t 57), none, [], []⟩] false)
 (.block 2 (.seq (.region [⟨some 80, .mov (.t 10), none, [], []⟩,
  ⟨some 81, .bin .eql (.t 80) (.c (.int .i64 0)), none, [], []⟩,
  ⟨some 82, .mov (.t 81), none, [], []⟩,
  ⟨some 83, .mov (.t 10), some (82, false), [], []⟩,
  ⟨some 84, .mov (.t 1), some (82, false), [], []⟩,
  ⟨some 85, .bin .geq (.t 83) (.t 84), some (82, false), [], []⟩,
  ⟨some 86, .pick (.t 82) (.c (.bool true)) (.t 85), none, [], []⟩,
  ⟨some 79, .mov (.t 86), none, [], []⟩] false)
 (.cond (.t 79) (.seq (.region [⟨some 87, .mov (.t 12), none, [], []⟩,
  ⟨some 88, .bin .neq (.t 87) (.c (.int .i64 6)), none, [], []⟩] false)
 (.cond (.t 88) (.seq (.region [⟨some 6, .mov (.c (.bool false)), none, [], []⟩] false)
 .ret) .skip)) (.seq (.region [⟨some 90, .mov (.t 8), none, [], []⟩,
  ⟨some 91, .mov (.t 10), none, [], []⟩,
  ⟨some 92, .iad 1 (.t 90) (.t 91), none, [], []⟩,
  ⟨some 93, .load false 1 (.t 92), none, [], []⟩,
  ⟨some 89, .mov (.t 93), none, [], []⟩] false)
 (.cond (.t 89) (.seq (.region [⟨some 94, .mov (.t 12), none, [], []⟩,
  ⟨some 95, .bin .neq (.t 94) (.c (.int .i64 8)), none, [], []⟩] false)
 (.cond (.t 95) (.seq (.region [⟨some 6, .mov (.c (.bool false)), none, [], []⟩] false)
 .ret) .skip)) (.seq (.seq (.region [⟨some 58, .mov (.t 12), none, [], []⟩,
  ⟨some 59, .bin .neq (.t 58) (.c (.int .i64 0)), none, [], []⟩,
  ⟨some 60, .mov (.t 59), none, [], []⟩,
  ⟨some 61, .mov (.t 11), some (60, false), [], []⟩,
  ⟨some 62, .len (.t 61), some (60, false), [], []⟩,
  ⟨some 63, .mov (.t 7), some (60, false), [], []⟩,
  ⟨some 64, .len (.t 63), some (60, false), [], []⟩,
  ⟨some 65, .bin .add (.t 64) (.c (.int .i64 1)), some (60, false), [], []⟩,
  ⟨some 66, .bin .neq (.t 62) (.t 65), some (60, false), [], []⟩,
  ⟨some 67, .pick (.t 60) (.c (.bool true)) (.t 66), none, [], []⟩,
  ⟨some 68, .mov (.t 67), none, [], []⟩,
  ⟨some 69, .mov (.t 11), some (68, false), [], []⟩,
  ⟨some 70, .mov (.t 0), some (68, false), [], []⟩,
  ⟨some 71, .mov (.t 1), some (68, false), [], []⟩,
  ⟨some 72, .call false 42 [(.t 69), (.t 70), (.t 71)], some (68, false), [], []⟩,
  ⟨some 73, .bin .neq (.t 72) (.c (.int .i64 0)), some (68, false), [], []⟩,
  ⟨some 74, .pick (.t 68) (.c (.bool true)) (.t 73), none, [], []⟩] false)
 (.cond (.t 74) (.seq (.region [⟨some 6, .mov (.c (.bool false)), none, [], []⟩] false)
 .ret) .skip))
 (.region [⟨some 75, .mov (.t 8), none, [], []⟩,
  ⟨some 76, .mov (.t 10), none, [], []⟩,
  ⟨some 77, .mov (.t 11), none, [], []⟩,
  ⟨some 7, .mov (.t 77), none, [], []⟩,
  ⟨some 78, .iad 1 (.t 75) (.t 76), none, [], []⟩,
  ⟨none, .store none 1 (.t 78) (.c (.bool true)), none, [], []⟩] false))))))))))
 (.region [⟨some 37, .mov (.t 9), none, [], []⟩,
  ⟨some 38, .bin .add (.t 37) (.c (.int .i64 1)), none, [], []⟩,
  ⟨some 9, .mov (.t 38), none, [], []⟩] false)))))))
 (.seq (.region [⟨some 97, .mov (.t 7), none, [], []⟩,
  ⟨some 98, .mov (.t 0), none, [], []⟩,
  ⟨some 99, .bin .add (.t 98) (.c (.int .i64 1)), none, [], []⟩,
  ⟨some 100, .call false 38 [(.t 97), (.t 99)], none, [], []⟩,
  ⟨some 96, .mov (.t 100), none, [], []⟩,
  ⟨some 101, .ext (.t 96) 0, none, [], []⟩,
  ⟨some 102, .ext (.t 96) 1, none, [], []⟩,
  ⟨some 13, .mov (.t 101), none, [], []⟩,
  ⟨some 14, .mov (.t 102), none, [], []⟩] false)
 (.seq (.region [⟨some 15, .mov (.c (.int .i64 1)), none, [], []⟩] false)
 (.seq (.block 3 (.loop (.keep [0, 7, 8, 13, 14, 15] (.seq (.seq (.region [⟨some 103, .mov (.t 8), none, [], []⟩,
  ⟨some 104, .mov (.t 15), none, [], []⟩,
  ⟨some 105, .iad 1 (.t 103) (.t 104), none, [], []⟩,
  ⟨some 106, .load false 1 (.t 105), none, [], []⟩] false)
 (.cond (.t 106) .skip (.exit 3)))
 (.block 4 (.region [⟨some 107, .mov (.t 15), none, [], []⟩,
  ⟨some 108, .bin .add (.t 107) (.c (.int .i64 1)), none, [], []⟩,
  ⟨some 15, .mov (.t 108), none, [], []⟩] false))))))
 (.seq (.seq (.region [⟨some 109, .mov (.t 13), none, [], []⟩,
  ⟨some 110, .len (.t 109), none, [], []⟩,
  ⟨some 111, .mov (.t 15), none, [], []⟩,
  ⟨some 112, .bin .sub (.t 111) (.c (.int .i64 1)), none, [], []⟩,
  ⟨some 113, .bin .neq (.t 110) (.t 112), none, [], []⟩,
  ⟨some 114, .mov (.t 113), none, [], []⟩,
  ⟨some 115, .mov (.t 13), some (114, false), [], []⟩,
  ⟨some 116, .len (.t 115), some (114, false), [], []⟩,
  ⟨some 117, .mov (.t 14), some (114, false), [], []⟩,
  ⟨some 118, .len (.t 117), some (114, false), [], []⟩,
  ⟨some 119, .bin .add (.t 116) (.t 118), some (114, false), [], []⟩,
  ⟨some 120, .mov (.t 7), some (114, false), [], []⟩,
  ⟨some 121, .len (.t 120), some (114, false), [], []⟩,
  ⟨some 122, .bin .neq (.t 119) (.t 121), some (114, false), [], []⟩,
  ⟨some 123, .pick (.t 114) (.c (.bool true)) (.t 122), none, [], []⟩] false)
 (.cond (.t 123) (.seq (.region [⟨some 6, .mov (.c (.bool false)), none, [], []⟩] false)
 .ret) .skip))
 (.seq (.seq (.region [⟨some 16, .mov (.c (.int .i64 0)), none, [], []⟩] false)
 (.block 5 (.loop (.keep [0, 7, 13, 14, 16] (.seq (.seq (.region [⟨some 124, .mov (.t 16), none, [], []⟩,
  ⟨some 125, .mov (.t 13), none, [], []⟩,
  ⟨some 126, .len (.t 125), none, [], []⟩,
  ⟨some 127, .bin .lss (.t 124) (.t 126), none, [], []⟩] false)
 (.cond (.t 127) .skip (.exit 5)))
 (.seq (.block 6 (.seq (.region [⟨some 130, .mov (.t 13), none, [], []⟩,
  ⟨some 131, .mov (.t 16), none, [], []⟩,
  ⟨some 132, .iad 2 (.t 130) (.t 131), none, [], []⟩,
  ⟨some 133, .load true 2 (.t 132), none, [], []⟩,
  ⟨some 134, .mov (.t 0), none, [], []⟩,
  ⟨some 135, .bin .add (.t 134) (.c (.int .i64 1)), none, [], []⟩,
  ⟨some 136, .mov (.t 16), none, [], []⟩,
  ⟨some 137, .bin .add (.t 135) (.t 136), none, [], []⟩,
  ⟨some 138, .mov (.t 16), none, [], []⟩,
  ⟨some 139, .bin .add (.c (.int .i64 1)) (.t 138), none, [], []⟩,
  ⟨some 140, .build [.int .i64 0, .int .i64 0] [(0, 1, (.t 137)), (1, 1, (.t 139))], none, [], []⟩,
  ⟨some 141, .eqs true [true, true] (.t 133) (.t 140), none, [], []⟩] false)
 (.cond (.t 141) (.seq (.region [⟨some 6, .mov (.c (.bool false)), none, [], []⟩] false)
 .ret) .skip)))
 (.region [⟨some 128, .mov (.t 16), none, [], []⟩,
  ⟨some 129, .bin .add (.t 128) (.c (.int .i64 1)), none, [], []⟩,
  ⟨some 16, .mov (.t 129), none, [], []⟩] false)))))))
 (.seq (.region [⟨some 143, .mov (.t 7), none, [], []⟩,
  ⟨some 144, .mov (.t 0), none, [], []⟩,
  ⟨some 145, .call false 38 [(.t 143), (.t 144)], none, [], []⟩,
  ⟨some 142, .mov (.t 145), none, [], []⟩,
  ⟨some 146, .ext (.t 142) 0, none, [], []⟩,
  ⟨some 147, .ext (.t 142) 1, none, [], []⟩,
  ⟨some 17, .mov (.t 146), none, [], []⟩,
  ⟨some 18, .mov (.t 147), none, [], []⟩] false)
 (.seq (.region [⟨some 148, .mov (.t 17), none, [], []⟩,
  ⟨some 149, .len (.t 148), none, [], []⟩,
  ⟨some 150, .bin .eql (.t 149) (.c (.int .i64 0)), none, [], []⟩,
  ⟨some 151, .mov (.t 150), none, [], []⟩,
  ⟨some 152, .mov (.t 18), some (151, true), [], []⟩,
  ⟨some 153, .mov (.t 7), some (151, true), [], []⟩,
  ⟨some 154, .call false 40 [(.t 152), (.t 153)], some (151, true), [], []⟩,
  ⟨some 155, .pick (.t 151) (.t 154) (.c (.bool false)), none, [], []⟩,
  ⟨some 156, .mov (.t 155), none, [], []⟩,
  ⟨some 157, .mov (.t 13), some (156, true), [], []⟩,
  ⟨some 158, .call true 36 [(.t 157)], some (156, true), [], []⟩,
  ⟨some 159, .mov (.t 14), some (156, true), [], []⟩,
  ⟨some 160, .app 60 2 16 (.t 158) (.t 159), some (156, true), [], []⟩,
  ⟨some 161, .mov (.t 7), some (156, true), [], []⟩,
  ⟨some 162, .call false 40 [(.t 160), (.t 161)], some (156, true), [], []⟩,
  ⟨some 163, .pick (.t 156) (.t 162) (.c (.bool false)), none, [], []⟩,
  ⟨some 164, .mov (.t 163), none, [], []⟩,
  ⟨some 165, .call false 43 [], some (164, true), [], []⟩,
  ⟨some 166, .pick (.t 164) (.t 165) (.c (.bool false)), none, [], []⟩,
  ⟨some 6, .mov (.t 166), none, [], []⟩] false)
 .ret)))))))))))))
def i11 : F := ⟨3, 167, j11, [.t 6]⟩
theorem b11 : i11.body = j11 := rfl
theorem q11 : i11.res = [.t 6] := rfl
theorem c11 : chkF Try.prog Try.f11 i11 = true := by kernel_rfl
theorem s11 {m : Model} {E : Nat → Model} (hE : ∀ f, Sound Try.prog f (E f)) (hm : ∀ args r, m args = some r → ∃ N, i11.ev E N args = some r) : Sound Try.prog 11 m := sound_of i11 Try.func11 rfl c11 hE hm
/-- bellwether/bellwetherlaw16.AheadOrder -/
def j12 : C := (.seq (.region [⟨some 8, .box (.t 3), none, [], []⟩,
  ⟨some 9, .box (.t 4), none, [], []⟩,
  ⟨some 10, .mov (.c (.bool false)), none, [], []⟩] false)
 (.seq (.seq (.region [⟨some 19, .mov (.t 0), none, [], []⟩,
  ⟨some 20, .len (.t 19), none, [], []⟩,
  ⟨some 21, .bin .gtr (.t 20) (.c (.int .i64 40)), none, [], []⟩,
  ⟨some 22, .mov (.t 21), none, [], []⟩,
  ⟨some 23, .mov (.t 0), some (22, false), [], []⟩,
  ⟨some 24, .mov (.t 1), some (22, false), [], []⟩,
  ⟨some 25, .mov (.t 2), some (22, false), [], []⟩,
  ⟨some 26, .call false 41 [(.t 23), (.t 24), (.t 25)], some (22, false), [], []⟩,
  ⟨some 27, .un .not (.t 26), some (22, false), [], []⟩,
  ⟨some 28, .pick (.t 22) (.c (.bool true)) (.t 27), none, [], []⟩] false)
 (.cond (.t 28) (.seq (.region [⟨some 10, .mov (.c (.bool true)), none, [], []⟩] false)
 .ret) .skip))
 (.seq (.region [⟨some 30, .mov (.t 0), none, [], []⟩,
  ⟨some 31, .mov (.t 1), none, [], []⟩,
  ⟨some 32, .mov (.t 2), none, [], []⟩,
  ⟨some 33, .load true 2 (.t 8), none, [], []⟩,
  ⟨some 34, .call false 37 [(.t 30), (.t 31), (.t 32), (.t 33)], none, [], []⟩,
  ⟨some 29, .mov (.t 34), none, [], []⟩,
  ⟨some 35, .ext (.t 29) 0, none, [], []⟩,
  ⟨some 36, .ext (.t 29) 1, none, [], []⟩,
  ⟨some 11, .mov (.t 35), none, [], []⟩,
  ⟨some 12, .mov (.t 36), none, [], []⟩] false)
 (.seq (.region [⟨some 38, .mov (.t 0), none, [], []⟩,
  ⟨some 39, .mov (.t 1), none, [], []⟩,
  ⟨some 40, .mov (.t 2), none, [], []⟩,
  ⟨some 41, .load true 2 (.t 9), none, [], []⟩,
  ⟨some 42, .call false 37 [(.t 38), (.t 39), (.t 40), (.t 41)], none, [], []⟩,
  ⟨some 37, .mov (.t 42), none, [], []⟩,
  ⟨some 43, .ext (.t 37) 0, none, [], []⟩,
  ⟨some 44, .ext (.t 37) 1, none, [], []⟩,
  ⟨some 13, .mov (.t 43), none, [], []⟩,
  ⟨some 14, .mov (.t 44), none, [], []⟩] false)
 (.seq (.seq (.region [⟨some 45, .mov (.t 12), none, [], []⟩,
  ⟨some 46, .bin .neq (.t 45) (.c (.int .i64 0)), none, [], []⟩,
  ⟨some 47, .mov (.t 46), none, [], []⟩,
  ⟨some 48, .mov (.t 14), some (47, false), [], []⟩,
  ⟨some 49, .bin .neq (.t 48) (.c (.int .i64 0)), some (47, false), [], []⟩,
  ⟨some 50, .pick (.t 47) (.c (.bool true)) (.t 49), none, [], []⟩] false)
 (.cond (.t 50) (.seq (.region [⟨some 51, .mov (.t 12), none, [], []⟩,
  ⟨some 52, .bin .eql (.t 51) (.c (.int .i64 0)), none, [], []⟩,
  ⟨some 53, .mov (.t 52), none, [], []⟩,
  ⟨some 54, .mov (.t 11), some (53, false), [], []⟩,
  ⟨some 55, .len (.t 54), some (53, false), [], []⟩,
  ⟨some 56, .bin .eql (.t 55) (.c (.int .i64 0)), some (53, false), [], []⟩,
  ⟨some 57, .pick (.t 53) (.c (.bool true)) (.t 56), none, [], []⟩,
  ⟨some 58, .mov (.t 57), none, [], []⟩,
  ⟨some 59, .mov (.t 14), some (58, true), [], []⟩,
  ⟨some 60, .bin .eql (.t 59) (.c (.int .i64 0)), some (58, true), [], []⟩,
  ⟨some 61, .mov (.t 60), some (58, true), [], []⟩,
  ⟨some 62, .mov (.t 13), some (61, false), [], []⟩,
  ⟨some 63, .len (.t 62), some (61, false), [], []⟩,
  ⟨some 64, .bin .eql (.t 63) (.c (.int .i64 0)), some (61, false), [], []⟩,
  ⟨some 65, .pick (.t 61) (.c (.bool true)) (.t 64), some (58, true), [], []⟩,
  ⟨some 66, .pick (.t 58) (.t 65) (.c (.bool false)), none, [], []⟩,
  ⟨some 67, .mov (.t 66), none, [], []⟩,
  ⟨some 68, .call false 43 [], some (67, true), [], []⟩,
  ⟨some 69, .pick (.t 67) (.t 68) (.c (.bool false)), none, [], []⟩,
  ⟨some 10, .mov (.t 69), none, [], []⟩] false)
 .ret) .skip))
 (.seq (.region [⟨some 71, .mov (.t 11), none, [], []⟩,
  ⟨some 72, .mov (.t 1), none, [], []⟩,
  ⟨some 73, .mov (.t 2), none, [], []⟩,
  ⟨some 74, .load true 2 (.t 9), none, [], []⟩,
  ⟨some 75, .call false 37 [(.t 71), (.t 72), (.t 73), (.t 74)], none, [], []⟩,
  ⟨some 70, .mov (.t 75), none, [], []⟩,
  ⟨some 76, .ext (.t 70) 0, none, [], []⟩,
  ⟨some 77, .ext (.t 70) 1, none, [], []⟩,
  ⟨some 15, .mov (.t 76), none, [], []⟩,
  ⟨some 16, .mov (.t 77), none, [], []⟩] false)
 (.seq (.region [⟨some 79, .mov (.t 13), none, [], []⟩,
  ⟨some 80, .mov (.t 1), none, [], []⟩,
  ⟨some 81, .mov (.t 2), none, [], []⟩,
  ⟨some 82, .load true 2 (.t 8), none, [], []⟩,
  ⟨some 83, .call false 37 [(.t 79), (.t 80), (.t 81), (.t 82)], none, [], []⟩,
  ⟨some 78, .mov (.t 83), none, [], []⟩,
  ⟨some 84, .ext (.t 78) 0, none, [], []⟩,
  ⟨some 85, .ext (.t 78) 1, none, [], []⟩,
  ⟨some 17, .mov (.t 84), none, [], []⟩,
  ⟨some 18, .mov (.t 85), none, [], []⟩] false)
 (.seq (.seq (.region [⟨some 86, .fad 0 (.t 8), none, [], []⟩,
  ⟨some 87, .load false 1 (.t 86), none, [], []⟩,
  ⟨some 88, .fad 0 (.t 9), none, [], []⟩,
  ⟨some 89, .load false 1 (.t 88), none, [], []⟩,
  ⟨some 90, .bin .eql (.t 87) (.t 89), none, [], []⟩] false)
 (.cond (.t 90) (.seq (.region [⟨some 91, .mov (.t 16), none, [], []⟩,
  ⟨some 92, .bin .eql (.t 91) (.c (.int .i64 8)), none, [], []⟩,
  ⟨some 93, .mov (.t 92), none, [], []⟩,
  ⟨some 94, .mov (.t 18), some (93, true), [], []⟩,
  ⟨some 95, .bin .eql (.t 94) (.c (.int .i64 8)), some (93, true), [], []⟩,
  ⟨some 96, .pick (.t 93) (.t 95) (.c (.bool false)), none, [], []⟩,
  ⟨some 97, .mov (.t 96), none, [], []⟩,
  ⟨some 98, .mov (.t 15), some (97, true), [], []⟩,
  ⟨some 99, .len (.t 98), some (97, true), [], []⟩,
  ⟨some 100, .mov (.t 17), some (97, true), [], []⟩,
  ⟨some 101, .len (.t 100), some (97, true), [], []⟩,
  ⟨some 102, .bin .add (.t 99) (.t 101), some (97, true), [], []⟩,
  ⟨some 103, .bin .eql (.t 102) (.c (.int .i64 0)), some (97, true), [], []⟩,
  ⟨some 104, .pick (.t 97) (.t 103) (.c (.bool false)), none, [], []⟩,
  ⟨some 105, .mov (.t 104), none, [], []⟩,
  ⟨some 106, .call false 43 [], some (105, true), [], []⟩,
  ⟨some 107, .pick (.t 105) (.t 106) (.c (.bool false)), none, [], []⟩,
  ⟨some 10, .mov (.t 107), none, [], []⟩] false)
 .ret) .skip))
 (.seq (.region [⟨some 108, .mov (.t 16), none, [], []⟩,
  ⟨some 109, .bin .eql (.t 108) (.c (.int .i64 0)), none, [], []⟩,
  ⟨some 110, .mov (.t 109), none, [], []⟩,
  ⟨some 111, .mov (.t 18), some (110, true), [], []⟩,
  ⟨some 112, .bin .eql (.t 111) (.c (.int .i64 0)), some (110, true), [], []⟩,
  ⟨some 113, .pick (.t 110) (.t 112) (.c (.bool false)), none, [], []⟩,
  ⟨some 114, .mov (.t 113), none, [], []⟩,
  ⟨some 115, .mov (.t 15), some (114, true), [], []⟩,
  ⟨some 116, .mov (.t 17), some (114, true), [], []⟩,
  ⟨some 117, .call false 40 [(.t 115), (.t 116)], some (114, true), [], []⟩,
  ⟨some 118, .pick (.t 114) (.t 117) (.c (.bool false)), none, [], []⟩,
  ⟨some 119, .mov (.t 118), none, [], []⟩,
  ⟨some 120, .mov (.t 15), some (119, true), [], []⟩,
  ⟨some 121, .len (.t 120), some (119, true), [], []⟩,
  ⟨some 122, .mov (.t 0), some (119, true), [], []⟩,
  ⟨some 123, .len (.t 122), some (119, true), [], []⟩,
  ⟨some 124, .bin .add (.t 123) (.c (.int .i64 2)), some (119, true), [], []⟩,
  ⟨some 125, .bin .eql (.t 121) (.t 124), some (119, true), [], []⟩,
  ⟨some 126, .pick (.t 119) (.t 125) (.c (.bool false)), none, [], []⟩,
  ⟨some 127, .mov (.t 126), none, [], []⟩,
  ⟨some 128, .mov (.t 15), some (127, true), [], []⟩,
  ⟨some 129, .mov (.t 1), some (127, true), [], []⟩,
  ⟨some 130, .mov (.t 2), some (127, true), [], []⟩,
  ⟨some 131, .call false 42 [(.t 128), (.t 129), (.t 130)], some (127, true), [], []⟩,
  ⟨some 132, .bin .eql (.t 131) (.c (.int .i64 0)), some (127, true), [], []⟩,
  ⟨some 133, .pick (.t 127) (.t 132) (.c (.bool false)), none, [], []⟩,
  ⟨some 134, .mov (.t 133), none, [], []⟩,
  ⟨some 135, .call false 43 [], some (134, true), [], []⟩,
  ⟨some 136, .pick (.t 134) (.t 135) (.c (.bool false)), none, [], []⟩,
  ⟨some 10, .mov (.t 136), none, [], []⟩] false)
 .ret)))))))))
def i12 : F := ⟨5, 137, j12, [.t 10]⟩
theorem b12 : i12.body = j12 := rfl
theorem q12 : i12.res = [.t 10] := rfl
theorem c12 : chkF Try.prog Try.f12 i12 = true := by kernel_rfl
theorem s12 {m : Model} {E : Nat → Model} (hE : ∀ f, Sound Try.prog f (E f)) (hm : ∀ args r, m args = some r → ∃ N, i12.ev E N args = some r) : Sound Try.prog 12 m := sound_of i12 Try.func12 rfl c12 hE hm
/-- bellwether/bellwetherkeep.TwinItems -/
def j36 : C := (.seq (.region [⟨some 2, .nilsl 60 2 0, none, [], []⟩] false)
 (.seq (.region [⟨some 3, .nilsl 60 2 0, none, [], []⟩] false)
 (.seq (.region [⟨some 4, .mov (.t 3), none, [], []⟩,
  ⟨some 5, .mov (.t 0), none, [], []⟩,
  ⟨some 6, .app 60 2 16 (.t 4) (.t 5), none, [], []⟩,
  ⟨some 2, .mov (.t 6), none, [], []⟩] false)
 .ret)))
def i36 : F := ⟨1, 7, j36, [.t 2]⟩
theorem b36 : i36.body = j36 := rfl
theorem q36 : i36.res = [.t 2] := rfl
theorem c36 : chkF Try.prog Try.f36 i36 = true := by kernel_rfl
theorem s36 {m : Model} {E : Nat → Model} (hE : ∀ f, Sound Try.prog f (E f)) (hm : ∀ args r, m args = some r → ∃ N, i36.ev E N args = some r) : Sound Try.prog 36 m := sound_of i36 Try.func36 rfl c36 hE hm
/-- bellwether/ahead.Add -/
def j37 : C := (.seq (.region [⟨some 7, .box (.t 3), none, [], []⟩,
  ⟨some 8, .nilsl 60 2 0, none, [], []⟩,
  ⟨some 9, .mov (.c (.int .i64 0)), none, [], []⟩] false)
 (.seq (.region [⟨some 12, .mov (.t 0), none, [], []⟩,
  ⟨some 13, .mov (.t 1), none, [], []⟩,
  ⟨some 14, .mov (.t 2), none, [], []⟩,
  ⟨some 15, .call false 42 [(.t 12), (.t 13), (.t 14)], none, [], []⟩,
  ⟨some 10, .mov (.t 15), none, [], []⟩] false)
 (.seq (.frz [7] (.region [⟨some 16, .mov (.t 0), none, [], []⟩,
  ⟨some 17, .mkf 66 [(.t 7)], none, [], []⟩,
  ⟨some 18, .call false 65 [(.t 16), (.t 17)], none, [], []⟩,
  ⟨some 11, .mov (.t 18), none, [], []⟩] false))
 (.seq (.block 0 (.seq (.region [⟨some 20, .mov (.t 10), none, [], []⟩,
  ⟨some 21, .bin .neq (.t 20) (.c (.int .i64 0)), none, [], []⟩,
  ⟨some 22, .mov (.t 21), none, [], []⟩,
  ⟨some 23, .fad 1 (.t 7), some (22, false), [], []⟩,
  ⟨some 24, .load false 1 (.t 23), some (22, false), [], []⟩,
  ⟨some 25, .call false 67 [(.t 24)], some (22, false), [], []⟩,
  ⟨some 26, .un .not (.t 25), some (22, false), [], []⟩,
  ⟨some 27, .pick (.t 22) (.c (.bool true)) (.t 26), none, [], []⟩,
  ⟨some 19, .mov (.t 27), none, [], []⟩] false)
 (.cond (.t 19) (.seq (.region [⟨some 8, .nilsl 60 2 1, none, [], []⟩,
  ⟨some 9, .mov (.c (.int .i64 1)), none, [], []⟩] false)
 .ret) (.seq (.region [⟨some 29, .fad 0 (.t 7), none, [], []⟩,
  ⟨some 30, .load false 1 (.t 29), none, [], []⟩,
  ⟨some 31, .mov (.t 1), none, [], []⟩,
  ⟨some 32, .mov (.t 2), none, [], []⟩,
  ⟨some 33, .call false 68 [(.t 30), (.t 31), (.t 32)], none, [], []⟩,
  ⟨some 34, .un .not (.t 33), none, [], []⟩,
  ⟨some 28, .mov (.t 34), none, [], []⟩] false)
 (.cond (.t 28) (.seq (.region [⟨some 8, .nilsl 60 2 2, none, [], []⟩,
  ⟨some 9, .mov (.c (.int .i64 6)), none, [], []⟩] false)
 .ret) (.seq (.region [⟨some 36, .mov (.t 11), none, [], []⟩,
  ⟨some 37, .bin .lss (.t 36) (.c (.int .i64 0)), none, [], []⟩,
  ⟨some 35, .mov (.t 37), none, [], []⟩] false)
 (.cond (.t 35) (.seq (.region [⟨some 38, .mov (.t 0), none, [40, 41], []⟩,
  ⟨some 39, .call true 69 [(.t 38)], none, [40, 41], [0]⟩,
  ⟨some 40, .load true 2 (.t 7), none, [38, 39], []⟩,
  ⟨some 41, .bsl 60 2 1 [.int .i64 0, .int .i64 0] [(0, (.t 40))], none, [38, 39], [2]⟩,
  ⟨some 42, .app 60 2 16 (.t 39) (.t 41), none, [], [0, 1, 2, 3]⟩,
  ⟨some 8, .mov (.t 42), none, [], [0, 1, 2, 3, 4]⟩,
  ⟨some 9, .mov (.c (.int .i64 0)), none, [], [0, 1, 2, 3, 4, 5]⟩] true)
 .ret) (.seq (.region [⟨some 44, .mov (.t 0), none, [45, 49, 50], []⟩,
  ⟨some 45, .mov (.t 11), none, [44, 49, 50], []⟩,
  ⟨some 46, .iad 2 (.t 44) (.t 45), none, [49, 50], [0, 1]⟩,
  ⟨some 47, .fad 0 (.t 46), none, [49, 50], [0, 1, 2]⟩,
  ⟨some 48, .load false 1 (.t 47), none, [49, 50], [0, 1, 2, 3]⟩,
  ⟨some 49, .fad 0 (.t 7), none, [44, 45, 46, 47, 48], []⟩,
  ⟨some 50, .load false 1 (.t 49), none, [44, 45, 46, 47, 48], [5]⟩,
  ⟨some 51, .bin .eql (.t 48) (.t 50), none, [], [0, 1, 2, 3, 4, 5, 6]⟩,
  ⟨some 43, .mov (.t 51), none, [], [0, 1, 2, 3, 4, 5, 6, 7]⟩] true)
 (.cond (.t 43) (.seq (.region [⟨some 8, .nilsl 60 2 3, none, [], []⟩,
  ⟨some 9, .mov (.c (.int .i64 8)), none, [], []⟩] false)
 .ret) .skip)))))))))
 (.seq (.region [⟨some 52, .mov (.t 0), none, [54, 55, 56], []⟩,
  ⟨some 53, .call true 69 [(.t 52)], none, [54, 55, 56], [0]⟩,
  ⟨some 54, .mov (.t 11), none, [52, 53, 55, 56], []⟩,
  ⟨some 55, .load true 2 (.t 7), none, [52, 53, 54], []⟩,
  ⟨some 56, .bsl 60 2 1 [.int .i64 0, .int .i64 0] [(0, (.t 55))], none, [52, 53, 54], [3]⟩,
  ⟨some 57, .callo 70 [(.t 53), (.t 54), (.t 56)], none, [], [0, 1, 2, 3, 4]⟩,
  ⟨some 8, .mov (.t 57), none, [], [0, 1, 2, 3, 4, 5]⟩,
  ⟨some 9, .mov (.c (.int .i64 0)), none, [], [0, 1, 2, 3, 4, 5, 6]⟩] true)
 .ret)))))
def i37 : F := ⟨4, 58, j37, [.t 8, .t 9]⟩
theorem b37 : i37.body = j37 := rfl
theorem q37 : i37.res = [.t 8, .t 9] := rfl
theorem c37 : chkF Try.prog Try.f37 i37 = true := by kernel_rfl
theorem s37 {m : Model} {E : Nat → Model} (hE : ∀ f, Sound Try.prog f (E f)) (hm : ∀ args r, m args = some r → ∃ N, i37.ev E N args = some r) : Sound Try.prog 37 m := sound_of i37 Try.func37 rfl c37 hE hm
/-- bellwether/ahead.Take -/
def j38 : C := (.seq (.region [⟨some 3, .box (.t 1), none, [], []⟩,
  ⟨some 4, .nilsl 60 2 0, none, [], []⟩,
  ⟨some 5, .nilsl 60 2 0, none, [], []⟩] false)
 (.seq (.frz [3] (.region [⟨some 7, .mov (.t 0), none, [], []⟩,
  ⟨some 8, .call true 69 [(.t 7)], none, [], []⟩,
  ⟨some 9, .mkf 72 [(.t 3)], none, [], []⟩,
  ⟨some 10, .callo 71 [(.t 8), (.t 9)], none, [], []⟩,
  ⟨some 0, .mov (.t 10), none, [], []⟩] false))
 (.seq (.region [⟨some 6, .mov (.c (.int .i64 0)), none, [], []⟩] false)
 (.seq (.block 0 (.loop (.keep [0, 3, 6] (.seq (.seq (.region [⟨some 11, .mov (.t 6), none, [12, 13], []⟩,
  ⟨some 12, .mov (.t 0), none, [11], []⟩,
  ⟨some 13, .len (.t 12), none, [11], [1]⟩,
  ⟨some 14, .bin .lss (.t 11) (.t 13), none, [], [0, 1, 2]⟩,
  ⟨some 15, .mov (.t 14), none, [], [0, 1, 2, 3]⟩,
  ⟨some 16, .mov (.t 0), some (15, true), [17, 21, 23], [0, 1, 2, 3, 4]⟩,
  ⟨some 17, .mov (.t 6), some (15, true), [16, 21, 23], [0, 1, 2, 3, 4]⟩,
  ⟨some 18, .iad 2 (.t 16) (.t 17), some (15, true), [21, 23], [0, 1, 2, 3, 4, 5, 6]⟩,
  ⟨some 19, .fad 0 (.t 18), some (15, true), [21, 23], [0, 1, 2, 3, 4, 5, 6, 7]⟩,
  ⟨some 20, .load false 1 (.t 19), some (15, true), [21, 23], [0, 1, 2, 3, 4, 5, 6, 7, 8]⟩,
  ⟨some 21, .load false 1 (.t 3), some (15, true), [16, 17, 18, 19, 20, 23], [0, 1, 2, 3, 4]⟩,
  ⟨some 22, .bin .sub (.t 20) (.t 21), some (15, true), [23], [0, 1, 2, 3, 4, 5, 6, 7, 8, 9, 10]⟩,
  ⟨some 23, .mov (.t 6), some (15, true), [16, 17, 18, 19, 20, 21, 22], [0, 1, 2, 3, 4]⟩,
  ⟨some 24, .bin .eql (.t 22) (.t 23), some (15, true), [], [0, 1, 2, 3, 4, 5, 6, 7, 8, 9, 10, 11, 12]⟩,
  ⟨some 25, .pick (.t 15) (.t 24) (.c (.bool false)), none, [], [0, 1, 2, 3, 4, 5, 6, 7, 8, 9, 10, 11, 12, 13]⟩] true)
 (.cond (.t 25) .skip (.exit 0)))
 (.block 1 (.region [⟨some 26, .mov (.t 6), none, [], []⟩,
  ⟨some 27, .bin .add (.t 26) (.c (.int .i64 1)), none, [], []⟩,
  ⟨some 6, .mov (.t 27), none, [], []⟩] false))))))
 (.seq (.region [⟨some 28, .mov (.t 0), none, [29, 32, 33, 34], []⟩,
  ⟨some 29, .mov (.t 6), none, [28, 32, 33, 34], []⟩,
  ⟨some 30, .cut 2 (.t 28) none (some (.t 29)), none, [32, 33, 34], [0, 1]⟩,
  ⟨some 31, .call true 69 [(.t 30)], none, [32, 33, 34], [0, 1, 2]⟩,
  ⟨some 32, .mov (.t 0), none, [28, 29, 30, 31, 33], []⟩,
  ⟨some 33, .mov (.t 6), none, [28, 29, 30, 31, 32], []⟩,
  ⟨some 34, .cut 2 (.t 32) (some (.t 33)) none, none, [28, 29, 30, 31], [4, 5]⟩,
  ⟨some 35, .call true 69 [(.t 34)], none, [], [0, 1, 2, 3, 4, 5, 6]⟩,
  ⟨some 4, .mov (.t 31), none, [], [0, 1, 2, 3, 4, 5, 6, 7]⟩,
  ⟨some 5, .mov (.t 35), none, [], [0, 1, 2, 3, 4, 5, 6, 7, 8]⟩] true)
 .ret)))))
def i38 : F := ⟨2, 36, j38, [.t 4, .t 5]⟩
theorem b38 : i38.body = j38 := rfl
theorem q38 : i38.res = [.t 4, .t 5] := rfl
theorem c38 : chkF Try.prog Try.f38 i38 = true := by kernel_rfl
theorem s38 {m : Model} {E : Nat → Model} (hE : ∀ f, Sound Try.prog f (E f)) (hm : ∀ args r, m args = some r → ∃ N, i38.ev E N args = some r) : Sound Try.prog 38 m := sound_of i38 Try.func38 rfl c38 hE hm
/-- bellwether/bellwetherref10.Take -/
def j39 : C := (.seq (.region [⟨some 4, .mov (.c (.k (.slice none 0 0))), none, [], []⟩,
  ⟨some 5, .mov (.c (.k (.slice none 0 0))), none, [], []⟩] false)
 (.seq (.region [⟨some 6, .nilsl 60 2 0, none, [], []⟩] false)
 (.seq (.seq (.region [⟨some 7, .mov (.c (.int .i64 0)), none, [], []⟩] false)
 (.block 0 (.loop (.keep [0, 1, 4, 5, 6, 7] (.seq (.seq (.region [⟨some 9, .mov (.t 7), none, [], []⟩,
  ⟨some 10, .mov (.t 0), none, [], []⟩,
  ⟨some 11, .len (.t 10), none, [], []⟩,
  ⟨some 12, .bin .lss (.t 9) (.t 11), none, [], []⟩] false)
 (.cond (.t 12) .skip (.exit 0)))
 (.seq (.block 1 (.seq (.region [⟨some 15, .mov (.t 0), none, [], []⟩,
  ⟨some 16, .mov (.t 7), none, [], []⟩,
  ⟨some 17, .iad 2 (.t 15) (.t 16), none, [], []⟩,
  ⟨some 18, .fad 0 (.t 17), none, [], []⟩,
  ⟨some 19, .load false 1 (.t 18), none, [], []⟩,
  ⟨some 20, .mov (.t 1), none, [], []⟩,
  ⟨some 21, .bin .geq (.t 19) (.t 20), none, [], []⟩] false)
 (.cond (.t 21) (.region [⟨some 22, .mov (.t 6), none, [], []⟩,
  ⟨some 23, .mov (.t 0), none, [], []⟩,
  ⟨some 24, .mov (.t 7), none, [], []⟩,
  ⟨some 25, .iad 2 (.t 23) (.t 24), none, [], []⟩,
  ⟨some 26, .load true 2 (.t 25), none, [], []⟩,
  ⟨some 27, .bsl 60 2 1 [.int .i64 0, .int .i64 0] [(0, (.t 26))], none, [], []⟩,
  ⟨some 28, .app 60 2 16 (.t 22) (.t 27), none, [], []⟩,
  ⟨some 6, .mov (.t 28), none, [], []⟩] false) .skip)))
 (.region [⟨some 13, .mov (.t 7), none, [], []⟩,
  ⟨some 14, .bin .add (.t 13) (.c (.int .i64 1)), none, [], []⟩,
  ⟨some 7, .mov (.t 14), none, [], []⟩] false)))))))
 (.seq (.region [⟨some 8, .mov (.c (.int .i64 0)), none, [], []⟩] false)
 (.seq (.block 2 (.loop (.keep [1, 4, 5, 6, 8] (.seq (.seq (.region [⟨some 29, .mov (.t 8), none, [], []⟩,
  ⟨some 30, .mov (.t 6), none, [], []⟩,
  ⟨some 31, .len (.t 30), none, [], []⟩,
  ⟨some 32, .bin .lss (.t 29) (.t 31), none, [], []⟩,
  ⟨some 33, .mov (.t 32), none, [], []⟩,
  ⟨some 34, .mov (.t 6), some (33, true), [], []⟩,
  ⟨some 35, .mov (.t 8), some (33, true), [], []⟩,
  ⟨some 36, .iad 2 (.t 34) (.t 35), some (33, true), [], []⟩,
  ⟨some 37, .fad 0 (.t 36), some (33, true), [], []⟩,
  ⟨some 38, .load false 1 (.t 37), some (33, true), [], []⟩,
  ⟨some 39, .mov (.t 8), some (33, true), [], []⟩,
  ⟨some 40, .bin .sub (.t 38) (.t 39), some (33, true), [], []⟩,
  ⟨some 41, .mov (.t 1), some (33, true), [], []⟩,
  ⟨some 42, .bin .eql (.t 40) (.t 41), some (33, true), [], []⟩,
  ⟨some 43, .pick (.t 33) (.t 42) (.c (.bool false)), none, [], []⟩] false)
 (.cond (.t 43) .skip (.exit 2)))
 (.block 3 (.region [⟨some 44, .mov (.t 8), none, [], []⟩,
  ⟨some 45, .bin .add (.t 44) (.c (.int .i64 1)), none, [], []⟩,
  ⟨some 8, .mov (.t 45), none, [], []⟩] false))))))
 (.seq (.region [⟨some 46, .mov (.t 4), none, [47, 48, 49, 51, 52, 53, 54], []⟩,
  ⟨some 47, .mov (.t 6), none, [46, 48, 51, 52, 53, 54], []⟩,
  ⟨some 48, .mov (.t 8), none, [46, 47, 51, 52, 53, 54], []⟩,
  ⟨some 49, .cut 2 (.t 47) none (some (.t 48)), none, [46, 51, 52, 53, 54], [1, 2]⟩,
  ⟨some 50, .apn 60 2 16 (.t 46) (.t 49), none, [51, 52, 53, 54], [0, 1, 2, 3]⟩,
  ⟨some 51, .mov (.t 5), none, [46, 47, 48, 49, 50, 52, 53, 54], []⟩,
  ⟨some 52, .mov (.t 6), none, [46, 47, 48, 49, 50, 51, 53], []⟩,
  ⟨some 53, .mov (.t 8), none, [46, 47, 48, 49, 50, 51, 52], []⟩,
  ⟨some 54, .cut 2 (.t 52) (some (.t 53)) none, none, [46, 47, 48, 49, 50, 51], [6, 7]⟩,
  ⟨some 55, .apn 60 2 16 (.t 51) (.t 54), none, [], [0, 1, 2, 3, 4, 5, 6, 7, 8]⟩,
  ⟨some 4, .mov (.t 50), none, [], [0, 1, 2, 3, 4, 5, 6, 7, 8, 9]⟩,
  ⟨some 5, .mov (.t 55), none, [], [0, 1, 2, 3, 4, 5, 6, 7, 8, 9, 10]⟩] true)
 .ret))))))
def i39 : F := ⟨2, 56, j39, [.t 4, .t 5]⟩
theorem b39 : i39.body = j39 := rfl
theorem q39 : i39.res = [.t 4, .t 5] := rfl
theorem c39 : chkF Try.prog Try.f39 i39 = true := by kernel_rfl
theorem s39 {m : Model} {E : Nat → Model} (hE : ∀ f, Sound Try.prog f (E f)) (hm : ∀ args r, m args = some r → ∃ N, i39.ev E N args = some r) : Sound Try.prog 39 m := sound_of i39 Try.func39 rfl c39 hE hm
/-- bellwether/bellwetherkeep.Items -/
def j40 : C := (.seq (.region [⟨some 4, .mov (.c (.bool false)), none, [], []⟩] false)
 (.seq (.seq (.region [⟨some 6, .mov (.t 0), none, [], []⟩,
  ⟨some 7, .len (.t 6), none, [], []⟩,
  ⟨some 8, .mov (.t 1), none, [], []⟩,
  ⟨some 9, .len (.t 8), none, [], []⟩,
  ⟨some 10, .bin .neq (.t 7) (.t 9), none, [], []⟩] false)
 (.cond (.t 10) (.seq (.region [⟨some 4, .mov (.c (.bool false)), none, [], []⟩] false)
 .ret) .skip))
 (.seq (.seq (.region [⟨some 5, .mov (.c (.int .i64 0)), none, [], []⟩] false)
 (.block 0 (.loop (.keep [0, 1, 5] (.seq (.seq (.region [⟨some 11, .mov (.t 5), none, [], []⟩,
  ⟨some 12, .mov (.t 0), none, [], []⟩,
  ⟨some 13, .len (.t 12), none, [], []⟩,
  ⟨some 14, .bin .lss (.t 11) (.t 13), none, [], []⟩] false)
 (.cond (.t 14) .skip (.exit 0)))
 (.seq (.block 1 (.seq (.region [⟨some 17, .mov (.t 0), none, [18, 21, 22, 23, 24], []⟩,
  ⟨some 18, .mov (.t 5), none, [17, 21, 22, 23, 24], []⟩,
  ⟨some 19, .iad 2 (.t 17) (.t 18), none, [21, 22, 23, 24], [0, 1]⟩,
  ⟨some 20, .load true 2 (.t 19), none, [21, 22, 23, 24], [0, 1, 2]⟩,
  ⟨some 21, .mov (.t 1), none, [17, 18, 19, 20, 22], []⟩,
  ⟨some 22, .mov (.t 5), none, [17, 18, 19, 20, 21], []⟩,
  ⟨some 23, .iad 2 (.t 21) (.t 22), none, [17, 18, 19, 20], [4, 5]⟩,
  ⟨some 24, .load true 2 (.t 23), none, [17, 18, 19, 20], [4, 5, 6]⟩,
  ⟨some 25, .eqs true [true, true] (.t 20) (.t 24), none, [], [0, 1, 2, 3, 4, 5, 6, 7]⟩] true)
 (.cond (.t 25) (.seq (.region [⟨some 4, .mov (.c (.bool false)), none, [], []⟩] false)
 .ret) .skip)))
 (.region [⟨some 15, .mov (.t 5), none, [], []⟩,
  ⟨some 16, .bin .add (.t 15) (.c (.int .i64 1)), none, [], []⟩,
  ⟨some 5, .mov (.t 16), none, [], []⟩] false)))))))
 (.seq (.region [⟨some 4, .mov (.c (.bool true)), none, [], []⟩] false)
 .ret))))
def i40 : F := ⟨2, 26, j40, [.t 4]⟩
theorem b40 : i40.body = j40 := rfl
theorem q40 : i40.res = [.t 4] := rfl
theorem c40 : chkF Try.prog Try.f40 i40 = true := by kernel_rfl
theorem s40 {m : Model} {E : Nat → Model} (hE : ∀ f, Sound Try.prog f (E f)) (hm : ∀ args r, m args = some r → ∃ N, i40.ev E N args = some r) : Sound Try.prog 40 m := sound_of i40 Try.func40 rfl c40 hE hm
/-- bellwether/bellwetherref10.Ahead2 -/
def j41 : C := (.seq (.region [⟨some 6, .mov (.c (.bool false)), none, [], []⟩] false)
 (.seq (.seq (.region [⟨some 8, .mov (.t 1), none, [], []⟩,
  ⟨some 9, .call false 48 [(.t 8), (.c (.int .i64 1)), (.c (.int .i64 1073741824))], none, [], []⟩,
  ⟨some 10, .un .not (.t 9), none, [], []⟩,
  ⟨some 11, .mov (.t 10), none, [], []⟩,
  ⟨some 12, .mov (.t 2), some (11, false), [], []⟩,
  ⟨some 13, .call false 48 [(.t 12), (.c (.int .i64 1)), (.c (.int .i64 16))], some (11, false), [], []⟩,
  ⟨some 14, .un .not (.t 13), some (11, false), [], []⟩,
  ⟨some 15, .pick (.t 11) (.c (.bool true)) (.t 14), none, [], []⟩] false)
 (.cond (.t 15) (.seq (.region [⟨some 6, .mov (.c (.bool false)), none, [], []⟩] false)
 .ret) .skip))
 (.seq (.seq (.region [⟨some 7, .mov (.c (.int .i64 0)), none, [], []⟩] false)
 (.block 0 (.loop (.keep [0, 1, 2, 7] (.seq (.seq (.region [⟨some 16, .mov (.t 7), none, [], []⟩,
  ⟨some 17, .mov (.t 0), none, [], []⟩,
  ⟨some 18, .len (.t 17), none, [], []⟩,
  ⟨some 19, .bin .lss (.t 16) (.t 18), none, [], []⟩] false)
 (.cond (.t 19) .skip (.exit 0)))
 (.seq (.block 1 (.seq (.region [⟨some 22, .mov (.t 0), none, [23, 27], []⟩,
  ⟨some 23, .mov (.t 7), none, [22, 27], []⟩,
  ⟨some 24, .iad 2 (.t 22) (.t 23), none, [27], [0, 1]⟩,
  ⟨some 25, .fad 0 (.t 24), none, [27], [0, 1, 2]⟩,
  ⟨some 26, .load false 1 (.t 25), none, [27], [0, 1, 2, 3]⟩,
  ⟨some 27, .mov (.t 1), none, [22, 23, 24, 25, 26], []⟩,
  ⟨some 28, .bin .leq (.t 26) (.t 27), none, [], [0, 1, 2, 3, 4, 5]⟩,
  ⟨some 29, .mov (.t 28), none, [], [0, 1, 2, 3, 4, 5, 6]⟩,
  ⟨some 30, .mov (.t 0), some (29, false), [31, 35, 36, 37], [0, 1, 2, 3, 4, 5, 6, 7]⟩,
  ⟨some 31, .mov (.t 7), some (29, false), [30, 35, 36, 37], [0, 1, 2, 3, 4, 5, 6, 7]⟩,
  ⟨some 32, .iad 2 (.t 30) (.t 31), some (29, false), [35, 36, 37], [0, 1, 2, 3, 4, 5, 6, 7, 8, 9]⟩,
  ⟨some 33, .fad 0 (.t 32), some (29, false), [35, 36, 37], [0, 1, 2, 3, 4, 5, 6, 7, 8, 9, 10]⟩,
  ⟨some 34, .load false 1 (.t 33), some (29, false), [35, 36, 37], [0, 1, 2, 3, 4, 5, 6, 7, 8, 9, 10, 11]⟩,
  ⟨some 35, .mov (.t 1), some (29, false), [30, 31, 32, 33, 34, 36], [0, 1, 2, 3, 4, 5, 6, 7]⟩,
  ⟨some 36, .mov (.t 2), some (29, false), [30, 31, 32, 33, 34, 35], [0, 1, 2, 3, 4, 5, 6, 7]⟩,
  ⟨some 37, .bin .add (.t 35) (.t 36), some (29, false), [30, 31, 32, 33, 34], [0, 1, 2, 3, 4, 5, 6, 7, 13, 14]⟩,
  ⟨some 38, .bin .geq (.t 34) (.t 37), some (29, false), [], [0, 1, 2, 3, 4, 5, 6, 7, 8, 9, 10, 11, 12, 13, 14, 15]⟩,
  ⟨some 39, .pick (.t 29) (.c (.bool true)) (.t 38), none, [], [0, 1, 2, 3, 4, 5, 6, 7, 8, 9, 10, 11, 12, 13, 14, 15, 16]⟩,
  ⟨some 40, .mov (.t 39), none, [], [0, 1, 2, 3, 4, 5, 6, 7, 8, 9, 10, 11, 12, 13, 14, 15, 16, 17]⟩,
  ⟨some 41, .mov (.t 0), some (40, false), [42], [0, 1, 2, 3, 4, 5, 6, 7, 8, 9, 10, 11, 12, 13, 14, 15, 16, 17, 18]⟩,
  ⟨some 42, .mov (.t 7), some (40, false), [41], [0, 1, 2, 3, 4, 5, 6, 7, 8, 9, 10, 11, 12, 13, 14, 15, 16, 17, 18]⟩,
  ⟨some 43, .iad 2 (.t 41) (.t 42), some (40, false), [], [0, 1, 2, 3, 4, 5, 6, 7, 8, 9, 10, 11, 12, 13, 14, 15, 16, 17, 18, 19, 20]⟩,
  ⟨some 44, .fad 0 (.t 43), some (40, false), [], [0, 1, 2, 3, 4, 5, 6, 7, 8, 9, 10, 11, 12, 13, 14, 15, 16, 17, 18, 19, 20, 21]⟩,
  ⟨some 45, .load false 1 (.t 44), some (40, false), [], [0, 1, 2, 3, 4, 5, 6, 7, 8, 9, 10, 11, 12, 13, 14, 15, 16, 17, 18, 19, 20, 21, 22]⟩,
  ⟨some 46, .bin .geq (.t 45) (.c (.int .i64 1073741824)), some (40, false), [], [0, 1, 2, 3, 4, 5, 6, 7, 8, 9, 10, 11, 12, 13, 14, 15, 16, 17, 18, 19, 20, 21, 22, 23]⟩,
  ⟨some 47, .pick (.t 40) (.c (.bool true)) (.t 46), none, [], [0, 1, 2, 3, 4, 5, 6, 7, 8, 9, 10, 11, 12, 13, 14, 15, 16, 17, 18, 19, 20, 21, 22, 23, 24]⟩,
  ⟨some 48, .mov (.t 47), none, [], [0, 1, 2, 3, 4, 5, 6, 7, 8, 9, 10, 11, 12, 13, 14, 15, 16, 17, 18, 19, 20, 21, 22, 23, 24, 25]⟩,
  ⟨some 49, .mov (.t 7), some (48, false), [], [0, 1, 2, 3, 4, 5, 6, 7, 8, 9, 10, 11, 12, 13, 14, 15, 16, 17, 18, 19, 20, 21, 22, 23, 24, 25, 26]⟩,
  ⟨some 50, .bin .gtr (.t 49) (.c (.int .i64 0)), some (48, false), [], [0, 1, 2, 3, 4, 5, 6, 7, 8, 9, 10, 11, 12, 13, 14, 15, 16, 17, 18, 19, 20, 21, 22, 23, 24, 25, 26, 27]⟩,
  ⟨some 51, .mov (.t 50), some (48, false), [], [0, 1, 2, 3, 4, 5, 6, 7, 8, 9, 10, 11, 12, 13, 14, 15, 16, 17, 18, 19, 20, 21, 22, 23, 24, 25, 26, 27, 28]⟩,
  ⟨some 52, .mov (.t 0), some (51, true), [53, 57, 58, 59, 60, 61, 62], [0, 1, 2, 3, 4, 5, 6, 7, 8, 9, 10, 11, 12, 13, 14, 15, 16, 17, 18, 19, 20, 21, 22, 23, 24, 25, 26, 27, 28, 29]⟩,
  ⟨some 53, .mov (.t 7), some (51, true), [52, 57, 58, 59, 60, 61, 62], [0, 1, 2, 3, 4, 5, 6, 7, 8, 9, 10, 11, 12, 13, 14, 15, 16, 17, 18, 19, 20, 21, 22, 23, 24, 25, 26, 27, 28, 29]⟩,
  ⟨some 54, .iad 2 (.t 52) (.t 53), some (51, true), [57, 58, 59, 60, 61, 62], [0, 1, 2, 3, 4, 5, 6, 7, 8, 9, 10, 11, 12, 13, 14, 15, 16, 17, 18, 19, 20, 21, 22, 23, 24, 25, 26, 27, 28, 29, 30, 31]⟩,
  ⟨some 55, .fad 0 (.t 54), some (51, true), [57, 58, 59, 60, 61, 62], [0, 1, 2, 3, 4, 5, 6, 7, 8, 9, 10, 11, 12, 13, 14, 15, 16, 17, 18, 19, 20, 21, 22, 23, 24, 25, 26, 27, 28, 29, 30, 31, 32]⟩,
  ⟨some 56, .load false 1 (.t 55), some (51, true), [57, 58, 59, 60, 61, 62], [0, 1, 2, 3, 4, 5, 6, 7, 8, 9, 10, 11, 12, 13, 14, 15, 16, 17, 18, 19, 20, 21, 22, 23, 24, 25, 26, 27, 28, 29, 30, 31, 32, 33]⟩,
  ⟨some 57, .mov (.t 0), some (51, true), [52, 53, 54, 55, 56, 58, 59], [0, 1, 2, 3, 4, 5, 6, 7, 8, 9, 10, 11, 12, 13, 14, 15, 16, 17, 18, 19, 20, 21, 22, 23, 24, 25, 26, 27, 28, 29]⟩,
  ⟨some 58, .mov (.t 7), some (51, true), [52, 53, 54, 55, 56, 57], [0, 1, 2, 3, 4, 5, 6, 7, 8, 9, 10, 11, 12, 13, 14, 15, 16, 17, 18, 19, 20, 21, 22, 23, 24, 25, 26, 27, 28, 29]⟩,
  ⟨some 59, .bin .sub (.t 58) (.c (.int .i64 1)), some (51, true), [52, 53, 54, 55, 56, 57], [0, 1, 2, 3, 4, 5, 6, 7, 8, 9, 10, 11, 12, 13, 14, 15, 16, 17, 18, 19, 20, 21, 22, 23, 24, 25, 26, 27, 28, 29, 36]⟩,
  ⟨some 60, .iad 2 (.t 57) (.t 59), some (51, true), [52, 53, 54, 55, 56], [0, 1, 2, 3, 4, 5, 6, 7, 8, 9, 10, 11, 12, 13, 14, 15, 16, 17, 18, 19, 20, 21, 22, 23, 24, 25, 26, 27, 28, 29, 35, 36, 37]⟩,
  ⟨some 61, .fad 0 (.t 60), some (51, true), [52, 53, 54, 55, 56], [0, 1, 2, 3, 4, 5, 6, 7, 8, 9, 10, 11, 12, 13, 14, 15, 16, 17, 18, 19, 20, 21, 22, 23, 24, 25, 26, 27, 28, 29, 35, 36, 37, 38]⟩,
  ⟨some 62, .load false 1 (.t 61), some (51, true), [52, 53, 54, 55, 56], [0, 1, 2, 3, 4, 5, 6, 7, 8, 9, 10, 11, 12, 13, 14, 15, 16, 17, 18, 19, 20, 21, 22, 23, 24, 25, 26, 27, 28, 29, 35, 36, 37, 38, 39]⟩,
  ⟨some 63, .bin .leq (.t 56) (.t 62), some (51, true), [], [0, 1, 2, 3, 4, 5, 6, 7, 8, 9, 10, 11, 12, 13, 14, 15, 16, 17, 18, 19, 20, 21, 22, 23, 24, 25, 26, 27, 28, 29, 30, 31, 32, 33, 34, 35, 36, 37, 38, 39, 40]⟩,
  ⟨some 64, .pick (.t 51) (.t 63) (.c (.bool false)), some (48, false), [], [0, 1, 2, 3, 4, 5, 6, 7, 8, 9, 10, 11, 12, 13, 14, 15, 16, 17, 18, 19, 20, 21, 22, 23, 24, 25, 26, 27, 28, 29, 30, 31, 32, 33, 34, 35, 36, 37, 38, 39, 40, 41]⟩,
  ⟨some 65, .pick (.t 48) (.c (.bool true)) (.t 64), none, [], [0, 1, 2, 3, 4, 5, 6, 7, 8, 9, 10, 11, 12, 13, 14, 15, 16, 17, 18, 19, 20, 21, 22, 23, 24, 25, 26, 27, 28, 29, 30, 31, 32, 33, 34, 35, 36, 37, 38, 39, 40, 41, 42]⟩,
  ⟨some 66, .mov (.t 65), none, [], [0, 1, 2, 3, 4, 5, 6, 7, 8, 9, 10, 11, 12, 13, 14, 15, 16, 17, 18, 19, 20, 21, 22, 23, 24, 25, 26, 27, 28, 29, 30, 31, 32, 33, 34, 35, 36, 37, 38, 39, 40, 41, 42, 43]⟩,
  ⟨some 67, .mov (.t 0), some (66, false), [68], [0, 1, 2, 3, 4, 5, 6, 7, 8, 9, 10, 11, 12, 13, 14, 15, 16, 17, 18, 19, 20, 21, 22, 23, 24, 25, 26, 27, 28, 29, 30, 31, 32, 33, 34, 35, 36, 37, 38, 39, 40, 41, 42, 43, 44]⟩,
  ⟨some 68, .mov (.t 7), some (66, false), [67], [0, 1, 2, 3, 4, 5, 6, 7, 8, 9, 10, 11, 12, 13, 14, 15, 16, 17, 18, 19, 20, 21, 22, 23, 24, 25, 26, 27, 28, 29, 30, 31, 32, 33, 34, 35, 36, 37, 38, 39, 40, 41, 42, 43, 44]⟩,
  ⟨some 69, .iad 2 (.t 67) (.t 68), some (66, false), [], [0, 1, 2, 3, 4, 5, 6, 7, 8, 9, 10, 11, 12, 13, 14, 15, 16, 17, 18, 19, 20, 21, 22, 23, 24, 25, 26, 27, 28, 29, 30, 31, 32, 33, 34, 35, 36, 37, 38, 39, 40, 41, 42, 43, 44, 45, 46]⟩,
  ⟨some 70, .fad 1 (.t 69), some (66, false), [], [0, 1, 2, 3, 4, 5, 6, 7, 8, 9, 10, 11, 12, 13, 14, 15, 16, 17, 18, 19, 20, 21, 22, 23, 24, 25, 26, 27, 28, 29, 30, 31, 32, 33, 34, 35, 36, 37, 38, 39, 40, 41, 42, 43, 44, 45, 46, 47]⟩,
  ⟨some 71, .load false 1 (.t 70), some (66, false), [], [0, 1, 2, 3, 4, 5, 6, 7, 8, 9, 10, 11, 12, 13, 14, 15, 16, 17, 18, 19, 20, 21, 22, 23, 24, 25, 26, 27, 28, 29, 30, 31, 32, 33, 34, 35, 36, 37, 38, 39, 40, 41, 42, 43, 44, 45, 46, 47, 48]⟩,
  ⟨some 72, .call false 44 [(.t 71)], some (66, false), [], [0, 1, 2, 3, 4, 5, 6, 7, 8, 9, 10, 11, 12, 13, 14, 15, 16, 17, 18, 19, 20, 21, 22, 23, 24, 25, 26, 27, 28, 29, 30, 31, 32, 33, 34, 35, 36, 37, 38, 39, 40, 41, 42, 43, 44, 45, 46, 47, 48, 49]⟩,
  ⟨some 73, .un .not (.t 72), some (66, false), [], [0, 1, 2, 3, 4, 5, 6, 7, 8, 9, 10, 11, 12, 13, 14, 15, 16, 17, 18, 19, 20, 21, 22, 23, 24, 25, 26, 27, 28, 29, 30, 31, 32, 33, 34, 35, 36, 37, 38, 39, 40, 41, 42, 43, 44, 45, 46, 47, 48, 49, 50]⟩,
  ⟨some 74, .pick (.t 66) (.c (.bool true)) (.t 73), none, [], [0, 1, 2, 3, 4, 5, 6, 7, 8, 9, 10, 11, 12, 13, 14, 15, 16, 17, 18, 19, 20, 21, 22, 23, 24, 25, 26, 27, 28, 29, 30, 31, 32, 33, 34, 35, 36, 37, 38, 39, 40, 41, 42, 43, 44, 45, 46, 47, 48, 49, 50, 51]⟩] true)
 (.cond (.t 74) (.seq (.region [⟨some 6, .mov (.c (.bool false)), none, [], []⟩] false)
 .ret) .skip)))
 (.region [⟨some 20, .mov (.t 7), none, [], []⟩,
  ⟨some 21, .bin .add (.t 20) (.c (.int .i64 1)), none, [], []⟩,
  ⟨some 7, .mov (.t 21), none, [], []⟩] false)))))))
 (.seq (.region [⟨some 6, .mov (.c (.bool true)), none, [], []⟩] false)
 .ret))))
def i41 : F := ⟨3, 75, j41, [.t 6]⟩
theorem b41 : i41.body = j41 := rfl
theorem q41 : i41.res = [.t 6] := rfl
theorem c41 : chkF Try.prog Try.f41 i41 = true := by kernel_rfl
theorem s41 {m : Model} {E : Nat → Model} (hE : ∀ f, Sound Try.prog f (E f)) (hm : ∀ args r, m args = some r → ∃ N, i41.ev E N args = some r) : Sound Try.prog 41 m := sound_of i41 Try.func41 rfl c41 hE hm
/-- bellwether/ahead.Check -/
def j42 : C := (.seq (.region [⟨some 6, .mov (.c (.int .i64 0)), none, [], []⟩] false)
 (.seq (.seq (.region [⟨some 9, .mov (.t 1), none, [], []⟩,
  ⟨some 10, .call false 61 [(.t 9)], none, [], []⟩,
  ⟨some 11, .un .not (.t 10), none, [], []⟩,
  ⟨some 12, .mov (.t 11), none, [], []⟩,
  ⟨some 13, .mov (.t 2), some (12, false), [], []⟩,
  ⟨some 14, .bin .lss (.t 13) (.c (.int .i64 1)), some (12, false), [], []⟩,
  ⟨some 15, .pick (.t 12) (.c (.bool true)) (.t 14), none, [], []⟩,
  ⟨some 16, .mov (.t 15), none, [], []⟩,
  ⟨some 17, .mov (.t 2), some (16, false), [], []⟩,
  ⟨some 18, .bin .gtr (.t 17) (.c (.int .i64 16)), some (16, false), [], []⟩,
  ⟨some 19, .pick (.t 16) (.c (.bool true)) (.t 18), none, [], []⟩] false)
 (.cond (.t 19) (.seq (.region [⟨some 6, .mov (.c (.int .i64 1)), none, [], []⟩] false)
 .ret) .skip))
 (.seq (.seq (.region [⟨some 20, .mov (.t 0), none, [], []⟩,
  ⟨some 21, .len (.t 20), none, [], []⟩,
  ⟨some 22, .mov (.c (.int .i64 0)), none, [], []⟩] false)
 (.block 0 (.loop (.keep [0, 1, 2, 20, 21, 22] (.seq (.region [⟨some 23, .bin .lss (.t 22) (.t 21), none, [], []⟩] false)
 (.seq (.cond (.t 23) .skip (.exit 0))
 (.seq (.block 1 (.seq (.region [⟨some 24, .mov (.t 22), none, [], []⟩,
  ⟨some 25, .iad 2 (.t 20) (.t 22), none, [], []⟩,
  ⟨some 26, .load true 2 (.t 25), none, [], []⟩,
  ⟨some 8, .alloc [.int .i64 0, .int .i64 0], none, [], []⟩,
  ⟨some 7, .mov (.t 24), none, [], []⟩,
  ⟨none, .store none 2 (.t 8) (.t 26), none, [], []⟩] false)
 (.seq (.region [⟨some 27, .fad 0 (.t 8), none, [29, 30], []⟩,
  ⟨some 28, .load false 1 (.t 27), none, [29, 30], [0]⟩,
  ⟨some 29, .mov (.t 1), none, [27, 28, 30], []⟩,
  ⟨some 30, .mov (.t 2), none, [27, 28, 29], []⟩,
  ⟨some 31, .call false 68 [(.t 28), (.t 29), (.t 30)], none, [], [0, 1, 2, 3]⟩,
  ⟨some 32, .un .not (.t 31), none, [], [0, 1, 2, 3, 4]⟩,
  ⟨some 33, .mov (.t 32), none, [], [0, 1, 2, 3, 4, 5]⟩,
  ⟨some 34, .fad 1 (.t 8), some (33, false), [], [0, 1, 2, 3, 4, 5, 6]⟩,
  ⟨some 35, .load false 1 (.t 34), some (33, false), [], [0, 1, 2, 3, 4, 5, 6, 7]⟩,
  ⟨some 36, .call false 67 [(.t 35)], some (33, false), [], [0, 1, 2, 3, 4, 5, 6, 7, 8]⟩,
  ⟨some 37, .un .not (.t 36), some (33, false), [], [0, 1, 2, 3, 4, 5, 6, 7, 8, 9]⟩,
  ⟨some 38, .pick (.t 33) (.c (.bool true)) (.t 37), none, [], [0, 1, 2, 3, 4, 5, 6, 7, 8, 9, 10]⟩,
  ⟨some 39, .mov (.t 38), none, [], [0, 1, 2, 3, 4, 5, 6, 7, 8, 9, 10, 11]⟩,
  ⟨some 40, .mov (.t 7), some (39, false), [], [0, 1, 2, 3, 4, 5, 6, 7, 8, 9, 10, 11, 12]⟩,
  ⟨some 41, .bin .gtr (.t 40) (.c (.int .i64 0)), some (39, false), [], [0, 1, 2, 3, 4, 5, 6, 7, 8, 9, 10, 11, 12, 13]⟩,
  ⟨some 42, .mov (.t 41), some (39, false), [], [0, 1, 2, 3, 4, 5, 6, 7, 8, 9, 10, 11, 12, 13, 14]⟩,
  ⟨some 43, .mov (.t 0), some (42, true), [44, 45, 49, 50], [0, 1, 2, 3, 4, 5, 6, 7, 8, 9, 10, 11, 12, 13, 14, 15]⟩,
  ⟨some 44, .mov (.t 7), some (42, true), [43, 49, 50], [0, 1, 2, 3, 4, 5, 6, 7, 8, 9, 10, 11, 12, 13, 14, 15]⟩,
  ⟨some 45, .bin .sub (.t 44) (.c (.int .i64 1)), some (42, true), [43, 49, 50], [0, 1, 2, 3, 4, 5, 6, 7, 8, 9, 10, 11, 12, 13, 14, 15, 17]⟩,
  ⟨some 46, .iad 2 (.t 43) (.t 45), some (42, true), [49, 50], [0, 1, 2, 3, 4, 5, 6, 7, 8, 9, 10, 11, 12, 13, 14, 15, 16, 17, 18]⟩,
  ⟨some 47, .fad 0 (.t 46), some (42, true), [49, 50], [0, 1, 2, 3, 4, 5, 6, 7, 8, 9, 10, 11, 12, 13, 14, 15, 16, 17, 18, 19]⟩,
  ⟨some 48, .load false 1 (.t 47), some (42, true), [49, 50], [0, 1, 2, 3, 4, 5, 6, 7, 8, 9, 10, 11, 12, 13, 14, 15, 16, 17, 18, 19, 20]⟩,
  ⟨some 49, .fad 0 (.t 8), some (42, true), [43, 44, 45, 46, 47, 48], [0, 1, 2, 3, 4, 5, 6, 7, 8, 9, 10, 11, 12, 13, 14, 15]⟩,
  ⟨some 50, .load false 1 (.t 49), some (42, true), [43, 44, 45, 46, 47, 48], [0, 1, 2, 3, 4, 5, 6, 7, 8, 9, 10, 11, 12, 13, 14, 15, 22]⟩,
  ⟨some 51, .bin .geq (.t 48) (.t 50), some (42, true), [], [0, 1, 2, 3, 4, 5, 6, 7, 8, 9, 10, 11, 12, 13, 14, 15, 16, 17, 18, 19, 20, 21, 22, 23]⟩,
  ⟨some 52, .pick (.t 42) (.t 51) (.c (.bool false)), some (39, false), [], [0, 1, 2, 3, 4, 5, 6, 7, 8, 9, 10, 11, 12, 13, 14, 15, 16, 17, 18, 19, 20, 21, 22, 23, 24]⟩,
  ⟨some 53, .pick (.t 39) (.c (.bool true)) (.t 52), none, [], [0, 1, 2, 3, 4, 5, 6, 7, 8, 9, 10, 11, 12, 13, 14, 15, 16, 17, 18, 19, 20, 21, 22, 23, 24, 25]⟩] true)
 (.cond (.t 53) (.seq (.region [⟨some 6, .mov (.c (.int .i64 1)), none, [], []⟩] false)
 .ret) .skip))))
 (.region [⟨some 54, .bin .add (.t 22) (.c (.int .i64 1)), none, [], []⟩,
  ⟨some 22, .mov (.t 54), none, [], []⟩] false))))))))
 (.seq (.region [⟨some 6, .mov (.c (.int .i64 0)), none, [], []⟩] false)
 .ret))))
def i42 : F := ⟨3, 55, j42, [.t 6]⟩
theorem b42 : i42.body = j42 := rfl
theorem q42 : i42.res = [.t 6] := rfl
theorem c42 : chkF Try.prog Try.f42 i42 = true := by kernel_rfl
theorem s42 {m : Model} {E : Nat → Model} (hE : ∀ f, Sound Try.prog f (E f)) (hm : ∀ args r, m args = some r → ∃ N, i42.ev E N args = some r) : Sound Try.prog 42 m := sound_of i42 Try.func42 rfl c42 hE hm
/-- bellwether/bellwetherlaw16.wakes -/
def j43 : C := (.seq (.region [⟨some 0, .mov (.c (.bool false)), none, [], []⟩] false)
 (.seq (.region [⟨some 9, .build [.int .i64 0, .int .i64 0] [(0, 1, (.c (.int .i64 4)))], none, [], []⟩,
  ⟨some 10, .call true 37 [(.c (.row [])), (.c (.int .i64 2)), (.c (.int .i64 4)), (.t 9)], none, [], []⟩,
  ⟨some 8, .mov (.t 10), none, [], []⟩,
  ⟨some 11, .ext (.t 8) 0, none, [], []⟩,
  ⟨some 12, .ext (.t 8) 1, none, [], []⟩,
  ⟨some 1, .mov (.t 11), none, [], []⟩,
  ⟨some 2, .mov (.t 12), none, [], []⟩] false)
 (.seq (.region [⟨some 14, .mov (.t 1), none, [], []⟩,
  ⟨some 15, .build [.int .i64 0, .int .i64 0] [(0, 1, (.c (.int .i64 3))), (1, 1, (.c (.int .i64 7)))], none, [], []⟩,
  ⟨some 16, .call true 37 [(.t 14), (.c (.int .i64 2)), (.c (.int .i64 4)), (.t 15)], none, [], []⟩,
  ⟨some 13, .mov (.t 16), none, [], []⟩,
  ⟨some 17, .ext (.t 13) 0, none, [], []⟩,
  ⟨some 18, .ext (.t 13) 1, none, [], []⟩,
  ⟨some 1, .mov (.t 17), none, [], []⟩,
  ⟨some 3, .mov (.t 18), none, [], []⟩] false)
 (.seq (.region [⟨some 20, .mov (.t 1), none, [], []⟩,
  ⟨some 21, .build [.int .i64 0, .int .i64 0] [(0, 1, (.c (.int .i64 6)))], none, [], []⟩,
  ⟨some 22, .bsl 60 2 1 [.int .i64 0, .int .i64 0] [(0, (.t 21))], none, [], []⟩,
  ⟨some 23, .apk 60 2 16 (.t 20) (.t 22), none, [], []⟩,
  ⟨some 24, .call false 38 [(.t 23), (.c (.int .i64 3))], none, [], []⟩,
  ⟨some 19, .mov (.t 24), none, [], []⟩,
  ⟨some 25, .ext (.t 19) 0, none, [], []⟩,
  ⟨some 26, .ext (.t 19) 1, none, [], []⟩,
  ⟨some 4, .mov (.t 25), none, [], []⟩,
  ⟨some 5, .mov (.t 26), none, [], []⟩] false)
 (.seq (.region [⟨some 28, .build [.int .i64 0, .int .i64 0] [(0, 1, (.c (.int .i64 6)))], none, [], []⟩,
  ⟨some 29, .call false 37 [(.c (.row [])), (.c (.int .i64 2)), (.c (.int .i64 4)), (.t 28)], none, [], []⟩,
  ⟨some 27, .mov (.t 29), none, [], []⟩,
  ⟨some 30, .ext (.t 27) 0, none, [], []⟩,
  ⟨some 31, .ext (.t 27) 1, none, [], []⟩,
  ⟨some 6, .mov (.t 30), none, [], []⟩,
  ⟨some 7, .mov (.t 31), none, [], []⟩] false)
 (.seq (.region [⟨some 32, .mov (.t 2), none, [], []⟩,
  ⟨some 33, .bin .eql (.t 32) (.c (.int .i64 0)), none, [], []⟩,
  ⟨some 34, .mov (.t 33), none, [], []⟩,
  ⟨some 35, .mov (.t 3), some (34, true), [], []⟩,
  ⟨some 36, .bin .eql (.t 35) (.c (.int .i64 0)), some (34, true), [], []⟩,
  ⟨some 37, .pick (.t 34) (.t 36) (.c (.bool false)), none, [], []⟩,
  ⟨some 38, .mov (.t 37), none, [], []⟩,
  ⟨some 39, .mov (.t 1), some (38, true), [], []⟩,
  ⟨some 40, .len (.t 39), some (38, true), [], []⟩,
  ⟨some 41, .bin .eql (.t 40) (.c (.int .i64 2)), some (38, true), [], []⟩,
  ⟨some 42, .pick (.t 38) (.t 41) (.c (.bool false)), none, [], []⟩,
  ⟨some 43, .mov (.t 42), none, [], []⟩,
  ⟨some 44, .mov (.t 1), some (43, true), [], []⟩,
  ⟨some 45, .iad 2 (.t 44) (.c (.int .i64 0)), some (43, true), [], []⟩,
  ⟨some 46, .fad 0 (.t 45), some (43, true), [], []⟩,
  ⟨some 47, .load false 1 (.t 46), some (43, true), [], []⟩,
  ⟨some 48, .bin .eql (.t 47) (.c (.int .i64 3)), some (43, true), [], []⟩,
  ⟨some 49, .pick (.t 43) (.t 48) (.c (.bool false)), none, [], []⟩,
  ⟨some 50, .mov (.t 49), none, [], []⟩,
  ⟨some 51, .mov (.t 4), some (50, true), [], []⟩,
  ⟨some 52, .len (.t 51), some (50, true), [], []⟩,
  ⟨some 53, .bin .eql (.t 52) (.c (.int .i64 2)), some (50, true), [], []⟩,
  ⟨some 54, .pick (.t 50) (.t 53) (.c (.bool false)), none, [], []⟩,
  ⟨some 55, .mov (.t 54), none, [], []⟩,
  ⟨some 56, .mov (.t 5), some (55, true), [], []⟩,
  ⟨some 57, .len (.t 56), some (55, true), [], []⟩,
  ⟨some 58, .bin .eql (.t 57) (.c (.int .i64 1)), some (55, true), [], []⟩,
  ⟨some 59, .pick (.t 55) (.t 58) (.c (.bool false)), none, [], []⟩,
  ⟨some 60, .mov (.t 59), none, [], []⟩,
  ⟨some 61, .mov (.t 7), some (60, true), [], []⟩,
  ⟨some 62, .bin .eql (.t 61) (.c (.int .i64 6)), some (60, true), [], []⟩,
  ⟨some 63, .pick (.t 60) (.t 62) (.c (.bool false)), none, [], []⟩,
  ⟨some 64, .mov (.t 63), none, [], []⟩,
  ⟨some 65, .call false 42 [(.c (.row [])), (.c (.int .i64 0)), (.c (.int .i64 1))], some (64, true), [], []⟩,
  ⟨some 66, .bin .eql (.t 65) (.c (.int .i64 1)), some (64, true), [], []⟩,
  ⟨some 67, .pick (.t 64) (.t 66) (.c (.bool false)), none, [], []⟩,
  ⟨some 0, .mov (.t 67), none, [], []⟩] false)
 .ret))))))
def i43 : F := ⟨0, 68, j43, [.t 0]⟩
theorem b43 : i43.body = j43 := rfl
theorem q43 : i43.res = [.t 0] := rfl
theorem c43 : chkF Try.prog Try.f43 i43 = true := by kernel_rfl
theorem s43 {m : Model} {E : Nat → Model} (hE : ∀ f, Sound Try.prog f (E f)) (hm : ∀ args r, m args = some r → ∃ N, i43.ev E N args = some r) : Sound Try.prog 43 m := sound_of i43 Try.func43 rfl c43 hE hm
/-- bellwether/bellwetherref01.Value -/
def j44 : C := (.seq (.region [⟨some 2, .mov (.c (.bool false)), none, [], []⟩] false)
 (.seq (.region [⟨some 3, .mov (.t 0), none, [], []⟩,
  ⟨some 4, .call false 55 [(.t 3), (.c (.int .i64 0)), (.c (.int .i64 2147483647))], none, [], []⟩,
  ⟨some 2, .mov (.t 4), none, [], []⟩] false)
 .ret))
def i44 : F := ⟨1, 5, j44, [.t 2]⟩
theorem b44 : i44.body = j44 := rfl
theorem q44 : i44.res = [.t 2] := rfl
theorem c44 : chkF Try.prog Try.f44 i44 = true := by kernel_rfl
theorem s44 {m : Model} {E : Nat → Model} (hE : ∀ f, Sound Try.prog f (E f)) (hm : ∀ args r, m args = some r → ∃ N, i44.ev E N args = some r) : Sound Try.prog 44 m := sound_of i44 Try.func44 rfl c44 hE hm
/-- bellwether/bellwetherref10.Add -/
def j45 : C := (.seq (.region [⟨some 7, .box (.t 3), none, [], []⟩,
  ⟨some 8, .nilsl 60 2 0, none, [], []⟩,
  ⟨some 9, .mov (.c (.int .i64 0)), none, [], []⟩] false)
 (.seq (.seq (.region [⟨some 13, .fad 0 (.t 7), none, [], []⟩,
  ⟨some 14, .load false 1 (.t 13), none, [], []⟩,
  ⟨some 15, .mov (.t 1), none, [], []⟩,
  ⟨some 16, .bin .leq (.t 14) (.t 15), none, [], []⟩,
  ⟨some 17, .mov (.t 16), none, [], []⟩,
  ⟨some 18, .fad 0 (.t 7), some (17, false), [], []⟩,
  ⟨some 19, .load false 1 (.t 18), some (17, false), [], []⟩,
  ⟨some 20, .mov (.t 1), some (17, false), [], []⟩,
  ⟨some 21, .mov (.t 2), some (17, false), [], []⟩,
  ⟨some 22, .bin .add (.t 20) (.t 21), some (17, false), [], []⟩,
  ⟨some 23, .bin .geq (.t 19) (.t 22), some (17, false), [], []⟩,
  ⟨some 24, .pick (.t 17) (.c (.bool true)) (.t 23), none, [], []⟩,
  ⟨some 25, .mov (.t 24), none, [], []⟩,
  ⟨some 26, .fad 0 (.t 7), some (25, false), [], []⟩,
  ⟨some 27, .load false 1 (.t 26), some (25, false), [], []⟩,
  ⟨some 28, .bin .geq (.t 27) (.c (.int .i64 1073741824)), some (25, false), [], []⟩,
  ⟨some 29, .pick (.t 25) (.c (.bool true)) (.t 28), none, [], []⟩] false)
 (.cond (.t 29) (.seq (.region [⟨some 8, .nilsl 60 2 1, none, [], []⟩,
  ⟨some 9, .mov (.c (.int .i64 6)), none, [], []⟩] false)
 .ret) .skip))
 (.seq (.region [⟨some 10, .nilsl 60 2 0, none, [], []⟩] false)
 (.seq (.region [⟨some 11, .mov (.c (.bool false)), none, [], []⟩] false)
 (.seq (.seq (.region [⟨some 12, .mov (.c (.int .i64 0)), none, [], []⟩] false)
 (.block 0 (.loop (.keep [0, 7, 10, 11, 12] (.seq (.seq (.region [⟨some 30, .mov (.t 12), none, [], []⟩,
  ⟨some 31, .mov (.t 0), none, [], []⟩,
  ⟨some 32, .len (.t 31), none, [], []⟩,
  ⟨some 33, .bin .lss (.t 30) (.t 32), none, [], []⟩] false)
 (.cond (.t 33) .skip (.exit 0)))
 (.seq (.block 1 (.seq (.seq (.region [⟨some 36, .mov (.t 0), none, [37, 41, 42], []⟩,
  ⟨some 37, .mov (.t 12), none, [36, 41, 42], []⟩,
  ⟨some 38, .iad 2 (.t 36) (.t 37), none, [41, 42], [0, 1]⟩,
  ⟨some 39, .fad 0 (.t 38), none, [41, 42], [0, 1, 2]⟩,
  ⟨some 40, .load false 1 (.t 39), none, [41, 42], [0, 1, 2, 3]⟩,
  ⟨some 41, .fad 0 (.t 7), none, [36, 37, 38, 39, 40], []⟩,
  ⟨some 42, .load false 1 (.t 41), none, [36, 37, 38, 39, 40], [5]⟩,
  ⟨some 43, .bin .eql (.t 40) (.t 42), none, [], [0, 1, 2, 3, 4, 5, 6]⟩] true)
 (.cond (.t 43) (.seq (.region [⟨some 8, .nilsl 60 2 2, none, [], []⟩,
  ⟨some 9, .mov (.c (.int .i64 8)), none, [], []⟩] false)
 .ret) .skip))
 (.seq (.seq (.region [⟨some 44, .mov (.t 11), none, [], []⟩,
  ⟨some 45, .un .not (.t 44), none, [], [0]⟩,
  ⟨some 46, .mov (.t 45), none, [], [0, 1]⟩,
  ⟨some 47, .fad 0 (.t 7), some (46, true), [49, 50, 51, 52, 53], [0, 1, 2]⟩,
  ⟨some 48, .load false 1 (.t 47), some (46, true), [49, 50, 51, 52, 53], [0, 1, 2, 3]⟩,
  ⟨some 49, .mov (.t 0), some (46, true), [47, 48, 50], [0, 1, 2]⟩,
  ⟨some 50, .mov (.t 12), some (46, true), [47, 48, 49], [0, 1, 2]⟩,
  ⟨some 51, .iad 2 (.t 49) (.t 50), some (46, true), [47, 48], [0, 1, 2, 5, 6]⟩,
  ⟨some 52, .fad 0 (.t 51), some (46, true), [47, 48], [0, 1, 2, 5, 6, 7]⟩,
  ⟨some 53, .load false 1 (.t 52), some (46, true), [47, 48], [0, 1, 2, 5, 6, 7, 8]⟩,
  ⟨some 54, .bin .lss (.t 48) (.t 53), some (46, true), [], [0, 1, 2, 3, 4, 5, 6, 7, 8, 9]⟩,
  ⟨some 55, .pick (.t 46) (.t 54) (.c (.bool false)), none, [], [0, 1, 2, 3, 4, 5, 6, 7, 8, 9, 10]⟩] true)
 (.cond (.t 55) (.region [⟨some 56, .mov (.t 10), none, [], []⟩,
  ⟨some 57, .load true 2 (.t 7), none, [], []⟩,
  ⟨some 58, .bsl 60 2 1 [.int .i64 0, .int .i64 0] [(0, (.t 57))], none, [], []⟩,
  ⟨some 59, .app 60 2 16 (.t 56) (.t 58), none, [], []⟩,
  ⟨some 10, .mov (.t 59), none, [], []⟩,
  ⟨some 11, .mov (.c (.bool true)), none, [], []⟩] false) .skip))
 (.region [⟨some 60, .mov (.t 10), none, [], []⟩,
  ⟨some 61, .mov (.t 0), none, [], []⟩,
  ⟨some 62, .mov (.t 12), none, [], []⟩,
  ⟨some 63, .iad 2 (.t 61) (.t 62), none, [], []⟩,
  ⟨some 64, .load true 2 (.t 63), none, [], []⟩,
  ⟨some 65, .bsl 60 2 1 [.int .i64 0, .int .i64 0] [(0, (.t 64))], none, [], []⟩,
  ⟨some 66, .app 60 2 16 (.t 60) (.t 65), none, [], []⟩,
  ⟨some 10, .mov (.t 66), none, [], []⟩] false))))
 (.region [⟨some 34, .mov (.t 12), none, [], []⟩,
  ⟨some 35, .bin .add (.t 34) (.c (.int .i64 1)), none, [], []⟩,
  ⟨some 12, .mov (.t 35), none, [], []⟩] false)))))))
 (.seq (.seq (.region [⟨some 67, .mov (.t 11), none, [], []⟩,
  ⟨some 68, .un .not (.t 67), none, [], []⟩] false)
 (.cond (.t 68) (.region [⟨some 69, .mov (.t 10), none, [], []⟩,
  ⟨some 70, .load true 2 (.t 7), none, [], []⟩,
  ⟨some 71, .bsl 60 2 1 [.int .i64 0, .int .i64 0] [(0, (.t 70))], none, [], []⟩,
  ⟨some 72, .app 60 2 16 (.t 69) (.t 71), none, [], []⟩,
  ⟨some 10, .mov (.t 72), none, [], []⟩] false) .skip))
 (.seq (.region [⟨some 73, .mov (.t 10), none, [], []⟩,
  ⟨some 8, .mov (.t 73), none, [], []⟩,
  ⟨some 9, .mov (.c (.int .i64 0)), none, [], []⟩] false)
 .ret)))))))
def i45 : F := ⟨4, 74, j45, [.t 8, .t 9]⟩
theorem b45 : i45.body = j45 := rfl
theorem q45 : i45.res = [.t 8, .t 9] := rfl
theorem c45 : chkF Try.prog Try.f45 i45 = true := by kernel_rfl
theorem s45 {m : Model} {E : Nat → Model} (hE : ∀ f, Sound Try.prog f (E f)) (hm : ∀ args r, m args = some r → ∃ N, i45.ev E N args = some r) : Sound Try.prog 45 m := sound_of i45 Try.func45 rfl c45 hE hm
/-- bellwether/bellwetherref10.in -/
def j48 : C := (.seq (.region [⟨some 6, .mov (.c (.bool false)), none, [], []⟩] false)
 (.seq (.region [⟨some 7, .mov (.t 0), none, [], []⟩,
  ⟨some 8, .mov (.t 1), none, [], []⟩,
  ⟨some 9, .bin .geq (.t 7) (.t 8), none, [], []⟩,
  ⟨some 10, .mov (.t 9), none, [], []⟩,
  ⟨some 11, .mov (.t 0), some (10, true), [], []⟩,
  ⟨some 12, .mov (.t 2), some (10, true), [], []⟩,
  ⟨some 13, .bin .leq (.t 11) (.t 12), some (10, true), [], []⟩,
  ⟨some 14, .pick (.t 10) (.t 13) (.c (.bool false)), none, [], []⟩,
  ⟨some 6, .mov (.t 14), none, [], []⟩] false)
 .ret))
def i48 : F := ⟨3, 15, j48, [.t 6]⟩
theorem b48 : i48.body = j48 := rfl
theorem q48 : i48.res = [.t 6] := rfl
theorem c48 : chkF Try.prog Try.f48 i48 = true := by kernel_rfl
theorem s48 {m : Model} {E : Nat → Model} (hE : ∀ f, Sound Try.prog f (E f)) (hm : ∀ args r, m args = some r → ∃ N, i48.ev E N args = some r) : Sound Try.prog 48 m := sound_of i48 Try.func48 rfl c48 hE hm
/-- bellwether/bellwetherref01.In -/
def j55 : C := (.seq (.region [⟨some 6, .mov (.c (.bool false)), none, [], []⟩] false)
 (.seq (.region [⟨some 7, .mov (.t 0), none, [], []⟩,
  ⟨some 8, .mov (.t 1), none, [], []⟩,
  ⟨some 9, .bin .geq (.t 7) (.t 8), none, [], []⟩,
  ⟨some 10, .mov (.t 9), none, [], []⟩,
  ⟨some 11, .mov (.t 0), some (10, true), [], []⟩,
  ⟨some 12, .mov (.t 2), some (10, true), [], []⟩,
  ⟨some 13, .bin .leq (.t 11) (.t 12), some (10, true), [], []⟩,
  ⟨some 14, .pick (.t 10) (.t 13) (.c (.bool false)), none, [], []⟩,
  ⟨some 6, .mov (.t 14), none, [], []⟩] false)
 .ret))
def i55 : F := ⟨3, 15, j55, [.t 6]⟩
theorem b55 : i55.body = j55 := rfl
theorem q55 : i55.res = [.t 6] := rfl
theorem c55 : chkF Try.prog Try.f55 i55 = true := by kernel_rfl
theorem s55 {m : Model} {E : Nat → Model} (hE : ∀ f, Sound Try.prog f (E f)) (hm : ∀ args r, m args = some r → ∃ N, i55.ev E N args = some r) : Sound Try.prog 55 m := sound_of i55 Try.func55 rfl c55 hE hm
/-- bellwether/msg.Counted -/
def j61 : C := (.seq (.region [⟨some 2, .mov (.c (.bool false)), none, [], []⟩] false)
 (.seq (.region [⟨some 3, .mov (.t 0), none, [], []⟩,
  ⟨some 4, .call false 62 [(.t 3), (.c (.int .i64 1)), (.c (.int .i64 1073741824))], none, [], []⟩,
  ⟨some 2, .mov (.t 4), none, [], []⟩] false)
 .ret))
def i61 : F := ⟨1, 5, j61, [.t 2]⟩
theorem b61 : i61.body = j61 := rfl
theorem q61 : i61.res = [.t 2] := rfl
theorem c61 : chkF Try.prog Try.f61 i61 = true := by kernel_rfl
theorem s61 {m : Model} {E : Nat → Model} (hE : ∀ f, Sound Try.prog f (E f)) (hm : ∀ args r, m args = some r → ∃ N, i61.ev E N args = some r) : Sound Try.prog 61 m := sound_of i61 Try.func61 rfl c61 hE hm
/-- bellwether/msg.in -/
def j62 : C := (.seq (.region [⟨some 6, .mov (.c (.bool false)), none, [], []⟩] false)
 (.seq (.region [⟨some 7, .mov (.t 0), none, [], []⟩,
  ⟨some 8, .mov (.t 1), none, [], []⟩,
  ⟨some 9, .bin .geq (.t 7) (.t 8), none, [], []⟩,
  ⟨some 10, .mov (.t 9), none, [], []⟩,
  ⟨some 11, .mov (.t 0), some (10, true), [], []⟩,
  ⟨some 12, .mov (.t 2), some (10, true), [], []⟩,
  ⟨some 13, .bin .leq (.t 11) (.t 12), some (10, true), [], []⟩,
  ⟨some 14, .pick (.t 10) (.t 13) (.c (.bool false)), none, [], []⟩,
  ⟨some 6, .mov (.t 14), none, [], []⟩] false)
 .ret))
def i62 : F := ⟨3, 15, j62, [.t 6]⟩
theorem b62 : i62.body = j62 := rfl
theorem q62 : i62.res = [.t 6] := rfl
theorem c62 : chkF Try.prog Try.f62 i62 = true := by kernel_rfl
theorem s62 {m : Model} {E : Nat → Model} (hE : ∀ f, Sound Try.prog f (E f)) (hm : ∀ args r, m args = some r → ∃ N, i62.ev E N args = some r) : Sound Try.prog 62 m := sound_of i62 Try.func62 rfl c62 hE hm
/-- slices.IndexFunc   bellwether/api.Item bellwether/api.Item  -/
def j65 : C := (.seq (.region [⟨some 4, .mov (.c (.int .i64 0)), none, [], []⟩] false)
 (.seq (.seq (.region [⟨some 6, .mov (.t 0), none, [], []⟩,
  ⟨some 7, .len (.t 6), none, [], []⟩,
  ⟨some 8, .mov (.c (.int .i64 0)), none, [], []⟩] false)
 (.block 0 (.loop (.keep [0, 1, 7, 8] (.seq (.region [⟨some 9, .bin .lss (.t 8) (.t 7), none, [], []⟩] false)
 (.seq (.cond (.t 9) .skip (.exit 0))
 (.seq (.block 1 (.seq (.region [⟨some 10, .mov (.t 8), none, [], []⟩,
  ⟨some 5, .mov (.t 10), none, [], []⟩] false)
 (.seq (.region [⟨some 11, .mov (.t 1), none, [], []⟩,
  ⟨some 12, .mov (.t 0), none, [], []⟩,
  ⟨some 13, .mov (.t 5), none, [], []⟩,
  ⟨some 14, .iad 2 (.t 12) (.t 13), none, [], []⟩,
  ⟨some 15, .load true 2 (.t 14), none, [], []⟩,
  ⟨some 16, .callv false (.t 11) [(.t 15)], none, [], []⟩] false)
 (.cond (.t 16) (.seq (.region [⟨some 17, .mov (.t 5), none, [], []⟩,
  ⟨some 4, .mov (.t 17), none, [], []⟩] false)
 .ret) .skip))))
 (.region [⟨some 18, .bin .add (.t 8) (.c (.int .i64 1)), none, [], []⟩,
  ⟨some 8, .mov (.t 18), none, [], []⟩] false))))))))
 (.seq (.region [⟨some 4, .mov (.c (.int .i64 (-1))), none, [], []⟩] false)
 .ret)))
def i65 : F := ⟨2, 19, j65, [.t 4]⟩
theorem b65 : i65.body = j65 := rfl
theorem q65 : i65.res = [.t 4] := rfl
theorem c65 : chkF Try.prog Try.f65 i65 = true := by kernel_rfl
theorem s65 {m : Model} {E : Nat → Model} (hE : ∀ f, Sound Try.prog f (E f)) (hm : ∀ args r, m args = some r → ∃ N, i65.ev E N args = some r) : Sound Try.prog 65 m := sound_of i65 Try.func65 rfl c65 hE hm
/-- bellwether/ahead.Add$1 -/
def j66 : C := (.seq (.region [⟨some 2, .box (.t 0), none, [], []⟩,
  ⟨some 3, .mov (.c (.bool false)), none, [], []⟩] false)
 (.seq (.region [⟨some 4, .fad 0 (.t 2), none, [], []⟩,
  ⟨some 5, .load false 1 (.t 4), none, [], []⟩,
  ⟨some 6, .fad 0 (.t 1), none, [], []⟩,
  ⟨some 7, .load false 1 (.t 6), none, [], []⟩,
  ⟨some 8, .bin .geq (.t 5) (.t 7), none, [], []⟩,
  ⟨some 3, .mov (.t 8), none, [], []⟩] false)
 .ret))
def i66 : F := ⟨2, 9, j66, [.t 3]⟩
theorem b66 : i66.body = j66 := rfl
theorem q66 : i66.res = [.t 3] := rfl
theorem c66 : chkF Try.prog Try.f66 i66 = true := by kernel_rfl
theorem s66 {m : Model} {E : Nat → Model} (hE : ∀ f, Sound Try.prog f (E f)) (hm : ∀ args r, m args = some r → ∃ N, i66.ev E N args = some r) : Sound Try.prog 66 m := sound_of i66 Try.func66 rfl c66 hE hm
/-- bellwether/msg.Value -/
def j67 : C := (.seq (.region [⟨some 2, .mov (.c (.bool false)), none, [], []⟩] false)
 (.seq (.region [⟨some 3, .mov (.t 0), none, [], []⟩,
  ⟨some 4, .call false 62 [(.t 3), (.c (.int .i64 0)), (.c (.int .i64 2147483647))], none, [], []⟩,
  ⟨some 2, .mov (.t 4), none, [], []⟩] false)
 .ret))
def i67 : F := ⟨1, 5, j67, [.t 2]⟩
theorem b67 : i67.body = j67 := rfl
theorem q67 : i67.res = [.t 2] := rfl
theorem c67 : chkF Try.prog Try.f67 i67 = true := by kernel_rfl
theorem s67 {m : Model} {E : Nat → Model} (hE : ∀ f, Sound Try.prog f (E f)) (hm : ∀ args r, m args = some r → ∃ N, i67.ev E N args = some r) : Sound Try.prog 67 m := sound_of i67 Try.func67 rfl c67 hE hm
/-- bellwether/ahead.fits -/
def j68 : C := (.seq (.region [⟨some 6, .mov (.c (.bool false)), none, [], []⟩] false)
 (.seq (.region [⟨some 7, .mov (.t 0), none, [], []⟩,
  ⟨some 8, .mov (.t 1), none, [], []⟩,
  ⟨some 9, .bin .gtr (.t 7) (.t 8), none, [], []⟩,
  ⟨some 10, .mov (.t 9), none, [], []⟩,
  ⟨some 11, .mov (.t 0), some (10, true), [], []⟩,
  ⟨some 12, .mov (.t 1), some (10, true), [], []⟩,
  ⟨some 13, .mov (.t 2), some (10, true), [], []⟩,
  ⟨some 14, .bin .add (.t 12) (.t 13), some (10, true), [], []⟩,
  ⟨some 15, .bin .lss (.t 11) (.t 14), some (10, true), [], []⟩,
  ⟨some 16, .pick (.t 10) (.t 15) (.c (.bool false)), none, [], []⟩,
  ⟨some 17, .mov (.t 16), none, [], []⟩,
  ⟨some 18, .mov (.t 0), some (17, true), [], []⟩,
  ⟨some 19, .bin .lss (.t 18) (.c (.int .i64 1073741824)), some (17, true), [], []⟩,
  ⟨some 20, .pick (.t 17) (.t 19) (.c (.bool false)), none, [], []⟩,
  ⟨some 6, .mov (.t 20), none, [], []⟩] false)
 .ret))
def i68 : F := ⟨3, 21, j68, [.t 6]⟩
theorem b68 : i68.body = j68 := rfl
theorem q68 : i68.res = [.t 6] := rfl
theorem c68 : chkF Try.prog Try.f68 i68 = true := by kernel_rfl
theorem s68 {m : Model} {E : Nat → Model} (hE : ∀ f, Sound Try.prog f (E f)) (hm : ∀ args r, m args = some r → ∃ N, i68.ev E N args = some r) : Sound Try.prog 68 m := sound_of i68 Try.func68 rfl c68 hE hm
/-- slices.Clone   bellwether/api.Item bellwether/api.Item  -/
def j69 : C := (.seq (.region [⟨some 2, .nilsl 60 2 0, none, [], []⟩] false)
 (.seq (.seq (.region [⟨some 3, .mov (.t 0), none, [], []⟩,
  ⟨some 4, .isnil false (.t 3), none, [], []⟩] false)
 (.cond (.t 4) (.seq (.region [⟨some 2, .nilsl 60 2 1, none, [], []⟩] false)
 .ret) .skip))
 (.seq (.region [⟨some 5, .bsl 60 2 0 [.int .i64 0, .int .i64 0] [], none, [], []⟩,
  ⟨some 6, .mov (.t 0), none, [], []⟩,
  ⟨some 7, .app 60 2 16 (.t 5) (.t 6), none, [], []⟩,
  ⟨some 2, .mov (.t 7), none, [], []⟩] false)
 .ret)))
def i69 : F := ⟨1, 8, j69, [.t 2]⟩
theorem b69 : i69.body = j69 := rfl
theorem q69 : i69.res = [.t 2] := rfl
theorem c69 : chkF Try.prog Try.f69 i69 = true := by kernel_rfl
theorem s69 {m : Model} {E : Nat → Model} (hE : ∀ f, Sound Try.prog f (E f)) (hm : ∀ args r, m args = some r → ∃ N, i69.ev E N args = some r) : Sound Try.prog 69 m := sound_of i69 Try.func69 rfl c69 hE hm
theorem x69 : Sound Try.prog 69 (cloneM 60 2 16) := by
  refine clone_ok (r := fun _ => (.undef, [])) (s69 (E := fun _ _ => none) (fun f => Sound.no) fun args r h => ?_) (sound_nil (fun m hm => s69 (E := fun _ _ => none) (fun f => Sound.no) hm) fun A c => ⟨0, ?_⟩)
  · split at h
    · rename_i y ys
      split at h
      · rename_i hc
        cases h
        refine ⟨0, ?_⟩
        rw [F_ev rfl]
        simp only [j69, b69, q69, qq, oo, pp, purS, S.pur, V.pur, V.pur1, purs, pur1s, mentS, S.ment, S.ment.smt, ments, V.ment, List.append_nil, Hp.ok64, List.all_nil, List.all_cons, S.purT, S.purT.sp, S.self, V.self, selfs, S.self.sself, Hp.self, S.ren, S.ren.sren, V.ren, Hp.ren, true_or, or_true, false_or, or_false, Bool.and_true, Bool.true_and, Bool.and_false, Bool.false_and, Bool.and_self, hand, handSs, handS, handVs, handV, handBs, upTo, one1, List.contains_nil, List.isEmpty_nil, List.take_length, List.getElem?_cons_zero, List.getElem?_cons_succ, fillV, fillR, setAt, List.set_cons_zero, List.set_cons_succ, List.replicate, evE, asRow, callS, callT, callU, names, dedup, blkMents, Blk.mentB, idxOf, V.mapS, S.mapS, S.mapS.smapS, Blk.mapS, encs, encB, isBox, backN, hpBack, killsV, killsS, killsS.ks, killsB, rowsOf, without, keysOk, noTup, boxesOk, fresh, Option.isNone_none, Blk.ren, aloOk, aloV, aloB, frzL, freezes, Go.Proofs.YtjafaefiigingaaR.freeze, drop1, S.frz, S.frz.sf, V.frz, Blk.frz, slMent, pickL, List.map_append, S.kill, S.kill.sk, V.kill, Blk.kill, eqvs, ones, Bool.not_true, Bool.not_false, decide_true, decide_false, List.length_append, Int.le_refl, Int.toNat_natCast, Int.toNat_one, Int.cast_ofNat_Int, List.all_nil, List.contains_cons, Nat.reduceBEq, Bool.false_or, Bool.or_false, Bool.true_or, Bool.or_true, look_hit, look_end, look_miss, List.map_cons, List.map_nil, List.cons_append, List.nil_append, Option.getD_some, Option.getD_none, X.ev, ev, bin, ibin, Option.map_some, Option.map_none, Option.bind_some, S.cells, rd, sub, Go.Proofs.YtjafaefiigingaaR.shape, asI, bnd, evs, Rs.ev, R.ev, params, okKey, Nat.reduceAdd, Nat.reduceMul, Nat.reduceDiv, Nat.reduceEqDiff, Nat.reduceLeDiff, Nat.reduceLT, Int.reduceEq, Int.reduceNe, Int.reduceLT, Int.reduceLE, Int.reduceAdd, Int.reduceSub, Int.reduceMul, Int.reduceNeg, Int.reduceToNat, Int.reducePow, Nat.reducePow, Int.toNat_zero, not_false_eq_true, not_true_eq_false, reduceCtorEq, Nat.zero_add, Nat.add_zero, reduceIte, if_true, if_false, Bool.true_eq_false, Bool.false_eq_true, List.length_cons, List.length_nil, and_self, true_and, and_true, List.drop_zero, List.take_succ_cons, List.take_zero, List.drop_succ_cons, Nat.le_refl, List.replicate, fillR, evE, V.pur1, asRow, List.map_append]
        rw [if_pos ⟨hc.1, by simpa using hc.2⟩]
        simp only [j69, b69, q69, qq, oo, pp, purS, S.pur, V.pur, V.pur1, purs, pur1s, mentS, S.ment, S.ment.smt, ments, V.ment, List.append_nil, Hp.ok64, List.all_nil, List.all_cons, S.purT, S.purT.sp, S.self, V.self, selfs, S.self.sself, Hp.self, S.ren, S.ren.sren, V.ren, Hp.ren, true_or, or_true, false_or, or_false, Bool.and_true, Bool.true_and, Bool.and_false, Bool.false_and, Bool.and_self, hand, handSs, handS, handVs, handV, handBs, upTo, one1, List.contains_nil, List.isEmpty_nil, List.take_length, List.getElem?_cons_zero, List.getElem?_cons_succ, fillV, fillR, setAt, List.set_cons_zero, List.set_cons_succ, List.replicate, evE, asRow, callS, callT, callU, names, dedup, blkMents, Blk.mentB, idxOf, V.mapS, S.mapS, S.mapS.smapS, Blk.mapS, encs, encB, isBox, backN, hpBack, killsV, killsS, killsS.ks, killsB, rowsOf, without, keysOk, noTup, boxesOk, fresh, Option.isNone_none, Blk.ren, aloOk, aloV, aloB, frzL, freezes, Go.Proofs.YtjafaefiigingaaR.freeze, drop1, S.frz, S.frz.sf, V.frz, Blk.frz, slMent, pickL, List.map_append, S.kill, S.kill.sk, V.kill, Blk.kill, eqvs, ones, Bool.not_true, Bool.not_false, decide_true, decide_false, List.length_append, Int.le_refl, Int.toNat_natCast, Int.toNat_one, Int.cast_ofNat_Int, List.all_nil, List.contains_cons, Nat.reduceBEq, Bool.false_or, Bool.or_false, Bool.true_or, Bool.or_true, look_hit, look_end, look_miss, List.map_cons, List.map_nil, List.cons_append, List.nil_append, Option.getD_some, Option.getD_none, X.ev, ev, bin, ibin, Option.map_some, Option.map_none, Option.bind_some, S.cells, rd, sub, Go.Proofs.YtjafaefiigingaaR.shape, asI, bnd, evs, Rs.ev, R.ev, params, okKey, Nat.reduceAdd, Nat.reduceMul, Nat.reduceDiv, Nat.reduceEqDiff, Nat.reduceLeDiff, Nat.reduceLT, Int.reduceEq, Int.reduceNe, Int.reduceLT, Int.reduceLE, Int.reduceAdd, Int.reduceSub, Int.reduceMul, Int.reduceNeg, Int.reduceToNat, Int.reducePow, Nat.reducePow, Int.toNat_zero, not_false_eq_true, not_true_eq_false, reduceCtorEq, Nat.zero_add, Nat.add_zero, reduceIte, if_true, if_false, Bool.true_eq_false, Bool.false_eq_true, List.length_cons, List.length_nil, and_self, true_and, and_true, List.drop_zero, List.take_succ_cons, List.take_zero, List.drop_succ_cons, Nat.le_refl, S.kill, V.kill, Blk.kill, hand, handSs, handS, handVs, handV, List.contains_nil]
        try simp
      · cases h
    · cases h
  · cases A
    · rw [F_ev rfl]
      simp only [j69, b69, q69, qq, oo, pp, purS, S.pur, V.pur, V.pur1, purs, pur1s, mentS, S.ment, S.ment.smt, ments, V.ment, List.append_nil, Hp.ok64, List.all_nil, List.all_cons, S.purT, S.purT.sp, S.self, V.self, selfs, S.self.sself, Hp.self, S.ren, S.ren.sren, V.ren, Hp.ren, true_or, or_true, false_or, or_false, Bool.and_true, Bool.true_and, Bool.and_false, Bool.false_and, Bool.and_self, hand, handSs, handS, handVs, handV, handBs, upTo, one1, List.contains_nil, List.isEmpty_nil, List.take_length, List.getElem?_cons_zero, List.getElem?_cons_succ, fillV, fillR, setAt, List.set_cons_zero, List.set_cons_succ, List.replicate, evE, asRow, callS, callT, callU, names, dedup, blkMents, Blk.mentB, idxOf, V.mapS, S.mapS, S.mapS.smapS, Blk.mapS, encs, encB, isBox, backN, hpBack, killsV, killsS, killsS.ks, killsB, rowsOf, without, keysOk, noTup, boxesOk, fresh, Option.isNone_none, Blk.ren, aloOk, aloV, aloB, frzL, freezes, Go.Proofs.YtjafaefiigingaaR.freeze, drop1, S.frz, S.frz.sf, V.frz, Blk.frz, slMent, pickL, List.map_append, S.kill, S.kill.sk, V.kill, Blk.kill, eqvs, ones, Bool.not_true, Bool.not_false, decide_true, decide_false, List.length_append, Int.le_refl, Int.toNat_natCast, Int.toNat_one, Int.cast_ofNat_Int, List.all_nil, List.contains_cons, Nat.reduceBEq, Bool.false_or, Bool.or_false, Bool.true_or, Bool.or_true, look_hit, look_end, look_miss, List.map_cons, List.map_nil, List.cons_append, List.nil_append, Option.getD_some, Option.getD_none, X.ev, ev, bin, ibin, Option.map_some, Option.map_none, Option.bind_some, S.cells, rd, sub, Go.Proofs.YtjafaefiigingaaR.shape, asI, bnd, evs, Rs.ev, R.ev, params, okKey, Nat.reduceAdd, Nat.reduceMul, Nat.reduceDiv, Nat.reduceEqDiff, Nat.reduceLeDiff, Nat.reduceLT, Int.reduceEq, Int.reduceNe, Int.reduceLT, Int.reduceLE, Int.reduceAdd, Int.reduceSub, Int.reduceMul, Int.reduceNeg, Int.reduceToNat, Int.reducePow, Nat.reducePow, Int.toNat_zero, not_false_eq_true, not_true_eq_false, reduceCtorEq, Nat.zero_add, Nat.add_zero, reduceIte, if_true, if_false, Bool.true_eq_false, Bool.false_eq_true, List.length_cons, List.length_nil, and_self, true_and, and_true, List.drop_zero, List.take_succ_cons, List.take_zero, List.drop_succ_cons, Nat.le_refl, hand, handSs, handS, handVs, handV, List.contains_nil, Bool.not_false]
      try simp
    · rw [F_ev rfl]
      simp only [j69, b69, q69, qq, oo, pp, purS, S.pur, V.pur, V.pur1, purs, pur1s, mentS, S.ment, S.ment.smt, ments, V.ment, List.append_nil, Hp.ok64, List.all_nil, List.all_cons, S.purT, S.purT.sp, S.self, V.self, selfs, S.self.sself, Hp.self, S.ren, S.ren.sren, V.ren, Hp.ren, true_or, or_true, false_or, or_false, Bool.and_true, Bool.true_and, Bool.and_false, Bool.false_and, Bool.and_self, hand, handSs, handS, handVs, handV, handBs, upTo, one1, List.contains_nil, List.isEmpty_nil, List.take_length, List.getElem?_cons_zero, List.getElem?_cons_succ, fillV, fillR, setAt, List.set_cons_zero, List.set_cons_succ, List.replicate, evE, asRow, callS, callT, callU, names, dedup, blkMents, Blk.mentB, idxOf, V.mapS, S.mapS, S.mapS.smapS, Blk.mapS, encs, encB, isBox, backN, hpBack, killsV, killsS, killsS.ks, killsB, rowsOf, without, keysOk, noTup, boxesOk, fresh, Option.isNone_none, Blk.ren, aloOk, aloV, aloB, frzL, freezes, Go.Proofs.YtjafaefiigingaaR.freeze, drop1, S.frz, S.frz.sf, V.frz, Blk.frz, slMent, pickL, List.map_append, S.kill, S.kill.sk, V.kill, Blk.kill, eqvs, ones, Bool.not_true, Bool.not_false, decide_true, decide_false, List.length_append, Int.le_refl, Int.toNat_natCast, Int.toNat_one, Int.cast_ofNat_Int, List.all_nil, List.contains_cons, Nat.reduceBEq, Bool.false_or, Bool.or_false, Bool.true_or, Bool.or_true, look_hit, look_end, look_miss, List.map_cons, List.map_nil, List.cons_append, List.nil_append, Option.getD_some, Option.getD_none, X.ev, ev, bin, ibin, Option.map_some, Option.map_none, Option.bind_some, S.cells, rd, sub, Go.Proofs.YtjafaefiigingaaR.shape, asI, bnd, evs, Rs.ev, R.ev, params, okKey, Nat.reduceAdd, Nat.reduceMul, Nat.reduceDiv, Nat.reduceEqDiff, Nat.reduceLeDiff, Nat.reduceLT, Int.reduceEq, Int.reduceNe, Int.reduceLT, Int.reduceLE, Int.reduceAdd, Int.reduceSub, Int.reduceMul, Int.reduceNeg, Int.reduceToNat, Int.reducePow, Nat.reducePow, Int.toNat_zero, not_false_eq_true, not_true_eq_false, reduceCtorEq, Nat.zero_add, Nat.add_zero, reduceIte, if_true, if_false, Bool.true_eq_false, Bool.false_eq_true, List.length_cons, List.length_nil, and_self, true_and, and_true, List.drop_zero, List.take_succ_cons, List.take_zero, List.drop_succ_cons, Nat.le_refl, List.replicate, fillR, evE, V.pur1, asRow]
      try (rw [if_pos (by simp)]; simp only [j69, b69, q69, qq, oo, pp, purS, S.pur, V.pur, V.pur1, purs, pur1s, mentS, S.ment, S.ment.smt, ments, V.ment, List.append_nil, Hp.ok64, List.all_nil, List.all_cons, S.purT, S.purT.sp, S.self, V.self, selfs, S.self.sself, Hp.self, S.ren, S.ren.sren, V.ren, Hp.ren, true_or, or_true, false_or, or_false, Bool.and_true, Bool.true_and, Bool.and_false, Bool.false_and, Bool.and_self, hand, handSs, handS, handVs, handV, handBs, upTo, one1, List.contains_nil, List.isEmpty_nil, List.take_length, List.getElem?_cons_zero, List.getElem?_cons_succ, fillV, fillR, setAt, List.set_cons_zero, List.set_cons_succ, List.replicate, evE, asRow, callS, callT, callU, names, dedup, blkMents, Blk.mentB, idxOf, V.mapS, S.mapS, S.mapS.smapS, Blk.mapS, encs, encB, isBox, backN, hpBack, killsV, killsS, killsS.ks, killsB, rowsOf, without, keysOk, noTup, boxesOk, fresh, Option.isNone_none, Blk.ren, aloOk, aloV, aloB, frzL, freezes, Go.Proofs.YtjafaefiigingaaR.freeze, drop1, S.frz, S.frz.sf, V.frz, Blk.frz, slMent, pickL, List.map_append, S.kill, S.kill.sk, V.kill, Blk.kill, eqvs, ones, Bool.not_true, Bool.not_false, decide_true, decide_false, List.length_append, Int.le_refl, Int.toNat_natCast, Int.toNat_one, Int.cast_ofNat_Int, List.all_nil, List.contains_cons, Nat.reduceBEq, Bool.false_or, Bool.or_false, Bool.true_or, Bool.or_true, look_hit, look_end, look_miss, List.map_cons, List.map_nil, List.cons_append, List.nil_append, Option.getD_some, Option.getD_none, X.ev, ev, bin, ibin, Option.map_some, Option.map_none, Option.bind_some, S.cells, rd, sub, Go.Proofs.YtjafaefiigingaaR.shape, asI, bnd, evs, Rs.ev, R.ev, params, okKey, Nat.reduceAdd, Nat.reduceMul, Nat.reduceDiv, Nat.reduceEqDiff, Nat.reduceLeDiff, Nat.reduceLT, Int.reduceEq, Int.reduceNe, Int.reduceLT, Int.reduceLE, Int.reduceAdd, Int.reduceSub, Int.reduceMul, Int.reduceNeg, Int.reduceToNat, Int.reducePow, Nat.reducePow, Int.toNat_zero, not_false_eq_true, not_true_eq_false, reduceCtorEq, Nat.zero_add, Nat.add_zero, reduceIte, if_true, if_false, Bool.true_eq_false, Bool.false_eq_true, List.length_cons, List.length_nil, and_self, true_and, and_true, List.drop_zero, List.take_succ_cons, List.take_zero, List.drop_succ_cons, Nat.le_refl, S.kill, V.kill, Blk.kill, hand, handSs, handS, handVs, handV, List.contains_nil])
      try simp
theorem x70 : Sound Try.prog 70 (XI.insM 60 2 16) := XI.ins_ok
/-- slices.DeleteFunc   bellwether/api.Item bellwether/api.Item  -/
def j71 : C := (.seq (.region [⟨some 4, .nilsl 60 2 0, none, [], []⟩] false)
 (.seq (.region [⟨some 8, .mov (.t 0), none, [], []⟩,
  ⟨some 9, .mov (.t 1), none, [], []⟩,
  ⟨some 10, .call false 65 [(.t 8), (.t 9)], none, [], []⟩,
  ⟨some 5, .mov (.t 10), none, [], []⟩] false)
 (.seq (.seq (.region [⟨some 11, .mov (.t 5), none, [], []⟩,
  ⟨some 12, .bin .eql (.t 11) (.c (.int .i64 (-1))), none, [], []⟩] false)
 (.cond (.t 12) (.seq (.region [⟨some 13, .mov (.t 0), none, [], []⟩,
  ⟨some 4, .mov (.t 13), none, [], []⟩] false)
 .ret) .skip))
 (.seq (.seq (.region [⟨some 14, .mov (.t 5), none, [], []⟩,
  ⟨some 15, .bin .add (.t 14) (.c (.int .i64 1)), none, [], []⟩,
  ⟨some 6, .mov (.t 15), none, [], []⟩] false)
 (.block 0 (.loop (.keep [0, 1, 5, 6] (.seq (.seq (.region [⟨some 16, .mov (.t 6), none, [], []⟩,
  ⟨some 17, .mov (.t 0), none, [], []⟩,
  ⟨some 18, .len (.t 17), none, [], []⟩,
  ⟨some 19, .bin .lss (.t 16) (.t 18), none, [], []⟩] false)
 (.cond (.t 19) .skip (.exit 0)))
 (.seq (.block 1 (.seq (.region [⟨some 22, .mov (.t 0), none, [], []⟩,
  ⟨some 23, .mov (.t 6), none, [], []⟩,
  ⟨some 24, .iad 2 (.t 22) (.t 23), none, [], []⟩,
  ⟨some 25, .load true 2 (.t 24), none, [], []⟩,
  ⟨some 7, .alloc [.int .i64 0, .int .i64 0], none, [], []⟩,
  ⟨none, .store none 2 (.t 7) (.t 25), none, [], []⟩] false)
 (.seq (.region [⟨some 26, .mov (.t 1), none, [], []⟩,
  ⟨some 27, .load true 2 (.t 7), none, [], []⟩,
  ⟨some 28, .callv false (.t 26) [(.t 27)], none, [], []⟩,
  ⟨some 29, .un .not (.t 28), none, [], []⟩] false)
 (.cond (.t 29) (.seq (.region [⟨some 30, .mov (.t 0), none, [], []⟩,
  ⟨some 31, .mov (.t 5), none, [], []⟩,
  ⟨some 32, .load true 2 (.t 7), none, [], []⟩,
  ⟨some 33, .iad 2 (.t 30) (.t 31), none, [], []⟩,
  ⟨none, .store none 2 (.t 33) (.t 32), none, [], []⟩] false)
 (.region [⟨some 34, .mov (.t 5), none, [], []⟩,
  ⟨some 35, .bin .add (.t 34) (.c (.int .i64 1)), none, [], []⟩,
  ⟨some 5, .mov (.t 35), none, [], []⟩] false)) .skip))))
 (.region [⟨some 20, .mov (.t 6), none, [], []⟩,
  ⟨some 21, .bin .add (.t 20) (.c (.int .i64 1)), none, [], []⟩,
  ⟨some 6, .mov (.t 21), none, [], []⟩] false)))))))
 (.seq (.region [⟨some 36, .mov (.t 0), none, [], []⟩,
  ⟨some 37, .mov (.t 5), none, [], []⟩,
  ⟨some 38, .cut 2 (.t 36) (some (.t 37)) none, none, [], []⟩,
  ⟨none, .clr 60 2 (.t 38), none, [], []⟩] false)
 (.seq (.region [⟨some 39, .mov (.t 0), none, [], []⟩,
  ⟨some 40, .mov (.t 5), none, [], []⟩,
  ⟨some 41, .cut 2 (.t 39) none (some (.t 40)), none, [], []⟩,
  ⟨some 4, .mov (.t 41), none, [], []⟩] false)
 .ret))))))
def i71 : F := ⟨2, 42, j71, [.t 4]⟩
theorem b71 : i71.body = j71 := rfl
theorem q71 : i71.res = [.t 4] := rfl
theorem c71 : chkF Try.prog Try.f71 i71 = true := by kernel_rfl
theorem s71 {m : Model} {E : Nat → Model} (hE : ∀ f, Sound Try.prog f (E f)) (hm : ∀ args r, m args = some r → ∃ N, i71.ev E N args = some r) : Sound Try.prog 71 m := sound_of i71 Try.func71 rfl c71 hE hm
/-- bellwether/ahead.Take$1 -/
def j72 : C := (.seq (.region [⟨some 2, .box (.t 0), none, [], []⟩,
  ⟨some 3, .mov (.c (.bool false)), none, [], []⟩] false)
 (.seq (.region [⟨some 4, .fad 0 (.t 2), none, [], []⟩,
  ⟨some 5, .load false 1 (.t 4), none, [], []⟩,
  ⟨some 6, .load false 1 (.t 1), none, [], []⟩,
  ⟨some 7, .bin .lss (.t 5) (.t 6), none, [], []⟩,
  ⟨some 3, .mov (.t 7), none, [], []⟩] false)
 .ret))
def i72 : F := ⟨2, 8, j72, [.t 3]⟩
theorem b72 : i72.body = j72 := rfl
theorem q72 : i72.res = [.t 3] := rfl
theorem c72 : chkF Try.prog Try.f72 i72 = true := by kernel_rfl
theorem s72 {m : Model} {E : Nat → Model} (hE : ∀ f, Sound Try.prog f (E f)) (hm : ∀ args r, m args = some r → ∃ N, i72.ev E N args = some r) : Sound Try.prog 72 m := sound_of i72 Try.func72 rfl c72 hE hm
def xt : List (Nat × Model) := [(69, cloneM 60 2 16), (70, XI.insM 60 2 16)]
def tb : List (Nat × F) := [(10, i10), (11, i11), (12, i12), (36, i36), (37, i37), (38, i38), (39, i39), (40, i40), (41, i41), (42, i42), (43, i43), (44, i44), (45, i45), (48, i48), (55, i55), (61, i61), (62, i62), (65, i65), (66, i66), (67, i67), (68, i68), (71, i71), (72, i72)]
theorem xt_ok : ∀ p ∈ xt, Sound Try.prog p.1 p.2 := all_cons x69 (all_cons x70 (all_nil))
theorem tb_ok (N : Nat) : ∀ p ∈ tb, ∀ E : Nat → Model, (∀ f, Sound Try.prog f (E f)) → Sound Try.prog p.1 (p.2.ev E N) := all_cons (fun E hE => s10 hE fun _ _ h => ⟨N, h⟩) (all_cons (fun E hE => s11 hE fun _ _ h => ⟨N, h⟩) (all_cons (fun E hE => s12 hE fun _ _ h => ⟨N, h⟩) (all_cons (fun E hE => s36 hE fun _ _ h => ⟨N, h⟩) (all_cons (fun E hE => s37 hE fun _ _ h => ⟨N, h⟩) (all_cons (fun E hE => s38 hE fun _ _ h => ⟨N, h⟩) (all_cons (fun E hE => s39 hE fun _ _ h => ⟨N, h⟩) (all_cons (fun E hE => s40 hE fun _ _ h => ⟨N, h⟩) (all_cons (fun E hE => s41 hE fun _ _ h => ⟨N, h⟩) (all_cons (fun E hE => s42 hE fun _ _ h => ⟨N, h⟩) (all_cons (fun E hE => s43 hE fun _ _ h => ⟨N, h⟩) (all_cons (fun E hE => s44 hE fun _ _ h => ⟨N, h⟩) (all_cons (fun E hE => s45 hE fun _ _ h => ⟨N, h⟩) (all_cons (fun E hE => s48 hE fun _ _ h => ⟨N, h⟩) (all_cons (fun E hE => s55 hE fun _ _ h => ⟨N, h⟩) (all_cons (fun E hE => s61 hE fun _ _ h => ⟨N, h⟩) (all_cons (fun E hE => s62 hE fun _ _ h => ⟨N, h⟩) (all_cons (fun E hE => s65 hE fun _ _ h => ⟨N, h⟩) (all_cons (fun E hE => s66 hE fun _ _ h => ⟨N, h⟩) (all_cons (fun E hE => s67 hE fun _ _ h => ⟨N, h⟩) (all_cons (fun E hE => s68 hE fun _ _ h => ⟨N, h⟩) (all_cons (fun E hE => s71 hE fun _ _ h => ⟨N, h⟩) (all_cons (fun E hE => s72 hE fun _ _ h => ⟨N, h⟩) (all_nil)))))))))))))))))))))))
abbrev TT := T xt tb
theorem TT_ok (N d f : Nat) : Sound Try.prog f (TT N d f) := T_ok xt_ok (tb_ok N) d f
theorem t10 (N d : Nat) : TT N (d + 1) 10 = i10.ev (TT N d) N := rfl
theorem t11 (N d : Nat) : TT N (d + 1) 11 = i11.ev (TT N d) N := rfl
theorem t12 (N d : Nat) : TT N (d + 1) 12 = i12.ev (TT N d) N := rfl
theorem t36 (N d : Nat) : TT N (d + 1) 36 = i36.ev (TT N d) N := rfl
theorem t37 (N d : Nat) : TT N (d + 1) 37 = i37.ev (TT N d) N := rfl
theorem t38 (N d : Nat) : TT N (d + 1) 38 = i38.ev (TT N d) N := rfl
theorem t39 (N d : Nat) : TT N (d + 1) 39 = i39.ev (TT N d) N := rfl
theorem t40 (N d : Nat) : TT N (d + 1) 40 = i40.ev (TT N d) N := rfl
theorem t41 (N d : Nat) : TT N (d + 1) 41 = i41.ev (TT N d) N := rfl
theorem t42 (N d : Nat) : TT N (d + 1) 42 = i42.ev (TT N d) N := rfl
theorem t43 (N d : Nat) : TT N (d + 1) 43 = i43.ev (TT N d) N := rfl
theorem t44 (N d : Nat) : TT N (d + 1) 44 = i44.ev (TT N d) N := rfl
theorem t45 (N d : Nat) : TT N (d + 1) 45 = i45.ev (TT N d) N := rfl
theorem t48 (N d : Nat) : TT N (d + 1) 48 = i48.ev (TT N d) N := rfl
theorem t55 (N d : Nat) : TT N (d + 1) 55 = i55.ev (TT N d) N := rfl
theorem t61 (N d : Nat) : TT N (d + 1) 61 = i61.ev (TT N d) N := rfl
theorem t62 (N d : Nat) : TT N (d + 1) 62 = i62.ev (TT N d) N := rfl
theorem t65 (N d : Nat) : TT N (d + 1) 65 = i65.ev (TT N d) N := rfl
theorem t66 (N d : Nat) : TT N (d + 1) 66 = i66.ev (TT N d) N := rfl
theorem t67 (N d : Nat) : TT N (d + 1) 67 = i67.ev (TT N d) N := rfl
theorem t68 (N d : Nat) : TT N (d + 1) 68 = i68.ev (TT N d) N := rfl
theorem t71 (N d : Nat) : TT N (d + 1) 71 = i71.ev (TT N d) N := rfl
theorem t72 (N d : Nat) : TT N (d + 1) 72 = i72.ev (TT N d) N := rfl
theorem t69 (N d : Nat) : TT N (d + 1) 69 = cloneM 60 2 16 := rfl
theorem t70 (N d : Nat) : TT N (d + 1) 70 = XI.insM 60 2 16 := rfl
end Go.Proofs.Ytjafaefiigingaa.IA
