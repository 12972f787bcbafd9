/- Functions of the program in the evaluator's form, each checked against the program (written by wip/prog/irgen.py). -/
import Derived.Test.YtjafaefiigingaaProg
import Derived.Test.YtjafaefiigingaaR19
set_option maxRecDepth 100000
set_option linter.unusedSimpArgs false
set_option linter.unusedVariables false
namespace Go.Proofs.Ytjafaefiigingaa.IQ
open Go Go.Proofs.YtjafaefiigingaaR
/-- bellwether/bellwetherlaw17.QueueExact -/
def j3 : C := (.seq (.region [⟨some 5, .box (.t 2), none, [], []⟩,
  ⟨some 6, .mov (.c (.bool false)), none, [], []⟩] false)
 (.seq (.seq (.region [⟨some 16, .mov (.t 0), none, [], []⟩,
  ⟨some 17, .len (.t 16), none, [], []⟩,
  ⟨some 18, .bin .gtr (.t 17) (.c (.int .i64 60)), none, [], []⟩] false)
 (.cond (.t 18) (.seq (.region [⟨some 6, .mov (.c (.bool true)), none, [], []⟩] false)
 .ret) .skip))
 (.seq (.region [⟨some 19, .mov (.t 0), none, [], []⟩,
  ⟨some 20, .call false 13 [(.t 19)], none, [], []⟩,
  ⟨some 7, .mov (.t 20), none, [], []⟩] false)
 (.seq (.region [⟨some 22, .mov (.t 7), none, [], []⟩,
  ⟨some 23, .mov (.t 1), none, [], []⟩,
  ⟨some 24, .load true 6 (.t 5), none, [], []⟩,
  ⟨some 25, .call false 14 [(.t 22), (.t 23), (.t 24)], none, [], []⟩,
  ⟨some 21, .mov (.t 25), none, [], []⟩,
  ⟨some 26, .ext (.t 21) 0, none, [], []⟩,
  ⟨some 27, .ext (.t 21) 1, none, [], []⟩,
  ⟨some 8, .mov (.t 26), none, [], []⟩,
  ⟨some 9, .mov (.t 27), none, [], []⟩] false)
 (.seq (.region [⟨some 29, .mov (.t 7), none, [], []⟩,
  ⟨some 30, .call false 15 [(.t 29)], none, [], []⟩,
  ⟨some 28, .mov (.t 30), none, [], []⟩,
  ⟨some 31, .ext (.t 28) 0, none, [], []⟩,
  ⟨some 32, .ext (.t 28) 1, none, [], []⟩,
  ⟨some 33, .ext (.t 28) 2, none, [], []⟩,
  ⟨some 10, .alloc [.int .i64 0, .int .i64 0, .int .i64 0, .int .i64 0, .int .i64 0, .int .i64 0], none, [], []⟩,
  ⟨none, .store none 6 (.t 10) (.t 31), none, [], []⟩,
  ⟨some 11, .mov (.t 32), none, [], []⟩,
  ⟨some 12, .mov (.t 33), none, [], []⟩] false)
 (.seq (.region [⟨some 34, .mov (.t 0), none, [], []⟩,
  ⟨some 35, .mov (.t 1), none, [], []⟩,
  ⟨some 36, .call false 16 [(.t 34), (.t 35)], none, [], []⟩,
  ⟨some 13, .mov (.t 36), none, [], []⟩] false)
 (.seq (.seq (.region [⟨some 37, .load true 6 (.t 5), none, [40], []⟩,
  ⟨some 38, .call false 17 [(.t 37)], none, [40], [0]⟩,
  ⟨some 39, .bin .eql (.t 38) (.c (.int .i64 0)), none, [40, 41], [0, 1]⟩,
  ⟨some 40, .load true 6 (.t 5), none, [37, 38, 39], []⟩,
  ⟨some 41, .call false 18 [(.t 40)], none, [39], [0, 1, 3]⟩,
  ⟨some 42, .eqb true (.t 39) (.t 41), none, [], [0, 1, 2, 3, 4]⟩,
  ⟨some 43, .mov (.t 42), none, [], [0, 1, 2, 3, 4, 5]⟩,
  ⟨some 44, .load true 6 (.t 5), some (43, false), [], [0, 1, 2, 3, 4, 5, 6]⟩,
  ⟨some 45, .call false 18 [(.t 44)], some (43, false), [], [0, 1, 2, 3, 4, 5, 6, 7]⟩,
  ⟨some 46, .un .not (.t 45), some (43, false), [], [0, 1, 2, 3, 4, 5, 6, 7, 8]⟩,
  ⟨some 47, .mov (.t 46), some (43, false), [], [0, 1, 2, 3, 4, 5, 6, 7, 8, 9]⟩,
  ⟨some 48, .load true 6 (.t 5), some (47, true), [], [0, 1, 2, 3, 4, 5, 6, 7, 8, 9, 10]⟩,
  ⟨some 49, .call false 17 [(.t 48)], some (47, true), [], [0, 1, 2, 3, 4, 5, 6, 7, 8, 9, 10, 11]⟩,
  ⟨some 50, .bin .neq (.t 49) (.c (.int .i64 1)), some (47, true), [], [0, 1, 2, 3, 4, 5, 6, 7, 8, 9, 10, 11, 12]⟩,
  ⟨some 51, .pick (.t 47) (.t 50) (.c (.bool false)), some (43, false), [], [0, 1, 2, 3, 4, 5, 6, 7, 8, 9, 10, 11, 12, 13]⟩,
  ⟨some 52, .pick (.t 43) (.c (.bool true)) (.t 51), none, [], [0, 1, 2, 3, 4, 5, 6, 7, 8, 9, 10, 11, 12, 13, 14]⟩,
  ⟨some 53, .mov (.t 52), none, [], [0, 1, 2, 3, 4, 5, 6, 7, 8, 9, 10, 11, 12, 13, 14, 15]⟩,
  ⟨some 54, .mov (.t 7), some (53, false), [55, 58], [0, 1, 2, 3, 4, 5, 6, 7, 8, 9, 10, 11, 12, 13, 14, 15, 16]⟩,
  ⟨some 55, .mov (.t 1), some (53, false), [54, 58], [0, 1, 2, 3, 4, 5, 6, 7, 8, 9, 10, 11, 12, 13, 14, 15, 16]⟩,
  ⟨some 56, .call false 19 [(.t 54), (.t 55)], some (53, false), [58], [0, 1, 2, 3, 4, 5, 6, 7, 8, 9, 10, 11, 12, 13, 14, 15, 16, 17, 18]⟩,
  ⟨some 57, .bin .eql (.t 56) (.c (.int .i64 0)), some (53, false), [58], [0, 1, 2, 3, 4, 5, 6, 7, 8, 9, 10, 11, 12, 13, 14, 15, 16, 17, 18, 19]⟩,
  ⟨some 58, .mov (.t 13), some (53, false), [54, 55, 56, 57], [0, 1, 2, 3, 4, 5, 6, 7, 8, 9, 10, 11, 12, 13, 14, 15, 16]⟩,
  ⟨some 59, .eqb true (.t 57) (.t 58), some (53, false), [], [0, 1, 2, 3, 4, 5, 6, 7, 8, 9, 10, 11, 12, 13, 14, 15, 16, 17, 18, 19, 20, 21]⟩,
  ⟨some 60, .pick (.t 53) (.c (.bool true)) (.t 59), none, [], [0, 1, 2, 3, 4, 5, 6, 7, 8, 9, 10, 11, 12, 13, 14, 15, 16, 17, 18, 19, 20, 21, 22]⟩,
  ⟨some 61, .mov (.t 60), none, [], [0, 1, 2, 3, 4, 5, 6, 7, 8, 9, 10, 11, 12, 13, 14, 15, 16, 17, 18, 19, 20, 21, 22, 23]⟩,
  ⟨some 62, .mov (.t 13), some (61, false), [], [0, 1, 2, 3, 4, 5, 6, 7, 8, 9, 10, 11, 12, 13, 14, 15, 16, 17, 18, 19, 20, 21, 22, 23, 24]⟩,
  ⟨some 63, .un .not (.t 62), some (61, false), [], [0, 1, 2, 3, 4, 5, 6, 7, 8, 9, 10, 11, 12, 13, 14, 15, 16, 17, 18, 19, 20, 21, 22, 23, 24, 25]⟩,
  ⟨some 64, .mov (.t 63), some (61, false), [], [0, 1, 2, 3, 4, 5, 6, 7, 8, 9, 10, 11, 12, 13, 14, 15, 16, 17, 18, 19, 20, 21, 22, 23, 24, 25, 26]⟩,
  ⟨some 65, .mov (.t 7), some (64, true), [66], [0, 1, 2, 3, 4, 5, 6, 7, 8, 9, 10, 11, 12, 13, 14, 15, 16, 17, 18, 19, 20, 21, 22, 23, 24, 25, 26, 27]⟩,
  ⟨some 66, .mov (.t 1), some (64, true), [65], [0, 1, 2, 3, 4, 5, 6, 7, 8, 9, 10, 11, 12, 13, 14, 15, 16, 17, 18, 19, 20, 21, 22, 23, 24, 25, 26, 27]⟩,
  ⟨some 67, .call false 19 [(.t 65), (.t 66)], some (64, true), [], [0, 1, 2, 3, 4, 5, 6, 7, 8, 9, 10, 11, 12, 13, 14, 15, 16, 17, 18, 19, 20, 21, 22, 23, 24, 25, 26, 27, 28, 29]⟩,
  ⟨some 68, .bin .neq (.t 67) (.c (.int .i64 1)), some (64, true), [], [0, 1, 2, 3, 4, 5, 6, 7, 8, 9, 10, 11, 12, 13, 14, 15, 16, 17, 18, 19, 20, 21, 22, 23, 24, 25, 26, 27, 28, 29, 30]⟩,
  ⟨some 69, .pick (.t 64) (.t 68) (.c (.bool false)), some (61, false), [], [0, 1, 2, 3, 4, 5, 6, 7, 8, 9, 10, 11, 12, 13, 14, 15, 16, 17, 18, 19, 20, 21, 22, 23, 24, 25, 26, 27, 28, 29, 30, 31]⟩,
  ⟨some 70, .pick (.t 61) (.c (.bool true)) (.t 69), none, [], [0, 1, 2, 3, 4, 5, 6, 7, 8, 9, 10, 11, 12, 13, 14, 15, 16, 17, 18, 19, 20, 21, 22, 23, 24, 25, 26, 27, 28, 29, 30, 31, 32]⟩,
  ⟨some 71, .mov (.t 70), none, [], [0, 1, 2, 3, 4, 5, 6, 7, 8, 9, 10, 11, 12, 13, 14, 15, 16, 17, 18, 19, 20, 21, 22, 23, 24, 25, 26, 27, 28, 29, 30, 31, 32, 33]⟩,
  ⟨some 72, .mov (.t 7), some (71, false), [73], [0, 1, 2, 3, 4, 5, 6, 7, 8, 9, 10, 11, 12, 13, 14, 15, 16, 17, 18, 19, 20, 21, 22, 23, 24, 25, 26, 27, 28, 29, 30, 31, 32, 33, 34]⟩,
  ⟨some 73, .mov (.t 0), some (71, false), [72], [0, 1, 2, 3, 4, 5, 6, 7, 8, 9, 10, 11, 12, 13, 14, 15, 16, 17, 18, 19, 20, 21, 22, 23, 24, 25, 26, 27, 28, 29, 30, 31, 32, 33, 34]⟩,
  ⟨some 74, .call false 20 [(.t 72), (.t 73)], some (71, false), [], [0, 1, 2, 3, 4, 5, 6, 7, 8, 9, 10, 11, 12, 13, 14, 15, 16, 17, 18, 19, 20, 21, 22, 23, 24, 25, 26, 27, 28, 29, 30, 31, 32, 33, 34, 35, 36]⟩,
  ⟨some 75, .un .not (.t 74), some (71, false), [], [0, 1, 2, 3, 4, 5, 6, 7, 8, 9, 10, 11, 12, 13, 14, 15, 16, 17, 18, 19, 20, 21, 22, 23, 24, 25, 26, 27, 28, 29, 30, 31, 32, 33, 34, 35, 36, 37]⟩,
  ⟨some 76, .pick (.t 71) (.c (.bool true)) (.t 75), none, [], [0, 1, 2, 3, 4, 5, 6, 7, 8, 9, 10, 11, 12, 13, 14, 15, 16, 17, 18, 19, 20, 21, 22, 23, 24, 25, 26, 27, 28, 29, 30, 31, 32, 33, 34, 35, 36, 37, 38]⟩] true)
 (.cond (.t 76) (.seq (.region [⟨some 6, .mov (.c (.bool false)), none, [], []⟩] false)
 .ret) .skip))
 (.seq (.seq (.region [⟨some 77, .mov (.t 0), none, [], []⟩,
  ⟨some 78, .len (.t 77), none, [], []⟩,
  ⟨some 79, .bin .eql (.t 78) (.c (.int .i64 0)), none, [], []⟩] false)
 (.cond (.t 79) (.seq (.region [⟨some 80, .mov (.t 12), none, [], []⟩,
  ⟨some 81, .bin .neq (.t 80) (.c (.int .i64 10)), none, [], []⟩,
  ⟨some 82, .mov (.t 81), none, [], []⟩,
  ⟨some 83, .load true 6 (.t 10), some (82, false), [], []⟩,
  ⟨some 84, .build [.int .i64 0, .int .i64 0, .int .i64 0, .int .i64 0, .int .i64 0, .int .i64 0] [], some (82, false), [], []⟩,
  ⟨some 85, .eqs true [true, true, true, true, true, true] (.t 83) (.t 84), some (82, false), [], []⟩,
  ⟨some 86, .pick (.t 82) (.c (.bool true)) (.t 85), none, [], []⟩,
  ⟨some 87, .mov (.t 86), none, [], []⟩,
  ⟨some 88, .mov (.t 11), some (87, false), [], []⟩,
  ⟨some 89, .len (.t 88), some (87, false), [], []⟩,
  ⟨some 90, .bin .gtr (.t 89) (.c (.int .i64 0)), some (87, false), [], []⟩,
  ⟨some 91, .pick (.t 87) (.c (.bool true)) (.t 90), none, [], []⟩] false)
 (.cond (.t 91) (.seq (.region [⟨some 6, .mov (.c (.bool false)), none, [], []⟩] false)
 .ret) .skip)) (.seq (.region [⟨some 92, .mov (.t 12), none, [], []⟩,
  ⟨some 93, .bin .neq (.t 92) (.c (.int .i64 0)), none, [], [0]⟩,
  ⟨some 94, .mov (.t 93), none, [], [0, 1]⟩,
  ⟨some 95, .load true 6 (.t 10), some (94, false), [96, 97, 98], [0, 1, 2]⟩,
  ⟨some 96, .mov (.t 0), some (94, false), [95], [0, 1, 2]⟩,
  ⟨some 97, .iad 6 (.t 96) (.c (.int .i64 0)), some (94, false), [95], [0, 1, 2, 4]⟩,
  ⟨some 98, .load true 6 (.t 97), some (94, false), [95], [0, 1, 2, 4, 5]⟩,
  ⟨some 99, .eqs true [true, true, true, true, true, true] (.t 95) (.t 98), some (94, false), [], [0, 1, 2, 3, 4, 5, 6]⟩,
  ⟨some 100, .pick (.t 94) (.c (.bool true)) (.t 99), none, [], [0, 1, 2, 3, 4, 5, 6, 7]⟩,
  ⟨some 101, .mov (.t 100), none, [], [0, 1, 2, 3, 4, 5, 6, 7, 8]⟩,
  ⟨some 102, .mov (.t 11), some (101, false), [103, 104], [0, 1, 2, 3, 4, 5, 6, 7, 8, 9]⟩,
  ⟨some 103, .mov (.t 0), some (101, false), [102], [0, 1, 2, 3, 4, 5, 6, 7, 8, 9]⟩,
  ⟨some 104, .cut 6 (.t 103) (some (.c (.int .i64 1))) none, some (101, false), [102], [0, 1, 2, 3, 4, 5, 6, 7, 8, 9, 11]⟩,
  ⟨some 105, .call false 20 [(.t 102), (.t 104)], some (101, false), [], [0, 1, 2, 3, 4, 5, 6, 7, 8, 9, 10, 11, 12]⟩,
  ⟨some 106, .un .not (.t 105), some (101, false), [], [0, 1, 2, 3, 4, 5, 6, 7, 8, 9, 10, 11, 12, 13]⟩,
  ⟨some 107, .pick (.t 101) (.c (.bool true)) (.t 106), none, [], [0, 1, 2, 3, 4, 5, 6, 7, 8, 9, 10, 11, 12, 13, 14]⟩] true)
 (.cond (.t 107) (.seq (.region [⟨some 6, .mov (.c (.bool false)), none, [], []⟩] false)
 .ret) .skip))))
 (.seq (.seq (.region [⟨some 108, .mov (.t 13), none, [], []⟩,
  ⟨some 109, .un .not (.t 108), none, [], []⟩,
  ⟨some 110, .mov (.t 109), none, [], []⟩,
  ⟨some 111, .load true 6 (.t 5), some (110, false), [], []⟩,
  ⟨some 112, .call false 18 [(.t 111)], some (110, false), [], []⟩,
  ⟨some 113, .un .not (.t 112), some (110, false), [], []⟩,
  ⟨some 114, .pick (.t 110) (.c (.bool true)) (.t 113), none, [], []⟩] false)
 (.cond (.t 114) (.seq (.region [⟨some 115, .mov (.t 9), none, [], []⟩,
  ⟨some 116, .bin .eql (.t 115) (.c (.int .i64 1)), none, [], []⟩,
  ⟨some 117, .mov (.t 116), none, [], []⟩,
  ⟨some 118, .mov (.t 8), some (117, true), [], []⟩,
  ⟨some 119, .len (.t 118), some (117, true), [], []⟩,
  ⟨some 120, .bin .eql (.t 119) (.c (.int .i64 0)), some (117, true), [], []⟩,
  ⟨some 121, .pick (.t 117) (.t 120) (.c (.bool false)), none, [], []⟩,
  ⟨some 122, .mov (.t 121), none, [], []⟩,
  ⟨some 123, .call false 21 [], some (122, true), [], []⟩,
  ⟨some 124, .pick (.t 122) (.t 123) (.c (.bool false)), none, [], []⟩,
  ⟨some 6, .mov (.t 124), none, [], []⟩] false)
 .ret) .skip))
 (.seq (.region [⟨some 126, .mov (.t 0), none, [], []⟩,
  ⟨some 127, .mov (.t 1), none, [], []⟩,
  ⟨some 128, .load true 6 (.t 5), none, [], []⟩,
  ⟨some 129, .call false 22 [(.t 126), (.t 127), (.t 128)], none, [], []⟩,
  ⟨some 125, .mov (.t 129), none, [], []⟩,
  ⟨some 130, .ext (.t 125) 0, none, [], []⟩,
  ⟨some 131, .ext (.t 125) 1, none, [], []⟩,
  ⟨some 14, .mov (.t 130), none, [], []⟩,
  ⟨some 15, .mov (.t 131), none, [], []⟩] false)
 (.seq (.seq (.region [⟨some 132, .mov (.t 15), none, [], []⟩,
  ⟨some 133, .un .not (.t 132), none, [], []⟩] false)
 (.cond (.t 133) (.seq (.region [⟨some 134, .mov (.t 9), none, [], []⟩,
  ⟨some 135, .bin .eql (.t 134) (.c (.int .i64 6)), none, [], []⟩,
  ⟨some 136, .mov (.t 135), none, [], []⟩,
  ⟨some 137, .mov (.t 8), some (136, true), [], []⟩,
  ⟨some 138, .len (.t 137), some (136, true), [], []⟩,
  ⟨some 139, .bin .eql (.t 138) (.c (.int .i64 0)), some (136, true), [], []⟩,
  ⟨some 140, .pick (.t 136) (.t 139) (.c (.bool false)), none, [], []⟩,
  ⟨some 141, .mov (.t 140), none, [], []⟩,
  ⟨some 142, .call false 21 [], some (141, true), [], []⟩,
  ⟨some 143, .pick (.t 141) (.t 142) (.c (.bool false)), none, [], []⟩,
  ⟨some 6, .mov (.t 143), none, [], []⟩] false)
 .ret) .skip))
 (.seq (.region [⟨some 144, .mov (.t 9), none, [], []⟩,
  ⟨some 145, .bin .eql (.t 144) (.c (.int .i64 0)), none, [], []⟩,
  ⟨some 146, .mov (.t 145), none, [], []⟩,
  ⟨some 147, .mov (.t 8), some (146, true), [], []⟩,
  ⟨some 148, .mov (.t 14), some (146, true), [], []⟩,
  ⟨some 149, .call false 20 [(.t 147), (.t 148)], some (146, true), [], []⟩,
  ⟨some 150, .pick (.t 146) (.t 149) (.c (.bool false)), none, [], []⟩,
  ⟨some 151, .mov (.t 150), none, [], []⟩,
  ⟨some 152, .call false 21 [], some (151, true), [], []⟩,
  ⟨some 153, .pick (.t 151) (.t 152) (.c (.bool false)), none, [], []⟩,
  ⟨some 6, .mov (.t 153), none, [], []⟩] false)
 .ret))))))))))))
def i3 : F := ⟨3, 154, j3, [.t 6]⟩
theorem b3 : i3.body = j3 := rfl
theorem q3 : i3.res = [.t 6] := rfl
theorem c3 : chkF Try.prog Try.f3 i3 = true := by kernel_rfl
theorem s3 {m : Model} {E : Nat → Model} (hE : ∀ f, Sound Try.prog f (E f)) (hm : ∀ args r, m args = some r → ∃ N, i3.ev E N args = some r) : Sound Try.prog 3 m := sound_of i3 Try.func3 rfl c3 hE hm
/-- bellwether/bellwetherlaw17.QueueStream -/
def j4 : C := (.seq (.region [⟨some 6, .mov (.c (.bool false)), none, [], []⟩] false)
 (.seq (.seq (.region [⟨some 16, .mov (.t 2), none, [], []⟩,
  ⟨some 17, .len (.t 16), none, [], []⟩,
  ⟨some 18, .bin .gtr (.t 17) (.c (.int .i64 200)), none, [], []⟩] false)
 (.cond (.t 18) (.seq (.region [⟨some 6, .mov (.c (.bool true)), none, [], []⟩] false)
 .ret) .skip))
 (.seq (.region [⟨some 19, .mov (.t 0), none, [], []⟩,
  ⟨some 20, .conv .u64 (.t 19), none, [], []⟩,
  ⟨some 21, .bin .rem (.t 20) (.c (.int .u64 31)), none, [], []⟩,
  ⟨some 22, .conv .i64 (.t 21), none, [], []⟩,
  ⟨some 23, .bin .add (.c (.int .i64 2)) (.t 22), none, [], []⟩,
  ⟨some 24, .mov (.t 1), none, [], []⟩,
  ⟨some 25, .conv .u64 (.t 24), none, [], []⟩,
  ⟨some 26, .bin .rem (.t 25) (.c (.int .u64 1000)), none, [], []⟩,
  ⟨some 27, .conv .i64 (.t 26), none, [], []⟩,
  ⟨some 28, .bin .add (.c (.int .i64 1)) (.t 27), none, [], []⟩,
  ⟨some 29, .bin .mul (.c (.int .i64 16)) (.t 28), none, [], []⟩,
  ⟨some 0, .mov (.t 23), none, [], []⟩,
  ⟨some 1, .mov (.t 29), none, [], []⟩] false)
 (.seq (.region [⟨some 7, .mov (.c (.row [])), none, [], []⟩] false)
 (.seq (.region [⟨some 8, .mov (.c (.int .i64 1)), none, [], []⟩,
  ⟨some 9, .mov (.c (.int .i64 1)), none, [], []⟩] false)
 (.seq (.seq (.region [⟨some 10, .mov (.c (.int .i64 0)), none, [], []⟩] false)
 (.block 0 (.loop (.keep [0, 1, 2, 7, 8, 9, 10] (.seq (.seq (.region [⟨some 30, .mov (.t 10), none, [], []⟩,
  ⟨some 31, .mov (.t 2), none, [], []⟩,
  ⟨some 32, .len (.t 31), none, [], []⟩,
  ⟨some 33, .bin .lss (.t 30) (.t 32), none, [], []⟩] false)
 (.cond (.t 33) .skip (.exit 0)))
 (.seq (.block 1 (.seq (.seq (.region [⟨some 36, .mov (.t 2), none, [], []⟩,
  ⟨some 37, .mov (.t 10), none, [], []⟩,
  ⟨some 38, .iad 1 (.t 36) (.t 37), none, [], []⟩,
  ⟨some 39, .load false 1 (.t 38), none, [], []⟩,
  ⟨some 40, .un .not (.t 39), none, [], []⟩] false)
 (.cond (.t 40) (.seq (.region [⟨some 42, .mov (.t 7), none, [], []⟩,
  ⟨some 43, .mov (.t 0), none, [], []⟩,
  ⟨some 44, .mov (.t 1), none, [], []⟩,
  ⟨some 45, .mov (.t 8), none, [], []⟩,
  ⟨some 46, .mov (.t 8), none, [], []⟩,
  ⟨some 47, .bin .rem (.t 46) (.c (.int .i64 100)), none, [], []⟩,
  ⟨some 48, .call false 23 [(.t 44), (.t 45), (.t 47)], none, [], []⟩,
  ⟨some 49, .call false 14 [(.t 42), (.t 43), (.t 48)], none, [], []⟩,
  ⟨some 41, .mov (.t 49), none, [], []⟩,
  ⟨some 50, .ext (.t 41) 0, none, [], []⟩,
  ⟨some 51, .ext (.t 41) 1, none, [], []⟩,
  ⟨some 11, .mov (.t 50), none, [], []⟩,
  ⟨some 12, .mov (.t 51), none, [], []⟩] false)
 (.seq (.seq (.region [⟨some 52, .mov (.t 12), none, [], []⟩,
  ⟨some 53, .bin .neq (.t 52) (.c (.int .i64 0)), none, [], []⟩,
  ⟨some 54, .mov (.t 53), none, [], []⟩,
  ⟨some 55, .mov (.t 11), some (54, false), [], []⟩,
  ⟨some 56, .len (.t 55), some (54, false), [], []⟩,
  ⟨some 57, .mov (.t 0), some (54, false), [], []⟩,
  ⟨some 58, .bin .gtr (.t 56) (.t 57), some (54, false), [], []⟩,
  ⟨some 59, .pick (.t 54) (.c (.bool true)) (.t 58), none, [], []⟩,
  ⟨some 60, .mov (.t 59), none, [], []⟩,
  ⟨some 61, .mov (.t 11), some (60, false), [], []⟩,
  ⟨some 62, .mov (.t 0), some (60, false), [], []⟩,
  ⟨some 63, .call false 19 [(.t 61), (.t 62)], some (60, false), [], []⟩,
  ⟨some 64, .bin .neq (.t 63) (.c (.int .i64 0)), some (60, false), [], []⟩,
  ⟨some 65, .pick (.t 60) (.c (.bool true)) (.t 64), none, [], []⟩] false)
 (.cond (.t 65) (.seq (.region [⟨some 6, .mov (.c (.bool false)), none, [], []⟩] false)
 .ret) .skip))
 (.seq (.region [⟨some 66, .mov (.t 11), none, [], []⟩,
  ⟨some 67, .mov (.t 8), none, [], []⟩,
  ⟨some 68, .bin .add (.t 67) (.c (.int .i64 1)), none, [], []⟩,
  ⟨some 7, .mov (.t 66), none, [], []⟩,
  ⟨some 8, .mov (.t 68), none, [], []⟩] false)
 (.exit 1)))) .skip))
 (.seq (.region [⟨some 70, .mov (.t 7), none, [], []⟩,
  ⟨some 71, .call false 15 [(.t 70)], none, [], []⟩,
  ⟨some 69, .mov (.t 71), none, [], []⟩,
  ⟨some 72, .ext (.t 69) 0, none, [], []⟩,
  ⟨some 73, .ext (.t 69) 1, none, [], []⟩,
  ⟨some 74, .ext (.t 69) 2, none, [], []⟩,
  ⟨some 13, .alloc [.int .i64 0, .int .i64 0, .int .i64 0, .int .i64 0, .int .i64 0, .int .i64 0], none, [], []⟩,
  ⟨none, .store none 6 (.t 13) (.t 72), none, [], []⟩,
  ⟨some 14, .mov (.t 73), none, [], []⟩,
  ⟨some 15, .mov (.t 74), none, [], []⟩] false)
 (.seq (.seq (.region [⟨some 75, .mov (.t 15), none, [], []⟩,
  ⟨some 76, .bin .neq (.t 75) (.c (.int .i64 0)), none, [], []⟩] false)
 (.cond (.t 76) (.seq (.seq (.region [⟨some 77, .mov (.t 15), none, [], []⟩,
  ⟨some 78, .bin .neq (.t 77) (.c (.int .i64 10)), none, [], []⟩,
  ⟨some 79, .mov (.t 78), none, [], []⟩,
  ⟨some 80, .mov (.t 9), some (79, false), [], []⟩,
  ⟨some 81, .mov (.t 8), some (79, false), [], []⟩,
  ⟨some 82, .bin .neq (.t 80) (.t 81), some (79, false), [], []⟩,
  ⟨some 83, .pick (.t 79) (.c (.bool true)) (.t 82), none, [], []⟩] false)
 (.cond (.t 83) (.seq (.region [⟨some 6, .mov (.c (.bool false)), none, [], []⟩] false)
 .ret) .skip))
 (.exit 1)) .skip))
 (.seq (.region [⟨some 84, .mov (.t 14), none, [], []⟩,
  ⟨some 7, .mov (.t 84), none, [], []⟩] false)
 (.seq (.seq (.region [⟨some 85, .fad 1 (.t 13), none, [], []⟩,
  ⟨some 86, .load false 1 (.t 85), none, [], []⟩,
  ⟨some 87, .mov (.t 1), none, [], []⟩,
  ⟨some 88, .bin .neq (.t 86) (.t 87), none, [], []⟩,
  ⟨some 89, .mov (.t 88), none, [], []⟩,
  ⟨some 90, .fad 2 (.t 13), some (89, false), [], []⟩,
  ⟨some 91, .load false 1 (.t 90), some (89, false), [], []⟩,
  ⟨some 92, .mov (.t 9), some (89, false), [], []⟩,
  ⟨some 93, .bin .neq (.t 91) (.t 92), some (89, false), [], []⟩,
  ⟨some 94, .pick (.t 89) (.c (.bool true)) (.t 93), none, [], []⟩] false)
 (.cond (.t 94) (.seq (.region [⟨some 6, .mov (.c (.bool false)), none, [], []⟩] false)
 .ret) .skip))
 (.seq (.region [⟨some 95, .mov (.t 9), none, [], []⟩,
  ⟨some 96, .bin .add (.t 95) (.c (.int .i64 1)), none, [], []⟩,
  ⟨some 9, .mov (.t 96), none, [], []⟩] false)
 (.seq (.region [⟨some 97, .fad 0 (.t 13), none, [], []⟩,
  ⟨some 98, .load false 1 (.t 97), none, [], []⟩,
  ⟨some 99, .bin .eql (.t 98) (.c (.int .i64 2)), none, [], []⟩] false)
 (.cond (.t 99) (.region [⟨some 100, .fad 3 (.t 13), none, [], []⟩,
  ⟨some 101, .load false 1 (.t 100), none, [], []⟩,
  ⟨some 102, .bin .add (.t 101) (.c (.int .i64 1)), none, [], []⟩,
  ⟨some 9, .mov (.t 102), none, [], []⟩] false) (.seq (.region [⟨some 103, .fad 4 (.t 13), none, [], []⟩,
  ⟨some 104, .load false 1 (.t 103), none, [], []⟩,
  ⟨some 105, .fad 2 (.t 13), none, [], []⟩,
  ⟨some 106, .load false 1 (.t 105), none, [], []⟩,
  ⟨some 107, .bin .rem (.t 106) (.c (.int .i64 100)), none, [], []⟩,
  ⟨some 108, .bin .neq (.t 104) (.t 107), none, [], []⟩] false)
 (.cond (.t 108) (.seq (.region [⟨some 6, .mov (.c (.bool false)), none, [], []⟩] false)
 .ret) .skip)))))))))))
 (.region [⟨some 34, .mov (.t 10), none, [], []⟩,
  ⟨some 35, .bin .add (.t 34) (.c (.int .i64 1)), none, [], []⟩,
  ⟨some 10, .mov (.t 35), none, [], []⟩] false)))))))
 (.seq (.region [⟨some 109, .mov (.t 9), none, [], []⟩,
  ⟨some 110, .mov (.t 8), none, [], []⟩,
  ⟨some 111, .bin .leq (.t 109) (.t 110), none, [], []⟩,
  ⟨some 112, .mov (.t 111), none, [], []⟩,
  ⟨some 113, .call false 21 [], some (112, true), [], []⟩,
  ⟨some 114, .pick (.t 112) (.t 113) (.c (.bool false)), none, [], []⟩,
  ⟨some 6, .mov (.t 114), none, [], []⟩] false)
 .ret)))))))
def i4 : F := ⟨3, 115, j4, [.t 6]⟩
theorem b4 : i4.body = j4 := rfl
theorem q4 : i4.res = [.t 6] := rfl
theorem c4 : chkF Try.prog Try.f4 i4 = true := by kernel_rfl
theorem s4 {m : Model} {E : Nat → Model} (hE : ∀ f, Sound Try.prog f (E f)) (hm : ∀ args r, m args = some r → ∃ N, i4.ev E N args = some r) : Sound Try.prog 4 m := sound_of i4 Try.func4 rfl c4 hE hm
/-- bellwether/bellwetherlaw17.QueueEpochs -/
def j5 : C := (.seq (.region [⟨some 6, .mov (.c (.bool false)), none, [], []⟩] false)
 (.seq (.region [⟨some 23, .mov (.t 0), none, [], []⟩,
  ⟨some 24, .conv .u64 (.t 23), none, [], []⟩,
  ⟨some 25, .bin .rem (.t 24) (.c (.int .u64 31)), none, [], []⟩,
  ⟨some 26, .conv .i64 (.t 25), none, [], []⟩,
  ⟨some 27, .bin .add (.c (.int .i64 2)) (.t 26), none, [], []⟩,
  ⟨some 28, .mov (.t 1), none, [], []⟩,
  ⟨some 29, .conv .u64 (.t 28), none, [], []⟩,
  ⟨some 30, .bin .rem (.t 29) (.c (.int .u64 40)), none, [], []⟩,
  ⟨some 31, .conv .i64 (.t 30), none, [], []⟩,
  ⟨some 32, .mov (.t 2), none, [], []⟩,
  ⟨some 33, .conv .u64 (.t 32), none, [], []⟩,
  ⟨some 34, .bin .rem (.t 33) (.c (.int .u64 5)), none, [], []⟩,
  ⟨some 35, .conv .i64 (.t 34), none, [], []⟩,
  ⟨some 0, .mov (.t 27), none, [], []⟩,
  ⟨some 1, .mov (.t 31), none, [], []⟩,
  ⟨some 2, .mov (.t 35), none, [], []⟩] false)
 (.seq (.region [⟨some 7, .mov (.c (.row [])), none, [], []⟩] false)
 (.seq (.seq (.region [⟨some 8, .mov (.c (.int .i64 0)), none, [], []⟩] false)
 (.block 0 (.loop (.keep [0, 1, 2, 7, 8] (.seq (.seq (.region [⟨some 36, .mov (.t 8), none, [], []⟩,
  ⟨some 37, .mov (.t 0), none, [], []⟩,
  ⟨some 38, .mov (.t 1), none, [], []⟩,
  ⟨some 39, .bin .add (.t 37) (.t 38), none, [], []⟩,
  ⟨some 40, .bin .lss (.t 36) (.t 39), none, [], []⟩] false)
 (.cond (.t 40) .skip (.exit 0)))
 (.seq (.block 1 (.seq (.region [⟨some 44, .mov (.t 7), none, [], []⟩,
  ⟨some 45, .mov (.t 0), none, [], []⟩,
  ⟨some 46, .mov (.t 8), none, [], []⟩,
  ⟨some 47, .bin .add (.c (.int .i64 1)) (.t 46), none, [], []⟩,
  ⟨some 48, .call false 23 [(.c (.int .i64 16)), (.t 47), (.c (.int .i64 0))], none, [], []⟩,
  ⟨some 49, .call false 14 [(.t 44), (.t 45), (.t 48)], none, [], []⟩,
  ⟨some 43, .mov (.t 49), none, [], []⟩,
  ⟨some 50, .ext (.t 43) 0, none, [], []⟩,
  ⟨some 51, .ext (.t 43) 1, none, [], []⟩,
  ⟨some 9, .mov (.t 50), none, [], []⟩,
  ⟨some 10, .mov (.t 51), none, [], []⟩] false)
 (.seq (.seq (.region [⟨some 52, .mov (.t 10), none, [], []⟩,
  ⟨some 53, .bin .neq (.t 52) (.c (.int .i64 0)), none, [], []⟩] false)
 (.cond (.t 53) (.seq (.region [⟨some 6, .mov (.c (.bool false)), none, [], []⟩] false)
 .ret) .skip))
 (.region [⟨some 54, .mov (.t 9), none, [], []⟩,
  ⟨some 7, .mov (.t 54), none, [], []⟩] false))))
 (.region [⟨some 41, .mov (.t 8), none, [], []⟩,
  ⟨some 42, .bin .add (.t 41) (.c (.int .i64 1)), none, [], []⟩,
  ⟨some 8, .mov (.t 42), none, [], []⟩] false)))))))
 (.seq (.seq (.region [⟨some 11, .mov (.c (.int .i64 0)), none, [], []⟩] false)
 (.block 2 (.loop (.keep [0, 1, 2, 7, 11] (.seq (.seq (.region [⟨some 55, .mov (.t 11), none, [], []⟩,
  ⟨some 56, .mov (.t 2), none, [], []⟩,
  ⟨some 57, .bin .lss (.t 55) (.t 56), none, [], []⟩] false)
 (.cond (.t 57) .skip (.exit 2)))
 (.seq (.block 3 (.seq (.region [⟨some 61, .mov (.t 7), none, [], []⟩,
  ⟨some 62, .mov (.t 0), none, [], []⟩,
  ⟨some 63, .mov (.t 11), none, [], []⟩,
  ⟨some 64, .bin .add (.c (.int .i64 1)) (.t 63), none, [], []⟩,
  ⟨some 65, .call false 23 [(.c (.int .i64 32)), (.t 64), (.c (.int .i64 0))], none, [], []⟩,
  ⟨some 66, .call false 14 [(.t 61), (.t 62), (.t 65)], none, [], []⟩,
  ⟨some 60, .mov (.t 66), none, [], []⟩,
  ⟨some 67, .ext (.t 60) 0, none, [], []⟩,
  ⟨some 68, .ext (.t 60) 1, none, [], []⟩,
  ⟨some 12, .mov (.t 67), none, [], []⟩,
  ⟨some 13, .mov (.t 68), none, [], []⟩] false)
 (.seq (.region [⟨some 69, .mov (.t 13), none, [], []⟩,
  ⟨some 70, .bin .neq (.t 69) (.c (.int .i64 6)), none, [], []⟩] false)
 (.cond (.t 70) (.seq (.region [⟨some 6, .mov (.c (.bool false)), none, [], []⟩] false)
 .ret) .skip))))
 (.region [⟨some 58, .mov (.t 11), none, [], []⟩,
  ⟨some 59, .bin .add (.t 58) (.c (.int .i64 1)), none, [], []⟩,
  ⟨some 11, .mov (.t 59), none, [], []⟩] false)))))))
 (.seq (.region [⟨some 72, .mov (.t 7), none, [], []⟩,
  ⟨some 73, .mov (.t 0), none, [], []⟩,
  ⟨some 74, .build [.int .i64 0, .int .i64 0, .int .i64 0, .int .i64 0, .int .i64 0, .int .i64 0] [(0, 1, (.c (.int .i64 5)))], none, [], []⟩,
  ⟨some 75, .call false 14 [(.t 72), (.t 73), (.t 74)], none, [], []⟩,
  ⟨some 71, .mov (.t 75), none, [], []⟩,
  ⟨some 76, .ext (.t 71) 0, none, [], []⟩,
  ⟨some 77, .ext (.t 71) 1, none, [], []⟩,
  ⟨some 14, .mov (.t 76), none, [], []⟩,
  ⟨some 15, .mov (.t 77), none, [], []⟩] false)
 (.seq (.region [⟨some 79, .mov (.t 7), none, [], []⟩,
  ⟨some 80, .call false 15 [(.t 79)], none, [], []⟩,
  ⟨some 78, .mov (.t 80), none, [], []⟩,
  ⟨some 81, .ext (.t 78) 0, none, [], []⟩,
  ⟨some 82, .ext (.t 78) 1, none, [], []⟩,
  ⟨some 83, .ext (.t 78) 2, none, [], []⟩,
  ⟨some 16, .alloc [.int .i64 0, .int .i64 0, .int .i64 0, .int .i64 0, .int .i64 0, .int .i64 0], none, [], []⟩,
  ⟨none, .store none 6 (.t 16) (.t 81), none, [], []⟩,
  ⟨some 17, .mov (.t 82), none, [], []⟩,
  ⟨some 18, .mov (.t 83), none, [], []⟩] false)
 (.seq (.region [⟨some 85, .mov (.t 17), none, [], []⟩,
  ⟨some 86, .mov (.t 0), none, [], []⟩,
  ⟨some 87, .mov (.t 2), none, [], []⟩,
  ⟨some 88, .bin .add (.c (.int .i64 1)) (.t 87), none, [], []⟩,
  ⟨some 89, .call false 23 [(.c (.int .i64 32)), (.t 88), (.c (.int .i64 0))], none, [], []⟩,
  ⟨some 90, .call false 14 [(.t 85), (.t 86), (.t 89)], none, [], []⟩,
  ⟨some 84, .mov (.t 90), none, [], []⟩,
  ⟨some 91, .ext (.t 84) 0, none, [], []⟩,
  ⟨some 92, .ext (.t 84) 1, none, [], []⟩,
  ⟨some 19, .mov (.t 91), none, [], []⟩,
  ⟨some 20, .mov (.t 92), none, [], []⟩] false)
 (.seq (.seq (.region [⟨some 93, .mov (.t 15), none, [], []⟩,
  ⟨some 94, .bin .neq (.t 93) (.c (.int .i64 6)), none, [], []⟩,
  ⟨some 95, .mov (.t 94), none, [], []⟩,
  ⟨some 96, .mov (.t 18), some (95, false), [], []⟩,
  ⟨some 97, .bin .neq (.t 96) (.c (.int .i64 0)), some (95, false), [], []⟩,
  ⟨some 98, .pick (.t 95) (.c (.bool true)) (.t 97), none, [], []⟩,
  ⟨some 99, .mov (.t 98), none, [], []⟩,
  ⟨some 100, .mov (.t 20), some (99, false), [], []⟩,
  ⟨some 101, .bin .neq (.t 100) (.c (.int .i64 0)), some (99, false), [], []⟩,
  ⟨some 102, .pick (.t 99) (.c (.bool true)) (.t 101), none, [], []⟩,
  ⟨some 103, .mov (.t 102), none, [], []⟩,
  ⟨some 104, .mov (.t 19), some (103, false), [], []⟩,
  ⟨some 105, .len (.t 104), some (103, false), [], []⟩,
  ⟨some 106, .mov (.t 0), some (103, false), [], []⟩,
  ⟨some 107, .bin .neq (.t 105) (.t 106), some (103, false), [], []⟩,
  ⟨some 108, .pick (.t 103) (.c (.bool true)) (.t 107), none, [], []⟩] false)
 (.cond (.t 108) (.seq (.region [⟨some 6, .mov (.c (.bool false)), none, [], []⟩] false)
 .ret) .skip))
 (.seq (.region [⟨some 109, .mov (.t 19), none, [21, 22, 110, 111, 114, 115, 116, 117, 118], []⟩,
  ⟨some 110, .mov (.t 0), none, [21, 22, 109, 114, 115, 116, 117, 118], []⟩,
  ⟨some 111, .bin .sub (.t 110) (.c (.int .i64 1)), none, [21, 22, 109, 114, 115, 116, 117, 118], [1]⟩,
  ⟨some 112, .iad 6 (.t 109) (.t 111), none, [21, 22, 114, 115, 116, 117, 118], [0, 1, 2]⟩,
  ⟨some 113, .load true 6 (.t 112), none, [21, 22, 114, 115, 116, 117, 118], [0, 1, 2, 3]⟩,
  ⟨some 114, .mov (.t 19), none, [21, 22, 109, 110, 111, 112, 113, 115, 116], []⟩,
  ⟨some 115, .mov (.t 0), none, [21, 22, 109, 110, 111, 112, 113, 114], []⟩,
  ⟨some 116, .bin .sub (.t 115) (.c (.int .i64 2)), none, [21, 22, 109, 110, 111, 112, 113, 114], [6]⟩,
  ⟨some 117, .iad 6 (.t 114) (.t 116), none, [21, 22, 109, 110, 111, 112, 113], [5, 6, 7]⟩,
  ⟨some 118, .load true 6 (.t 117), none, [21, 22, 109, 110, 111, 112, 113], [5, 6, 7, 8]⟩,
  ⟨some 21, .alloc [.int .i64 0, .int .i64 0, .int .i64 0, .int .i64 0, .int .i64 0, .int .i64 0], none, [22, 109, 110, 111, 112, 113, 114, 115, 116, 117, 118], []⟩,
  ⟨some 22, .alloc [.int .i64 0, .int .i64 0, .int .i64 0, .int .i64 0, .int .i64 0, .int .i64 0], none, [21, 109, 110, 111, 112, 113, 114, 115, 116, 117, 118], []⟩,
  ⟨none, .store (some 21) 6 (.t 21) (.t 113), none, [114, 115, 116, 117, 118], [0, 1, 2, 3, 4, 10, 11]⟩,
  ⟨none, .store none 6 (.t 22) (.t 118), none, [], [0, 1, 2, 3, 4, 5, 6, 7, 8, 9, 10, 11, 12]⟩] true)
 (.seq (.region [⟨some 119, .load true 6 (.t 21), none, [], []⟩,
  ⟨some 120, .mov (.t 2), none, [], []⟩,
  ⟨some 121, .bin .add (.c (.int .i64 1)) (.t 120), none, [], []⟩,
  ⟨some 122, .mov (.t 2), none, [], []⟩,
  ⟨some 123, .bin .add (.c (.int .i64 1)) (.t 122), none, [], []⟩,
  ⟨some 124, .build [.int .i64 0, .int .i64 0, .int .i64 0, .int .i64 0, .int .i64 0, .int .i64 0] [(0, 1, (.c (.int .i64 2))), (1, 1, (.c (.int .i64 32))), (2, 1, (.t 121)), (3, 1, (.t 123))], none, [], []⟩,
  ⟨some 125, .eqs false [true, true, true, true, true, true] (.t 119) (.t 124), none, [], []⟩,
  ⟨some 126, .mov (.t 125), none, [], []⟩,
  ⟨some 127, .load true 6 (.t 22), some (126, true), [], []⟩,
  ⟨some 128, .mov (.t 0), some (126, true), [], []⟩,
  ⟨some 129, .mov (.t 0), some (126, true), [], []⟩,
  ⟨some 130, .mov (.t 1), some (126, true), [], []⟩,
  ⟨some 131, .bin .add (.t 129) (.t 130), some (126, true), [], []⟩,
  ⟨some 132, .build [.int .i64 0, .int .i64 0, .int .i64 0, .int .i64 0, .int .i64 0, .int .i64 0] [(0, 1, (.c (.int .i64 2))), (1, 1, (.c (.int .i64 16))), (2, 1, (.t 128)), (3, 1, (.t 131))], some (126, true), [], []⟩,
  ⟨some 133, .eqs false [true, true, true, true, true, true] (.t 127) (.t 132), some (126, true), [], []⟩,
  ⟨some 134, .pick (.t 126) (.t 133) (.c (.bool false)), none, [], []⟩,
  ⟨some 135, .mov (.t 134), none, [], []⟩,
  ⟨some 136, .call false 21 [], some (135, true), [], []⟩,
  ⟨some 137, .pick (.t 135) (.t 136) (.c (.bool false)), none, [], []⟩,
  ⟨some 6, .mov (.t 137), none, [], []⟩] false)
 .ret)))))))))))
def i5 : F := ⟨3, 138, j5, [.t 6]⟩
theorem b5 : i5.body = j5 := rfl
theorem q5 : i5.res = [.t 6] := rfl
theorem c5 : chkF Try.prog Try.f5 i5 = true := by kernel_rfl
theorem s5 {m : Model} {E : Nat → Model} (hE : ∀ f, Sound Try.prog f (E f)) (hm : ∀ args r, m args = some r → ∃ N, i5.ev E N args = some r) : Sound Try.prog 5 m := sound_of i5 Try.func5 rfl c5 hE hm
/-- bellwether/bellwetherlaw17.QueueKinds -/
def j6 : C := (.seq (.region [⟨some 6, .mov (.c (.bool false)), none, [], []⟩] false)
 (.seq (.region [⟨some 23, .mov (.t 0), none, [], []⟩,
  ⟨some 24, .conv .u64 (.t 23), none, [], []⟩,
  ⟨some 25, .bin .rem (.t 24) (.c (.int .u64 30)), none, [], []⟩,
  ⟨some 26, .conv .i64 (.t 25), none, [], []⟩,
  ⟨some 27, .bin .add (.c (.int .i64 3)) (.t 26), none, [], []⟩,
  ⟨some 28, .mov (.t 2), none, [], []⟩,
  ⟨some 29, .conv .u64 (.t 28), none, [], []⟩,
  ⟨some 30, .bin .rem (.t 29) (.c (.int .u64 40)), none, [], []⟩,
  ⟨some 31, .conv .i64 (.t 30), none, [], []⟩,
  ⟨some 32, .bin .add (.c (.int .i64 1)) (.t 31), none, [], []⟩,
  ⟨some 0, .mov (.t 27), none, [], []⟩,
  ⟨some 2, .mov (.t 32), none, [], []⟩] false)
 (.seq (.region [⟨some 33, .mov (.t 2), none, [], []⟩,
  ⟨some 34, .call false 23 [(.c (.int .i64 48)), (.t 33), (.c (.int .i64 5))], none, [], []⟩,
  ⟨some 35, .mov (.t 2), none, [], []⟩,
  ⟨some 36, .mov (.t 2), none, [], []⟩,
  ⟨some 37, .bin .add (.t 36) (.c (.int .i64 3)), none, [], []⟩,
  ⟨some 38, .build [.int .i64 0, .int .i64 0, .int .i64 0, .int .i64 0, .int .i64 0, .int .i64 0] [(0, 1, (.c (.int .i64 2))), (1, 1, (.c (.int .i64 48))), (2, 1, (.t 35)), (3, 1, (.t 37))], none, [], []⟩,
  ⟨some 39, .mov (.t 2), none, [], []⟩,
  ⟨some 40, .mov (.t 2), none, [], []⟩,
  ⟨some 41, .bin .rem (.t 40) (.c (.int .i64 8)), none, [], []⟩,
  ⟨some 42, .build [.int .i64 0, .int .i64 0, .int .i64 0, .int .i64 0, .int .i64 0, .int .i64 0] [(0, 1, (.c (.int .i64 3))), (5, 1, (.t 39)), (4, 1, (.t 41))], none, [], []⟩,
  ⟨some 43, .mov (.t 2), none, [], []⟩,
  ⟨some 44, .build [.int .i64 0, .int .i64 0, .int .i64 0, .int .i64 0, .int .i64 0, .int .i64 0] [(0, 1, (.c (.int .i64 4))), (5, 1, (.t 43))], none, [], []⟩,
  ⟨some 45, .build [.int .i64 0, .int .i64 0, .int .i64 0, .int .i64 0, .int .i64 0, .int .i64 0] [(0, 1, (.c (.int .i64 5)))], none, [], []⟩,
  ⟨some 46, .bsl 24 6 5 [.int .i64 0, .int .i64 0, .int .i64 0, .int .i64 0, .int .i64 0, .int .i64 0] [(0, (.t 34)), (1, (.t 38)), (2, (.t 42)), (3, (.t 44)), (4, (.t 45))], none, [], []⟩,
  ⟨some 47, .mov (.t 1), none, [], []⟩,
  ⟨some 48, .conv .u64 (.t 47), none, [], []⟩,
  ⟨some 49, .bin .rem (.t 48) (.c (.int .u64 5)), none, [], []⟩,
  ⟨some 50, .conv .i64 (.t 49), none, [], []⟩,
  ⟨some 51, .iad 6 (.t 46) (.t 50), none, [], []⟩,
  ⟨some 52, .load true 6 (.t 51), none, [], []⟩,
  ⟨some 7, .alloc [.int .i64 0, .int .i64 0, .int .i64 0, .int .i64 0, .int .i64 0, .int .i64 0], none, [], []⟩,
  ⟨none, .store none 6 (.t 7) (.t 52), none, [], []⟩] false)
 (.seq (.region [⟨some 8, .mov (.c (.row [])), none, [], []⟩] false)
 (.seq (.seq (.region [⟨some 9, .mov (.c (.int .i64 0)), none, [], []⟩] false)
 (.block 0 (.loop (.keep [0, 2, 7, 8, 9] (.seq (.seq (.region [⟨some 53, .mov (.t 9), none, [], []⟩,
  ⟨some 54, .mov (.t 0), none, [], []⟩,
  ⟨some 55, .bin .sub (.t 54) (.c (.int .i64 2)), none, [], []⟩,
  ⟨some 56, .bin .lss (.t 53) (.t 55), none, [], []⟩] false)
 (.cond (.t 56) .skip (.exit 0)))
 (.seq (.block 1 (.seq (.region [⟨some 60, .mov (.t 8), none, [], []⟩,
  ⟨some 61, .mov (.t 0), none, [], []⟩,
  ⟨some 62, .build [.int .i64 0, .int .i64 0, .int .i64 0, .int .i64 0, .int .i64 0, .int .i64 0] [(0, 1, (.c (.int .i64 5)))], none, [], []⟩,
  ⟨some 63, .call false 14 [(.t 60), (.t 61), (.t 62)], none, [], []⟩,
  ⟨some 59, .mov (.t 63), none, [], []⟩,
  ⟨some 64, .ext (.t 59) 0, none, [], []⟩,
  ⟨some 65, .ext (.t 59) 1, none, [], []⟩,
  ⟨some 10, .mov (.t 64), none, [], []⟩,
  ⟨some 11, .mov (.t 65), none, [], []⟩] false)
 (.seq (.seq (.region [⟨some 66, .mov (.t 11), none, [], []⟩,
  ⟨some 67, .bin .neq (.t 66) (.c (.int .i64 0)), none, [], []⟩] false)
 (.cond (.t 67) (.seq (.region [⟨some 6, .mov (.c (.bool false)), none, [], []⟩] false)
 .ret) .skip))
 (.region [⟨some 68, .mov (.t 10), none, [], []⟩,
  ⟨some 8, .mov (.t 68), none, [], []⟩] false))))
 (.region [⟨some 57, .mov (.t 9), none, [], []⟩,
  ⟨some 58, .bin .add (.t 57) (.c (.int .i64 1)), none, [], []⟩,
  ⟨some 9, .mov (.t 58), none, [], []⟩] false)))))))
 (.seq (.region [⟨some 70, .mov (.t 8), none, [], []⟩,
  ⟨some 71, .mov (.t 0), none, [], []⟩,
  ⟨some 72, .load true 6 (.t 7), none, [], []⟩,
  ⟨some 73, .call false 14 [(.t 70), (.t 71), (.t 72)], none, [], []⟩,
  ⟨some 69, .mov (.t 73), none, [], []⟩,
  ⟨some 74, .ext (.t 69) 0, none, [], []⟩,
  ⟨some 75, .ext (.t 69) 1, none, [], []⟩,
  ⟨some 12, .mov (.t 74), none, [], []⟩,
  ⟨some 13, .mov (.t 75), none, [], []⟩] false)
 (.seq (.region [⟨some 77, .mov (.t 12), none, [], []⟩,
  ⟨some 78, .mov (.t 0), none, [], []⟩,
  ⟨some 79, .load true 6 (.t 7), none, [], []⟩,
  ⟨some 80, .call false 14 [(.t 77), (.t 78), (.t 79)], none, [], []⟩,
  ⟨some 76, .mov (.t 80), none, [], []⟩,
  ⟨some 81, .ext (.t 76) 0, none, [], []⟩,
  ⟨some 82, .ext (.t 76) 1, none, [], []⟩,
  ⟨some 14, .mov (.t 81), none, [], []⟩,
  ⟨some 15, .mov (.t 82), none, [], []⟩] false)
 (.seq (.seq (.region [⟨some 83, .mov (.t 13), none, [], []⟩,
  ⟨some 84, .bin .neq (.t 83) (.c (.int .i64 0)), none, [], [0]⟩,
  ⟨some 85, .mov (.t 84), none, [], [0, 1]⟩,
  ⟨some 86, .mov (.t 12), some (85, false), [88, 89], [0, 1, 2]⟩,
  ⟨some 87, .len (.t 86), some (85, false), [88, 89], [0, 1, 2, 3]⟩,
  ⟨some 88, .mov (.t 0), some (85, false), [86, 87], [0, 1, 2]⟩,
  ⟨some 89, .bin .sub (.t 88) (.c (.int .i64 1)), some (85, false), [86, 87], [0, 1, 2, 5]⟩,
  ⟨some 90, .bin .neq (.t 87) (.t 89), some (85, false), [], [0, 1, 2, 3, 4, 5, 6]⟩,
  ⟨some 91, .pick (.t 85) (.c (.bool true)) (.t 90), none, [], [0, 1, 2, 3, 4, 5, 6, 7]⟩,
  ⟨some 92, .mov (.t 91), none, [], [0, 1, 2, 3, 4, 5, 6, 7, 8]⟩,
  ⟨some 93, .mov (.t 12), some (92, false), [94, 95, 98], [0, 1, 2, 3, 4, 5, 6, 7, 8, 9]⟩,
  ⟨some 94, .mov (.t 0), some (92, false), [93, 98], [0, 1, 2, 3, 4, 5, 6, 7, 8, 9]⟩,
  ⟨some 95, .bin .sub (.t 94) (.c (.int .i64 2)), some (92, false), [93, 98], [0, 1, 2, 3, 4, 5, 6, 7, 8, 9, 11]⟩,
  ⟨some 96, .iad 6 (.t 93) (.t 95), some (92, false), [98], [0, 1, 2, 3, 4, 5, 6, 7, 8, 9, 10, 11, 12]⟩,
  ⟨some 97, .load true 6 (.t 96), some (92, false), [98], [0, 1, 2, 3, 4, 5, 6, 7, 8, 9, 10, 11, 12, 13]⟩,
  ⟨some 98, .load true 6 (.t 7), some (92, false), [93, 94, 95, 96, 97], [0, 1, 2, 3, 4, 5, 6, 7, 8, 9]⟩,
  ⟨some 99, .eqs true [true, true, true, true, true, true] (.t 97) (.t 98), some (92, false), [], [0, 1, 2, 3, 4, 5, 6, 7, 8, 9, 10, 11, 12, 13, 14, 15]⟩,
  ⟨some 100, .pick (.t 92) (.c (.bool true)) (.t 99), none, [], [0, 1, 2, 3, 4, 5, 6, 7, 8, 9, 10, 11, 12, 13, 14, 15, 16]⟩] true)
 (.cond (.t 100) (.seq (.region [⟨some 6, .mov (.c (.bool false)), none, [], []⟩] false)
 .ret) .skip))
 (.seq (.seq (.region [⟨some 101, .fad 0 (.t 7), none, [], []⟩,
  ⟨some 102, .load false 1 (.t 101), none, [], []⟩,
  ⟨some 103, .bin .neq (.t 102) (.c (.int .i64 1)), none, [], []⟩,
  ⟨some 104, .mov (.t 103), none, [], []⟩,
  ⟨some 105, .fad 0 (.t 7), some (104, true), [], []⟩,
  ⟨some 106, .load false 1 (.t 105), some (104, true), [], []⟩,
  ⟨some 107, .bin .neq (.t 106) (.c (.int .i64 2)), some (104, true), [], []⟩,
  ⟨some 108, .pick (.t 104) (.t 107) (.c (.bool false)), none, [], []⟩] false)
 (.cond (.t 108) (.seq (.region [⟨some 109, .mov (.t 15), none, [], []⟩,
  ⟨some 110, .bin .eql (.t 109) (.c (.int .i64 6)), none, [], []⟩,
  ⟨some 111, .mov (.t 110), none, [], []⟩,
  ⟨some 112, .mov (.t 14), some (111, true), [], []⟩,
  ⟨some 113, .len (.t 112), some (111, true), [], []⟩,
  ⟨some 114, .bin .eql (.t 113) (.c (.int .i64 0)), some (111, true), [], []⟩,
  ⟨some 115, .pick (.t 111) (.t 114) (.c (.bool false)), none, [], []⟩,
  ⟨some 116, .mov (.t 115), none, [], []⟩,
  ⟨some 117, .call false 21 [], some (116, true), [], []⟩,
  ⟨some 118, .pick (.t 116) (.t 117) (.c (.bool false)), none, [], []⟩,
  ⟨some 6, .mov (.t 118), none, [], []⟩] false)
 .ret) .skip))
 (.seq (.seq (.region [⟨some 119, .mov (.t 15), none, [], []⟩,
  ⟨some 120, .bin .neq (.t 119) (.c (.int .i64 0)), none, [], []⟩,
  ⟨some 121, .mov (.t 120), none, [], []⟩,
  ⟨some 122, .mov (.t 14), some (121, false), [], []⟩,
  ⟨some 123, .len (.t 122), some (121, false), [], []⟩,
  ⟨some 124, .mov (.t 0), some (121, false), [], []⟩,
  ⟨some 125, .bin .neq (.t 123) (.t 124), some (121, false), [], []⟩,
  ⟨some 126, .pick (.t 121) (.c (.bool true)) (.t 125), none, [], []⟩,
  ⟨some 127, .mov (.t 126), none, [], []⟩,
  ⟨some 128, .mov (.t 14), some (127, false), [], []⟩,
  ⟨some 129, .mov (.t 0), some (127, false), [], []⟩,
  ⟨some 130, .bin .sub (.t 129) (.c (.int .i64 1)), some (127, false), [], []⟩,
  ⟨some 131, .iad 6 (.t 128) (.t 130), some (127, false), [], []⟩,
  ⟨some 132, .fad 0 (.t 131), some (127, false), [], []⟩,
  ⟨some 133, .load false 1 (.t 132), some (127, false), [], []⟩,
  ⟨some 134, .bin .neq (.t 133) (.c (.int .i64 2)), some (127, false), [], []⟩,
  ⟨some 135, .pick (.t 127) (.c (.bool true)) (.t 134), none, [], []⟩,
  ⟨some 136, .mov (.t 135), none, [], []⟩,
  ⟨some 137, .mov (.t 14), some (136, false), [], []⟩,
  ⟨some 138, .mov (.t 0), some (136, false), [], []⟩,
  ⟨some 139, .bin .sub (.t 138) (.c (.int .i64 1)), some (136, false), [], []⟩,
  ⟨some 140, .iad 6 (.t 137) (.t 139), some (136, false), [], []⟩,
  ⟨some 141, .fad 2 (.t 140), some (136, false), [], []⟩,
  ⟨some 142, .load false 1 (.t 141), some (136, false), [], []⟩,
  ⟨some 143, .mov (.t 2), some (136, false), [], []⟩,
  ⟨some 144, .bin .neq (.t 142) (.t 143), some (136, false), [], []⟩,
  ⟨some 145, .pick (.t 136) (.c (.bool true)) (.t 144), none, [], []⟩] false)
 (.cond (.t 145) (.seq (.region [⟨some 6, .mov (.c (.bool false)), none, [], []⟩] false)
 .ret) .skip))
 (.seq (.seq (.region [⟨some 16, .mov (.c (.int .i64 0)), none, [], []⟩] false)
 (.block 2 (.loop (.keep [0, 7, 8, 12, 14, 16] (.seq (.seq (.region [⟨some 146, .mov (.t 16), none, [], []⟩,
  ⟨some 147, .mov (.t 0), none, [], []⟩,
  ⟨some 148, .bin .sub (.t 147) (.c (.int .i64 2)), none, [], []⟩,
  ⟨some 149, .bin .lss (.t 146) (.t 148), none, [], []⟩] false)
 (.cond (.t 149) .skip (.exit 2)))
 (.seq (.block 3 (.seq (.region [⟨some 153, .mov (.t 14), none, [], []⟩,
  ⟨some 154, .call false 15 [(.t 153)], none, [], []⟩,
  ⟨some 152, .mov (.t 154), none, [], []⟩,
  ⟨some 155, .ext (.t 152) 0, none, [], []⟩,
  ⟨some 156, .ext (.t 152) 1, none, [], []⟩,
  ⟨some 157, .ext (.t 152) 2, none, [], []⟩,
  ⟨some 17, .alloc [.int .i64 0, .int .i64 0, .int .i64 0, .int .i64 0, .int .i64 0, .int .i64 0], none, [], []⟩,
  ⟨none, .store none 6 (.t 17) (.t 155), none, [], []⟩,
  ⟨some 18, .mov (.t 156), none, [], []⟩,
  ⟨some 19, .mov (.t 157), none, [], []⟩] false)
 (.seq (.seq (.region [⟨some 158, .mov (.t 19), none, [], []⟩,
  ⟨some 159, .bin .neq (.t 158) (.c (.int .i64 0)), none, [], []⟩,
  ⟨some 160, .mov (.t 159), none, [], []⟩,
  ⟨some 161, .fad 0 (.t 17), some (160, false), [], []⟩,
  ⟨some 162, .load false 1 (.t 161), some (160, false), [], []⟩,
  ⟨some 163, .bin .neq (.t 162) (.c (.int .i64 5)), some (160, false), [], []⟩,
  ⟨some 164, .pick (.t 160) (.c (.bool true)) (.t 163), none, [], []⟩] false)
 (.cond (.t 164) (.seq (.region [⟨some 6, .mov (.c (.bool false)), none, [], []⟩] false)
 .ret) .skip))
 (.region [⟨some 165, .mov (.t 18), none, [], []⟩,
  ⟨some 14, .mov (.t 165), none, [], []⟩] false))))
 (.region [⟨some 150, .mov (.t 16), none, [], []⟩,
  ⟨some 151, .bin .add (.t 150) (.c (.int .i64 1)), none, [], []⟩,
  ⟨some 16, .mov (.t 151), none, [], []⟩] false)))))))
 (.seq (.region [⟨some 167, .mov (.t 14), none, [], []⟩,
  ⟨some 168, .call false 15 [(.t 167)], none, [], []⟩,
  ⟨some 166, .mov (.t 168), none, [], []⟩,
  ⟨some 169, .ext (.t 166) 0, none, [], []⟩,
  ⟨some 170, .ext (.t 166) 1, none, [], []⟩,
  ⟨some 171, .ext (.t 166) 2, none, [], []⟩,
  ⟨some 20, .alloc [.int .i64 0, .int .i64 0, .int .i64 0, .int .i64 0, .int .i64 0, .int .i64 0], none, [], []⟩,
  ⟨none, .store none 6 (.t 20) (.t 169), none, [], []⟩,
  ⟨some 21, .mov (.t 170), none, [], []⟩,
  ⟨some 22, .mov (.t 171), none, [], []⟩] false)
 (.seq (.region [⟨some 172, .mov (.t 22), none, [], []⟩,
  ⟨some 173, .bin .eql (.t 172) (.c (.int .i64 0)), none, [], []⟩,
  ⟨some 174, .mov (.t 173), none, [], []⟩,
  ⟨some 175, .load true 6 (.t 20), some (174, true), [], []⟩,
  ⟨some 176, .load true 6 (.t 7), some (174, true), [], []⟩,
  ⟨some 177, .eqs false [true, true, true, true, true, true] (.t 175) (.t 176), some (174, true), [], []⟩,
  ⟨some 178, .pick (.t 174) (.t 177) (.c (.bool false)), none, [], []⟩,
  ⟨some 179, .mov (.t 178), none, [], []⟩,
  ⟨some 180, .mov (.t 21), some (179, true), [], []⟩,
  ⟨some 181, .len (.t 180), some (179, true), [], []⟩,
  ⟨some 182, .bin .eql (.t 181) (.c (.int .i64 1)), some (179, true), [], []⟩,
  ⟨some 183, .pick (.t 179) (.t 182) (.c (.bool false)), none, [], []⟩,
  ⟨some 184, .mov (.t 183), none, [], []⟩,
  ⟨some 185, .mov (.t 12), some (184, true), [], []⟩,
  ⟨some 186, .mov (.t 0), some (184, true), [], []⟩,
  ⟨some 187, .bin .sub (.t 186) (.c (.int .i64 2)), some (184, true), [], []⟩,
  ⟨some 188, .cut 6 (.t 185) none (some (.t 187)), some (184, true), [], []⟩,
  ⟨some 189, .mov (.t 8), some (184, true), [], []⟩,
  ⟨some 190, .call false 20 [(.t 188), (.t 189)], some (184, true), [], []⟩,
  ⟨some 191, .pick (.t 184) (.t 190) (.c (.bool false)), none, [], []⟩,
  ⟨some 192, .mov (.t 191), none, [], []⟩,
  ⟨some 193, .call false 21 [], some (192, true), [], []⟩,
  ⟨some 194, .pick (.t 192) (.t 193) (.c (.bool false)), none, [], []⟩,
  ⟨some 6, .mov (.t 194), none, [], []⟩] false)
 .ret)))))))))))))
def i6 : F := ⟨3, 195, j6, [.t 6]⟩
theorem b6 : i6.body = j6 := rfl
theorem q6 : i6.res = [.t 6] := rfl
theorem c6 : chkF Try.prog Try.f6 i6 = true := by kernel_rfl
theorem s6 {m : Model} {E : Nat → Model} (hE : ∀ f, Sound Try.prog f (E f)) (hm : ∀ args r, m args = some r → ∃ N, i6.ev E N args = some r) : Sound Try.prog 6 m := sound_of i6 Try.func6 rfl c6 hE hm
/-- bellwether/bellwetherkeep.TwinEvents -/
def j13 : C := (.seq (.region [⟨some 2, .nilsl 24 6 0, none, [], []⟩] false)
 (.seq (.region [⟨some 3, .nilsl 24 6 0, none, [], []⟩] false)
 (.seq (.region [⟨some 4, .mov (.t 3), none, [], []⟩,
  ⟨some 5, .mov (.t 0), none, [], []⟩,
  ⟨some 6, .app 24 6 48 (.t 4) (.t 5), none, [], []⟩,
  ⟨some 2, .mov (.t 6), none, [], []⟩] false)
 .ret)))
def i13 : F := ⟨1, 7, j13, [.t 2]⟩
theorem b13 : i13.body = j13 := rfl
theorem q13 : i13.res = [.t 2] := rfl
theorem c13 : chkF Try.prog Try.f13 i13 = true := by kernel_rfl
theorem s13 {m : Model} {E : Nat → Model} (hE : ∀ f, Sound Try.prog f (E f)) (hm : ∀ args r, m args = some r → ∃ N, i13.ev E N args = some r) : Sound Try.prog 13 m := sound_of i13 Try.func13 rfl c13 hE hm
/-- bellwether/queue.Put -/
def j14 : C := (.seq (.region [⟨some 5, .box (.t 2), none, [], []⟩,
  ⟨some 6, .nilsl 24 6 0, none, [], []⟩,
  ⟨some 7, .mov (.c (.int .i64 0)), none, [], []⟩] false)
 (.seq (.seq (.region [⟨some 12, .mov (.t 0), none, [], []⟩,
  ⟨some 13, .mov (.t 1), none, [], []⟩,
  ⟨some 14, .call false 19 [(.t 12), (.t 13)], none, [], []⟩,
  ⟨some 15, .bin .neq (.t 14) (.c (.int .i64 0)), none, [], []⟩,
  ⟨some 16, .mov (.t 15), none, [], []⟩,
  ⟨some 17, .load true 6 (.t 5), some (16, false), [], []⟩,
  ⟨some 18, .call false 17 [(.t 17)], some (16, false), [], []⟩,
  ⟨some 19, .bin .neq (.t 18) (.c (.int .i64 0)), some (16, false), [], []⟩,
  ⟨some 20, .pick (.t 16) (.c (.bool true)) (.t 19), none, [], []⟩] false)
 (.cond (.t 20) (.seq (.region [⟨some 6, .nilsl 24 6 1, none, [], []⟩,
  ⟨some 7, .mov (.c (.int .i64 1)), none, [], []⟩] false)
 .ret) .skip))
 (.seq (.region [⟨some 21, .mov (.t 0), none, [], []⟩,
  ⟨some 22, .call true 46 [(.t 21)], none, [], []⟩,
  ⟨some 8, .mov (.t 22), none, [], []⟩] false)
 (.seq (.seq (.region [⟨some 23, .mov (.t 0), none, [], []⟩,
  ⟨some 24, .len (.t 23), none, [], []⟩,
  ⟨some 25, .mov (.t 1), none, [], []⟩,
  ⟨some 26, .bin .sub (.t 25) (.c (.int .i64 1)), none, [], []⟩,
  ⟨some 27, .bin .lss (.t 24) (.t 26), none, [], []⟩] false)
 (.cond (.t 27) (.seq (.region [⟨some 28, .mov (.t 8), none, [], []⟩,
  ⟨some 29, .load true 6 (.t 5), none, [], []⟩,
  ⟨some 30, .bsl 24 6 1 [.int .i64 0, .int .i64 0, .int .i64 0, .int .i64 0, .int .i64 0, .int .i64 0] [(0, (.t 29))], none, [], []⟩,
  ⟨some 31, .app 24 6 48 (.t 28) (.t 30), none, [], []⟩,
  ⟨some 6, .mov (.t 31), none, [], []⟩,
  ⟨some 7, .mov (.c (.int .i64 0)), none, [], []⟩] false)
 .ret) .skip))
 (.seq (.region [⟨some 33, .load true 6 (.t 5), none, [], []⟩,
  ⟨some 34, .call false 47 [(.t 33)], none, [], []⟩,
  ⟨some 32, .mov (.t 34), none, [], []⟩,
  ⟨some 35, .ext (.t 32) 0, none, [], []⟩,
  ⟨some 36, .ext (.t 32) 1, none, [], []⟩,
  ⟨some 9, .alloc [.int .i64 0, .int .i64 0, .int .i64 0, .int .i64 0, .int .i64 0, .int .i64 0], none, [], []⟩,
  ⟨none, .store none 6 (.t 9) (.t 35), none, [], []⟩,
  ⟨some 10, .mov (.t 36), none, [], []⟩] false)
 (.seq (.seq (.region [⟨some 37, .mov (.t 10), none, [], []⟩,
  ⟨some 38, .un .not (.t 37), none, [], []⟩] false)
 (.cond (.t 38) (.seq (.region [⟨some 6, .nilsl 24 6 2, none, [], []⟩,
  ⟨some 7, .mov (.c (.int .i64 6)), none, [], []⟩] false)
 .ret) .skip))
 (.seq (.seq (.region [⟨some 39, .mov (.t 0), none, [], []⟩,
  ⟨some 40, .len (.t 39), none, [], []⟩,
  ⟨some 41, .mov (.t 1), none, [], []⟩,
  ⟨some 42, .bin .lss (.t 40) (.t 41), none, [], []⟩] false)
 (.cond (.t 42) (.seq (.region [⟨some 43, .mov (.t 8), none, [], []⟩,
  ⟨some 44, .load true 6 (.t 9), none, [], []⟩,
  ⟨some 45, .bsl 24 6 1 [.int .i64 0, .int .i64 0, .int .i64 0, .int .i64 0, .int .i64 0, .int .i64 0] [(0, (.t 44))], none, [], []⟩,
  ⟨some 46, .app 24 6 48 (.t 43) (.t 45), none, [], []⟩,
  ⟨some 6, .mov (.t 46), none, [], []⟩,
  ⟨some 7, .mov (.c (.int .i64 0)), none, [], []⟩] false)
 .ret) .skip))
 (.seq (.region [⟨some 47, .mov (.t 8), none, [], []⟩,
  ⟨some 48, .mov (.t 1), none, [], []⟩,
  ⟨some 49, .bin .sub (.t 48) (.c (.int .i64 1)), none, [], []⟩,
  ⟨some 50, .iad 6 (.t 47) (.t 49), none, [], []⟩,
  ⟨some 11, .mov (.t 50), none, [], []⟩] false)
 (.seq (.seq (.region [⟨some 51, .fad 1 (.t 9), none, [53, 54, 55, 56], []⟩,
  ⟨some 52, .load false 1 (.t 51), none, [53, 54, 55, 56], [0]⟩,
  ⟨some 53, .mov (.t 11), none, [51, 52], []⟩,
  ⟨some 54, .nck (.t 53), none, [51, 52], [2]⟩,
  ⟨some 55, .fad 1 (.t 54), none, [51, 52], [2, 3]⟩,
  ⟨some 56, .load false 1 (.t 55), none, [51, 52], [2, 3, 4]⟩,
  ⟨some 57, .bin .neq (.t 52) (.t 56), none, [], [0, 1, 2, 3, 4, 5]⟩,
  ⟨some 58, .mov (.t 57), none, [], [0, 1, 2, 3, 4, 5, 6]⟩,
  ⟨some 59, .fad 2 (.t 9), some (58, false), [61, 62, 63, 64, 65], [0, 1, 2, 3, 4, 5, 6, 7]⟩,
  ⟨some 60, .load false 1 (.t 59), some (58, false), [61, 62, 63, 64, 65], [0, 1, 2, 3, 4, 5, 6, 7, 8]⟩,
  ⟨some 61, .mov (.t 11), some (58, false), [59, 60], [0, 1, 2, 3, 4, 5, 6, 7]⟩,
  ⟨some 62, .nck (.t 61), some (58, false), [59, 60], [0, 1, 2, 3, 4, 5, 6, 7, 10]⟩,
  ⟨some 63, .fad 3 (.t 62), some (58, false), [59, 60], [0, 1, 2, 3, 4, 5, 6, 7, 10, 11]⟩,
  ⟨some 64, .load false 1 (.t 63), some (58, false), [59, 60], [0, 1, 2, 3, 4, 5, 6, 7, 10, 11, 12]⟩,
  ⟨some 65, .bin .add (.t 64) (.c (.int .i64 1)), some (58, false), [59, 60], [0, 1, 2, 3, 4, 5, 6, 7, 10, 11, 12, 13]⟩,
  ⟨some 66, .bin .neq (.t 60) (.t 65), some (58, false), [], [0, 1, 2, 3, 4, 5, 6, 7, 8, 9, 10, 11, 12, 13, 14]⟩,
  ⟨some 67, .pick (.t 58) (.c (.bool true)) (.t 66), none, [], [0, 1, 2, 3, 4, 5, 6, 7, 8, 9, 10, 11, 12, 13, 14, 15]⟩] true)
 (.cond (.t 67) (.seq (.region [⟨some 6, .nilsl 24 6 3, none, [], []⟩,
  ⟨some 7, .mov (.c (.int .i64 6)), none, [], []⟩] false)
 .ret) .skip))
 (.seq (.region [⟨some 68, .mov (.t 11), none, [], []⟩,
  ⟨some 69, .fad 3 (.t 9), none, [], []⟩,
  ⟨some 70, .load false 1 (.t 69), none, [], []⟩,
  ⟨some 71, .nck (.t 68), none, [], []⟩,
  ⟨some 72, .fad 3 (.t 71), none, [], []⟩,
  ⟨none, .store none 1 (.t 72) (.t 70), none, [], []⟩] false)
 (.seq (.region [⟨some 73, .mov (.t 8), none, [], []⟩,
  ⟨some 6, .mov (.t 73), none, [], []⟩,
  ⟨some 7, .mov (.c (.int .i64 0)), none, [], []⟩] false)
 .ret)))))))))))
def i14 : F := ⟨3, 74, j14, [.t 6, .t 7]⟩
theorem b14 : i14.body = j14 := rfl
theorem q14 : i14.res = [.t 6, .t 7] := rfl
theorem c14 : chkF Try.prog Try.f14 i14 = true := by kernel_rfl
theorem s14 {m : Model} {E : Nat → Model} (hE : ∀ f, Sound Try.prog f (E f)) (hm : ∀ args r, m args = some r → ∃ N, i14.ev E N args = some r) : Sound Try.prog 14 m := sound_of i14 Try.func14 rfl c14 hE hm
/-- bellwether/queue.Poll -/
def j15 : C := (.seq (.region [⟨some 2, .alloc [.int .i64 0, .int .i64 0, .int .i64 0, .int .i64 0, .int .i64 0, .int .i64 0], none, [], []⟩,
  ⟨some 3, .mov (.c (.row [])), none, [], []⟩,
  ⟨some 4, .mov (.c (.int .i64 0)), none, [], []⟩] false)
 (.seq (.seq (.region [⟨some 5, .mov (.t 0), none, [], []⟩,
  ⟨some 6, .len (.t 5), none, [], []⟩,
  ⟨some 7, .bin .eql (.t 6) (.c (.int .i64 0)), none, [], []⟩] false)
 (.cond (.t 7) (.seq (.region [⟨some 8, .build [.int .i64 0, .int .i64 0, .int .i64 0, .int .i64 0, .int .i64 0, .int .i64 0] [], none, [], []⟩,
  ⟨none, .store none 6 (.t 2) (.t 8), none, [], []⟩,
  ⟨some 3, .mov (.c (.row [])), none, [], []⟩,
  ⟨some 4, .mov (.c (.int .i64 10)), none, [], []⟩] false)
 .ret) .skip))
 (.seq (.region [⟨some 9, .mov (.t 0), none, [12, 13, 14], []⟩,
  ⟨some 10, .iad 6 (.t 9) (.c (.int .i64 0)), none, [12, 13, 14], [0]⟩,
  ⟨some 11, .load true 6 (.t 10), none, [12, 13, 14], [0, 1]⟩,
  ⟨some 12, .mov (.t 0), none, [9, 10, 11], []⟩,
  ⟨some 13, .cut 6 (.t 12) (some (.c (.int .i64 1))) none, none, [9, 10, 11], [3]⟩,
  ⟨some 14, .call false 46 [(.t 13)], none, [9, 10, 11], [3, 4]⟩,
  ⟨none, .store none 6 (.t 2) (.t 11), none, [], [0, 1, 2, 3, 4, 5]⟩,
  ⟨some 3, .mov (.t 14), none, [], [0, 1, 2, 3, 4, 5, 6]⟩,
  ⟨some 4, .mov (.c (.int .i64 0)), none, [], [0, 1, 2, 3, 4, 5, 6, 7]⟩] true)
 .ret)))
def i15 : F := ⟨1, 15, j15, [.c 2 6 true, .t 3, .t 4]⟩
theorem b15 : i15.body = j15 := rfl
theorem q15 : i15.res = [.c 2 6 true, .t 3, .t 4] := rfl
theorem c15 : chkF Try.prog Try.f15 i15 = true := by kernel_rfl
theorem s15 {m : Model} {E : Nat → Model} (hE : ∀ f, Sound Try.prog f (E f)) (hm : ∀ args r, m args = some r → ∃ N, i15.ev E N args = some r) : Sound Try.prog 15 m := sound_of i15 Try.func15 rfl c15 hE hm
/-- bellwether/bellwetherref10.Queue -/
def j16 : C := (.seq (.region [⟨some 4, .mov (.c (.bool false)), none, [], []⟩] false)
 (.seq (.seq (.region [⟨some 6, .mov (.t 1), none, [], []⟩,
  ⟨some 7, .call false 48 [(.t 6), (.c (.int .i64 2)), (.c (.int .i64 32))], none, [], []⟩,
  ⟨some 8, .un .not (.t 7), none, [], []⟩,
  ⟨some 9, .mov (.t 8), none, [], []⟩,
  ⟨some 10, .mov (.t 0), some (9, false), [], []⟩,
  ⟨some 11, .len (.t 10), some (9, false), [], []⟩,
  ⟨some 12, .mov (.t 1), some (9, false), [], []⟩,
  ⟨some 13, .bin .gtr (.t 11) (.t 12), some (9, false), [], []⟩,
  ⟨some 14, .pick (.t 9) (.c (.bool true)) (.t 13), none, [], []⟩] false)
 (.cond (.t 14) (.seq (.region [⟨some 4, .mov (.c (.bool false)), none, [], []⟩] false)
 .ret) .skip))
 (.seq (.seq (.region [⟨some 5, .mov (.c (.int .i64 0)), none, [], []⟩] false)
 (.block 0 (.loop (.keep [0, 1, 5] (.seq (.seq (.region [⟨some 15, .mov (.t 5), none, [], []⟩,
  ⟨some 16, .mov (.t 0), none, [], []⟩,
  ⟨some 17, .len (.t 16), none, [], []⟩,
  ⟨some 18, .bin .lss (.t 15) (.t 17), none, [], []⟩] false)
 (.cond (.t 18) .skip (.exit 0)))
 (.seq (.block 1 (.seq (.region [⟨some 21, .mov (.t 0), none, [], []⟩,
  ⟨some 22, .mov (.t 5), none, [], []⟩,
  ⟨some 23, .iad 6 (.t 21) (.t 22), none, [], []⟩,
  ⟨some 24, .load true 6 (.t 23), none, [], []⟩,
  ⟨some 25, .call false 18 [(.t 24)], none, [], []⟩,
  ⟨some 26, .un .not (.t 25), none, [], []⟩] false)
 (.cond (.t 26) (.seq (.region [⟨some 4, .mov (.c (.bool false)), none, [], []⟩] false)
 .ret) .skip)))
 (.region [⟨some 19, .mov (.t 5), none, [], []⟩,
  ⟨some 20, .bin .add (.t 19) (.c (.int .i64 1)), none, [], []⟩,
  ⟨some 5, .mov (.t 20), none, [], []⟩] false)))))))
 (.seq (.region [⟨some 27, .mov (.t 0), none, [], []⟩,
  ⟨some 28, .len (.t 27), none, [], []⟩,
  ⟨some 29, .mov (.t 1), none, [], []⟩,
  ⟨some 30, .bin .lss (.t 28) (.t 29), none, [], []⟩,
  ⟨some 31, .mov (.t 30), none, [], []⟩,
  ⟨some 32, .mov (.t 0), some (31, false), [], []⟩,
  ⟨some 33, .mov (.t 0), some (31, false), [], []⟩,
  ⟨some 34, .len (.t 33), some (31, false), [], []⟩,
  ⟨some 35, .bin .sub (.t 34) (.c (.int .i64 1)), some (31, false), [], []⟩,
  ⟨some 36, .iad 6 (.t 32) (.t 35), some (31, false), [], []⟩,
  ⟨some 37, .fad 0 (.t 36), some (31, false), [], []⟩,
  ⟨some 38, .load false 1 (.t 37), some (31, false), [], []⟩,
  ⟨some 39, .bin .eql (.t 38) (.c (.int .i64 2)), some (31, false), [], []⟩,
  ⟨some 40, .pick (.t 31) (.c (.bool true)) (.t 39), none, [], []⟩,
  ⟨some 4, .mov (.t 40), none, [], []⟩] false)
 .ret))))
def i16 : F := ⟨2, 41, j16, [.t 4]⟩
theorem b16 : i16.body = j16 := rfl
theorem q16 : i16.res = [.t 4] := rfl
theorem c16 : chkF Try.prog Try.f16 i16 = true := by kernel_rfl
theorem s16 {m : Model} {E : Nat → Model} (hE : ∀ f, Sound Try.prog f (E f)) (hm : ∀ args r, m args = some r → ∃ N, i16.ev E N args = some r) : Sound Try.prog 16 m := sound_of i16 Try.func16 rfl c16 hE hm
/-- bellwether/queue.Event -/
def j17 : C := (.seq (.region [⟨some 1, .box (.t 0), none, [], []⟩,
  ⟨some 2, .mov (.c (.int .i64 0)), none, [], []⟩] false)
 (.seq (.region [⟨some 6, .load true 6 (.t 1), none, [], []⟩,
  ⟨some 7, .call false 49 [(.t 6)], none, [], []⟩,
  ⟨some 5, .mov (.t 7), none, [], []⟩,
  ⟨some 8, .ext (.t 5) 0, none, [], []⟩,
  ⟨some 9, .ext (.t 5) 1, none, [], []⟩,
  ⟨some 3, .alloc [.int .i64 0, .int .i64 0, .int .i64 0, .int .i64 0, .int .i64 0, .int .i64 0], none, [], []⟩,
  ⟨none, .store none 6 (.t 3) (.t 8), none, [], []⟩,
  ⟨some 4, .mov (.t 9), none, [], []⟩] false)
 (.seq (.seq (.region [⟨some 10, .mov (.t 4), none, [], []⟩,
  ⟨some 11, .un .not (.t 10), none, [], []⟩,
  ⟨some 12, .mov (.t 11), none, [], []⟩,
  ⟨some 13, .load true 6 (.t 3), some (12, false), [], []⟩,
  ⟨some 14, .fad 0 (.t 1), some (12, false), [], []⟩,
  ⟨some 15, .load false 1 (.t 14), some (12, false), [], []⟩,
  ⟨some 16, .build [.int .i64 0, .int .i64 0, .int .i64 0, .int .i64 0, .int .i64 0, .int .i64 0] [(0, 1, (.t 15))], some (12, false), [], []⟩,
  ⟨some 17, .eqs true [true, true, true, true, true, true] (.t 13) (.t 16), some (12, false), [], []⟩,
  ⟨some 18, .pick (.t 12) (.c (.bool true)) (.t 17), none, [], []⟩] false)
 (.cond (.t 18) (.seq (.region [⟨some 2, .mov (.c (.int .i64 1)), none, [], []⟩] false)
 .ret) .skip))
 (.seq (.region [⟨some 2, .mov (.c (.int .i64 0)), none, [], []⟩] false)
 .ret))))
def i17 : F := ⟨1, 19, j17, [.t 2]⟩
theorem b17 : i17.body = j17 := rfl
theorem q17 : i17.res = [.t 2] := rfl
theorem c17 : chkF Try.prog Try.f17 i17 = true := by kernel_rfl
theorem s17 {m : Model} {E : Nat → Model} (hE : ∀ f, Sound Try.prog f (E f)) (hm : ∀ args r, m args = some r → ∃ N, i17.ev E N args = some r) : Sound Try.prog 17 m := sound_of i17 Try.func17 rfl c17 hE hm
/-- bellwether/bellwetherref10.Event -/
def j18 : C := (.seq (.region [⟨some 1, .box (.t 0), none, [], []⟩,
  ⟨some 2, .mov (.c (.bool false)), none, [], []⟩] false)
 (.seq (.region [⟨some 5, .fad 0 (.t 1), none, [], []⟩,
  ⟨some 6, .load false 1 (.t 5), none, [], []⟩,
  ⟨some 7, .build [.int .i64 0, .int .i64 0, .int .i64 0, .int .i64 0, .int .i64 0, .int .i64 0] [(0, 1, (.t 6))], none, [], []⟩,
  ⟨some 3, .alloc [.int .i64 0, .int .i64 0, .int .i64 0, .int .i64 0, .int .i64 0, .int .i64 0], none, [], []⟩,
  ⟨none, .store none 6 (.t 3) (.t 7), none, [], []⟩] false)
 (.seq (.region [⟨some 4, .mov (.c (.bool true)), none, [], []⟩] false)
 (.seq (.seq (.region [⟨some 8, .fad 0 (.t 1), none, [], []⟩,
  ⟨some 9, .load false 1 (.t 8), none, [], []⟩] false)
 (.block 0 (.seq (.region [⟨some 11, .bin .eql (.t 9) (.c (.int .i64 1)), none, [], []⟩,
  ⟨some 10, .mov (.t 11), none, [], []⟩] false)
 (.cond (.t 10) (.seq (.region [⟨some 12, .fad 1 (.t 1), none, [], []⟩,
  ⟨some 13, .load false 1 (.t 12), none, [], []⟩,
  ⟨some 14, .call false 50 [(.t 13)], none, [], []⟩,
  ⟨some 15, .mov (.t 14), none, [], []⟩,
  ⟨some 16, .fad 2 (.t 1), some (15, true), [], []⟩,
  ⟨some 17, .load false 1 (.t 16), some (15, true), [], []⟩,
  ⟨some 18, .call false 51 [(.t 17)], some (15, true), [], []⟩,
  ⟨some 19, .pick (.t 15) (.t 18) (.c (.bool false)), none, [], []⟩,
  ⟨some 20, .mov (.t 19), none, [], []⟩,
  ⟨some 21, .fad 4 (.t 1), some (20, true), [], []⟩,
  ⟨some 22, .load false 1 (.t 21), some (20, true), [], []⟩,
  ⟨some 23, .call false 44 [(.t 22)], some (20, true), [], []⟩,
  ⟨some 24, .pick (.t 20) (.t 23) (.c (.bool false)), none, [], []⟩,
  ⟨some 4, .mov (.t 24), none, [], []⟩] false)
 (.region [⟨some 25, .fad 1 (.t 1), none, [27, 28, 29, 30], []⟩,
  ⟨some 26, .load false 1 (.t 25), none, [27, 28, 29, 30], [0]⟩,
  ⟨some 27, .fad 2 (.t 1), none, [3, 25, 26, 29, 30, 31], []⟩,
  ⟨some 28, .load false 1 (.t 27), none, [3, 25, 26, 29, 30, 31], [2]⟩,
  ⟨some 29, .fad 4 (.t 1), none, [3, 25, 26, 27, 28, 31, 32], []⟩,
  ⟨some 30, .load false 1 (.t 29), none, [3, 25, 26, 27, 28, 31, 32], [4]⟩,
  ⟨some 31, .fad 1 (.t 3), none, [27, 28, 29, 30], [0, 1]⟩,
  ⟨none, .store (some 3) 1 (.t 31) (.t 26), none, [27, 28, 29, 30], [0, 1, 6]⟩,
  ⟨some 32, .fad 2 (.t 3), none, [29, 30], [0, 1, 2, 3, 6, 7]⟩,
  ⟨none, .store (some 3) 1 (.t 32) (.t 28), none, [29, 30], [0, 1, 2, 3, 6, 7, 8]⟩,
  ⟨some 33, .fad 4 (.t 3), none, [], [0, 1, 2, 3, 4, 5, 6, 7, 8, 9]⟩,
  ⟨none, .store none 1 (.t 33) (.t 30), none, [], [0, 1, 2, 3, 4, 5, 6, 7, 8, 9, 10]⟩] true)) (.seq (.region [⟨some 35, .bin .eql (.t 9) (.c (.int .i64 2)), none, [], []⟩,
  ⟨some 34, .mov (.t 35), none, [], []⟩] false)
 (.cond (.t 34) (.seq (.region [⟨some 36, .fad 1 (.t 1), none, [], []⟩,
  ⟨some 37, .load false 1 (.t 36), none, [], []⟩,
  ⟨some 38, .call false 50 [(.t 37)], none, [], []⟩,
  ⟨some 39, .mov (.t 38), none, [], []⟩,
  ⟨some 40, .fad 2 (.t 1), some (39, true), [], []⟩,
  ⟨some 41, .load false 1 (.t 40), some (39, true), [], []⟩,
  ⟨some 42, .call false 51 [(.t 41)], some (39, true), [], []⟩,
  ⟨some 43, .pick (.t 39) (.t 42) (.c (.bool false)), none, [], []⟩,
  ⟨some 44, .mov (.t 43), none, [], []⟩,
  ⟨some 45, .fad 3 (.t 1), some (44, true), [], []⟩,
  ⟨some 46, .load false 1 (.t 45), some (44, true), [], []⟩,
  ⟨some 47, .fad 2 (.t 1), some (44, true), [], []⟩,
  ⟨some 48, .load false 1 (.t 47), some (44, true), [], []⟩,
  ⟨some 49, .call false 48 [(.t 46), (.t 48), (.c (.int .i64 1073741824))], some (44, true), [], []⟩,
  ⟨some 50, .pick (.t 44) (.t 49) (.c (.bool false)), none, [], []⟩,
  ⟨some 4, .mov (.t 50), none, [], []⟩] false)
 (.region [⟨some 51, .fad 1 (.t 1), none, [53, 54, 55, 56], []⟩,
  ⟨some 52, .load false 1 (.t 51), none, [53, 54, 55, 56], [0]⟩,
  ⟨some 53, .fad 2 (.t 1), none, [3, 51, 52, 55, 56, 57], []⟩,
  ⟨some 54, .load false 1 (.t 53), none, [3, 51, 52, 55, 56, 57], [2]⟩,
  ⟨some 55, .fad 3 (.t 1), none, [3, 51, 52, 53, 54, 57, 58], []⟩,
  ⟨some 56, .load false 1 (.t 55), none, [3, 51, 52, 53, 54, 57, 58], [4]⟩,
  ⟨some 57, .fad 1 (.t 3), none, [53, 54, 55, 56], [0, 1]⟩,
  ⟨none, .store (some 3) 1 (.t 57) (.t 52), none, [53, 54, 55, 56], [0, 1, 6]⟩,
  ⟨some 58, .fad 2 (.t 3), none, [55, 56], [0, 1, 2, 3, 6, 7]⟩,
  ⟨none, .store (some 3) 1 (.t 58) (.t 54), none, [55, 56], [0, 1, 2, 3, 6, 7, 8]⟩,
  ⟨some 59, .fad 3 (.t 3), none, [], [0, 1, 2, 3, 4, 5, 6, 7, 8, 9]⟩,
  ⟨none, .store none 1 (.t 59) (.t 56), none, [], [0, 1, 2, 3, 4, 5, 6, 7, 8, 9, 10]⟩] true)) (.seq (.region [⟨some 61, .bin .eql (.t 9) (.c (.int .i64 3)), none, [], []⟩,
  ⟨some 60, .mov (.t 61), none, [], []⟩] false)
 (.cond (.t 60) (.seq (.region [⟨some 62, .fad 5 (.t 1), none, [], []⟩,
  ⟨some 63, .load false 1 (.t 62), none, [], []⟩,
  ⟨some 64, .call false 48 [(.t 63), (.c (.int .i64 1)), (.c (.int .i64 40))], none, [], []⟩,
  ⟨some 65, .mov (.t 64), none, [], []⟩,
  ⟨some 66, .fad 4 (.t 1), some (65, true), [], []⟩,
  ⟨some 67, .load false 1 (.t 66), some (65, true), [], []⟩,
  ⟨some 68, .call false 52 [(.t 67)], some (65, true), [], []⟩,
  ⟨some 69, .pick (.t 65) (.t 68) (.c (.bool false)), none, [], []⟩,
  ⟨some 4, .mov (.t 69), none, [], []⟩] false)
 (.region [⟨some 70, .fad 5 (.t 1), none, [72, 73], []⟩,
  ⟨some 71, .load false 1 (.t 70), none, [72, 73], [0]⟩,
  ⟨some 72, .fad 4 (.t 1), none, [3, 70, 71, 74], []⟩,
  ⟨some 73, .load false 1 (.t 72), none, [3, 70, 71, 74], [2]⟩,
  ⟨some 74, .fad 5 (.t 3), none, [72, 73], [0, 1]⟩,
  ⟨none, .store (some 3) 1 (.t 74) (.t 71), none, [72, 73], [0, 1, 4]⟩,
  ⟨some 75, .fad 4 (.t 3), none, [], [0, 1, 2, 3, 4, 5]⟩,
  ⟨none, .store none 1 (.t 75) (.t 73), none, [], [0, 1, 2, 3, 4, 5, 6]⟩] true)) (.seq (.region [⟨some 77, .bin .eql (.t 9) (.c (.int .i64 4)), none, [], []⟩,
  ⟨some 76, .mov (.t 77), none, [], []⟩] false)
 (.cond (.t 76) (.seq (.region [⟨some 78, .fad 5 (.t 1), none, [], []⟩,
  ⟨some 79, .load false 1 (.t 78), none, [], []⟩,
  ⟨some 80, .call false 48 [(.t 79), (.c (.int .i64 1)), (.c (.int .i64 40))], none, [], []⟩,
  ⟨some 4, .mov (.t 80), none, [], []⟩] false)
 (.region [⟨some 81, .fad 5 (.t 1), none, [], []⟩,
  ⟨some 82, .load false 1 (.t 81), none, [], []⟩,
  ⟨some 83, .fad 5 (.t 3), none, [], []⟩,
  ⟨none, .store none 1 (.t 83) (.t 82), none, [], []⟩] false)) (.seq (.region [⟨some 85, .bin .eql (.t 9) (.c (.int .i64 5)), none, [], []⟩,
  ⟨some 84, .mov (.t 85), none, [], []⟩] false)
 (.cond (.t 84) .skip (.seq (.region [⟨some 2, .mov (.c (.bool false)), none, [], []⟩] false)
 .ret)))))))))))))
 (.seq (.region [⟨some 86, .mov (.t 4), none, [], []⟩,
  ⟨some 87, .mov (.t 86), none, [], []⟩,
  ⟨some 88, .load true 6 (.t 1), some (87, true), [], []⟩,
  ⟨some 89, .load true 6 (.t 3), some (87, true), [], []⟩,
  ⟨some 90, .eqs false [true, true, true, true, true, true] (.t 88) (.t 89), some (87, true), [], []⟩,
  ⟨some 91, .pick (.t 87) (.t 90) (.c (.bool false)), none, [], []⟩,
  ⟨some 2, .mov (.t 91), none, [], []⟩] false)
 .ret)))))
def i18 : F := ⟨1, 92, j18, [.t 2]⟩
theorem b18 : i18.body = j18 := rfl
theorem q18 : i18.res = [.t 2] := rfl
theorem c18 : chkF Try.prog Try.f18 i18 = true := by kernel_rfl
theorem s18 {m : Model} {E : Nat → Model} (hE : ∀ f, Sound Try.prog f (E f)) (hm : ∀ args r, m args = some r → ∃ N, i18.ev E N args = some r) : Sound Try.prog 18 m := sound_of i18 Try.func18 rfl c18 hE hm
/-- bellwether/queue.Check -/
def j19 : C := (.seq (.region [⟨some 4, .mov (.c (.int .i64 0)), none, [], []⟩] false)
 (.seq (.region [⟨some 6, .mov (.t 1), none, [], []⟩,
  ⟨some 7, .bin .lss (.t 6) (.c (.int .i64 2)), none, [], []⟩,
  ⟨some 8, .mov (.t 7), none, [], []⟩,
  ⟨some 9, .mov (.t 1), some (8, false), [], []⟩,
  ⟨some 10, .bin .gtr (.t 9) (.c (.int .i64 32)), some (8, false), [], []⟩,
  ⟨some 11, .pick (.t 8) (.c (.bool true)) (.t 10), none, [], []⟩,
  ⟨some 12, .mov (.t 11), none, [], []⟩,
  ⟨some 13, .mov (.t 0), some (12, false), [], []⟩,
  ⟨some 14, .len (.t 13), some (12, false), [], []⟩,
  ⟨some 15, .mov (.t 1), some (12, false), [], []⟩,
  ⟨some 16, .bin .gtr (.t 14) (.t 15), some (12, false), [], []⟩,
  ⟨some 17, .pick (.t 12) (.c (.bool true)) (.t 16), none, [], []⟩,
  ⟨some 5, .mov (.t 17), none, [], []⟩] false)
 (.seq (.region [⟨some 18, .mov (.t 5), none, [], []⟩,
  ⟨some 19, .mov (.t 18), none, [], []⟩,
  ⟨some 20, .mov (.t 0), some (19, false), [], []⟩,
  ⟨some 21, .call false 53 [(.t 20), (.c (.fn 54 []))], some (19, false), [], []⟩,
  ⟨some 22, .pick (.t 19) (.c (.bool true)) (.t 21), none, [], []⟩,
  ⟨some 5, .mov (.t 22), none, [], []⟩] false)
 (.seq (.seq (.region [⟨some 23, .mov (.t 5), none, [], []⟩,
  ⟨some 24, .mov (.t 23), none, [], []⟩,
  ⟨some 25, .mov (.t 0), some (24, false), [], []⟩,
  ⟨some 26, .len (.t 25), some (24, false), [], []⟩,
  ⟨some 27, .mov (.t 1), some (24, false), [], []⟩,
  ⟨some 28, .bin .eql (.t 26) (.t 27), some (24, false), [], []⟩,
  ⟨some 29, .mov (.t 28), some (24, false), [], []⟩,
  ⟨some 30, .mov (.t 0), some (29, true), [], []⟩,
  ⟨some 31, .mov (.t 1), some (29, true), [], []⟩,
  ⟨some 32, .bin .sub (.t 31) (.c (.int .i64 1)), some (29, true), [], []⟩,
  ⟨some 33, .iad 6 (.t 30) (.t 32), some (29, true), [], []⟩,
  ⟨some 34, .fad 0 (.t 33), some (29, true), [], []⟩,
  ⟨some 35, .load false 1 (.t 34), some (29, true), [], []⟩,
  ⟨some 36, .bin .neq (.t 35) (.c (.int .i64 2)), some (29, true), [], []⟩,
  ⟨some 37, .pick (.t 29) (.t 36) (.c (.bool false)), some (24, false), [], []⟩,
  ⟨some 38, .pick (.t 24) (.c (.bool true)) (.t 37), none, [], []⟩] false)
 (.cond (.t 38) (.seq (.region [⟨some 4, .mov (.c (.int .i64 1)), none, [], []⟩] false)
 .ret) .skip))
 (.seq (.region [⟨some 4, .mov (.c (.int .i64 0)), none, [], []⟩] false)
 .ret)))))
def i19 : F := ⟨2, 39, j19, [.t 4]⟩
theorem b19 : i19.body = j19 := rfl
theorem q19 : i19.res = [.t 4] := rfl
theorem c19 : chkF Try.prog Try.f19 i19 = true := by kernel_rfl
theorem s19 {m : Model} {E : Nat → Model} (hE : ∀ f, Sound Try.prog f (E f)) (hm : ∀ args r, m args = some r → ∃ N, i19.ev E N args = some r) : Sound Try.prog 19 m := sound_of i19 Try.func19 rfl c19 hE hm
/-- bellwether/bellwetherkeep.Events -/
def j20 : C := (.seq (.region [⟨some 4, .mov (.c (.bool false)), none, [], []⟩] false)
 (.seq (.seq (.region [⟨some 6, .mov (.t 0), none, [], []⟩,
  ⟨some 7, .len (.t 6), none, [], []⟩,
  ⟨some 8, .mov (.t 1), none, [], []⟩,
  ⟨some 9, .len (.t 8), none, [], []⟩,
  ⟨some 10, .bin .neq (.t 7) (.t 9), none, [], []⟩] false)
 (.cond (.t 10) (.seq (.region [⟨some 4, .mov (.c (.bool false)), none, [], []⟩] false)
 .ret) .skip))
 (.seq (.seq (.region [⟨some 5, .mov (.c (.int .i64 0)), none, [], []⟩] false)
 (.block 0 (.loop (.keep [0, 1, 5] (.seq (.seq (.region [⟨some 11, .mov (.t 5), none, [], []⟩,
  ⟨some 12, .mov (.t 0), none, [], []⟩,
  ⟨some 13, .len (.t 12), none, [], []⟩,
  ⟨some 14, .bin .lss (.t 11) (.t 13), none, [], []⟩] false)
 (.cond (.t 14) .skip (.exit 0)))
 (.seq (.block 1 (.seq (.region [⟨some 17, .mov (.t 0), none, [18, 21, 22, 23, 24], []⟩,
  ⟨some 18, .mov (.t 5), none, [17, 21, 22, 23, 24], []⟩,
  ⟨some 19, .iad 6 (.t 17) (.t 18), none, [21, 22, 23, 24], [0, 1]⟩,
  ⟨some 20, .load true 6 (.t 19), none, [21, 22, 23, 24], [0, 1, 2]⟩,
  ⟨some 21, .mov (.t 1), none, [17, 18, 19, 20, 22], []⟩,
  ⟨some 22, .mov (.t 5), none, [17, 18, 19, 20, 21], []⟩,
  ⟨some 23, .iad 6 (.t 21) (.t 22), none, [17, 18, 19, 20], [4, 5]⟩,
  ⟨some 24, .load true 6 (.t 23), none, [17, 18, 19, 20], [4, 5, 6]⟩,
  ⟨some 25, .eqs true [true, true, true, true, true, true] (.t 20) (.t 24), none, [], [0, 1, 2, 3, 4, 5, 6, 7]⟩] true)
 (.cond (.t 25) (.seq (.region [⟨some 4, .mov (.c (.bool false)), none, [], []⟩] false)
 .ret) .skip)))
 (.region [⟨some 15, .mov (.t 5), none, [], []⟩,
  ⟨some 16, .bin .add (.t 15) (.c (.int .i64 1)), none, [], []⟩,
  ⟨some 5, .mov (.t 16), none, [], []⟩] false)))))))
 (.seq (.region [⟨some 4, .mov (.c (.bool true)), none, [], []⟩] false)
 .ret))))
def i20 : F := ⟨2, 26, j20, [.t 4]⟩
theorem b20 : i20.body = j20 := rfl
theorem q20 : i20.res = [.t 4] := rfl
theorem c20 : chkF Try.prog Try.f20 i20 = true := by kernel_rfl
theorem s20 {m : Model} {E : Nat → Model} (hE : ∀ f, Sound Try.prog f (E f)) (hm : ∀ args r, m args = some r → ∃ N, i20.ev E N args = some r) : Sound Try.prog 20 m := sound_of i20 Try.func20 rfl c20 hE hm
/-- bellwether/bellwetherlaw17.wakes -/
def j21 : C := (.seq (.region [⟨some 0, .mov (.c (.bool false)), none, [], []⟩] false)
 (.seq (.region [⟨some 12, .call false 23 [(.c (.int .i64 16)), (.c (.int .i64 1)), (.c (.int .i64 7))], none, [], []⟩,
  ⟨some 13, .call false 14 [(.c (.row [])), (.c (.int .i64 2)), (.t 12)], none, [], []⟩,
  ⟨some 11, .mov (.t 13), none, [], []⟩,
  ⟨some 14, .ext (.t 11) 0, none, [], []⟩,
  ⟨some 15, .ext (.t 11) 1, none, [], []⟩,
  ⟨some 1, .mov (.t 14), none, [], []⟩,
  ⟨some 2, .mov (.t 15), none, [], []⟩] false)
 (.seq (.region [⟨some 17, .mov (.t 1), none, [], []⟩,
  ⟨some 18, .call false 23 [(.c (.int .i64 16)), (.c (.int .i64 2)), (.c (.int .i64 8))], none, [], []⟩,
  ⟨some 19, .call false 14 [(.t 17), (.c (.int .i64 2)), (.t 18)], none, [], []⟩,
  ⟨some 16, .mov (.t 19), none, [], []⟩,
  ⟨some 20, .ext (.t 16) 0, none, [], []⟩,
  ⟨some 21, .ext (.t 16) 1, none, [], []⟩,
  ⟨some 1, .mov (.t 20), none, [], []⟩,
  ⟨some 3, .mov (.t 21), none, [], []⟩] false)
 (.seq (.region [⟨some 23, .mov (.t 1), none, [], []⟩,
  ⟨some 24, .call false 23 [(.c (.int .i64 16)), (.c (.int .i64 3)), (.c (.int .i64 9))], none, [], []⟩,
  ⟨some 25, .call false 14 [(.t 23), (.c (.int .i64 2)), (.t 24)], none, [], []⟩,
  ⟨some 22, .mov (.t 25), none, [], []⟩,
  ⟨some 26, .ext (.t 22) 0, none, [], []⟩,
  ⟨some 27, .ext (.t 22) 1, none, [], []⟩,
  ⟨some 1, .mov (.t 26), none, [], []⟩,
  ⟨some 4, .mov (.t 27), none, [], []⟩] false)
 (.seq (.region [⟨some 29, .mov (.t 1), none, [], []⟩,
  ⟨some 30, .call false 15 [(.t 29)], none, [], []⟩,
  ⟨some 28, .mov (.t 30), none, [], []⟩,
  ⟨some 31, .ext (.t 28) 0, none, [], []⟩,
  ⟨some 32, .ext (.t 28) 1, none, [], []⟩,
  ⟨some 33, .ext (.t 28) 2, none, [], []⟩,
  ⟨some 5, .alloc [.int .i64 0, .int .i64 0, .int .i64 0, .int .i64 0, .int .i64 0, .int .i64 0], none, [], []⟩,
  ⟨none, .store none 6 (.t 5) (.t 31), none, [], []⟩,
  ⟨some 6, .mov (.t 32), none, [], []⟩,
  ⟨some 7, .mov (.t 33), none, [], []⟩] false)
 (.seq (.region [⟨some 35, .call false 15 [(.c (.row []))], none, [], []⟩,
  ⟨some 34, .mov (.t 35), none, [], []⟩,
  ⟨some 36, .ext (.t 34) 0, none, [], []⟩,
  ⟨some 37, .ext (.t 34) 1, none, [], []⟩,
  ⟨some 38, .ext (.t 34) 2, none, [], []⟩,
  ⟨some 8, .alloc [.int .i64 0, .int .i64 0, .int .i64 0, .int .i64 0, .int .i64 0, .int .i64 0], none, [], []⟩,
  ⟨none, .store none 6 (.t 8) (.t 36), none, [], []⟩,
  ⟨some 9, .mov (.t 37), none, [], []⟩,
  ⟨some 10, .mov (.t 38), none, [], []⟩] false)
 (.seq (.region [⟨some 39, .mov (.t 2), none, [], []⟩,
  ⟨some 40, .bin .eql (.t 39) (.c (.int .i64 0)), none, [], [0]⟩,
  ⟨some 41, .mov (.t 40), none, [], [0, 1]⟩,
  ⟨some 42, .mov (.t 3), some (41, true), [], [0, 1, 2]⟩,
  ⟨some 43, .bin .eql (.t 42) (.c (.int .i64 0)), some (41, true), [], [0, 1, 2, 3]⟩,
  ⟨some 44, .pick (.t 41) (.t 43) (.c (.bool false)), none, [], [0, 1, 2, 3, 4]⟩,
  ⟨some 45, .mov (.t 44), none, [], [0, 1, 2, 3, 4, 5]⟩,
  ⟨some 46, .mov (.t 4), some (45, true), [], [0, 1, 2, 3, 4, 5, 6]⟩,
  ⟨some 47, .bin .eql (.t 46) (.c (.int .i64 0)), some (45, true), [], [0, 1, 2, 3, 4, 5, 6, 7]⟩,
  ⟨some 48, .pick (.t 45) (.t 47) (.c (.bool false)), none, [], [0, 1, 2, 3, 4, 5, 6, 7, 8]⟩,
  ⟨some 49, .mov (.t 48), none, [], [0, 1, 2, 3, 4, 5, 6, 7, 8, 9]⟩,
  ⟨some 50, .mov (.t 1), some (49, true), [], [0, 1, 2, 3, 4, 5, 6, 7, 8, 9, 10]⟩,
  ⟨some 51, .len (.t 50), some (49, true), [], [0, 1, 2, 3, 4, 5, 6, 7, 8, 9, 10, 11]⟩,
  ⟨some 52, .bin .eql (.t 51) (.c (.int .i64 2)), some (49, true), [], [0, 1, 2, 3, 4, 5, 6, 7, 8, 9, 10, 11, 12]⟩,
  ⟨some 53, .pick (.t 49) (.t 52) (.c (.bool false)), none, [], [0, 1, 2, 3, 4, 5, 6, 7, 8, 9, 10, 11, 12, 13]⟩,
  ⟨some 54, .mov (.t 53), none, [], [0, 1, 2, 3, 4, 5, 6, 7, 8, 9, 10, 11, 12, 13, 14]⟩,
  ⟨some 55, .mov (.t 7), some (54, true), [], [0, 1, 2, 3, 4, 5, 6, 7, 8, 9, 10, 11, 12, 13, 14, 15]⟩,
  ⟨some 56, .bin .eql (.t 55) (.c (.int .i64 0)), some (54, true), [], [0, 1, 2, 3, 4, 5, 6, 7, 8, 9, 10, 11, 12, 13, 14, 15, 16]⟩,
  ⟨some 57, .pick (.t 54) (.t 56) (.c (.bool false)), none, [], [0, 1, 2, 3, 4, 5, 6, 7, 8, 9, 10, 11, 12, 13, 14, 15, 16, 17]⟩,
  ⟨some 58, .mov (.t 57), none, [], [0, 1, 2, 3, 4, 5, 6, 7, 8, 9, 10, 11, 12, 13, 14, 15, 16, 17, 18]⟩,
  ⟨some 59, .load true 6 (.t 5), some (58, true), [60], [0, 1, 2, 3, 4, 5, 6, 7, 8, 9, 10, 11, 12, 13, 14, 15, 16, 17, 18, 19]⟩,
  ⟨some 60, .call false 23 [(.c (.int .i64 16)), (.c (.int .i64 1)), (.c (.int .i64 7))], some (58, true), [59], [0, 1, 2, 3, 4, 5, 6, 7, 8, 9, 10, 11, 12, 13, 14, 15, 16, 17, 18, 19]⟩,
  ⟨some 61, .eqs false [true, true, true, true, true, true] (.t 59) (.t 60), some (58, true), [], [0, 1, 2, 3, 4, 5, 6, 7, 8, 9, 10, 11, 12, 13, 14, 15, 16, 17, 18, 19, 20, 21]⟩,
  ⟨some 62, .pick (.t 58) (.t 61) (.c (.bool false)), none, [], [0, 1, 2, 3, 4, 5, 6, 7, 8, 9, 10, 11, 12, 13, 14, 15, 16, 17, 18, 19, 20, 21, 22]⟩,
  ⟨some 63, .mov (.t 62), none, [], [0, 1, 2, 3, 4, 5, 6, 7, 8, 9, 10, 11, 12, 13, 14, 15, 16, 17, 18, 19, 20, 21, 22, 23]⟩,
  ⟨some 64, .mov (.t 6), some (63, true), [65, 66], [0, 1, 2, 3, 4, 5, 6, 7, 8, 9, 10, 11, 12, 13, 14, 15, 16, 17, 18, 19, 20, 21, 22, 23, 24]⟩,
  ⟨some 65, .build [.int .i64 0, .int .i64 0, .int .i64 0, .int .i64 0, .int .i64 0, .int .i64 0] [(0, 1, (.c (.int .i64 2))), (1, 1, (.c (.int .i64 16))), (2, 1, (.c (.int .i64 2))), (3, 1, (.c (.int .i64 3)))], some (63, true), [64], [0, 1, 2, 3, 4, 5, 6, 7, 8, 9, 10, 11, 12, 13, 14, 15, 16, 17, 18, 19, 20, 21, 22, 23, 24]⟩,
  ⟨some 66, .bsl 24 6 1 [.int .i64 0, .int .i64 0, .int .i64 0, .int .i64 0, .int .i64 0, .int .i64 0] [(0, (.t 65))], some (63, true), [64], [0, 1, 2, 3, 4, 5, 6, 7, 8, 9, 10, 11, 12, 13, 14, 15, 16, 17, 18, 19, 20, 21, 22, 23, 24, 26]⟩,
  ⟨some 67, .call false 20 [(.t 64), (.t 66)], some (63, true), [], [0, 1, 2, 3, 4, 5, 6, 7, 8, 9, 10, 11, 12, 13, 14, 15, 16, 17, 18, 19, 20, 21, 22, 23, 24, 25, 26, 27]⟩,
  ⟨some 68, .pick (.t 63) (.t 67) (.c (.bool false)), none, [], [0, 1, 2, 3, 4, 5, 6, 7, 8, 9, 10, 11, 12, 13, 14, 15, 16, 17, 18, 19, 20, 21, 22, 23, 24, 25, 26, 27, 28]⟩,
  ⟨some 69, .mov (.t 68), none, [], [0, 1, 2, 3, 4, 5, 6, 7, 8, 9, 10, 11, 12, 13, 14, 15, 16, 17, 18, 19, 20, 21, 22, 23, 24, 25, 26, 27, 28, 29]⟩,
  ⟨some 70, .mov (.t 10), some (69, true), [], [0, 1, 2, 3, 4, 5, 6, 7, 8, 9, 10, 11, 12, 13, 14, 15, 16, 17, 18, 19, 20, 21, 22, 23, 24, 25, 26, 27, 28, 29, 30]⟩,
  ⟨some 71, .bin .eql (.t 70) (.c (.int .i64 10)), some (69, true), [], [0, 1, 2, 3, 4, 5, 6, 7, 8, 9, 10, 11, 12, 13, 14, 15, 16, 17, 18, 19, 20, 21, 22, 23, 24, 25, 26, 27, 28, 29, 30, 31]⟩,
  ⟨some 72, .pick (.t 69) (.t 71) (.c (.bool false)), none, [], [0, 1, 2, 3, 4, 5, 6, 7, 8, 9, 10, 11, 12, 13, 14, 15, 16, 17, 18, 19, 20, 21, 22, 23, 24, 25, 26, 27, 28, 29, 30, 31, 32]⟩,
  ⟨some 73, .mov (.t 72), none, [], [0, 1, 2, 3, 4, 5, 6, 7, 8, 9, 10, 11, 12, 13, 14, 15, 16, 17, 18, 19, 20, 21, 22, 23, 24, 25, 26, 27, 28, 29, 30, 31, 32, 33]⟩,
  ⟨some 74, .build [.int .i64 0, .int .i64 0, .int .i64 0, .int .i64 0, .int .i64 0, .int .i64 0] [], some (73, true), [], [0, 1, 2, 3, 4, 5, 6, 7, 8, 9, 10, 11, 12, 13, 14, 15, 16, 17, 18, 19, 20, 21, 22, 23, 24, 25, 26, 27, 28, 29, 30, 31, 32, 33, 34]⟩,
  ⟨some 75, .call false 17 [(.t 74)], some (73, true), [], [0, 1, 2, 3, 4, 5, 6, 7, 8, 9, 10, 11, 12, 13, 14, 15, 16, 17, 18, 19, 20, 21, 22, 23, 24, 25, 26, 27, 28, 29, 30, 31, 32, 33, 34, 35]⟩,
  ⟨some 76, .bin .eql (.t 75) (.c (.int .i64 1)), some (73, true), [], [0, 1, 2, 3, 4, 5, 6, 7, 8, 9, 10, 11, 12, 13, 14, 15, 16, 17, 18, 19, 20, 21, 22, 23, 24, 25, 26, 27, 28, 29, 30, 31, 32, 33, 34, 35, 36]⟩,
  ⟨some 77, .pick (.t 73) (.t 76) (.c (.bool false)), none, [], [0, 1, 2, 3, 4, 5, 6, 7, 8, 9, 10, 11, 12, 13, 14, 15, 16, 17, 18, 19, 20, 21, 22, 23, 24, 25, 26, 27, 28, 29, 30, 31, 32, 33, 34, 35, 36, 37]⟩,
  ⟨some 78, .mov (.t 77), none, [], [0, 1, 2, 3, 4, 5, 6, 7, 8, 9, 10, 11, 12, 13, 14, 15, 16, 17, 18, 19, 20, 21, 22, 23, 24, 25, 26, 27, 28, 29, 30, 31, 32, 33, 34, 35, 36, 37, 38]⟩,
  ⟨some 79, .call false 19 [(.c (.row [])), (.c (.int .i64 1))], some (78, true), [], [0, 1, 2, 3, 4, 5, 6, 7, 8, 9, 10, 11, 12, 13, 14, 15, 16, 17, 18, 19, 20, 21, 22, 23, 24, 25, 26, 27, 28, 29, 30, 31, 32, 33, 34, 35, 36, 37, 38, 39]⟩,
  ⟨some 80, .bin .eql (.t 79) (.c (.int .i64 1)), some (78, true), [], [0, 1, 2, 3, 4, 5, 6, 7, 8, 9, 10, 11, 12, 13, 14, 15, 16, 17, 18, 19, 20, 21, 22, 23, 24, 25, 26, 27, 28, 29, 30, 31, 32, 33, 34, 35, 36, 37, 38, 39, 40]⟩,
  ⟨some 81, .pick (.t 78) (.t 80) (.c (.bool false)), none, [], [0, 1, 2, 3, 4, 5, 6, 7, 8, 9, 10, 11, 12, 13, 14, 15, 16, 17, 18, 19, 20, 21, 22, 23, 24, 25, 26, 27, 28, 29, 30, 31, 32, 33, 34, 35, 36, 37, 38, 39, 40, 41]⟩,
  ⟨some 0, .mov (.t 81), none, [], [0, 1, 2, 3, 4, 5, 6, 7, 8, 9, 10, 11, 12, 13, 14, 15, 16, 17, 18, 19, 20, 21, 22, 23, 24, 25, 26, 27, 28, 29, 30, 31, 32, 33, 34, 35, 36, 37, 38, 39, 40, 41, 42]⟩] true)
 .ret)))))))
def i21 : F := ⟨0, 82, j21, [.t 0]⟩
theorem b21 : i21.body = j21 := rfl
theorem q21 : i21.res = [.t 0] := rfl
theorem c21 : chkF Try.prog Try.f21 i21 = true := by kernel_rfl
theorem s21 {m : Model} {E : Nat → Model} (hE : ∀ f, Sound Try.prog f (E f)) (hm : ∀ args r, m args = some r → ∃ N, i21.ev E N args = some r) : Sound Try.prog 21 m := sound_of i21 Try.func21 rfl c21 hE hm
/-- bellwether/bellwetherref10.Put -/
def j22 : C := (.seq (.region [⟨some 5, .box (.t 2), none, [], []⟩,
  ⟨some 6, .nilsl 24 6 0, none, [], []⟩,
  ⟨some 7, .mov (.c (.bool false)), none, [], []⟩] false)
 (.seq (.region [⟨some 11, .mov (.t 0), none, [], []⟩,
  ⟨some 12, .call true 13 [(.t 11)], none, [], []⟩,
  ⟨some 8, .mov (.t 12), none, [], []⟩] false)
 (.seq (.region [⟨some 13, .mov (.t 0), none, [], []⟩,
  ⟨some 14, .len (.t 13), none, [], []⟩,
  ⟨some 9, .mov (.t 14), none, [], []⟩] false)
 (.seq (.seq (.region [⟨some 15, .mov (.t 9), none, [], []⟩,
  ⟨some 16, .mov (.t 1), none, [], []⟩,
  ⟨some 17, .bin .sub (.t 16) (.c (.int .i64 1)), none, [], []⟩,
  ⟨some 18, .bin .lss (.t 15) (.t 17), none, [], []⟩] false)
 (.cond (.t 18) (.seq (.region [⟨some 19, .mov (.t 8), none, [], []⟩,
  ⟨some 20, .load true 6 (.t 5), none, [], []⟩,
  ⟨some 21, .bsl 24 6 1 [.int .i64 0, .int .i64 0, .int .i64 0, .int .i64 0, .int .i64 0, .int .i64 0] [(0, (.t 20))], none, [], []⟩,
  ⟨some 22, .app 24 6 48 (.t 19) (.t 21), none, [], []⟩,
  ⟨some 6, .mov (.t 22), none, [], []⟩,
  ⟨some 7, .mov (.c (.bool true)), none, [], []⟩] false)
 .ret) .skip))
 (.seq (.seq (.region [⟨some 23, .fad 0 (.t 5), none, [], []⟩,
  ⟨some 24, .load false 1 (.t 23), none, [], []⟩,
  ⟨some 25, .bin .neq (.t 24) (.c (.int .i64 1)), none, [], []⟩,
  ⟨some 26, .mov (.t 25), none, [], []⟩,
  ⟨some 27, .fad 0 (.t 5), some (26, true), [], []⟩,
  ⟨some 28, .load false 1 (.t 27), some (26, true), [], []⟩,
  ⟨some 29, .bin .neq (.t 28) (.c (.int .i64 2)), some (26, true), [], []⟩,
  ⟨some 30, .pick (.t 26) (.t 29) (.c (.bool false)), none, [], []⟩] false)
 (.cond (.t 30) (.seq (.region [⟨some 31, .mov (.t 8), none, [], []⟩,
  ⟨some 6, .mov (.t 31), none, [], []⟩,
  ⟨some 7, .mov (.c (.bool false)), none, [], []⟩] false)
 .ret) .skip))
 (.seq (.region [⟨some 32, .fad 2 (.t 5), none, [], []⟩,
  ⟨some 33, .load false 1 (.t 32), none, [], []⟩,
  ⟨some 10, .mov (.t 33), none, [], []⟩] false)
 (.seq (.seq (.region [⟨some 34, .fad 0 (.t 5), none, [], []⟩,
  ⟨some 35, .load false 1 (.t 34), none, [], []⟩,
  ⟨some 36, .bin .eql (.t 35) (.c (.int .i64 2)), none, [], []⟩] false)
 (.cond (.t 36) (.region [⟨some 37, .fad 3 (.t 5), none, [], []⟩,
  ⟨some 38, .load false 1 (.t 37), none, [], []⟩,
  ⟨some 10, .mov (.t 38), none, [], []⟩] false) .skip))
 (.seq (.seq (.region [⟨some 39, .mov (.t 9), none, [], []⟩,
  ⟨some 40, .mov (.t 1), none, [], []⟩,
  ⟨some 41, .bin .sub (.t 40) (.c (.int .i64 1)), none, [], []⟩,
  ⟨some 42, .bin .eql (.t 39) (.t 41), none, [], []⟩] false)
 (.cond (.t 42) (.seq (.region [⟨some 43, .mov (.t 8), none, [], []⟩,
  ⟨some 44, .fad 1 (.t 5), none, [], []⟩,
  ⟨some 45, .load false 1 (.t 44), none, [], []⟩,
  ⟨some 46, .fad 2 (.t 5), none, [], []⟩,
  ⟨some 47, .load false 1 (.t 46), none, [], []⟩,
  ⟨some 48, .mov (.t 10), none, [], []⟩,
  ⟨some 49, .build [.int .i64 0, .int .i64 0, .int .i64 0, .int .i64 0, .int .i64 0, .int .i64 0] [(0, 1, (.c (.int .i64 2))), (1, 1, (.t 45)), (2, 1, (.t 47)), (3, 1, (.t 48))], none, [], []⟩,
  ⟨some 50, .bsl 24 6 1 [.int .i64 0, .int .i64 0, .int .i64 0, .int .i64 0, .int .i64 0, .int .i64 0] [(0, (.t 49))], none, [], []⟩,
  ⟨some 51, .app 24 6 48 (.t 43) (.t 50), none, [], []⟩,
  ⟨some 6, .mov (.t 51), none, [], []⟩,
  ⟨some 7, .mov (.c (.bool true)), none, [], []⟩] false)
 .ret) .skip))
 (.seq (.seq (.region [⟨some 52, .mov (.t 8), none, [53, 54, 58, 59], []⟩,
  ⟨some 53, .mov (.t 9), none, [52, 58, 59], []⟩,
  ⟨some 54, .bin .sub (.t 53) (.c (.int .i64 1)), none, [52, 58, 59], [1]⟩,
  ⟨some 55, .iad 6 (.t 52) (.t 54), none, [58, 59], [0, 1, 2]⟩,
  ⟨some 56, .fad 1 (.t 55), none, [58, 59], [0, 1, 2, 3]⟩,
  ⟨some 57, .load false 1 (.t 56), none, [58, 59], [0, 1, 2, 3, 4]⟩,
  ⟨some 58, .fad 1 (.t 5), none, [52, 53, 54, 55, 56, 57], []⟩,
  ⟨some 59, .load false 1 (.t 58), none, [52, 53, 54, 55, 56, 57], [6]⟩,
  ⟨some 60, .bin .eql (.t 57) (.t 59), none, [], [0, 1, 2, 3, 4, 5, 6, 7]⟩,
  ⟨some 61, .mov (.t 60), none, [], [0, 1, 2, 3, 4, 5, 6, 7, 8]⟩,
  ⟨some 62, .fad 2 (.t 5), some (61, true), [65, 66, 67, 68, 69, 70], [0, 1, 2, 3, 4, 5, 6, 7, 8, 9]⟩,
  ⟨some 63, .load false 1 (.t 62), some (61, true), [65, 66, 67, 68, 69, 70], [0, 1, 2, 3, 4, 5, 6, 7, 8, 9, 10]⟩,
  ⟨some 64, .bin .sub (.t 63) (.c (.int .i64 1)), some (61, true), [65, 66, 67, 68, 69, 70], [0, 1, 2, 3, 4, 5, 6, 7, 8, 9, 10, 11]⟩,
  ⟨some 65, .mov (.t 8), some (61, true), [62, 63, 64, 66, 67], [0, 1, 2, 3, 4, 5, 6, 7, 8, 9]⟩,
  ⟨some 66, .mov (.t 9), some (61, true), [62, 63, 64, 65], [0, 1, 2, 3, 4, 5, 6, 7, 8, 9]⟩,
  ⟨some 67, .bin .sub (.t 66) (.c (.int .i64 1)), some (61, true), [62, 63, 64, 65], [0, 1, 2, 3, 4, 5, 6, 7, 8, 9, 14]⟩,
  ⟨some 68, .iad 6 (.t 65) (.t 67), some (61, true), [62, 63, 64], [0, 1, 2, 3, 4, 5, 6, 7, 8, 9, 13, 14, 15]⟩,
  ⟨some 69, .fad 3 (.t 68), some (61, true), [62, 63, 64], [0, 1, 2, 3, 4, 5, 6, 7, 8, 9, 13, 14, 15, 16]⟩,
  ⟨some 70, .load false 1 (.t 69), some (61, true), [62, 63, 64], [0, 1, 2, 3, 4, 5, 6, 7, 8, 9, 13, 14, 15, 16, 17]⟩,
  ⟨some 71, .bin .eql (.t 64) (.t 70), some (61, true), [], [0, 1, 2, 3, 4, 5, 6, 7, 8, 9, 10, 11, 12, 13, 14, 15, 16, 17, 18]⟩,
  ⟨some 72, .pick (.t 61) (.t 71) (.c (.bool false)), none, [], [0, 1, 2, 3, 4, 5, 6, 7, 8, 9, 10, 11, 12, 13, 14, 15, 16, 17, 18, 19]⟩] true)
 (.cond (.t 72) (.seq (.region [⟨some 73, .mov (.t 8), none, [], []⟩,
  ⟨some 74, .mov (.t 9), none, [], []⟩,
  ⟨some 75, .bin .sub (.t 74) (.c (.int .i64 1)), none, [], []⟩,
  ⟨some 76, .mov (.t 10), none, [], []⟩,
  ⟨some 77, .iad 6 (.t 73) (.t 75), none, [], []⟩,
  ⟨some 78, .fad 3 (.t 77), none, [], []⟩,
  ⟨none, .store none 1 (.t 78) (.t 76), none, [], []⟩] false)
 (.seq (.region [⟨some 79, .mov (.t 8), none, [], []⟩,
  ⟨some 6, .mov (.t 79), none, [], []⟩,
  ⟨some 7, .mov (.c (.bool true)), none, [], []⟩] false)
 .ret)) .skip))
 (.seq (.region [⟨some 80, .mov (.t 8), none, [], []⟩,
  ⟨some 6, .mov (.t 80), none, [], []⟩,
  ⟨some 7, .mov (.c (.bool false)), none, [], []⟩] false)
 .ret))))))))))
def i22 : F := ⟨3, 81, j22, [.t 6, .t 7]⟩
theorem b22 : i22.body = j22 := rfl
theorem q22 : i22.res = [.t 6, .t 7] := rfl
theorem c22 : chkF Try.prog Try.f22 i22 = true := by kernel_rfl
theorem s22 {m : Model} {E : Nat → Model} (hE : ∀ f, Sound Try.prog f (E f)) (hm : ∀ args r, m args = some r → ∃ N, i22.ev E N args = some r) : Sound Try.prog 22 m := sound_of i22 Try.func22 rfl c22 hE hm
/-- bellwether/bellwetherlaw17.Data -/
def j23 : C := (.seq (.region [⟨some 6, .alloc [.int .i64 0, .int .i64 0, .int .i64 0, .int .i64 0, .int .i64 0, .int .i64 0], none, [], []⟩] false)
 (.seq (.region [⟨some 7, .mov (.t 0), none, [], []⟩,
  ⟨some 8, .mov (.t 1), none, [], []⟩,
  ⟨some 9, .mov (.t 2), none, [], []⟩,
  ⟨some 10, .build [.int .i64 0, .int .i64 0, .int .i64 0, .int .i64 0, .int .i64 0, .int .i64 0] [(0, 1, (.c (.int .i64 1))), (1, 1, (.t 7)), (2, 1, (.t 8)), (4, 1, (.t 9))], none, [], []⟩,
  ⟨none, .store none 6 (.t 6) (.t 10), none, [], []⟩] false)
 .ret))
def i23 : F := ⟨3, 11, j23, [.c 6 6 true]⟩
theorem b23 : i23.body = j23 := rfl
theorem q23 : i23.res = [.c 6 6 true] := rfl
theorem c23 : chkF Try.prog Try.f23 i23 = true := by kernel_rfl
theorem s23 {m : Model} {E : Nat → Model} (hE : ∀ f, Sound Try.prog f (E f)) (hm : ∀ args r, m args = some r → ∃ N, i23.ev E N args = some r) : Sound Try.prog 23 m := sound_of i23 Try.func23 rfl c23 hE hm
/-- bellwether/bellwetherref01.Value -/
def j44 : C := (.seq (.region [⟨some 2, .mov (.c (.bool false)), none, [], []⟩] false)
 (.seq (.region [⟨some 3, .mov (.t 0), none, [], []⟩,
  ⟨some 4, .call false 55 [(.t 3), (.c (.int .i64 0)), (.c (.int .i64 2147483647))], none, [], []⟩,
  ⟨some 2, .mov (.t 4), none, [], []⟩] false)
 .ret))
def i44 : F := ⟨1, 5, j44, [.t 2]⟩
theorem b44 : i44.body = j44 := rfl
theorem q44 : i44.res = [.t 2] := rfl
theorem c44 : chkF Try.prog Try.f44 i44 = true := by kernel_rfl
theorem s44 {m : Model} {E : Nat → Model} (hE : ∀ f, Sound Try.prog f (E f)) (hm : ∀ args r, m args = some r → ∃ N, i44.ev E N args = some r) : Sound Try.prog 44 m := sound_of i44 Try.func44 rfl c44 hE hm
/-- slices.Clone   bellwether/api.Event bellwether/api.Event  -/
def j46 : C := (.seq (.region [⟨some 2, .nilsl 24 6 0, none, [], []⟩] false)
 (.seq (.seq (.region [⟨some 3, .mov (.t 0), none, [], []⟩,
  ⟨some 4, .isnil false (.t 3), none, [], []⟩] false)
 (.cond (.t 4) (.seq (.region [⟨some 2, .nilsl 24 6 1, none, [], []⟩] false)
 .ret) .skip))
 (.seq (.region [⟨some 5, .bsl 24 6 0 [.int .i64 0, .int .i64 0, .int .i64 0, .int .i64 0, .int .i64 0, .int .i64 0] [], none, [], []⟩,
  ⟨some 6, .mov (.t 0), none, [], []⟩,
  ⟨some 7, .app 24 6 48 (.t 5) (.t 6), none, [], []⟩,
  ⟨some 2, .mov (.t 7), none, [], []⟩] false)
 .ret)))
def i46 : F := ⟨1, 8, j46, [.t 2]⟩
theorem b46 : i46.body = j46 := rfl
theorem q46 : i46.res = [.t 2] := rfl
theorem c46 : chkF Try.prog Try.f46 i46 = true := by kernel_rfl
theorem s46 {m : Model} {E : Nat → Model} (hE : ∀ f, Sound Try.prog f (E f)) (hm : ∀ args r, m args = some r → ∃ N, i46.ev E N args = some r) : Sound Try.prog 46 m := sound_of i46 Try.func46 rfl c46 hE hm
theorem x46 : Sound Try.prog 46 (cloneM 24 6 48) := by
  refine clone_ok (r := fun _ => (.undef, [])) (s46 (E := fun _ _ => none) (fun f => Sound.no) fun args r h => ?_) (sound_nil (fun m hm => s46 (E := fun _ _ => none) (fun f => Sound.no) hm) fun A c => ⟨0, ?_⟩)
  · split at h
    · rename_i y ys
      split at h
      · rename_i hc
        cases h
        refine ⟨0, ?_⟩
        rw [F_ev rfl]
        simp only [j46, b46, q46, go_seq, go_region, go_block, go_cond, go_skip, go_ret, go_exit, go_xnil, go_xb, go_xc, go_xo, go_b, go_nil, go_keep, go_frz, go_o (i := .mov _) rfl rfl, go_g (i := .mov _) rfl rfl, go_o (i := .nilsl _ _ _) rfl rfl, go_g (i := .nilsl _ _ _) rfl rfl, go_o (i := .pick _ _ _) rfl rfl, go_g (i := .pick _ _ _) rfl rfl, go_o (i := .bin _ _ _) rfl rfl, go_g (i := .bin _ _ _) rfl rfl, go_o (i := .eqb _ _ _) rfl rfl, go_g (i := .eqb _ _ _) rfl rfl, go_o (i := .eqs _ _ _ _) rfl rfl, go_g (i := .eqs _ _ _ _) rfl rfl, go_o (i := .isnil _ _) rfl rfl, go_g (i := .isnil _ _) rfl rfl, go_o (i := .un _ _) rfl rfl, go_g (i := .un _ _) rfl rfl, go_o (i := .conv _ _) rfl rfl, go_g (i := .conv _ _) rfl rfl, go_o (i := .alloc _) rfl rfl, go_g (i := .alloc _) rfl rfl, go_o (i := .box _) rfl rfl, go_g (i := .box _) rfl rfl, go_o (i := .build _ _) rfl rfl, go_g (i := .build _ _) rfl rfl, go_o (i := .bsl _ _ _ _ _) rfl rfl, go_g (i := .bsl _ _ _ _ _) rfl rfl, go_o (i := .load _ _ _) rfl rfl, go_g (i := .load _ _ _) rfl rfl, go_o (i := .nck _) rfl rfl, go_g (i := .nck _) rfl rfl, go_o (i := .mks _ _ _ _ _ _) rfl rfl, go_g (i := .mks _ _ _ _ _ _) rfl rfl, go_o (i := .cut _ _ _ _) rfl rfl, go_g (i := .cut _ _ _ _) rfl rfl, go_o (i := .fad _ _) rfl rfl, go_g (i := .fad _ _) rfl rfl, go_o (i := .fld _ _ _ _) rfl rfl, go_g (i := .fld _ _ _ _) rfl rfl, go_o (i := .iad _ _ _) rfl rfl, go_g (i := .iad _ _ _) rfl rfl, go_o (i := .iada _ _ _ _) rfl rfl, go_g (i := .iada _ _ _ _) rfl rfl, go_o (i := .idx _ _ _ _ _) rfl rfl, go_g (i := .idx _ _ _ _ _) rfl rfl, go_o (i := .ext _ _) rfl rfl, go_g (i := .ext _ _) rfl rfl, go_o (i := .call _ _ _) rfl rfl, go_g (i := .call _ _ _) rfl rfl, go_o (i := .callv _ _ _) rfl rfl, go_g (i := .callv _ _ _) rfl rfl, go_o (i := .len _) rfl rfl, go_g (i := .len _) rfl rfl, go_o (i := .mx _ _) rfl rfl, go_g (i := .mx _ _) rfl rfl, go_o (i := .mn _ _) rfl rfl, go_g (i := .mn _ _) rfl rfl, go_o (i := .mkf _ _) rfl rfl, go_g (i := .mkf _ _) rfl rfl, callI_f, callI_t, callP_s, callQ_s, callF_nil, callF_cons, callO_nil, callO_cons, ans_s, ret0_s, purS, S.pur, V.pur, V.pur1, purs, pur1s, mentS, S.ment, S.ment.smt, ments, V.ment, List.append_nil, Hp.ok64, List.all_nil, List.all_cons, S.purT, S.purT.sp, S.self, V.self, selfs, S.self.sself, Hp.self, S.ren, S.ren.sren, V.ren, Hp.ren, true_or, or_true, false_or, or_false, Bool.and_true, Bool.true_and, Bool.and_false, Bool.false_and, Bool.and_self, hand, handSs, handS, handVs, handV, List.contains_nil, List.isEmpty_nil, List.take_length, List.getElem?_cons_zero, List.getElem?_cons_succ, fillV, fillR, setAt, List.set_cons_zero, List.set_cons_succ, List.replicate, evE, asRow, List.map_append, S.kill, S.kill.sk, V.kill, Blk.kill, eqvs, ones, Bool.not_true, Bool.not_false, decide_true, decide_false, go_loop, aft_norm, aft_exit, aft_ret, goL_n, goL_x, goL_r, go_s, go_e (i := .app _ _ _ _ _) rfl, goI_b, goG_t, goG_f, goG_u, goO_0, goO_1, goO_2, goF_n, goF2_n, goS_s, goE_s, goK_s, br_t, br_f, put_some, put_none, vG_nil, vH_nil, vG_e, List.length_append, bq1, bq2, bq3, bq4, cz, cz1, cz2, cz3, cz4, Int.le_refl, Int.toNat_natCast, Int.toNat_one, cast0, cast1, Int.cast_ofNat_Int, List.all_nil, vH_e, List.contains_cons, Nat.reduceBEq, Bool.false_or, Bool.or_false, Bool.true_or, Bool.or_true, look_hit, look_end, look_miss, List.map_cons, List.map_nil, List.cons_append, List.nil_append, Option.getD_some, Option.getD_none, X.ev, ev, bin, ibin, Option.map_some, Option.map_none, Option.bind_some, S.cells, rd, sub, Go.Proofs.YtjafaefiigingaaR.shape, asI, bnd, evs, fin_ret, fin_norm, handO_s, Rs.ev, R.ev, params, okKey, Nat.reduceAdd, Nat.reduceMul, Nat.reduceDiv, Nat.reduceEqDiff, Nat.reduceLeDiff, Nat.reduceLT, Int.reduceEq, Int.reduceNe, Int.reduceLT, Int.reduceLE, Int.reduceAdd, Int.reduceSub, Int.reduceMul, Int.reduceNeg, Int.reduceToNat, Int.reducePow, Nat.reducePow, Int.toNat_zero, not_false_eq_true, not_true_eq_false, reduceCtorEq, Nat.zero_add, Nat.add_zero, reduceIte, if_true, if_false, Bool.true_eq_false, Bool.false_eq_true, List.length_cons, List.length_nil, and_self, true_and, and_true, List.drop_zero, List.take_succ_cons, List.take_zero, List.drop_succ_cons, Nat.le_refl, List.replicate, fillR, evE, V.pur1, asRow, List.map_append]
        rw [if_pos ⟨hc.1, by simpa using hc.2⟩]
        simp only [j46, b46, q46, go_seq, go_region, go_block, go_cond, go_skip, go_ret, go_exit, go_xnil, go_xb, go_xc, go_xo, go_b, go_nil, go_keep, go_frz, go_o (i := .mov _) rfl rfl, go_g (i := .mov _) rfl rfl, go_o (i := .nilsl _ _ _) rfl rfl, go_g (i := .nilsl _ _ _) rfl rfl, go_o (i := .pick _ _ _) rfl rfl, go_g (i := .pick _ _ _) rfl rfl, go_o (i := .bin _ _ _) rfl rfl, go_g (i := .bin _ _ _) rfl rfl, go_o (i := .eqb _ _ _) rfl rfl, go_g (i := .eqb _ _ _) rfl rfl, go_o (i := .eqs _ _ _ _) rfl rfl, go_g (i := .eqs _ _ _ _) rfl rfl, go_o (i := .isnil _ _) rfl rfl, go_g (i := .isnil _ _) rfl rfl, go_o (i := .un _ _) rfl rfl, go_g (i := .un _ _) rfl rfl, go_o (i := .conv _ _) rfl rfl, go_g (i := .conv _ _) rfl rfl, go_o (i := .alloc _) rfl rfl, go_g (i := .alloc _) rfl rfl, go_o (i := .box _) rfl rfl, go_g (i := .box _) rfl rfl, go_o (i := .build _ _) rfl rfl, go_g (i := .build _ _) rfl rfl, go_o (i := .bsl _ _ _ _ _) rfl rfl, go_g (i := .bsl _ _ _ _ _) rfl rfl, go_o (i := .load _ _ _) rfl rfl, go_g (i := .load _ _ _) rfl rfl, go_o (i := .nck _) rfl rfl, go_g (i := .nck _) rfl rfl, go_o (i := .mks _ _ _ _ _ _) rfl rfl, go_g (i := .mks _ _ _ _ _ _) rfl rfl, go_o (i := .cut _ _ _ _) rfl rfl, go_g (i := .cut _ _ _ _) rfl rfl, go_o (i := .fad _ _) rfl rfl, go_g (i := .fad _ _) rfl rfl, go_o (i := .fld _ _ _ _) rfl rfl, go_g (i := .fld _ _ _ _) rfl rfl, go_o (i := .iad _ _ _) rfl rfl, go_g (i := .iad _ _ _) rfl rfl, go_o (i := .iada _ _ _ _) rfl rfl, go_g (i := .iada _ _ _ _) rfl rfl, go_o (i := .idx _ _ _ _ _) rfl rfl, go_g (i := .idx _ _ _ _ _) rfl rfl, go_o (i := .ext _ _) rfl rfl, go_g (i := .ext _ _) rfl rfl, go_o (i := .call _ _ _) rfl rfl, go_g (i := .call _ _ _) rfl rfl, go_o (i := .callv _ _ _) rfl rfl, go_g (i := .callv _ _ _) rfl rfl, go_o (i := .len _) rfl rfl, go_g (i := .len _) rfl rfl, go_o (i := .mx _ _) rfl rfl, go_g (i := .mx _ _) rfl rfl, go_o (i := .mn _ _) rfl rfl, go_g (i := .mn _ _) rfl rfl, go_o (i := .mkf _ _) rfl rfl, go_g (i := .mkf _ _) rfl rfl, callI_f, callI_t, callP_s, callQ_s, callF_nil, callF_cons, callO_nil, callO_cons, ans_s, ret0_s, purS, S.pur, V.pur, V.pur1, purs, pur1s, mentS, S.ment, S.ment.smt, ments, V.ment, List.append_nil, Hp.ok64, List.all_nil, List.all_cons, S.purT, S.purT.sp, S.self, V.self, selfs, S.self.sself, Hp.self, S.ren, S.ren.sren, V.ren, Hp.ren, true_or, or_true, false_or, or_false, Bool.and_true, Bool.true_and, Bool.and_false, Bool.false_and, Bool.and_self, hand, handSs, handS, handVs, handV, List.contains_nil, List.isEmpty_nil, List.take_length, List.getElem?_cons_zero, List.getElem?_cons_succ, fillV, fillR, setAt, List.set_cons_zero, List.set_cons_succ, List.replicate, evE, asRow, List.map_append, S.kill, S.kill.sk, V.kill, Blk.kill, eqvs, ones, Bool.not_true, Bool.not_false, decide_true, decide_false, go_loop, aft_norm, aft_exit, aft_ret, goL_n, goL_x, goL_r, go_s, go_e (i := .app _ _ _ _ _) rfl, goI_b, goG_t, goG_f, goG_u, goO_0, goO_1, goO_2, goF_n, goF2_n, goS_s, goE_s, goK_s, br_t, br_f, put_some, put_none, vG_nil, vH_nil, vG_e, List.length_append, bq1, bq2, bq3, bq4, cz, cz1, cz2, cz3, cz4, Int.le_refl, Int.toNat_natCast, Int.toNat_one, cast0, cast1, Int.cast_ofNat_Int, List.all_nil, vH_e, List.contains_cons, Nat.reduceBEq, Bool.false_or, Bool.or_false, Bool.true_or, Bool.or_true, look_hit, look_end, look_miss, List.map_cons, List.map_nil, List.cons_append, List.nil_append, Option.getD_some, Option.getD_none, X.ev, ev, bin, ibin, Option.map_some, Option.map_none, Option.bind_some, S.cells, rd, sub, Go.Proofs.YtjafaefiigingaaR.shape, asI, bnd, evs, fin_ret, fin_norm, handO_s, Rs.ev, R.ev, params, okKey, Nat.reduceAdd, Nat.reduceMul, Nat.reduceDiv, Nat.reduceEqDiff, Nat.reduceLeDiff, Nat.reduceLT, Int.reduceEq, Int.reduceNe, Int.reduceLT, Int.reduceLE, Int.reduceAdd, Int.reduceSub, Int.reduceMul, Int.reduceNeg, Int.reduceToNat, Int.reducePow, Nat.reducePow, Int.toNat_zero, not_false_eq_true, not_true_eq_false, reduceCtorEq, Nat.zero_add, Nat.add_zero, reduceIte, if_true, if_false, Bool.true_eq_false, Bool.false_eq_true, List.length_cons, List.length_nil, and_self, true_and, and_true, List.drop_zero, List.take_succ_cons, List.take_zero, List.drop_succ_cons, Nat.le_refl, S.kill, V.kill, Blk.kill, hand, handSs, handS, handVs, handV, List.contains_nil]
        try simp
      · cases h
    · cases h
  · cases A
    · rw [F_ev rfl]
      simp only [j46, b46, q46, go_seq, go_region, go_block, go_cond, go_skip, go_ret, go_exit, go_xnil, go_xb, go_xc, go_xo, go_b, go_nil, go_keep, go_frz, go_o (i := .mov _) rfl rfl, go_g (i := .mov _) rfl rfl, go_o (i := .nilsl _ _ _) rfl rfl, go_g (i := .nilsl _ _ _) rfl rfl, go_o (i := .pick _ _ _) rfl rfl, go_g (i := .pick _ _ _) rfl rfl, go_o (i := .bin _ _ _) rfl rfl, go_g (i := .bin _ _ _) rfl rfl, go_o (i := .eqb _ _ _) rfl rfl, go_g (i := .eqb _ _ _) rfl rfl, go_o (i := .eqs _ _ _ _) rfl rfl, go_g (i := .eqs _ _ _ _) rfl rfl, go_o (i := .isnil _ _) rfl rfl, go_g (i := .isnil _ _) rfl rfl, go_o (i := .un _ _) rfl rfl, go_g (i := .un _ _) rfl rfl, go_o (i := .conv _ _) rfl rfl, go_g (i := .conv _ _) rfl rfl, go_o (i := .alloc _) rfl rfl, go_g (i := .alloc _) rfl rfl, go_o (i := .box _) rfl rfl, go_g (i := .box _) rfl rfl, go_o (i := .build _ _) rfl rfl, go_g (i := .build _ _) rfl rfl, go_o (i := .bsl _ _ _ _ _) rfl rfl, go_g (i := .bsl _ _ _ _ _) rfl rfl, go_o (i := .load _ _ _) rfl rfl, go_g (i := .load _ _ _) rfl rfl, go_o (i := .nck _) rfl rfl, go_g (i := .nck _) rfl rfl, go_o (i := .mks _ _ _ _ _ _) rfl rfl, go_g (i := .mks _ _ _ _ _ _) rfl rfl, go_o (i := .cut _ _ _ _) rfl rfl, go_g (i := .cut _ _ _ _) rfl rfl, go_o (i := .fad _ _) rfl rfl, go_g (i := .fad _ _) rfl rfl, go_o (i := .fld _ _ _ _) rfl rfl, go_g (i := .fld _ _ _ _) rfl rfl, go_o (i := .iad _ _ _) rfl rfl, go_g (i := .iad _ _ _) rfl rfl, go_o (i := .iada _ _ _ _) rfl rfl, go_g (i := .iada _ _ _ _) rfl rfl, go_o (i := .idx _ _ _ _ _) rfl rfl, go_g (i := .idx _ _ _ _ _) rfl rfl, go_o (i := .ext _ _) rfl rfl, go_g (i := .ext _ _) rfl rfl, go_o (i := .call _ _ _) rfl rfl, go_g (i := .call _ _ _) rfl rfl, go_o (i := .callv _ _ _) rfl rfl, go_g (i := .callv _ _ _) rfl rfl, go_o (i := .len _) rfl rfl, go_g (i := .len _) rfl rfl, go_o (i := .mx _ _) rfl rfl, go_g (i := .mx _ _) rfl rfl, go_o (i := .mn _ _) rfl rfl, go_g (i := .mn _ _) rfl rfl, go_o (i := .mkf _ _) rfl rfl, go_g (i := .mkf _ _) rfl rfl, callI_f, callI_t, callP_s, callQ_s, callF_nil, callF_cons, callO_nil, callO_cons, ans_s, ret0_s, purS, S.pur, V.pur, V.pur1, purs, pur1s, mentS, S.ment, S.ment.smt, ments, V.ment, List.append_nil, Hp.ok64, List.all_nil, List.all_cons, S.purT, S.purT.sp, S.self, V.self, selfs, S.self.sself, Hp.self, S.ren, S.ren.sren, V.ren, Hp.ren, true_or, or_true, false_or, or_false, Bool.and_true, Bool.true_and, Bool.and_false, Bool.false_and, Bool.and_self, hand, handSs, handS, handVs, handV, List.contains_nil, List.isEmpty_nil, List.take_length, List.getElem?_cons_zero, List.getElem?_cons_succ, fillV, fillR, setAt, List.set_cons_zero, List.set_cons_succ, List.replicate, evE, asRow, List.map_append, S.kill, S.kill.sk, V.kill, Blk.kill, eqvs, ones, Bool.not_true, Bool.not_false, decide_true, decide_false, go_loop, aft_norm, aft_exit, aft_ret, goL_n, goL_x, goL_r, go_s, go_e (i := .app _ _ _ _ _) rfl, goI_b, goG_t, goG_f, goG_u, goO_0, goO_1, goO_2, goF_n, goF2_n, goS_s, goE_s, goK_s, br_t, br_f, put_some, put_none, vG_nil, vH_nil, vG_e, List.length_append, bq1, bq2, bq3, bq4, cz, cz1, cz2, cz3, cz4, Int.le_refl, Int.toNat_natCast, Int.toNat_one, cast0, cast1, Int.cast_ofNat_Int, List.all_nil, vH_e, List.contains_cons, Nat.reduceBEq, Bool.false_or, Bool.or_false, Bool.true_or, Bool.or_true, look_hit, look_end, look_miss, List.map_cons, List.map_nil, List.cons_append, List.nil_append, Option.getD_some, Option.getD_none, X.ev, ev, bin, ibin, Option.map_some, Option.map_none, Option.bind_some, S.cells, rd, sub, Go.Proofs.YtjafaefiigingaaR.shape, asI, bnd, evs, fin_ret, fin_norm, handO_s, Rs.ev, R.ev, params, okKey, Nat.reduceAdd, Nat.reduceMul, Nat.reduceDiv, Nat.reduceEqDiff, Nat.reduceLeDiff, Nat.reduceLT, Int.reduceEq, Int.reduceNe, Int.reduceLT, Int.reduceLE, Int.reduceAdd, Int.reduceSub, Int.reduceMul, Int.reduceNeg, Int.reduceToNat, Int.reducePow, Nat.reducePow, Int.toNat_zero, not_false_eq_true, not_true_eq_false, reduceCtorEq, Nat.zero_add, Nat.add_zero, reduceIte, if_true, if_false, Bool.true_eq_false, Bool.false_eq_true, List.length_cons, List.length_nil, and_self, true_and, and_true, List.drop_zero, List.take_succ_cons, List.take_zero, List.drop_succ_cons, Nat.le_refl, hand, handSs, handS, handVs, handV, List.contains_nil, Bool.not_false]
      try simp
    · rw [F_ev rfl]
      simp only [j46, b46, q46, go_seq, go_region, go_block, go_cond, go_skip, go_ret, go_exit, go_xnil, go_xb, go_xc, go_xo, go_b, go_nil, go_keep, go_frz, go_o (i := .mov _) rfl rfl, go_g (i := .mov _) rfl rfl, go_o (i := .nilsl _ _ _) rfl rfl, go_g (i := .nilsl _ _ _) rfl rfl, go_o (i := .pick _ _ _) rfl rfl, go_g (i := .pick _ _ _) rfl rfl, go_o (i := .bin _ _ _) rfl rfl, go_g (i := .bin _ _ _) rfl rfl, go_o (i := .eqb _ _ _) rfl rfl, go_g (i := .eqb _ _ _) rfl rfl, go_o (i := .eqs _ _ _ _) rfl rfl, go_g (i := .eqs _ _ _ _) rfl rfl, go_o (i := .isnil _ _) rfl rfl, go_g (i := .isnil _ _) rfl rfl, go_o (i := .un _ _) rfl rfl, go_g (i := .un _ _) rfl rfl, go_o (i := .conv _ _) rfl rfl, go_g (i := .conv _ _) rfl rfl, go_o (i := .alloc _) rfl rfl, go_g (i := .alloc _) rfl rfl, go_o (i := .box _) rfl rfl, go_g (i := .box _) rfl rfl, go_o (i := .build _ _) rfl rfl, go_g (i := .build _ _) rfl rfl, go_o (i := .bsl _ _ _ _ _) rfl rfl, go_g (i := .bsl _ _ _ _ _) rfl rfl, go_o (i := .load _ _ _) rfl rfl, go_g (i := .load _ _ _) rfl rfl, go_o (i := .nck _) rfl rfl, go_g (i := .nck _) rfl rfl, go_o (i := .mks _ _ _ _ _ _) rfl rfl, go_g (i := .mks _ _ _ _ _ _) rfl rfl, go_o (i := .cut _ _ _ _) rfl rfl, go_g (i := .cut _ _ _ _) rfl rfl, go_o (i := .fad _ _) rfl rfl, go_g (i := .fad _ _) rfl rfl, go_o (i := .fld _ _ _ _) rfl rfl, go_g (i := .fld _ _ _ _) rfl rfl, go_o (i := .iad _ _ _) rfl rfl, go_g (i := .iad _ _ _) rfl rfl, go_o (i := .iada _ _ _ _) rfl rfl, go_g (i := .iada _ _ _ _) rfl rfl, go_o (i := .idx _ _ _ _ _) rfl rfl, go_g (i := .idx _ _ _ _ _) rfl rfl, go_o (i := .ext _ _) rfl rfl, go_g (i := .ext _ _) rfl rfl, go_o (i := .call _ _ _) rfl rfl, go_g (i := .call _ _ _) rfl rfl, go_o (i := .callv _ _ _) rfl rfl, go_g (i := .callv _ _ _) rfl rfl, go_o (i := .len _) rfl rfl, go_g (i := .len _) rfl rfl, go_o (i := .mx _ _) rfl rfl, go_g (i := .mx _ _) rfl rfl, go_o (i := .mn _ _) rfl rfl, go_g (i := .mn _ _) rfl rfl, go_o (i := .mkf _ _) rfl rfl, go_g (i := .mkf _ _) rfl rfl, callI_f, callI_t, callP_s, callQ_s, callF_nil, callF_cons, callO_nil, callO_cons, ans_s, ret0_s, purS, S.pur, V.pur, V.pur1, purs, pur1s, mentS, S.ment, S.ment.smt, ments, V.ment, List.append_nil, Hp.ok64, List.all_nil, List.all_cons, S.purT, S.purT.sp, S.self, V.self, selfs, S.self.sself, Hp.self, S.ren, S.ren.sren, V.ren, Hp.ren, true_or, or_true, false_or, or_false, Bool.and_true, Bool.true_and, Bool.and_false, Bool.false_and, Bool.and_self, hand, handSs, handS, handVs, handV, List.contains_nil, List.isEmpty_nil, List.take_length, List.getElem?_cons_zero, List.getElem?_cons_succ, fillV, fillR, setAt, List.set_cons_zero, List.set_cons_succ, List.replicate, evE, asRow, List.map_append, S.kill, S.kill.sk, V.kill, Blk.kill, eqvs, ones, Bool.not_true, Bool.not_false, decide_true, decide_false, go_loop, aft_norm, aft_exit, aft_ret, goL_n, goL_x, goL_r, go_s, go_e (i := .app _ _ _ _ _) rfl, goI_b, goG_t, goG_f, goG_u, goO_0, goO_1, goO_2, goF_n, goF2_n, goS_s, goE_s, goK_s, br_t, br_f, put_some, put_none, vG_nil, vH_nil, vG_e, List.length_append, bq1, bq2, bq3, bq4, cz, cz1, cz2, cz3, cz4, Int.le_refl, Int.toNat_natCast, Int.toNat_one, cast0, cast1, Int.cast_ofNat_Int, List.all_nil, vH_e, List.contains_cons, Nat.reduceBEq, Bool.false_or, Bool.or_false, Bool.true_or, Bool.or_true, look_hit, look_end, look_miss, List.map_cons, List.map_nil, List.cons_append, List.nil_append, Option.getD_some, Option.getD_none, X.ev, ev, bin, ibin, Option.map_some, Option.map_none, Option.bind_some, S.cells, rd, sub, Go.Proofs.YtjafaefiigingaaR.shape, asI, bnd, evs, fin_ret, fin_norm, handO_s, Rs.ev, R.ev, params, okKey, Nat.reduceAdd, Nat.reduceMul, Nat.reduceDiv, Nat.reduceEqDiff, Nat.reduceLeDiff, Nat.reduceLT, Int.reduceEq, Int.reduceNe, Int.reduceLT, Int.reduceLE, Int.reduceAdd, Int.reduceSub, Int.reduceMul, Int.reduceNeg, Int.reduceToNat, Int.reducePow, Nat.reducePow, Int.toNat_zero, not_false_eq_true, not_true_eq_false, reduceCtorEq, Nat.zero_add, Nat.add_zero, reduceIte, if_true, if_false, Bool.true_eq_false, Bool.false_eq_true, List.length_cons, List.length_nil, and_self, true_and, and_true, List.drop_zero, List.take_succ_cons, List.take_zero, List.drop_succ_cons, Nat.le_refl, List.replicate, fillR, evE, V.pur1, asRow]
      try (rw [if_pos (by simp)]; simp only [j46, b46, q46, go_seq, go_region, go_block, go_cond, go_skip, go_ret, go_exit, go_xnil, go_xb, go_xc, go_xo, go_b, go_nil, go_keep, go_frz, go_o (i := .mov _) rfl rfl, go_g (i := .mov _) rfl rfl, go_o (i := .nilsl _ _ _) rfl rfl, go_g (i := .nilsl _ _ _) rfl rfl, go_o (i := .pick _ _ _) rfl rfl, go_g (i := .pick _ _ _) rfl rfl, go_o (i := .bin _ _ _) rfl rfl, go_g (i := .bin _ _ _) rfl rfl, go_o (i := .eqb _ _ _) rfl rfl, go_g (i := .eqb _ _ _) rfl rfl, go_o (i := .eqs _ _ _ _) rfl rfl, go_g (i := .eqs _ _ _ _) rfl rfl, go_o (i := .isnil _ _) rfl rfl, go_g (i := .isnil _ _) rfl rfl, go_o (i := .un _ _) rfl rfl, go_g (i := .un _ _) rfl rfl, go_o (i := .conv _ _) rfl rfl, go_g (i := .conv _ _) rfl rfl, go_o (i := .alloc _) rfl rfl, go_g (i := .alloc _) rfl rfl, go_o (i := .box _) rfl rfl, go_g (i := .box _) rfl rfl, go_o (i := .build _ _) rfl rfl, go_g (i := .build _ _) rfl rfl, go_o (i := .bsl _ _ _ _ _) rfl rfl, go_g (i := .bsl _ _ _ _ _) rfl rfl, go_o (i := .load _ _ _) rfl rfl, go_g (i := .load _ _ _) rfl rfl, go_o (i := .nck _) rfl rfl, go_g (i := .nck _) rfl rfl, go_o (i := .mks _ _ _ _ _ _) rfl rfl, go_g (i := .mks _ _ _ _ _ _) rfl rfl, go_o (i := .cut _ _ _ _) rfl rfl, go_g (i := .cut _ _ _ _) rfl rfl, go_o (i := .fad _ _) rfl rfl, go_g (i := .fad _ _) rfl rfl, go_o (i := .fld _ _ _ _) rfl rfl, go_g (i := .fld _ _ _ _) rfl rfl, go_o (i := .iad _ _ _) rfl rfl, go_g (i := .iad _ _ _) rfl rfl, go_o (i := .iada _ _ _ _) rfl rfl, go_g (i := .iada _ _ _ _) rfl rfl, go_o (i := .idx _ _ _ _ _) rfl rfl, go_g (i := .idx _ _ _ _ _) rfl rfl, go_o (i := .ext _ _) rfl rfl, go_g (i := .ext _ _) rfl rfl, go_o (i := .call _ _ _) rfl rfl, go_g (i := .call _ _ _) rfl rfl, go_o (i := .callv _ _ _) rfl rfl, go_g (i := .callv _ _ _) rfl rfl, go_o (i := .len _) rfl rfl, go_g (i := .len _) rfl rfl, go_o (i := .mx _ _) rfl rfl, go_g (i := .mx _ _) rfl rfl, go_o (i := .mn _ _) rfl rfl, go_g (i := .mn _ _) rfl rfl, go_o (i := .mkf _ _) rfl rfl, go_g (i := .mkf _ _) rfl rfl, callI_f, callI_t, callP_s, callQ_s, callF_nil, callF_cons, callO_nil, callO_cons, ans_s, ret0_s, purS, S.pur, V.pur, V.pur1, purs, pur1s, mentS, S.ment, S.ment.smt, ments, V.ment, List.append_nil, Hp.ok64, List.all_nil, List.all_cons, S.purT, S.purT.sp, S.self, V.self, selfs, S.self.sself, Hp.self, S.ren, S.ren.sren, V.ren, Hp.ren, true_or, or_true, false_or, or_false, Bool.and_true, Bool.true_and, Bool.and_false, Bool.false_and, Bool.and_self, hand, handSs, handS, handVs, handV, List.contains_nil, List.isEmpty_nil, List.take_length, List.getElem?_cons_zero, List.getElem?_cons_succ, fillV, fillR, setAt, List.set_cons_zero, List.set_cons_succ, List.replicate, evE, asRow, List.map_append, S.kill, S.kill.sk, V.kill, Blk.kill, eqvs, ones, Bool.not_true, Bool.not_false, decide_true, decide_false, go_loop, aft_norm, aft_exit, aft_ret, goL_n, goL_x, goL_r, go_s, go_e (i := .app _ _ _ _ _) rfl, goI_b, goG_t, goG_f, goG_u, goO_0, goO_1, goO_2, goF_n, goF2_n, goS_s, goE_s, goK_s, br_t, br_f, put_some, put_none, vG_nil, vH_nil, vG_e, List.length_append, bq1, bq2, bq3, bq4, cz, cz1, cz2, cz3, cz4, Int.le_refl, Int.toNat_natCast, Int.toNat_one, cast0, cast1, Int.cast_ofNat_Int, List.all_nil, vH_e, List.contains_cons, Nat.reduceBEq, Bool.false_or, Bool.or_false, Bool.true_or, Bool.or_true, look_hit, look_end, look_miss, List.map_cons, List.map_nil, List.cons_append, List.nil_append, Option.getD_some, Option.getD_none, X.ev, ev, bin, ibin, Option.map_some, Option.map_none, Option.bind_some, S.cells, rd, sub, Go.Proofs.YtjafaefiigingaaR.shape, asI, bnd, evs, fin_ret, fin_norm, handO_s, Rs.ev, R.ev, params, okKey, Nat.reduceAdd, Nat.reduceMul, Nat.reduceDiv, Nat.reduceEqDiff, Nat.reduceLeDiff, Nat.reduceLT, Int.reduceEq, Int.reduceNe, Int.reduceLT, Int.reduceLE, Int.reduceAdd, Int.reduceSub, Int.reduceMul, Int.reduceNeg, Int.reduceToNat, Int.reducePow, Nat.reducePow, Int.toNat_zero, not_false_eq_true, not_true_eq_false, reduceCtorEq, Nat.zero_add, Nat.add_zero, reduceIte, if_true, if_false, Bool.true_eq_false, Bool.false_eq_true, List.length_cons, List.length_nil, and_self, true_and, and_true, List.drop_zero, List.take_succ_cons, List.take_zero, List.drop_succ_cons, Nat.le_refl, S.kill, V.kill, Blk.kill, hand, handSs, handS, handVs, handV, List.contains_nil])
      try simp
/-- bellwether/queue.gap -/
def j47 : C := (.seq (.region [⟨some 1, .box (.t 0), none, [], []⟩,
  ⟨some 2, .alloc [.int .i64 0, .int .i64 0, .int .i64 0, .int .i64 0, .int .i64 0, .int .i64 0], none, [], []⟩,
  ⟨some 3, .mov (.c (.bool false)), none, [], []⟩] false)
 (.seq (.seq (.region [⟨some 4, .fad 0 (.t 1), none, [], []⟩,
  ⟨some 5, .load false 1 (.t 4), none, [], []⟩] false)
 (.block 0 (.seq (.region [⟨some 7, .bin .eql (.t 5) (.c (.int .i64 1)), none, [], []⟩,
  ⟨some 6, .mov (.t 7), none, [], []⟩] false)
 (.cond (.t 6) (.seq (.region [⟨some 8, .fad 1 (.t 1), none, [], []⟩,
  ⟨some 9, .load false 1 (.t 8), none, [], []⟩,
  ⟨some 10, .fad 2 (.t 1), none, [], []⟩,
  ⟨some 11, .load false 1 (.t 10), none, [], []⟩,
  ⟨some 12, .fad 2 (.t 1), none, [], []⟩,
  ⟨some 13, .load false 1 (.t 12), none, [], []⟩,
  ⟨some 14, .build [.int .i64 0, .int .i64 0, .int .i64 0, .int .i64 0, .int .i64 0, .int .i64 0] [(0, 1, (.c (.int .i64 2))), (1, 1, (.t 9)), (2, 1, (.t 11)), (3, 1, (.t 13))], none, [], []⟩,
  ⟨none, .store none 6 (.t 2) (.t 14), none, [], []⟩,
  ⟨some 3, .mov (.c (.bool true)), none, [], []⟩] false)
 .ret) (.seq (.region [⟨some 16, .bin .eql (.t 5) (.c (.int .i64 2)), none, [], []⟩,
  ⟨some 15, .mov (.t 16), none, [], []⟩] false)
 (.cond (.t 15) (.seq (.region [⟨some 17, .load true 6 (.t 1), none, [], []⟩,
  ⟨none, .store none 6 (.t 2) (.t 17), none, [], []⟩,
  ⟨some 3, .mov (.c (.bool true)), none, [], []⟩] false)
 .ret) .skip))))))
 (.seq (.region [⟨some 18, .build [.int .i64 0, .int .i64 0, .int .i64 0, .int .i64 0, .int .i64 0, .int .i64 0] [], none, [], []⟩,
  ⟨none, .store none 6 (.t 2) (.t 18), none, [], []⟩,
  ⟨some 3, .mov (.c (.bool false)), none, [], []⟩] false)
 .ret)))
def i47 : F := ⟨1, 19, j47, [.c 2 6 true, .t 3]⟩
theorem b47 : i47.body = j47 := rfl
theorem q47 : i47.res = [.c 2 6 true, .t 3] := rfl
theorem c47 : chkF Try.prog Try.f47 i47 = true := by kernel_rfl
theorem s47 {m : Model} {E : Nat → Model} (hE : ∀ f, Sound Try.prog f (E f)) (hm : ∀ args r, m args = some r → ∃ N, i47.ev E N args = some r) : Sound Try.prog 47 m := sound_of i47 Try.func47 rfl c47 hE hm
/-- bellwether/bellwetherref10.in -/
def j48 : C := (.seq (.region [⟨some 6, .mov (.c (.bool false)), none, [], []⟩] false)
 (.seq (.region [⟨some 7, .mov (.t 0), none, [], []⟩,
  ⟨some 8, .mov (.t 1), none, [], []⟩,
  ⟨some 9, .bin .geq (.t 7) (.t 8), none, [], []⟩,
  ⟨some 10, .mov (.t 9), none, [], []⟩,
  ⟨some 11, .mov (.t 0), some (10, true), [], []⟩,
  ⟨some 12, .mov (.t 2), some (10, true), [], []⟩,
  ⟨some 13, .bin .leq (.t 11) (.t 12), some (10, true), [], []⟩,
  ⟨some 14, .pick (.t 10) (.t 13) (.c (.bool false)), none, [], []⟩,
  ⟨some 6, .mov (.t 14), none, [], []⟩] false)
 .ret))
def i48 : F := ⟨3, 15, j48, [.t 6]⟩
theorem b48 : i48.body = j48 := rfl
theorem q48 : i48.res = [.t 6] := rfl
theorem c48 : chkF Try.prog Try.f48 i48 = true := by kernel_rfl
theorem s48 {m : Model} {E : Nat → Model} (hE : ∀ f, Sound Try.prog f (E f)) (hm : ∀ args r, m args = some r → ∃ N, i48.ev E N args = some r) : Sound Try.prog 48 m := sound_of i48 Try.func48 rfl c48 hE hm
/-- bellwether/queue.bare -/
def j49 : C := (.seq (.region [⟨some 1, .box (.t 0), none, [], []⟩,
  ⟨some 2, .alloc [.int .i64 0, .int .i64 0, .int .i64 0, .int .i64 0, .int .i64 0, .int .i64 0], none, [], []⟩,
  ⟨some 3, .mov (.c (.bool false)), none, [], []⟩] false)
 (.seq (.seq (.region [⟨some 4, .fad 0 (.t 1), none, [], []⟩,
  ⟨some 5, .load false 1 (.t 4), none, [], []⟩] false)
 (.block 0 (.seq (.region [⟨some 7, .bin .eql (.t 5) (.c (.int .i64 1)), none, [], []⟩,
  ⟨some 6, .mov (.t 7), none, [], []⟩] false)
 (.cond (.t 6) (.seq (.region [⟨some 8, .load true 6 (.t 1), none, [], []⟩,
  ⟨some 9, .call false 73 [(.t 8)], none, [], []⟩,
  ⟨some 10, .mov (.t 9), none, [], []⟩,
  ⟨some 11, .fad 4 (.t 1), some (10, true), [], []⟩,
  ⟨some 12, .load false 1 (.t 11), some (10, true), [], []⟩,
  ⟨some 13, .call false 67 [(.t 12)], some (10, true), [], []⟩,
  ⟨some 14, .pick (.t 10) (.t 13) (.c (.bool false)), none, [], []⟩,
  ⟨some 3, .mov (.t 14), none, [], []⟩] false)
 (.region [⟨some 15, .fad 1 (.t 1), none, [], []⟩,
  ⟨none, .store none 1 (.t 15) (.c (.int .i64 0)), none, [], []⟩,
  ⟨some 16, .fad 2 (.t 1), none, [], []⟩,
  ⟨none, .store none 1 (.t 16) (.c (.int .i64 0)), none, [], []⟩,
  ⟨some 17, .fad 4 (.t 1), none, [], []⟩,
  ⟨none, .store none 1 (.t 17) (.c (.int .i64 0)), none, [], []⟩] false)) (.seq (.region [⟨some 19, .bin .eql (.t 5) (.c (.int .i64 2)), none, [], []⟩,
  ⟨some 18, .mov (.t 19), none, [], []⟩] false)
 (.cond (.t 18) (.seq (.region [⟨some 20, .load true 6 (.t 1), none, [], []⟩,
  ⟨some 21, .call false 73 [(.t 20)], none, [], []⟩,
  ⟨some 22, .mov (.t 21), none, [], []⟩,
  ⟨some 23, .fad 3 (.t 1), some (22, true), [], []⟩,
  ⟨some 24, .load false 1 (.t 23), some (22, true), [], []⟩,
  ⟨some 25, .fad 2 (.t 1), some (22, true), [], []⟩,
  ⟨some 26, .load false 1 (.t 25), some (22, true), [], []⟩,
  ⟨some 27, .bin .geq (.t 24) (.t 26), some (22, true), [], []⟩,
  ⟨some 28, .pick (.t 22) (.t 27) (.c (.bool false)), none, [], []⟩,
  ⟨some 29, .mov (.t 28), none, [], []⟩,
  ⟨some 30, .fad 3 (.t 1), some (29, true), [], []⟩,
  ⟨some 31, .load false 1 (.t 30), some (29, true), [], []⟩,
  ⟨some 32, .bin .leq (.t 31) (.c (.int .i64 1073741824)), some (29, true), [], []⟩,
  ⟨some 33, .pick (.t 29) (.t 32) (.c (.bool false)), none, [], []⟩,
  ⟨some 3, .mov (.t 33), none, [], []⟩] false)
 (.region [⟨some 34, .fad 1 (.t 1), none, [], []⟩,
  ⟨none, .store none 1 (.t 34) (.c (.int .i64 0)), none, [], []⟩,
  ⟨some 35, .fad 2 (.t 1), none, [], []⟩,
  ⟨none, .store none 1 (.t 35) (.c (.int .i64 0)), none, [], []⟩,
  ⟨some 36, .fad 3 (.t 1), none, [], []⟩,
  ⟨none, .store none 1 (.t 36) (.c (.int .i64 0)), none, [], []⟩] false)) (.seq (.region [⟨some 38, .bin .eql (.t 5) (.c (.int .i64 3)), none, [], []⟩,
  ⟨some 37, .mov (.t 38), none, [], []⟩] false)
 (.cond (.t 37) (.seq (.region [⟨some 39, .fad 5 (.t 1), none, [], []⟩,
  ⟨some 40, .load false 1 (.t 39), none, [], []⟩,
  ⟨some 41, .call false 74 [(.t 40)], none, [], []⟩,
  ⟨some 42, .mov (.t 41), none, [], []⟩,
  ⟨some 43, .fad 4 (.t 1), some (42, true), [], []⟩,
  ⟨some 44, .load false 1 (.t 43), some (42, true), [], []⟩,
  ⟨some 45, .call false 75 [(.t 44)], some (42, true), [], []⟩,
  ⟨some 46, .pick (.t 42) (.t 45) (.c (.bool false)), none, [], []⟩,
  ⟨some 3, .mov (.t 46), none, [], []⟩] false)
 (.region [⟨some 47, .fad 5 (.t 1), none, [], []⟩,
  ⟨none, .store none 1 (.t 47) (.c (.int .i64 0)), none, [], []⟩,
  ⟨some 48, .fad 4 (.t 1), none, [], []⟩,
  ⟨none, .store none 1 (.t 48) (.c (.int .i64 0)), none, [], []⟩] false)) (.seq (.region [⟨some 50, .bin .eql (.t 5) (.c (.int .i64 4)), none, [], []⟩,
  ⟨some 49, .mov (.t 50), none, [], []⟩] false)
 (.cond (.t 49) (.seq (.region [⟨some 51, .fad 5 (.t 1), none, [], []⟩,
  ⟨some 52, .load false 1 (.t 51), none, [], []⟩,
  ⟨some 53, .call false 74 [(.t 52)], none, [], []⟩,
  ⟨some 3, .mov (.t 53), none, [], []⟩] false)
 (.region [⟨some 54, .fad 5 (.t 1), none, [], []⟩,
  ⟨none, .store none 1 (.t 54) (.c (.int .i64 0)), none, [], []⟩] false)) (.seq (.region [⟨some 56, .bin .eql (.t 5) (.c (.int .i64 5)), none, [], []⟩,
  ⟨some 55, .mov (.t 56), none, [], []⟩] false)
 (.cond (.t 55) (.region [⟨some 3, .mov (.c (.bool true)), none, [], []⟩] false) .skip))))))))))))
 (.seq (.region [⟨some 57, .load true 6 (.t 1), none, [], []⟩,
  ⟨some 58, .mov (.t 3), none, [], []⟩,
  ⟨none, .store none 6 (.t 2) (.t 57), none, [], []⟩,
  ⟨some 3, .mov (.t 58), none, [], []⟩] false)
 .ret)))
def i49 : F := ⟨1, 59, j49, [.c 2 6 true, .t 3]⟩
theorem b49 : i49.body = j49 := rfl
theorem q49 : i49.res = [.c 2 6 true, .t 3] := rfl
theorem c49 : chkF Try.prog Try.f49 i49 = true := by kernel_rfl
theorem s49 {m : Model} {E : Nat → Model} (hE : ∀ f, Sound Try.prog f (E f)) (hm : ∀ args r, m args = some r → ∃ N, i49.ev E N args = some r) : Sound Try.prog 49 m := sound_of i49 Try.func49 rfl c49 hE hm
/-- bellwether/bellwetherref10.Epoch -/
def j50 : C := (.seq (.region [⟨some 2, .mov (.c (.bool false)), none, [], []⟩] false)
 (.seq (.region [⟨some 3, .mov (.t 0), none, [], []⟩,
  ⟨some 4, .call false 48 [(.t 3), (.c (.int .i64 1)), (.c (.int .i64 1073741824))], none, [], []⟩,
  ⟨some 5, .mov (.t 4), none, [], []⟩,
  ⟨some 6, .mov (.t 0), some (5, true), [], []⟩,
  ⟨some 7, .bin .rem (.t 6) (.c (.int .i64 16)), some (5, true), [], []⟩,
  ⟨some 8, .bin .lss (.t 7) (.c (.int .i64 8)), some (5, true), [], []⟩,
  ⟨some 9, .pick (.t 5) (.t 8) (.c (.bool false)), none, [], []⟩,
  ⟨some 2, .mov (.t 9), none, [], []⟩] false)
 .ret))
def i50 : F := ⟨1, 10, j50, [.t 2]⟩
theorem b50 : i50.body = j50 := rfl
theorem q50 : i50.res = [.t 2] := rfl
theorem c50 : chkF Try.prog Try.f50 i50 = true := by kernel_rfl
theorem s50 {m : Model} {E : Nat → Model} (hE : ∀ f, Sound Try.prog f (E f)) (hm : ∀ args r, m args = some r → ∃ N, i50.ev E N args = some r) : Sound Try.prog 50 m := sound_of i50 Try.func50 rfl c50 hE hm
/-- bellwether/bellwetherref10.count -/
def j51 : C := (.seq (.region [⟨some 2, .mov (.c (.bool false)), none, [], []⟩] false)
 (.seq (.region [⟨some 3, .mov (.t 0), none, [], []⟩,
  ⟨some 4, .call false 48 [(.t 3), (.c (.int .i64 1)), (.c (.int .i64 1073741824))], none, [], []⟩,
  ⟨some 2, .mov (.t 4), none, [], []⟩] false)
 .ret))
def i51 : F := ⟨1, 5, j51, [.t 2]⟩
theorem b51 : i51.body = j51 := rfl
theorem q51 : i51.res = [.t 2] := rfl
theorem c51 : chkF Try.prog Try.f51 i51 = true := by kernel_rfl
theorem s51 {m : Model} {E : Nat → Model} (hE : ∀ f, Sound Try.prog f (E f)) (hm : ∀ args r, m args = some r → ∃ N, i51.ev E N args = some r) : Sound Try.prog 51 m := sound_of i51 Try.func51 rfl c51 hE hm
/-- bellwether/bellwetherref01.IsNode -/
def j52 : C := (.seq (.region [⟨some 2, .mov (.c (.bool false)), none, [], []⟩] false)
 (.seq (.region [⟨some 3, .mov (.t 0), none, [], []⟩,
  ⟨some 4, .call false 55 [(.t 3), (.c (.int .i64 0)), (.c (.int .i64 7))], none, [], []⟩,
  ⟨some 2, .mov (.t 4), none, [], []⟩] false)
 .ret))
def i52 : F := ⟨1, 5, j52, [.t 2]⟩
theorem b52 : i52.body = j52 := rfl
theorem q52 : i52.res = [.t 2] := rfl
theorem c52 : chkF Try.prog Try.f52 i52 = true := by kernel_rfl
theorem s52 {m : Model} {E : Nat → Model} (hE : ∀ f, Sound Try.prog f (E f)) (hm : ∀ args r, m args = some r → ∃ N, i52.ev E N args = some r) : Sound Try.prog 52 m := sound_of i52 Try.func52 rfl c52 hE hm
/-- slices.ContainsFunc   bellwether/api.Event bellwether/api.Event  -/
def j53 : C := (.seq (.region [⟨some 4, .mov (.c (.bool false)), none, [], []⟩] false)
 (.seq (.region [⟨some 5, .mov (.t 0), none, [], []⟩,
  ⟨some 6, .mov (.t 1), none, [], []⟩,
  ⟨some 7, .call false 76 [(.t 5), (.t 6)], none, [], []⟩,
  ⟨some 8, .bin .geq (.t 7) (.c (.int .i64 0)), none, [], []⟩,
  ⟨some 4, .mov (.t 8), none, [], []⟩] false)
 .ret))
def i53 : F := ⟨2, 9, j53, [.t 4]⟩
theorem b53 : i53.body = j53 := rfl
theorem q53 : i53.res = [.t 4] := rfl
theorem c53 : chkF Try.prog Try.f53 i53 = true := by kernel_rfl
theorem s53 {m : Model} {E : Nat → Model} (hE : ∀ f, Sound Try.prog f (E f)) (hm : ∀ args r, m args = some r → ∃ N, i53.ev E N args = some r) : Sound Try.prog 53 m := sound_of i53 Try.func53 rfl c53 hE hm
/-- bellwether/queue.Check$1 -/
def j54 : C := (.seq (.region [⟨some 1, .box (.t 0), none, [], []⟩,
  ⟨some 2, .mov (.c (.bool false)), none, [], []⟩] false)
 (.seq (.region [⟨some 3, .load true 6 (.t 1), none, [], []⟩,
  ⟨some 4, .call false 17 [(.t 3)], none, [], []⟩,
  ⟨some 5, .bin .neq (.t 4) (.c (.int .i64 0)), none, [], []⟩,
  ⟨some 2, .mov (.t 5), none, [], []⟩] false)
 .ret))
def i54 : F := ⟨1, 6, j54, [.t 2]⟩
theorem b54 : i54.body = j54 := rfl
theorem q54 : i54.res = [.t 2] := rfl
theorem c54 : chkF Try.prog Try.f54 i54 = true := by kernel_rfl
theorem s54 {m : Model} {E : Nat → Model} (hE : ∀ f, Sound Try.prog f (E f)) (hm : ∀ args r, m args = some r → ∃ N, i54.ev E N args = some r) : Sound Try.prog 54 m := sound_of i54 Try.func54 rfl c54 hE hm
/-- bellwether/bellwetherref01.In -/
def j55 : C := (.seq (.region [⟨some 6, .mov (.c (.bool false)), none, [], []⟩] false)
 (.seq (.region [⟨some 7, .mov (.t 0), none, [], []⟩,
  ⟨some 8, .mov (.t 1), none, [], []⟩,
  ⟨some 9, .bin .geq (.t 7) (.t 8), none, [], []⟩,
  ⟨some 10, .mov (.t 9), none, [], []⟩,
  ⟨some 11, .mov (.t 0), some (10, true), [], []⟩,
  ⟨some 12, .mov (.t 2), some (10, true), [], []⟩,
  ⟨some 13, .bin .leq (.t 11) (.t 12), some (10, true), [], []⟩,
  ⟨some 14, .pick (.t 10) (.t 13) (.c (.bool false)), none, [], []⟩,
  ⟨some 6, .mov (.t 14), none, [], []⟩] false)
 .ret))
def i55 : F := ⟨3, 15, j55, [.t 6]⟩
theorem b55 : i55.body = j55 := rfl
theorem q55 : i55.res = [.t 6] := rfl
theorem c55 : chkF Try.prog Try.f55 i55 = true := by kernel_rfl
theorem s55 {m : Model} {E : Nat → Model} (hE : ∀ f, Sound Try.prog f (E f)) (hm : ∀ args r, m args = some r → ∃ N, i55.ev E N args = some r) : Sound Try.prog 55 m := sound_of i55 Try.func55 rfl c55 hE hm
/-- bellwether/msg.Counted -/
def j61 : C := (.seq (.region [⟨some 2, .mov (.c (.bool false)), none, [], []⟩] false)
 (.seq (.region [⟨some 3, .mov (.t 0), none, [], []⟩,
  ⟨some 4, .call false 62 [(.t 3), (.c (.int .i64 1)), (.c (.int .i64 1073741824))], none, [], []⟩,
  ⟨some 2, .mov (.t 4), none, [], []⟩] false)
 .ret))
def i61 : F := ⟨1, 5, j61, [.t 2]⟩
theorem b61 : i61.body = j61 := rfl
theorem q61 : i61.res = [.t 2] := rfl
theorem c61 : chkF Try.prog Try.f61 i61 = true := by kernel_rfl
theorem s61 {m : Model} {E : Nat → Model} (hE : ∀ f, Sound Try.prog f (E f)) (hm : ∀ args r, m args = some r → ∃ N, i61.ev E N args = some r) : Sound Try.prog 61 m := sound_of i61 Try.func61 rfl c61 hE hm
/-- bellwether/msg.in -/
def j62 : C := (.seq (.region [⟨some 6, .mov (.c (.bool false)), none, [], []⟩] false)
 (.seq (.region [⟨some 7, .mov (.t 0), none, [], []⟩,
  ⟨some 8, .mov (.t 1), none, [], []⟩,
  ⟨some 9, .bin .geq (.t 7) (.t 8), none, [], []⟩,
  ⟨some 10, .mov (.t 9), none, [], []⟩,
  ⟨some 11, .mov (.t 0), some (10, true), [], []⟩,
  ⟨some 12, .mov (.t 2), some (10, true), [], []⟩,
  ⟨some 13, .bin .leq (.t 11) (.t 12), some (10, true), [], []⟩,
  ⟨some 14, .pick (.t 10) (.t 13) (.c (.bool false)), none, [], []⟩,
  ⟨some 6, .mov (.t 14), none, [], []⟩] false)
 .ret))
def i62 : F := ⟨3, 15, j62, [.t 6]⟩
theorem b62 : i62.body = j62 := rfl
theorem q62 : i62.res = [.t 6] := rfl
theorem c62 : chkF Try.prog Try.f62 i62 = true := by kernel_rfl
theorem s62 {m : Model} {E : Nat → Model} (hE : ∀ f, Sound Try.prog f (E f)) (hm : ∀ args r, m args = some r → ∃ N, i62.ev E N args = some r) : Sound Try.prog 62 m := sound_of i62 Try.func62 rfl c62 hE hm
/-- bellwether/msg.Value -/
def j67 : C := (.seq (.region [⟨some 2, .mov (.c (.bool false)), none, [], []⟩] false)
 (.seq (.region [⟨some 3, .mov (.t 0), none, [], []⟩,
  ⟨some 4, .call false 62 [(.t 3), (.c (.int .i64 0)), (.c (.int .i64 2147483647))], none, [], []⟩,
  ⟨some 2, .mov (.t 4), none, [], []⟩] false)
 .ret))
def i67 : F := ⟨1, 5, j67, [.t 2]⟩
theorem b67 : i67.body = j67 := rfl
theorem q67 : i67.res = [.t 2] := rfl
theorem c67 : chkF Try.prog Try.f67 i67 = true := by kernel_rfl
theorem s67 {m : Model} {E : Nat → Model} (hE : ∀ f, Sound Try.prog f (E f)) (hm : ∀ args r, m args = some r → ∃ N, i67.ev E N args = some r) : Sound Try.prog 67 m := sound_of i67 Try.func67 rfl c67 hE hm
/-- bellwether/queue.place -/
def j73 : C := (.seq (.region [⟨some 1, .box (.t 0), none, [], []⟩,
  ⟨some 2, .mov (.c (.bool false)), none, [], []⟩] false)
 (.seq (.region [⟨some 3, .fad 1 (.t 1), none, [], []⟩,
  ⟨some 4, .load false 1 (.t 3), none, [], []⟩,
  ⟨some 5, .call false 84 [(.t 4)], none, [], []⟩,
  ⟨some 6, .bin .eql (.t 5) (.c (.int .i64 0)), none, [], []⟩,
  ⟨some 7, .mov (.t 6), none, [], []⟩,
  ⟨some 8, .fad 2 (.t 1), some (7, true), [], []⟩,
  ⟨some 9, .load false 1 (.t 8), some (7, true), [], []⟩,
  ⟨some 10, .call false 61 [(.t 9)], some (7, true), [], []⟩,
  ⟨some 11, .pick (.t 7) (.t 10) (.c (.bool false)), none, [], []⟩,
  ⟨some 2, .mov (.t 11), none, [], []⟩] false)
 .ret))
def i73 : F := ⟨1, 12, j73, [.t 2]⟩
theorem b73 : i73.body = j73 := rfl
theorem q73 : i73.res = [.t 2] := rfl
theorem c73 : chkF Try.prog Try.f73 i73 = true := by kernel_rfl
theorem s73 {m : Model} {E : Nat → Model} (hE : ∀ f, Sound Try.prog f (E f)) (hm : ∀ args r, m args = some r → ∃ N, i73.ev E N args = some r) : Sound Try.prog 73 m := sound_of i73 Try.func73 rfl c73 hE hm
/-- bellwether/queue.call -/
def j74 : C := (.seq (.region [⟨some 2, .mov (.c (.bool false)), none, [], []⟩] false)
 (.seq (.region [⟨some 3, .mov (.t 0), none, [], []⟩,
  ⟨some 4, .bin .geq (.t 3) (.c (.int .i64 1)), none, [], []⟩,
  ⟨some 5, .mov (.t 4), none, [], []⟩,
  ⟨some 6, .mov (.t 0), some (5, true), [], []⟩,
  ⟨some 7, .bin .leq (.t 6) (.c (.int .i64 40)), some (5, true), [], []⟩,
  ⟨some 8, .pick (.t 5) (.t 7) (.c (.bool false)), none, [], []⟩,
  ⟨some 2, .mov (.t 8), none, [], []⟩] false)
 .ret))
def i74 : F := ⟨1, 9, j74, [.t 2]⟩
theorem b74 : i74.body = j74 := rfl
theorem q74 : i74.res = [.t 2] := rfl
theorem c74 : chkF Try.prog Try.f74 i74 = true := by kernel_rfl
theorem s74 {m : Model} {E : Nat → Model} (hE : ∀ f, Sound Try.prog f (E f)) (hm : ∀ args r, m args = some r → ∃ N, i74.ev E N args = some r) : Sound Try.prog 74 m := sound_of i74 Try.func74 rfl c74 hE hm
/-- bellwether/ring.Is -/
def j75 : C := (.seq (.region [⟨some 2, .mov (.c (.bool false)), none, [], []⟩] false)
 (.seq (.region [⟨some 3, .mov (.t 0), none, [], []⟩,
  ⟨some 4, .call false 85 [(.t 3), (.c (.int .i64 8))], none, [], []⟩,
  ⟨some 2, .mov (.t 4), none, [], []⟩] false)
 .ret))
def i75 : F := ⟨1, 5, j75, [.t 2]⟩
theorem b75 : i75.body = j75 := rfl
theorem q75 : i75.res = [.t 2] := rfl
theorem c75 : chkF Try.prog Try.f75 i75 = true := by kernel_rfl
theorem s75 {m : Model} {E : Nat → Model} (hE : ∀ f, Sound Try.prog f (E f)) (hm : ∀ args r, m args = some r → ∃ N, i75.ev E N args = some r) : Sound Try.prog 75 m := sound_of i75 Try.func75 rfl c75 hE hm
/-- slices.IndexFunc   bellwether/api.Event bellwether/api.Event  -/
def j76 : C := (.seq (.region [⟨some 4, .mov (.c (.int .i64 0)), none, [], []⟩] false)
 (.seq (.seq (.region [⟨some 6, .mov (.t 0), none, [], []⟩,
  ⟨some 7, .len (.t 6), none, [], []⟩,
  ⟨some 8, .mov (.c (.int .i64 0)), none, [], []⟩] false)
 (.block 0 (.loop (.keep [0, 1, 7, 8] (.seq (.region [⟨some 9, .bin .lss (.t 8) (.t 7), none, [], []⟩] false)
 (.seq (.cond (.t 9) .skip (.exit 0))
 (.seq (.block 1 (.seq (.region [⟨some 10, .mov (.t 8), none, [], []⟩,
  ⟨some 5, .mov (.t 10), none, [], []⟩] false)
 (.seq (.region [⟨some 11, .mov (.t 1), none, [], []⟩,
  ⟨some 12, .mov (.t 0), none, [], []⟩,
  ⟨some 13, .mov (.t 5), none, [], []⟩,
  ⟨some 14, .iad 6 (.t 12) (.t 13), none, [], []⟩,
  ⟨some 15, .load true 6 (.t 14), none, [], []⟩,
  ⟨some 16, .callv false (.t 11) [(.t 15)], none, [], []⟩] false)
 (.cond (.t 16) (.seq (.region [⟨some 17, .mov (.t 5), none, [], []⟩,
  ⟨some 4, .mov (.t 17), none, [], []⟩] false)
 .ret) .skip))))
 (.region [⟨some 18, .bin .add (.t 8) (.c (.int .i64 1)), none, [], []⟩,
  ⟨some 8, .mov (.t 18), none, [], []⟩] false))))))))
 (.seq (.region [⟨some 4, .mov (.c (.int .i64 (-1))), none, [], []⟩] false)
 .ret)))
def i76 : F := ⟨2, 19, j76, [.t 4]⟩
theorem b76 : i76.body = j76 := rfl
theorem q76 : i76.res = [.t 4] := rfl
theorem c76 : chkF Try.prog Try.f76 i76 = true := by kernel_rfl
theorem s76 {m : Model} {E : Nat → Model} (hE : ∀ f, Sound Try.prog f (E f)) (hm : ∀ args r, m args = some r → ∃ N, i76.ev E N args = some r) : Sound Try.prog 76 m := sound_of i76 Try.func76 rfl c76 hE hm
/-- bellwether/epoch.Check -/
def j84 : C := (.seq (.region [⟨some 2, .mov (.c (.int .i64 0)), none, [], []⟩] false)
 (.seq (.seq (.region [⟨some 3, .mov (.t 0), none, [], []⟩,
  ⟨some 4, .bin .lss (.t 3) (.c (.int .i64 1)), none, [], []⟩,
  ⟨some 5, .mov (.t 4), none, [], []⟩,
  ⟨some 6, .mov (.t 0), some (5, false), [], []⟩,
  ⟨some 7, .bin .gtr (.t 6) (.c (.int .i64 1073741824)), some (5, false), [], []⟩,
  ⟨some 8, .pick (.t 5) (.c (.bool true)) (.t 7), none, [], []⟩,
  ⟨some 9, .mov (.t 8), none, [], []⟩,
  ⟨some 10, .mov (.t 0), some (9, false), [], []⟩,
  ⟨some 11, .bin .rem (.t 10) (.c (.int .i64 16)), some (9, false), [], []⟩,
  ⟨some 12, .call false 75 [(.t 11)], some (9, false), [], []⟩,
  ⟨some 13, .un .not (.t 12), some (9, false), [], []⟩,
  ⟨some 14, .pick (.t 9) (.c (.bool true)) (.t 13), none, [], []⟩] false)
 (.cond (.t 14) (.seq (.region [⟨some 2, .mov (.c (.int .i64 1)), none, [], []⟩] false)
 .ret) .skip))
 (.seq (.region [⟨some 2, .mov (.c (.int .i64 0)), none, [], []⟩] false)
 .ret)))
def i84 : F := ⟨1, 15, j84, [.t 2]⟩
theorem b84 : i84.body = j84 := rfl
theorem q84 : i84.res = [.t 2] := rfl
theorem c84 : chkF Try.prog Try.f84 i84 = true := by kernel_rfl
theorem s84 {m : Model} {E : Nat → Model} (hE : ∀ f, Sound Try.prog f (E f)) (hm : ∀ args r, m args = some r → ∃ N, i84.ev E N args = some r) : Sound Try.prog 84 m := sound_of i84 Try.func84 rfl c84 hE hm
/-- bellwether/ring.in -/
def j85 : C := (.seq (.region [⟨some 4, .mov (.c (.bool false)), none, [], []⟩] false)
 (.seq (.region [⟨some 5, .mov (.t 0), none, [], []⟩,
  ⟨some 6, .bin .geq (.t 5) (.c (.int .i64 0)), none, [], []⟩,
  ⟨some 7, .mov (.t 6), none, [], []⟩,
  ⟨some 8, .mov (.t 0), some (7, true), [], []⟩,
  ⟨some 9, .mov (.t 1), some (7, true), [], []⟩,
  ⟨some 10, .bin .lss (.t 8) (.t 9), some (7, true), [], []⟩,
  ⟨some 11, .pick (.t 7) (.t 10) (.c (.bool false)), none, [], []⟩,
  ⟨some 4, .mov (.t 11), none, [], []⟩] false)
 .ret))
def i85 : F := ⟨2, 12, j85, [.t 4]⟩
theorem b85 : i85.body = j85 := rfl
theorem q85 : i85.res = [.t 4] := rfl
theorem c85 : chkF Try.prog Try.f85 i85 = true := by kernel_rfl
theorem s85 {m : Model} {E : Nat → Model} (hE : ∀ f, Sound Try.prog f (E f)) (hm : ∀ args r, m args = some r → ∃ N, i85.ev E N args = some r) : Sound Try.prog 85 m := sound_of i85 Try.func85 rfl c85 hE hm
def xt : List (Nat × Model) := [(46, cloneM 24 6 48)]
def tb : List (Nat × F) := [(3, i3), (4, i4), (5, i5), (6, i6), (13, i13), (14, i14), (15, i15), (16, i16), (17, i17), (18, i18), (19, i19), (20, i20), (21, i21), (22, i22), (23, i23), (44, i44), (47, i47), (48, i48), (49, i49), (50, i50), (51, i51), (52, i52), (53, i53), (54, i54), (55, i55), (61, i61), (62, i62), (67, i67), (73, i73), (74, i74), (75, i75), (76, i76), (84, i84), (85, i85)]
theorem xt_ok : ∀ p ∈ xt, Sound Try.prog p.1 p.2 := all_cons x46 (all_nil)
theorem tb_ok (N : Nat) : ∀ p ∈ tb, ∀ E : Nat → Model, (∀ f, Sound Try.prog f (E f)) → Sound Try.prog p.1 (p.2.ev E N) := all_cons (fun E hE => s3 hE fun _ _ h => ⟨N, h⟩) (all_cons (fun E hE => s4 hE fun _ _ h => ⟨N, h⟩) (all_cons (fun E hE => s5 hE fun _ _ h => ⟨N, h⟩) (all_cons (fun E hE => s6 hE fun _ _ h => ⟨N, h⟩) (all_cons (fun E hE => s13 hE fun _ _ h => ⟨N, h⟩) (all_cons (fun E hE => s14 hE fun _ _ h => ⟨N, h⟩) (all_cons (fun E hE => s15 hE fun _ _ h => ⟨N, h⟩) (all_cons (fun E hE => s16 hE fun _ _ h => ⟨N, h⟩) (all_cons (fun E hE => s17 hE fun _ _ h => ⟨N, h⟩) (all_cons (fun E hE => s18 hE fun _ _ h => ⟨N, h⟩) (all_cons (fun E hE => s19 hE fun _ _ h => ⟨N, h⟩) (all_cons (fun E hE => s20 hE fun _ _ h => ⟨N, h⟩) (all_cons (fun E hE => s21 hE fun _ _ h => ⟨N, h⟩) (all_cons (fun E hE => s22 hE fun _ _ h => ⟨N, h⟩) (all_cons (fun E hE => s23 hE fun _ _ h => ⟨N, h⟩) (all_cons (fun E hE => s44 hE fun _ _ h => ⟨N, h⟩) (all_cons (fun E hE => s47 hE fun _ _ h => ⟨N, h⟩) (all_cons (fun E hE => s48 hE fun _ _ h => ⟨N, h⟩) (all_cons (fun E hE => s49 hE fun _ _ h => ⟨N, h⟩) (all_cons (fun E hE => s50 hE fun _ _ h => ⟨N, h⟩) (all_cons (fun E hE => s51 hE fun _ _ h => ⟨N, h⟩) (all_cons (fun E hE => s52 hE fun _ _ h => ⟨N, h⟩) (all_cons (fun E hE => s53 hE fun _ _ h => ⟨N, h⟩) (all_cons (fun E hE => s54 hE fun _ _ h => ⟨N, h⟩) (all_cons (fun E hE => s55 hE fun _ _ h => ⟨N, h⟩) (all_cons (fun E hE => s61 hE fun _ _ h => ⟨N, h⟩) (all_cons (fun E hE => s62 hE fun _ _ h => ⟨N, h⟩) (all_cons (fun E hE => s67 hE fun _ _ h => ⟨N, h⟩) (all_cons (fun E hE => s73 hE fun _ _ h => ⟨N, h⟩) (all_cons (fun E hE => s74 hE fun _ _ h => ⟨N, h⟩) (all_cons (fun E hE => s75 hE fun _ _ h => ⟨N, h⟩) (all_cons (fun E hE => s76 hE fun _ _ h => ⟨N, h⟩) (all_cons (fun E hE => s84 hE fun _ _ h => ⟨N, h⟩) (all_cons (fun E hE => s85 hE fun _ _ h => ⟨N, h⟩) (all_nil))))))))))))))))))))))))))))))))))
abbrev TT := T xt tb
theorem TT_ok (N d f : Nat) : Sound Try.prog f (TT N d f) := T_ok xt_ok (tb_ok N) d f
theorem t3 (N d : Nat) : TT N (d + 1) 3 = i3.ev (TT N d) N := rfl
theorem t4 (N d : Nat) : TT N (d + 1) 4 = i4.ev (TT N d) N := rfl
theorem t5 (N d : Nat) : TT N (d + 1) 5 = i5.ev (TT N d) N := rfl
theorem t6 (N d : Nat) : TT N (d + 1) 6 = i6.ev (TT N d) N := rfl
theorem t13 (N d : Nat) : TT N (d + 1) 13 = i13.ev (TT N d) N := rfl
theorem t14 (N d : Nat) : TT N (d + 1) 14 = i14.ev (TT N d) N := rfl
theorem t15 (N d : Nat) : TT N (d + 1) 15 = i15.ev (TT N d) N := rfl
theorem t16 (N d : Nat) : TT N (d + 1) 16 = i16.ev (TT N d) N := rfl
theorem t17 (N d : Nat) : TT N (d + 1) 17 = i17.ev (TT N d) N := rfl
theorem t18 (N d : Nat) : TT N (d + 1) 18 = i18.ev (TT N d) N := rfl
theorem t19 (N d : Nat) : TT N (d + 1) 19 = i19.ev (TT N d) N := rfl
theorem t20 (N d : Nat) : TT N (d + 1) 20 = i20.ev (TT N d) N := rfl
theorem t21 (N d : Nat) : TT N (d + 1) 21 = i21.ev (TT N d) N := rfl
theorem t22 (N d : Nat) : TT N (d + 1) 22 = i22.ev (TT N d) N := rfl
theorem t23 (N d : Nat) : TT N (d + 1) 23 = i23.ev (TT N d) N := rfl
theorem t44 (N d : Nat) : TT N (d + 1) 44 = i44.ev (TT N d) N := rfl
theorem t47 (N d : Nat) : TT N (d + 1) 47 = i47.ev (TT N d) N := rfl
theorem t48 (N d : Nat) : TT N (d + 1) 48 = i48.ev (TT N d) N := rfl
theorem t49 (N d : Nat) : TT N (d + 1) 49 = i49.ev (TT N d) N := rfl
theorem t50 (N d : Nat) : TT N (d + 1) 50 = i50.ev (TT N d) N := rfl
theorem t51 (N d : Nat) : TT N (d + 1) 51 = i51.ev (TT N d) N := rfl
theorem t52 (N d : Nat) : TT N (d + 1) 52 = i52.ev (TT N d) N := rfl
theorem t53 (N d : Nat) : TT N (d + 1) 53 = i53.ev (TT N d) N := rfl
theorem t54 (N d : Nat) : TT N (d + 1) 54 = i54.ev (TT N d) N := rfl
theorem t55 (N d : Nat) : TT N (d + 1) 55 = i55.ev (TT N d) N := rfl
theorem t61 (N d : Nat) : TT N (d + 1) 61 = i61.ev (TT N d) N := rfl
theorem t62 (N d : Nat) : TT N (d + 1) 62 = i62.ev (TT N d) N := rfl
theorem t67 (N d : Nat) : TT N (d + 1) 67 = i67.ev (TT N d) N := rfl
theorem t73 (N d : Nat) : TT N (d + 1) 73 = i73.ev (TT N d) N := rfl
theorem t74 (N d : Nat) : TT N (d + 1) 74 = i74.ev (TT N d) N := rfl
theorem t75 (N d : Nat) : TT N (d + 1) 75 = i75.ev (TT N d) N := rfl
theorem t76 (N d : Nat) : TT N (d + 1) 76 = i76.ev (TT N d) N := rfl
theorem t84 (N d : Nat) : TT N (d + 1) 84 = i84.ev (TT N d) N := rfl
theorem t85 (N d : Nat) : TT N (d + 1) 85 = i85.ev (TT N d) N := rfl
theorem t46 (N d : Nat) : TT N (d + 1) 46 = cloneM 24 6 48 := rfl
end Go.Proofs.Ytjafaefiigingaa.IQ
