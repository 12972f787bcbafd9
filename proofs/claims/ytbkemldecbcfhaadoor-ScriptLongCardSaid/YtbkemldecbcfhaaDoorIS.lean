/- Functions of the program in the evaluator's form, each checked against the program (written by wip/prog/irgen.py). -/
import Derived.Test.YtbkemldecbcfhaaDoorProg
import Derived.Test.YtbkemldecbcfhaaDoorR21
import Derived.Test.YtbkemldecbcfhaaDoorXL
set_option maxRecDepth 100000
set_option linter.unusedSimpArgs false
set_option linter.unusedVariables false
namespace Go.Proofs.YtbkemldecbcfhaaDoor.IS
open Go Go.Proofs.YtbkemldecbcfhaaDoorR
/-- bellwether/bellwetherlaw09.ScriptExact -/
def j3 : C := (.seq (.region [⟨some 4, .box (.t 0), none, [], []⟩,
  ⟨some 7, .box (.t 3), none, [], []⟩,
  ⟨some 8, .mov (.c (.bool false)), none, [], []⟩] false)
 (.seq (.seq (.region [⟨some 19, .mov (.t 1), none, [], []⟩,
  ⟨some 20, .len (.t 19), none, [], []⟩,
  ⟨some 21, .bin .gtr (.t 20) (.c (.int .i64 300)), none, [], []⟩,
  ⟨some 22, .mov (.t 21), none, [], []⟩,
  ⟨some 23, .mov (.t 1), some (22, true), [], []⟩,
  ⟨some 24, .len (.t 23), some (22, true), [], []⟩,
  ⟨some 25, .bin .leq (.t 24) (.c (.int .i64 4000)), some (22, true), [], []⟩,
  ⟨some 26, .pick (.t 22) (.t 25) (.c (.bool false)), none, [], []⟩,
  ⟨some 27, .mov (.t 26), none, [], []⟩,
  ⟨some 28, .mov (.t 1), some (27, false), [], []⟩,
  ⟨some 29, .len (.t 28), some (27, false), [], []⟩,
  ⟨some 30, .bin .gtr (.t 29) (.c (.int .i64 4020)), some (27, false), [], []⟩,
  ⟨some 31, .pick (.t 27) (.c (.bool true)) (.t 30), none, [], []⟩,
  ⟨some 32, .mov (.t 31), none, [], []⟩,
  ⟨some 33, .mov (.t 2), some (32, false), [], []⟩,
  ⟨some 34, .len (.t 33), some (32, false), [], []⟩,
  ⟨some 35, .bin .gtr (.t 34) (.c (.int .i64 60)), some (32, false), [], []⟩,
  ⟨some 36, .mov (.t 35), some (32, false), [], []⟩,
  ⟨some 37, .mov (.t 2), some (36, true), [], []⟩,
  ⟨some 38, .len (.t 37), some (36, true), [], []⟩,
  ⟨some 39, .bin .lss (.t 38) (.c (.int .i64 790)), some (36, true), [], []⟩,
  ⟨some 40, .pick (.t 36) (.t 39) (.c (.bool false)), some (32, false), [], []⟩,
  ⟨some 41, .pick (.t 32) (.c (.bool true)) (.t 40), none, [], []⟩,
  ⟨some 42, .mov (.t 41), none, [], []⟩,
  ⟨some 43, .mov (.t 2), some (42, false), [], []⟩,
  ⟨some 44, .len (.t 43), some (42, false), [], []⟩,
  ⟨some 45, .bin .gtr (.t 44) (.c (.int .i64 820)), some (42, false), [], []⟩,
  ⟨some 46, .pick (.t 42) (.c (.bool true)) (.t 45), none, [], []⟩] false)
 (.cond (.t 46) (.seq (.region [⟨some 8, .mov (.c (.bool true)), none, [], []⟩] false)
 .ret) .skip))
 (.seq (.region [⟨some 47, .mov (.t 1), none, [], []⟩,
  ⟨some 48, .call false 8 [(.t 47)], none, [], []⟩,
  ⟨some 9, .mov (.t 48), none, [], []⟩] false)
 (.seq (.region [⟨some 50, .mov (.t 9), none, [], []⟩,
  ⟨some 51, .call false 9 [(.t 50)], none, [], []⟩,
  ⟨some 49, .mov (.t 51), none, [], []⟩,
  ⟨some 52, .ext (.t 49) 0, none, [], []⟩,
  ⟨some 53, .ext (.t 49) 1, none, [], []⟩,
  ⟨some 10, .mov (.t 52), none, [], []⟩,
  ⟨some 11, .mov (.t 53), none, [], []⟩] false)
 (.seq (.region [⟨some 55, .mov (.t 2), none, [], []⟩,
  ⟨some 56, .call false 10 [(.t 55)], none, [], []⟩,
  ⟨some 54, .mov (.t 56), none, [], []⟩,
  ⟨some 57, .ext (.t 54) 0, none, [], []⟩,
  ⟨some 58, .ext (.t 54) 1, none, [], []⟩,
  ⟨some 12, .mov (.t 57), none, [], []⟩,
  ⟨some 13, .mov (.t 58), none, [], []⟩] false)
 (.seq (.seq (.region [⟨some 59, .load true 7 (.t 4), none, [62], []⟩,
  ⟨some 60, .call false 11 [(.t 59)], none, [62], [0]⟩,
  ⟨some 61, .bin .eql (.t 60) (.c (.int .i64 0)), none, [62, 63], [0, 1]⟩,
  ⟨some 62, .load true 7 (.t 4), none, [59, 60, 61], []⟩,
  ⟨some 63, .call false 12 [(.t 62)], none, [61], [0, 1, 3]⟩,
  ⟨some 64, .eqb true (.t 61) (.t 63), none, [], [0, 1, 2, 3, 4]⟩,
  ⟨some 65, .mov (.t 64), none, [], [0, 1, 2, 3, 4, 5]⟩,
  ⟨some 66, .load true 7 (.t 4), some (65, false), [], [0, 1, 2, 3, 4, 5, 6]⟩,
  ⟨some 67, .call false 12 [(.t 66)], some (65, false), [], [0, 1, 2, 3, 4, 5, 6, 7]⟩,
  ⟨some 68, .un .not (.t 67), some (65, false), [], [0, 1, 2, 3, 4, 5, 6, 7, 8]⟩,
  ⟨some 69, .mov (.t 68), some (65, false), [], [0, 1, 2, 3, 4, 5, 6, 7, 8, 9]⟩,
  ⟨some 70, .load true 7 (.t 4), some (69, true), [], [0, 1, 2, 3, 4, 5, 6, 7, 8, 9, 10]⟩,
  ⟨some 71, .call false 11 [(.t 70)], some (69, true), [], [0, 1, 2, 3, 4, 5, 6, 7, 8, 9, 10, 11]⟩,
  ⟨some 72, .bin .neq (.t 71) (.c (.int .i64 13)), some (69, true), [], [0, 1, 2, 3, 4, 5, 6, 7, 8, 9, 10, 11, 12]⟩,
  ⟨some 73, .pick (.t 69) (.t 72) (.c (.bool false)), some (65, false), [], [0, 1, 2, 3, 4, 5, 6, 7, 8, 9, 10, 11, 12, 13]⟩,
  ⟨some 74, .pick (.t 65) (.c (.bool true)) (.t 73), none, [], [0, 1, 2, 3, 4, 5, 6, 7, 8, 9, 10, 11, 12, 13, 14]⟩,
  ⟨some 75, .mov (.t 74), none, [], [0, 1, 2, 3, 4, 5, 6, 7, 8, 9, 10, 11, 12, 13, 14, 15]⟩,
  ⟨some 76, .mov (.t 9), some (75, false), [77], [0, 1, 2, 3, 4, 5, 6, 7, 8, 9, 10, 11, 12, 13, 14, 15, 16]⟩,
  ⟨some 77, .mov (.t 1), some (75, false), [76], [0, 1, 2, 3, 4, 5, 6, 7, 8, 9, 10, 11, 12, 13, 14, 15, 16]⟩,
  ⟨some 78, .call false 13 [(.t 76), (.t 77)], some (75, false), [], [0, 1, 2, 3, 4, 5, 6, 7, 8, 9, 10, 11, 12, 13, 14, 15, 16, 17, 18]⟩,
  ⟨some 79, .un .not (.t 78), some (75, false), [], [0, 1, 2, 3, 4, 5, 6, 7, 8, 9, 10, 11, 12, 13, 14, 15, 16, 17, 18, 19]⟩,
  ⟨some 80, .pick (.t 75) (.c (.bool true)) (.t 79), none, [], [0, 1, 2, 3, 4, 5, 6, 7, 8, 9, 10, 11, 12, 13, 14, 15, 16, 17, 18, 19, 20]⟩] true)
 (.cond (.t 80) (.seq (.region [⟨some 8, .mov (.c (.bool false)), none, [], []⟩] false)
 .ret) .skip))
 (.seq (.seq (.region [⟨some 81, .mov (.t 1), none, [], []⟩,
  ⟨some 82, .len (.t 81), none, [], []⟩,
  ⟨some 83, .bin .gtr (.t 82) (.c (.int .i64 4000)), none, [], []⟩] false)
 (.cond (.t 83) (.seq (.region [⟨some 84, .mov (.t 11), none, [], []⟩,
  ⟨some 85, .bin .neq (.t 84) (.c (.int .i64 2)), none, [], []⟩,
  ⟨some 86, .mov (.t 85), none, [], []⟩,
  ⟨some 87, .mov (.t 10), some (86, false), [], []⟩,
  ⟨some 88, .len (.t 87), some (86, false), [], []⟩,
  ⟨some 89, .bin .gtr (.t 88) (.c (.int .i64 0)), some (86, false), [], []⟩,
  ⟨some 90, .pick (.t 86) (.c (.bool true)) (.t 89), none, [], []⟩] false)
 (.cond (.t 90) (.seq (.region [⟨some 8, .mov (.c (.bool false)), none, [], []⟩] false)
 .ret) .skip)) (.seq (.region [⟨some 91, .mov (.t 11), none, [], []⟩,
  ⟨some 92, .bin .neq (.t 91) (.c (.int .i64 0)), none, [], []⟩,
  ⟨some 93, .mov (.t 92), none, [], []⟩,
  ⟨some 94, .mov (.t 10), some (93, false), [], []⟩,
  ⟨some 95, .mov (.t 1), some (93, false), [], []⟩,
  ⟨some 96, .call false 15 [(.t 95)], some (93, false), [], []⟩,
  ⟨some 97, .call false 14 [(.t 94), (.t 96)], some (93, false), [], []⟩,
  ⟨some 98, .un .not (.t 97), some (93, false), [], []⟩,
  ⟨some 99, .pick (.t 93) (.c (.bool true)) (.t 98), none, [], []⟩] false)
 (.cond (.t 99) (.seq (.region [⟨some 8, .mov (.c (.bool false)), none, [], []⟩] false)
 .ret) .skip))))
 (.seq (.region [⟨some 14, .nilsl 5 1 0, none, [], []⟩] false)
 (.seq (.region [⟨some 15, .mov (.c (.int .i64 0)), none, [], []⟩] false)
 (.seq (.seq (.region [⟨some 16, .mov (.c (.int .i64 0)), none, [], []⟩] false)
 (.block 0 (.loop (.keep [2, 4, 7, 12, 13, 14, 15, 16] (.seq (.seq (.region [⟨some 100, .mov (.t 16), none, [], []⟩,
  ⟨some 101, .mov (.t 2), none, [], []⟩,
  ⟨some 102, .len (.t 101), none, [], []⟩,
  ⟨some 103, .bin .lss (.t 100) (.t 102), none, [], []⟩] false)
 (.cond (.t 103) .skip (.exit 0)))
 (.seq (.block 1 (.seq (.region [⟨some 106, .mov (.t 2), none, [107, 111, 112, 113, 114, 115, 116, 117, 118, 119, 120, 121, 122, 123, 124, 125, 126, 127, 128, 129, 130], []⟩,
  ⟨some 107, .mov (.t 16), none, [106, 111, 112, 113, 114, 115, 116, 117, 118, 119, 120, 121, 122, 123, 124, 125, 126, 127, 128, 129, 130], []⟩,
  ⟨some 108, .iad 5 (.t 106) (.t 107), none, [111, 112, 113, 114, 115, 116, 117, 118, 119, 120, 121, 122, 123, 124, 125, 126, 127, 128, 129, 130], [0, 1]⟩,
  ⟨some 109, .fad 0 (.t 108), none, [111, 112, 113, 114, 115, 116, 117, 118, 119, 120, 121, 122, 123, 124, 125, 126, 127, 128, 129, 130], [0, 1, 2]⟩,
  ⟨some 110, .load false 1 (.t 109), none, [111, 112, 113, 114, 115, 116, 117, 118, 119, 120, 121, 122, 123, 124, 125, 126, 127, 128, 129, 130], [0, 1, 2, 3]⟩,
  ⟨some 111, .mov (.t 2), none, [106, 107, 108, 109, 110, 112, 116, 117, 118, 119, 120, 121, 122, 123, 124, 125, 126, 127, 128, 129, 130], []⟩,
  ⟨some 112, .mov (.t 16), none, [106, 107, 108, 109, 110, 111, 116, 117, 118, 119, 120, 121, 122, 123, 124, 125, 126, 127, 128, 129, 130], []⟩,
  ⟨some 113, .iad 5 (.t 111) (.t 112), none, [106, 107, 108, 109, 110, 116, 117, 118, 119, 120, 121, 122, 123, 124, 125, 126, 127, 128, 129, 130], [5, 6]⟩,
  ⟨some 114, .fad 1 (.t 113), none, [106, 107, 108, 109, 110, 116, 117, 118, 119, 120, 121, 122, 123, 124, 125, 126, 127, 128, 129, 130], [5, 6, 7]⟩,
  ⟨some 115, .load false 1 (.t 114), none, [106, 107, 108, 109, 110, 116, 117, 118, 119, 120, 121, 122, 123, 124, 125, 126, 127, 128, 129, 130], [5, 6, 7, 8]⟩,
  ⟨some 116, .mov (.t 2), none, [106, 107, 108, 109, 110, 111, 112, 113, 114, 115, 117, 121, 122, 123, 124, 125, 126, 127, 128, 129, 130], []⟩,
  ⟨some 117, .mov (.t 16), none, [106, 107, 108, 109, 110, 111, 112, 113, 114, 115, 116, 121, 122, 123, 124, 125, 126, 127, 128, 129, 130], []⟩,
  ⟨some 118, .iad 5 (.t 116) (.t 117), none, [106, 107, 108, 109, 110, 111, 112, 113, 114, 115, 121, 122, 123, 124, 125, 126, 127, 128, 129, 130], [10, 11]⟩,
  ⟨some 119, .fad 2 (.t 118), none, [106, 107, 108, 109, 110, 111, 112, 113, 114, 115, 121, 122, 123, 124, 125, 126, 127, 128, 129, 130], [10, 11, 12]⟩,
  ⟨some 120, .load false 1 (.t 119), none, [106, 107, 108, 109, 110, 111, 112, 113, 114, 115, 121, 122, 123, 124, 125, 126, 127, 128, 129, 130], [10, 11, 12, 13]⟩,
  ⟨some 121, .mov (.t 2), none, [106, 107, 108, 109, 110, 111, 112, 113, 114, 115, 116, 117, 118, 119, 120, 122, 126, 127, 128, 129, 130], []⟩,
  ⟨some 122, .mov (.t 16), none, [106, 107, 108, 109, 110, 111, 112, 113, 114, 115, 116, 117, 118, 119, 120, 121, 126, 127, 128, 129, 130], []⟩,
  ⟨some 123, .iad 5 (.t 121) (.t 122), none, [106, 107, 108, 109, 110, 111, 112, 113, 114, 115, 116, 117, 118, 119, 120, 126, 127, 128, 129, 130], [15, 16]⟩,
  ⟨some 124, .fad 3 (.t 123), none, [106, 107, 108, 109, 110, 111, 112, 113, 114, 115, 116, 117, 118, 119, 120, 126, 127, 128, 129, 130], [15, 16, 17]⟩,
  ⟨some 125, .load false 1 (.t 124), none, [106, 107, 108, 109, 110, 111, 112, 113, 114, 115, 116, 117, 118, 119, 120, 126, 127, 128, 129, 130], [15, 16, 17, 18]⟩,
  ⟨some 126, .mov (.t 2), none, [106, 107, 108, 109, 110, 111, 112, 113, 114, 115, 116, 117, 118, 119, 120, 121, 122, 123, 124, 125, 127], []⟩,
  ⟨some 127, .mov (.t 16), none, [106, 107, 108, 109, 110, 111, 112, 113, 114, 115, 116, 117, 118, 119, 120, 121, 122, 123, 124, 125, 126], []⟩,
  ⟨some 128, .iad 5 (.t 126) (.t 127), none, [106, 107, 108, 109, 110, 111, 112, 113, 114, 115, 116, 117, 118, 119, 120, 121, 122, 123, 124, 125], [20, 21]⟩,
  ⟨some 129, .fad 4 (.t 128), none, [106, 107, 108, 109, 110, 111, 112, 113, 114, 115, 116, 117, 118, 119, 120, 121, 122, 123, 124, 125], [20, 21, 22]⟩,
  ⟨some 130, .load false 1 (.t 129), none, [106, 107, 108, 109, 110, 111, 112, 113, 114, 115, 116, 117, 118, 119, 120, 121, 122, 123, 124, 125], [20, 21, 22, 23]⟩,
  ⟨some 131, .bsl 3 1 5 [.int .i64 0] [(0, (.t 110)), (1, (.t 115)), (2, (.t 120)), (3, (.t 125)), (4, (.t 130))], none, [], [0, 1, 2, 3, 4, 5, 6, 7, 8, 9, 10, 11, 12, 13, 14, 15, 16, 17, 18, 19, 20, 21, 22, 23, 24]⟩,
  ⟨some 17, .mov (.t 131), none, [], [0, 1, 2, 3, 4, 5, 6, 7, 8, 9, 10, 11, 12, 13, 14, 15, 16, 17, 18, 19, 20, 21, 22, 23, 24, 25]⟩] true)
 (.seq (.region [⟨some 18, .mov (.c (.int .i64 0)), none, [], []⟩] false)
 (.block 2 (.loop (.keep [2, 4, 7, 12, 13, 14, 15, 16, 17, 18] (.seq (.seq (.region [⟨some 132, .mov (.t 18), none, [], []⟩,
  ⟨some 133, .bin .lss (.t 132) (.c (.int .i64 5)), none, [], []⟩] false)
 (.cond (.t 133) .skip (.exit 2)))
 (.seq (.block 3 (.seq (.seq (.region [⟨some 136, .mov (.t 17), none, [], []⟩,
  ⟨some 137, .mov (.t 18), none, [], []⟩,
  ⟨some 138, .iad 1 (.t 136) (.t 137), none, [], []⟩,
  ⟨some 139, .load false 1 (.t 138), none, [], []⟩,
  ⟨some 140, .call false 16 [(.t 139), (.c (.int .i64 0)), (.c (.int .i64 255))], none, [], []⟩,
  ⟨some 141, .un .not (.t 140), none, [], []⟩] false)
 (.cond (.t 141) (.region [⟨some 15, .mov (.c (.int .i64 1)), none, [], []⟩] false) .skip))
 (.region [⟨some 142, .mov (.t 14), none, [], []⟩,
  ⟨some 143, .mov (.t 17), none, [], []⟩,
  ⟨some 144, .mov (.t 18), none, [], []⟩,
  ⟨some 145, .iad 1 (.t 143) (.t 144), none, [], []⟩,
  ⟨some 146, .load false 1 (.t 145), none, [], []⟩,
  ⟨some 147, .conv .u8 (.t 146), none, [], []⟩,
  ⟨some 148, .bsl 5 1 1 [.int .u8 0] [(0, (.t 147))], none, [], []⟩,
  ⟨some 149, .app 5 1 1 (.t 142) (.t 148), none, [], []⟩,
  ⟨some 14, .mov (.t 149), none, [], []⟩] false)))
 (.region [⟨some 134, .mov (.t 18), none, [], []⟩,
  ⟨some 135, .bin .add (.t 134) (.c (.int .i64 1)), none, [], []⟩,
  ⟨some 18, .mov (.t 135), none, [], []⟩] false)))))))))
 (.region [⟨some 104, .mov (.t 16), none, [], []⟩,
  ⟨some 105, .bin .add (.t 104) (.c (.int .i64 1)), none, [], []⟩,
  ⟨some 16, .mov (.t 105), none, [], []⟩] false)))))))
 (.seq (.seq (.region [⟨some 150, .mov (.t 15), none, [], []⟩,
  ⟨some 151, .bin .eql (.t 150) (.c (.int .i64 0)), none, [], []⟩,
  ⟨some 152, .mov (.t 151), none, [], []⟩,
  ⟨some 153, .mov (.t 14), some (152, true), [], []⟩,
  ⟨some 154, .len (.t 153), some (152, true), [], []⟩,
  ⟨some 155, .bin .gtr (.t 154) (.c (.int .i64 4000)), some (152, true), [], []⟩,
  ⟨some 156, .pick (.t 152) (.t 155) (.c (.bool false)), none, [], []⟩] false)
 (.cond (.t 156) (.region [⟨some 15, .mov (.c (.int .i64 2)), none, [], []⟩] false) .skip))
 (.seq (.seq (.region [⟨some 157, .mov (.t 13), none, [], []⟩,
  ⟨some 158, .mov (.t 15), none, [], []⟩,
  ⟨some 159, .bin .neq (.t 157) (.t 158), none, [], []⟩,
  ⟨some 160, .mov (.t 159), none, [], []⟩,
  ⟨some 161, .mov (.t 15), some (160, false), [], []⟩,
  ⟨some 162, .bin .eql (.t 161) (.c (.int .i64 0)), some (160, false), [], []⟩,
  ⟨some 163, .mov (.t 162), some (160, false), [], []⟩,
  ⟨some 164, .mov (.t 12), some (163, true), [], []⟩,
  ⟨some 165, .mov (.t 14), some (163, true), [], []⟩,
  ⟨some 166, .call false 13 [(.t 164), (.t 165)], some (163, true), [], []⟩,
  ⟨some 167, .un .not (.t 166), some (163, true), [], []⟩,
  ⟨some 168, .pick (.t 163) (.t 167) (.c (.bool false)), some (160, false), [], []⟩,
  ⟨some 169, .pick (.t 160) (.c (.bool true)) (.t 168), none, [], []⟩,
  ⟨some 170, .mov (.t 169), none, [], []⟩,
  ⟨some 171, .mov (.t 15), some (170, false), [], []⟩,
  ⟨some 172, .bin .neq (.t 171) (.c (.int .i64 0)), some (170, false), [], []⟩,
  ⟨some 173, .mov (.t 172), some (170, false), [], []⟩,
  ⟨some 174, .mov (.t 12), some (173, true), [], []⟩,
  ⟨some 175, .len (.t 174), some (173, true), [], []⟩,
  ⟨some 176, .bin .gtr (.t 175) (.c (.int .i64 0)), some (173, true), [], []⟩,
  ⟨some 177, .pick (.t 173) (.t 176) (.c (.bool false)), some (170, false), [], []⟩,
  ⟨some 178, .pick (.t 170) (.c (.bool true)) (.t 177), none, [], []⟩] false)
 (.cond (.t 178) (.seq (.region [⟨some 8, .mov (.c (.bool false)), none, [], []⟩] false)
 .ret) .skip))
 (.seq (.seq (.region [⟨some 179, .load true 7 (.t 4), none, [], []⟩,
  ⟨some 180, .call false 12 [(.t 179)], none, [], []⟩,
  ⟨some 181, .un .not (.t 180), none, [], []⟩] false)
 (.cond (.t 181) (.seq (.region [⟨some 182, .load true 7 (.t 4), none, [], []⟩,
  ⟨some 183, .load true 5 (.t 7), none, [], []⟩,
  ⟨some 184, .call false 17 [(.t 182), (.t 183)], none, [], []⟩,
  ⟨some 185, .bin .eql (.t 184) (.c (.int .i64 13)), none, [], []⟩,
  ⟨some 186, .mov (.t 185), none, [], []⟩,
  ⟨some 187, .call true 18 [], some (186, true), [], []⟩,
  ⟨some 188, .pick (.t 186) (.t 187) (.c (.bool false)), none, [], []⟩,
  ⟨some 8, .mov (.t 188), none, [], []⟩] false)
 .ret) .skip))
 (.seq (.region [⟨some 189, .load true 7 (.t 4), none, [190, 192, 193], []⟩,
  ⟨some 190, .load true 5 (.t 7), none, [189, 192, 193], []⟩,
  ⟨some 191, .call false 17 [(.t 189), (.t 190)], none, [192, 193], [0, 1]⟩,
  ⟨some 192, .load true 7 (.t 4), none, [189, 190, 191, 193], []⟩,
  ⟨some 193, .load true 5 (.t 7), none, [189, 190, 191, 192], []⟩,
  ⟨some 194, .call false 19 [(.t 192), (.t 193)], none, [], [0, 1, 2, 3, 4]⟩,
  ⟨some 195, .bin .eql (.t 191) (.t 194), none, [], [0, 1, 2, 3, 4, 5]⟩,
  ⟨some 196, .mov (.t 195), none, [], [0, 1, 2, 3, 4, 5, 6]⟩,
  ⟨some 197, .call true 18 [], some (196, true), [], [0, 1, 2, 3, 4, 5, 6, 7]⟩,
  ⟨some 198, .pick (.t 196) (.t 197) (.c (.bool false)), none, [], [0, 1, 2, 3, 4, 5, 6, 7, 8]⟩,
  ⟨some 8, .mov (.t 198), none, [], [0, 1, 2, 3, 4, 5, 6, 7, 8, 9]⟩] true)
 .ret))))))))))))))
def i3 : F := ⟨4, 199, j3, [.t 8]⟩
theorem b3 : i3.body = j3 := rfl
theorem q3 : i3.res = [.t 8] := rfl
theorem c3 : chkF Tryd.prog Tryd.f3 i3 = true := by kernel_rfl
theorem s3 {m : Model} {E : Nat → Model} (hE : ∀ f, Sound Tryd.prog f (E f)) (hm : ∀ args r, m args = some r → ∃ N, i3.ev E N args = some r) : Sound Tryd.prog 3 m := sound_of i3 Tryd.func3 rfl c3 hE hm
/-- bellwether/bellwetherlaw09.ScriptBack -/
def j4 : C := (.seq (.region [⟨some 4, .mov (.c (.bool false)), none, [], []⟩] false)
 (.seq (.seq (.region [⟨some 13, .mov (.t 0), none, [], []⟩,
  ⟨some 14, .len (.t 13), none, [], []⟩,
  ⟨some 15, .bin .gtr (.t 14) (.c (.int .i64 300)), none, [], []⟩,
  ⟨some 16, .mov (.t 15), none, [], []⟩,
  ⟨some 17, .mov (.t 1), some (16, false), [], []⟩,
  ⟨some 18, .len (.t 17), some (16, false), [], []⟩,
  ⟨some 19, .bin .gtr (.t 18) (.c (.int .i64 60)), some (16, false), [], []⟩,
  ⟨some 20, .pick (.t 16) (.c (.bool true)) (.t 19), none, [], []⟩] false)
 (.cond (.t 20) (.seq (.region [⟨some 4, .mov (.c (.bool true)), none, [], []⟩] false)
 .ret) .skip))
 (.seq (.region [⟨some 22, .mov (.t 0), none, [], []⟩,
  ⟨some 23, .call false 9 [(.t 22)], none, [], []⟩,
  ⟨some 21, .mov (.t 23), none, [], []⟩,
  ⟨some 24, .ext (.t 21) 0, none, [], []⟩,
  ⟨some 25, .ext (.t 21) 1, none, [], []⟩,
  ⟨some 5, .mov (.t 24), none, [], []⟩,
  ⟨some 6, .mov (.t 25), none, [], []⟩] false)
 (.seq (.region [⟨some 27, .mov (.t 5), none, [], []⟩,
  ⟨some 28, .call false 10 [(.t 27)], none, [], []⟩,
  ⟨some 26, .mov (.t 28), none, [], []⟩,
  ⟨some 29, .ext (.t 26) 0, none, [], []⟩,
  ⟨some 30, .ext (.t 26) 1, none, [], []⟩,
  ⟨some 7, .mov (.t 29), none, [], []⟩,
  ⟨some 8, .mov (.t 30), none, [], []⟩] false)
 (.seq (.seq (.region [⟨some 31, .mov (.t 6), none, [], []⟩,
  ⟨some 32, .bin .neq (.t 31) (.c (.int .i64 0)), none, [], []⟩,
  ⟨some 33, .mov (.t 32), none, [], []⟩,
  ⟨some 34, .mov (.t 8), some (33, false), [], []⟩,
  ⟨some 35, .bin .neq (.t 34) (.c (.int .i64 0)), some (33, false), [], []⟩,
  ⟨some 36, .pick (.t 33) (.c (.bool true)) (.t 35), none, [], []⟩,
  ⟨some 37, .mov (.t 36), none, [], []⟩,
  ⟨some 38, .mov (.t 5), some (37, false), [], []⟩,
  ⟨some 39, .len (.t 38), some (37, false), [], []⟩,
  ⟨some 40, .mov (.t 0), some (37, false), [], []⟩,
  ⟨some 41, .len (.t 40), some (37, false), [], []⟩,
  ⟨some 42, .bin .quo (.t 41) (.c (.int .i64 5)), some (37, false), [], []⟩,
  ⟨some 43, .bin .neq (.t 39) (.t 42), some (37, false), [], []⟩,
  ⟨some 44, .pick (.t 37) (.c (.bool true)) (.t 43), none, [], []⟩,
  ⟨some 45, .mov (.t 44), none, [], []⟩,
  ⟨some 46, .mov (.t 7), some (45, false), [], []⟩,
  ⟨some 47, .mov (.t 0), some (45, false), [], []⟩,
  ⟨some 48, .mov (.t 0), some (45, false), [], []⟩,
  ⟨some 49, .len (.t 48), some (45, false), [], []⟩,
  ⟨some 50, .mov (.t 0), some (45, false), [], []⟩,
  ⟨some 51, .len (.t 50), some (45, false), [], []⟩,
  ⟨some 52, .bin .rem (.t 51) (.c (.int .i64 5)), some (45, false), [], []⟩,
  ⟨some 53, .bin .sub (.t 49) (.t 52), some (45, false), [], []⟩,
  ⟨some 54, .cut 1 (.t 47) none (some (.t 53)), some (45, false), [], []⟩,
  ⟨some 55, .call false 13 [(.t 46), (.t 54)], some (45, false), [], []⟩,
  ⟨some 56, .un .not (.t 55), some (45, false), [], []⟩,
  ⟨some 57, .pick (.t 45) (.c (.bool true)) (.t 56), none, [], []⟩] false)
 (.cond (.t 57) (.seq (.region [⟨some 4, .mov (.c (.bool false)), none, [], []⟩] false)
 .ret) .skip))
 (.seq (.region [⟨some 59, .mov (.t 1), none, [], []⟩,
  ⟨some 60, .call false 10 [(.t 59)], none, [], []⟩,
  ⟨some 58, .mov (.t 60), none, [], []⟩,
  ⟨some 61, .ext (.t 58) 0, none, [], []⟩,
  ⟨some 62, .ext (.t 58) 1, none, [], []⟩,
  ⟨some 9, .mov (.t 61), none, [], []⟩,
  ⟨some 10, .mov (.t 62), none, [], []⟩] false)
 (.seq (.seq (.region [⟨some 63, .mov (.t 10), none, [], []⟩,
  ⟨some 64, .bin .neq (.t 63) (.c (.int .i64 0)), none, [], []⟩] false)
 (.cond (.t 64) (.seq (.region [⟨some 65, .mov (.t 10), none, [], []⟩,
  ⟨some 66, .bin .eql (.t 65) (.c (.int .i64 1)), none, [], []⟩,
  ⟨some 67, .mov (.t 66), none, [], []⟩,
  ⟨some 68, .mov (.t 9), some (67, true), [], []⟩,
  ⟨some 69, .len (.t 68), some (67, true), [], []⟩,
  ⟨some 70, .bin .eql (.t 69) (.c (.int .i64 0)), some (67, true), [], []⟩,
  ⟨some 71, .pick (.t 67) (.t 70) (.c (.bool false)), none, [], []⟩,
  ⟨some 72, .mov (.t 71), none, [], []⟩,
  ⟨some 73, .call false 18 [], some (72, true), [], []⟩,
  ⟨some 74, .pick (.t 72) (.t 73) (.c (.bool false)), none, [], []⟩,
  ⟨some 4, .mov (.t 74), none, [], []⟩] false)
 .ret) .skip))
 (.seq (.region [⟨some 76, .mov (.t 9), none, [], []⟩,
  ⟨some 77, .call false 9 [(.t 76)], none, [], []⟩,
  ⟨some 75, .mov (.t 77), none, [], []⟩,
  ⟨some 78, .ext (.t 75) 0, none, [], []⟩,
  ⟨some 79, .ext (.t 75) 1, none, [], []⟩,
  ⟨some 11, .mov (.t 78), none, [], []⟩,
  ⟨some 12, .mov (.t 79), none, [], []⟩] false)
 (.seq (.region [⟨some 80, .mov (.t 12), none, [], []⟩,
  ⟨some 81, .bin .eql (.t 80) (.c (.int .i64 0)), none, [], []⟩,
  ⟨some 82, .mov (.t 81), none, [], []⟩,
  ⟨some 83, .mov (.t 11), some (82, true), [], []⟩,
  ⟨some 84, .mov (.t 1), some (82, true), [], []⟩,
  ⟨some 85, .call false 14 [(.t 83), (.t 84)], some (82, true), [], []⟩,
  ⟨some 86, .pick (.t 82) (.t 85) (.c (.bool false)), none, [], []⟩,
  ⟨some 87, .mov (.t 86), none, [], []⟩,
  ⟨some 88, .call false 18 [], some (87, true), [], []⟩,
  ⟨some 89, .pick (.t 87) (.t 88) (.c (.bool false)), none, [], []⟩,
  ⟨some 4, .mov (.t 89), none, [], []⟩] false)
 .ret)))))))))
def i4 : F := ⟨2, 90, j4, [.t 4]⟩
theorem b4 : i4.body = j4 := rfl
theorem q4 : i4.res = [.t 4] := rfl
theorem c4 : chkF Tryd.prog Tryd.f4 i4 = true := by kernel_rfl
theorem s4 {m : Model} {E : Nat → Model} (hE : ∀ f, Sound Tryd.prog f (E f)) (hm : ∀ args r, m args = some r → ∃ N, i4.ev E N args = some r) : Sound Tryd.prog 4 m := sound_of i4 Tryd.func4 rfl c4 hE hm
/-- bellwether/bellwetherlaw09.ScriptBounds -/
def j5 : C := (.seq (.region [⟨some 6, .mov (.c (.bool false)), none, [], []⟩] false)
 (.seq (.region [⟨some 15, .mov (.t 0), none, [], []⟩,
  ⟨some 16, .call false 20 [(.t 15)], none, [], []⟩,
  ⟨some 7, .alloc [.int .i64 0, .int .i64 0, .int .i64 0, .int .i64 0, .int .i64 0, .int .i64 0, .int .i64 0], none, [], []⟩,
  ⟨none, .store none 7 (.t 7) (.t 16), none, [], []⟩] false)
 (.seq (.region [⟨some 17, .mov (.t 1), none, [], []⟩,
  ⟨some 18, .conv .u64 (.t 17), none, [], []⟩,
  ⟨some 19, .bin .rem (.t 18) (.c (.int .u64 13)), none, [], []⟩,
  ⟨some 20, .conv .i64 (.t 19), none, [], []⟩,
  ⟨some 21, .bin .add (.c (.int .i64 1)) (.t 20), none, [], []⟩,
  ⟨some 22, .mov (.t 2), none, [], []⟩,
  ⟨some 23, .conv .u64 (.t 22), none, [], []⟩,
  ⟨some 24, .bin .rem (.t 23) (.c (.int .u64 256)), none, [], []⟩,
  ⟨some 25, .conv .i64 (.t 24), none, [], []⟩,
  ⟨some 1, .mov (.t 21), none, [], []⟩,
  ⟨some 2, .mov (.t 25), none, [], []⟩] false)
 (.seq (.region [⟨some 26, .mov (.t 1), none, [8, 27, 28, 29, 30, 31, 32, 33, 34, 35, 36, 37, 38], []⟩,
  ⟨some 27, .mov (.t 2), none, [8, 26, 28, 29, 31, 32, 33, 34, 35, 36, 37, 38], []⟩,
  ⟨some 28, .fad 0 (.t 7), none, [8, 26, 27, 31, 32, 33, 34, 35, 36, 37, 38], []⟩,
  ⟨some 29, .load false 1 (.t 28), none, [8, 26, 27, 31, 32, 33, 34, 35, 36, 37, 38], [2]⟩,
  ⟨some 30, .bin .rem (.t 27) (.t 29), none, [8, 26, 31, 32, 33, 34, 35, 36, 37, 38], [1, 2, 3]⟩,
  ⟨some 31, .mov (.t 2), none, [8, 26, 27, 28, 29, 30, 32, 33, 35, 36, 37, 38], []⟩,
  ⟨some 32, .fad 1 (.t 7), none, [8, 26, 27, 28, 29, 30, 31, 35, 36, 37, 38], []⟩,
  ⟨some 33, .load false 1 (.t 32), none, [8, 26, 27, 28, 29, 30, 31, 35, 36, 37, 38], [6]⟩,
  ⟨some 34, .bin .rem (.t 31) (.t 33), none, [8, 26, 27, 28, 29, 30, 35, 36, 37, 38], [5, 6, 7]⟩,
  ⟨some 35, .mov (.t 2), none, [8, 26, 27, 28, 29, 30, 31, 32, 33, 34, 36, 37, 38], []⟩,
  ⟨some 36, .mov (.t 2), none, [8, 26, 27, 28, 29, 30, 31, 32, 33, 34, 35], []⟩,
  ⟨some 37, .bin .rem (.t 36) (.c (.int .i64 255)), none, [8, 26, 27, 28, 29, 30, 31, 32, 33, 34, 35], [10]⟩,
  ⟨some 38, .bin .add (.c (.int .i64 1)) (.t 37), none, [8, 26, 27, 28, 29, 30, 31, 32, 33, 34, 35], [10, 11]⟩,
  ⟨some 39, .build [.int .i64 0, .int .i64 0, .int .i64 0, .int .i64 0, .int .i64 0] [(0, 1, (.t 26)), (1, 1, (.t 30)), (2, 1, (.t 34)), (3, 1, (.t 35)), (4, 1, (.t 38))], none, [8], [0, 1, 2, 3, 4, 5, 6, 7, 8, 9, 10, 11, 12]⟩,
  ⟨some 8, .alloc [.int .i64 0, .int .i64 0, .int .i64 0, .int .i64 0, .int .i64 0], none, [26, 27, 28, 29, 30, 31, 32, 33, 34, 35, 36, 37, 38, 39], []⟩,
  ⟨none, .store none 5 (.t 8) (.t 39), none, [], [0, 1, 2, 3, 4, 5, 6, 7, 8, 9, 10, 11, 12, 13, 14]⟩] true)
 (.seq (.region [⟨some 40, .mov (.t 1), none, [], []⟩,
  ⟨some 41, .bin .geq (.t 40) (.c (.int .i64 2)), none, [], []⟩,
  ⟨some 42, .mov (.t 41), none, [], []⟩,
  ⟨some 43, .mov (.t 1), some (42, true), [], []⟩,
  ⟨some 44, .bin .leq (.t 43) (.c (.int .i64 5)), some (42, true), [], []⟩,
  ⟨some 45, .pick (.t 42) (.t 44) (.c (.bool false)), none, [], []⟩,
  ⟨some 9, .mov (.t 45), none, [], []⟩] false)
 (.seq (.region [⟨some 46, .load true 5 (.t 8), none, [10, 11, 12, 13, 47, 48, 49], []⟩,
  ⟨some 47, .load true 5 (.t 8), none, [10, 11, 12, 13, 46, 48, 49], []⟩,
  ⟨some 48, .load true 5 (.t 8), none, [10, 11, 12, 13, 46, 47, 49], []⟩,
  ⟨some 49, .load true 5 (.t 8), none, [10, 11, 12, 13, 46, 47, 48], []⟩,
  ⟨some 10, .alloc [.int .i64 0, .int .i64 0, .int .i64 0, .int .i64 0, .int .i64 0], none, [11, 12, 13, 46, 47, 48, 49], []⟩,
  ⟨some 11, .alloc [.int .i64 0, .int .i64 0, .int .i64 0, .int .i64 0, .int .i64 0], none, [10, 12, 13, 46, 47, 48, 49], []⟩,
  ⟨some 12, .alloc [.int .i64 0, .int .i64 0, .int .i64 0, .int .i64 0, .int .i64 0], none, [10, 11, 13, 46, 47, 48, 49], []⟩,
  ⟨some 13, .alloc [.int .i64 0, .int .i64 0, .int .i64 0, .int .i64 0, .int .i64 0], none, [10, 11, 12, 46, 47, 48, 49], []⟩,
  ⟨none, .store (some 10) 5 (.t 10) (.t 46), none, [47, 48, 49], [0, 4, 5, 6, 7]⟩,
  ⟨none, .store (some 11) 5 (.t 11) (.t 47), none, [48, 49], [0, 1, 4, 5, 6, 7, 8]⟩,
  ⟨none, .store (some 12) 5 (.t 12) (.t 48), none, [49], [0, 1, 2, 4, 5, 6, 7, 8, 9]⟩,
  ⟨none, .store none 5 (.t 13) (.t 49), none, [], [0, 1, 2, 3, 4, 5, 6, 7, 8, 9, 10]⟩] true)
 (.seq (.region [⟨some 50, .fad 0 (.t 7), none, [], []⟩,
  ⟨some 51, .load false 1 (.t 50), none, [], []⟩,
  ⟨some 52, .fad 1 (.t 10), none, [], []⟩,
  ⟨none, .store none 1 (.t 52) (.t 51), none, [], []⟩] false)
 (.seq (.region [⟨some 53, .fad 1 (.t 7), none, [], []⟩,
  ⟨some 54, .load false 1 (.t 53), none, [], []⟩,
  ⟨some 55, .fad 2 (.t 11), none, [], []⟩,
  ⟨none, .store none 1 (.t 55) (.t 54), none, [], []⟩] false)
 (.seq (.region [⟨some 56, .fad 3 (.t 12), none, [], []⟩,
  ⟨none, .store none 1 (.t 56) (.c (.int .i64 256)), none, [], []⟩] false)
 (.seq (.region [⟨some 57, .fad 4 (.t 13), none, [], []⟩,
  ⟨none, .store none 1 (.t 57) (.c (.int .i64 0)), none, [], []⟩] false)
 (.seq (.region [⟨some 58, .bsl 29 1 4 [.int .i64 0] [(0, (.c (.int .i64 9))), (1, (.c (.int .i64 0))), (2, (.c (.int .i64 0))), (3, (.c (.int .i64 0)))], none, [], []⟩,
  ⟨some 14, .mov (.t 58), none, [], []⟩] false)
 (.seq (.seq (.region [⟨some 59, .mov (.t 9), none, [], []⟩] false)
 (.cond (.t 59) (.seq (.region [⟨some 60, .mov (.t 14), none, [], []⟩,
  ⟨some 61, .iad 1 (.t 60) (.c (.int .i64 0)), none, [], []⟩,
  ⟨none, .store none 1 (.t 61) (.c (.int .i64 0)), none, [], []⟩] false)
 (.region [⟨some 62, .mov (.t 14), none, [], []⟩,
  ⟨some 63, .iad 1 (.t 62) (.c (.int .i64 2)), none, [], []⟩,
  ⟨none, .store none 1 (.t 63) (.c (.int .i64 1)), none, [], []⟩] false)) .skip))
 (.seq (.seq (.region [⟨some 64, .mov (.t 1), none, [], []⟩,
  ⟨some 65, .bin .geq (.t 64) (.c (.int .i64 8)), none, [], []⟩] false)
 (.cond (.t 65) (.region [⟨some 66, .mov (.t 14), none, [], []⟩,
  ⟨some 67, .iad 1 (.t 66) (.c (.int .i64 1)), none, [], []⟩,
  ⟨none, .store none 1 (.t 67) (.c (.int .i64 1)), none, [], []⟩] false) .skip))
 (.seq (.seq (.region [⟨some 68, .mov (.t 1), none, [], []⟩,
  ⟨some 69, .bin .eql (.t 68) (.c (.int .i64 11)), none, [], []⟩] false)
 (.cond (.t 69) (.region [⟨some 70, .mov (.t 14), none, [], []⟩,
  ⟨some 71, .iad 1 (.t 70) (.c (.int .i64 2)), none, [], []⟩,
  ⟨none, .store none 1 (.t 71) (.c (.int .i64 1)), none, [], []⟩] false) .skip))
 (.seq (.seq (.region [⟨some 72, .mov (.t 1), none, [], []⟩,
  ⟨some 73, .bin .eql (.t 72) (.c (.int .i64 5)), none, [], []⟩] false)
 (.cond (.t 73) (.region [⟨some 74, .mov (.t 14), none, [], []⟩,
  ⟨some 75, .iad 1 (.t 74) (.c (.int .i64 3)), none, [], []⟩,
  ⟨none, .store none 1 (.t 75) (.c (.int .i64 1)), none, [], []⟩] false) .skip))
 (.seq (.region [⟨some 76, .load true 7 (.t 7), none, [77], []⟩,
  ⟨some 77, .load true 5 (.t 8), none, [76], []⟩,
  ⟨some 78, .call false 17 [(.t 76), (.t 77)], none, [], [0, 1]⟩,
  ⟨some 79, .bin .eql (.t 78) (.c (.int .i64 0)), none, [], [0, 1, 2]⟩,
  ⟨some 80, .mov (.t 79), none, [], [0, 1, 2, 3]⟩,
  ⟨some 81, .load true 7 (.t 7), some (80, true), [82, 84, 85, 86], [0, 1, 2, 3, 4]⟩,
  ⟨some 82, .load true 5 (.t 10), some (80, true), [81, 84, 85, 86], [0, 1, 2, 3, 4]⟩,
  ⟨some 83, .call false 17 [(.t 81), (.t 82)], some (80, true), [84, 85, 86], [0, 1, 2, 3, 4, 5, 6]⟩,
  ⟨some 84, .mov (.t 14), some (80, true), [81, 82, 83], [0, 1, 2, 3, 4]⟩,
  ⟨some 85, .iad 1 (.t 84) (.c (.int .i64 0)), some (80, true), [81, 82, 83], [0, 1, 2, 3, 4, 8]⟩,
  ⟨some 86, .load false 1 (.t 85), some (80, true), [81, 82, 83], [0, 1, 2, 3, 4, 8, 9]⟩,
  ⟨some 87, .bin .eql (.t 83) (.t 86), some (80, true), [], [0, 1, 2, 3, 4, 5, 6, 7, 8, 9, 10]⟩,
  ⟨some 88, .pick (.t 80) (.t 87) (.c (.bool false)), none, [], [0, 1, 2, 3, 4, 5, 6, 7, 8, 9, 10, 11]⟩,
  ⟨some 89, .mov (.t 88), none, [], [0, 1, 2, 3, 4, 5, 6, 7, 8, 9, 10, 11, 12]⟩,
  ⟨some 90, .load true 7 (.t 7), some (89, true), [91, 93, 94, 95], [0, 1, 2, 3, 4, 5, 6, 7, 8, 9, 10, 11, 12, 13]⟩,
  ⟨some 91, .load true 5 (.t 11), some (89, true), [90, 93, 94, 95], [0, 1, 2, 3, 4, 5, 6, 7, 8, 9, 10, 11, 12, 13]⟩,
  ⟨some 92, .call false 17 [(.t 90), (.t 91)], some (89, true), [93, 94, 95], [0, 1, 2, 3, 4, 5, 6, 7, 8, 9, 10, 11, 12, 13, 14, 15]⟩,
  ⟨some 93, .mov (.t 14), some (89, true), [90, 91, 92], [0, 1, 2, 3, 4, 5, 6, 7, 8, 9, 10, 11, 12, 13]⟩,
  ⟨some 94, .iad 1 (.t 93) (.c (.int .i64 1)), some (89, true), [90, 91, 92], [0, 1, 2, 3, 4, 5, 6, 7, 8, 9, 10, 11, 12, 13, 17]⟩,
  ⟨some 95, .load false 1 (.t 94), some (89, true), [90, 91, 92], [0, 1, 2, 3, 4, 5, 6, 7, 8, 9, 10, 11, 12, 13, 17, 18]⟩,
  ⟨some 96, .bin .eql (.t 92) (.t 95), some (89, true), [], [0, 1, 2, 3, 4, 5, 6, 7, 8, 9, 10, 11, 12, 13, 14, 15, 16, 17, 18, 19]⟩,
  ⟨some 97, .pick (.t 89) (.t 96) (.c (.bool false)), none, [], [0, 1, 2, 3, 4, 5, 6, 7, 8, 9, 10, 11, 12, 13, 14, 15, 16, 17, 18, 19, 20]⟩,
  ⟨some 98, .mov (.t 97), none, [], [0, 1, 2, 3, 4, 5, 6, 7, 8, 9, 10, 11, 12, 13, 14, 15, 16, 17, 18, 19, 20, 21]⟩,
  ⟨some 99, .load true 7 (.t 7), some (98, true), [100, 102, 103, 104], [0, 1, 2, 3, 4, 5, 6, 7, 8, 9, 10, 11, 12, 13, 14, 15, 16, 17, 18, 19, 20, 21, 22]⟩,
  ⟨some 100, .load true 5 (.t 12), some (98, true), [99, 102, 103, 104], [0, 1, 2, 3, 4, 5, 6, 7, 8, 9, 10, 11, 12, 13, 14, 15, 16, 17, 18, 19, 20, 21, 22]⟩,
  ⟨some 101, .call false 17 [(.t 99), (.t 100)], some (98, true), [102, 103, 104], [0, 1, 2, 3, 4, 5, 6, 7, 8, 9, 10, 11, 12, 13, 14, 15, 16, 17, 18, 19, 20, 21, 22, 23, 24]⟩,
  ⟨some 102, .mov (.t 14), some (98, true), [99, 100, 101], [0, 1, 2, 3, 4, 5, 6, 7, 8, 9, 10, 11, 12, 13, 14, 15, 16, 17, 18, 19, 20, 21, 22]⟩,
  ⟨some 103, .iad 1 (.t 102) (.c (.int .i64 2)), some (98, true), [99, 100, 101], [0, 1, 2, 3, 4, 5, 6, 7, 8, 9, 10, 11, 12, 13, 14, 15, 16, 17, 18, 19, 20, 21, 22, 26]⟩,
  ⟨some 104, .load false 1 (.t 103), some (98, true), [99, 100, 101], [0, 1, 2, 3, 4, 5, 6, 7, 8, 9, 10, 11, 12, 13, 14, 15, 16, 17, 18, 19, 20, 21, 22, 26, 27]⟩,
  ⟨some 105, .bin .eql (.t 101) (.t 104), some (98, true), [], [0, 1, 2, 3, 4, 5, 6, 7, 8, 9, 10, 11, 12, 13, 14, 15, 16, 17, 18, 19, 20, 21, 22, 23, 24, 25, 26, 27, 28]⟩,
  ⟨some 106, .pick (.t 98) (.t 105) (.c (.bool false)), none, [], [0, 1, 2, 3, 4, 5, 6, 7, 8, 9, 10, 11, 12, 13, 14, 15, 16, 17, 18, 19, 20, 21, 22, 23, 24, 25, 26, 27, 28, 29]⟩,
  ⟨some 107, .mov (.t 106), none, [], [0, 1, 2, 3, 4, 5, 6, 7, 8, 9, 10, 11, 12, 13, 14, 15, 16, 17, 18, 19, 20, 21, 22, 23, 24, 25, 26, 27, 28, 29, 30]⟩,
  ⟨some 108, .load true 7 (.t 7), some (107, true), [109, 111, 112, 113], [0, 1, 2, 3, 4, 5, 6, 7, 8, 9, 10, 11, 12, 13, 14, 15, 16, 17, 18, 19, 20, 21, 22, 23, 24, 25, 26, 27, 28, 29, 30, 31]⟩,
  ⟨some 109, .load true 5 (.t 13), some (107, true), [108, 111, 112, 113], [0, 1, 2, 3, 4, 5, 6, 7, 8, 9, 10, 11, 12, 13, 14, 15, 16, 17, 18, 19, 20, 21, 22, 23, 24, 25, 26, 27, 28, 29, 30, 31]⟩,
  ⟨some 110, .call false 17 [(.t 108), (.t 109)], some (107, true), [111, 112, 113], [0, 1, 2, 3, 4, 5, 6, 7, 8, 9, 10, 11, 12, 13, 14, 15, 16, 17, 18, 19, 20, 21, 22, 23, 24, 25, 26, 27, 28, 29, 30, 31, 32, 33]⟩,
  ⟨some 111, .mov (.t 14), some (107, true), [108, 109, 110], [0, 1, 2, 3, 4, 5, 6, 7, 8, 9, 10, 11, 12, 13, 14, 15, 16, 17, 18, 19, 20, 21, 22, 23, 24, 25, 26, 27, 28, 29, 30, 31]⟩,
  ⟨some 112, .iad 1 (.t 111) (.c (.int .i64 3)), some (107, true), [108, 109, 110], [0, 1, 2, 3, 4, 5, 6, 7, 8, 9, 10, 11, 12, 13, 14, 15, 16, 17, 18, 19, 20, 21, 22, 23, 24, 25, 26, 27, 28, 29, 30, 31, 35]⟩,
  ⟨some 113, .load false 1 (.t 112), some (107, true), [108, 109, 110], [0, 1, 2, 3, 4, 5, 6, 7, 8, 9, 10, 11, 12, 13, 14, 15, 16, 17, 18, 19, 20, 21, 22, 23, 24, 25, 26, 27, 28, 29, 30, 31, 35, 36]⟩,
  ⟨some 114, .bin .eql (.t 110) (.t 113), some (107, true), [], [0, 1, 2, 3, 4, 5, 6, 7, 8, 9, 10, 11, 12, 13, 14, 15, 16, 17, 18, 19, 20, 21, 22, 23, 24, 25, 26, 27, 28, 29, 30, 31, 32, 33, 34, 35, 36, 37]⟩,
  ⟨some 115, .pick (.t 107) (.t 114) (.c (.bool false)), none, [], [0, 1, 2, 3, 4, 5, 6, 7, 8, 9, 10, 11, 12, 13, 14, 15, 16, 17, 18, 19, 20, 21, 22, 23, 24, 25, 26, 27, 28, 29, 30, 31, 32, 33, 34, 35, 36, 37, 38]⟩,
  ⟨some 116, .mov (.t 115), none, [], [0, 1, 2, 3, 4, 5, 6, 7, 8, 9, 10, 11, 12, 13, 14, 15, 16, 17, 18, 19, 20, 21, 22, 23, 24, 25, 26, 27, 28, 29, 30, 31, 32, 33, 34, 35, 36, 37, 38, 39]⟩,
  ⟨some 117, .call false 18 [], some (116, true), [], [0, 1, 2, 3, 4, 5, 6, 7, 8, 9, 10, 11, 12, 13, 14, 15, 16, 17, 18, 19, 20, 21, 22, 23, 24, 25, 26, 27, 28, 29, 30, 31, 32, 33, 34, 35, 36, 37, 38, 39, 40]⟩,
  ⟨some 118, .pick (.t 116) (.t 117) (.c (.bool false)), none, [], [0, 1, 2, 3, 4, 5, 6, 7, 8, 9, 10, 11, 12, 13, 14, 15, 16, 17, 18, 19, 20, 21, 22, 23, 24, 25, 26, 27, 28, 29, 30, 31, 32, 33, 34, 35, 36, 37, 38, 39, 40, 41]⟩,
  ⟨some 6, .mov (.t 118), none, [], [0, 1, 2, 3, 4, 5, 6, 7, 8, 9, 10, 11, 12, 13, 14, 15, 16, 17, 18, 19, 20, 21, 22, 23, 24, 25, 26, 27, 28, 29, 30, 31, 32, 33, 34, 35, 36, 37, 38, 39, 40, 41, 42]⟩] true)
 .ret))))))))))))))))
def i5 : F := ⟨3, 119, j5, [.t 6]⟩
theorem b5 : i5.body = j5 := rfl
theorem q5 : i5.res = [.t 6] := rfl
theorem c5 : chkF Tryd.prog Tryd.f5 i5 = true := by kernel_rfl
theorem s5 {m : Model} {E : Nat → Model} (hE : ∀ f, Sound Tryd.prog f (E f)) (hm : ∀ args r, m args = some r → ∃ N, i5.ev E N args = some r) : Sound Tryd.prog 5 m := sound_of i5 Tryd.func5 rfl c5 hE hm
/-- bellwether/bellwetherlaw09.ScriptLong -/
def j6 : C := (.seq (.region [⟨some 4, .mov (.c (.bool false)), none, [], []⟩] false)
 (.seq (.region [⟨some 16, .mov (.t 0), none, [], []⟩,
  ⟨some 17, .conv .u64 (.t 16), none, [], []⟩,
  ⟨some 18, .bin .rem (.t 17) (.c (.int .u64 20)), none, [], []⟩,
  ⟨some 19, .conv .i64 (.t 18), none, [], []⟩,
  ⟨some 0, .mov (.t 19), none, [], []⟩] false)
 (.seq (.region [⟨some 20, .mov (.t 0), none, [], []⟩,
  ⟨some 21, .bin .sub (.c (.int .i64 4000)) (.t 20), none, [], []⟩,
  ⟨some 22, .mks 5 1 1 [.int .u8 0] (.t 21) (.t 21), none, [], []⟩,
  ⟨some 5, .mov (.t 22), none, [], []⟩] false)
 (.seq (.seq (.region [⟨some 6, .mov (.c (.int .i64 0)), none, [], []⟩] false)
 (.block 0 (.loop (.keep [0, 1, 5, 6] (.seq (.seq (.region [⟨some 23, .mov (.t 6), none, [], []⟩,
  ⟨some 24, .mov (.t 5), none, [], []⟩,
  ⟨some 25, .len (.t 24), none, [], []⟩,
  ⟨some 26, .bin .lss (.t 23) (.t 25), none, [], []⟩] false)
 (.cond (.t 26) .skip (.exit 0)))
 (.seq (.block 1 (.region [⟨some 29, .mov (.t 5), none, [], []⟩,
  ⟨some 30, .mov (.t 6), none, [], []⟩,
  ⟨some 31, .mov (.t 1), none, [], []⟩,
  ⟨some 32, .iad 1 (.t 29) (.t 30), none, [], []⟩,
  ⟨none, .store none 1 (.t 32) (.t 31), none, [], []⟩] false))
 (.region [⟨some 27, .mov (.t 6), none, [], []⟩,
  ⟨some 28, .bin .add (.t 27) (.c (.int .i64 1)), none, [], []⟩,
  ⟨some 6, .mov (.t 28), none, [], []⟩] false)))))))
 (.seq (.region [⟨some 34, .mov (.t 5), none, [], []⟩,
  ⟨some 35, .call true 9 [(.t 34)], none, [], []⟩,
  ⟨some 33, .mov (.t 35), none, [], []⟩,
  ⟨some 36, .ext (.t 33) 0, none, [], []⟩,
  ⟨some 37, .ext (.t 33) 1, none, [], []⟩,
  ⟨some 7, .mov (.t 36), none, [], []⟩,
  ⟨some 8, .mov (.t 37), none, [], []⟩] false)
 (.seq (.region [⟨some 39, .mov (.t 5), none, [], []⟩,
  ⟨some 40, .mov (.t 0), none, [], []⟩,
  ⟨some 41, .bin .add (.t 40) (.c (.int .i64 1)), none, [], []⟩,
  ⟨some 42, .apl 5 1 1 [.int .u8 0] (.t 39) (.t 41), none, [], []⟩,
  ⟨some 43, .call false 9 [(.t 42)], none, [], []⟩,
  ⟨some 38, .mov (.t 43), none, [], []⟩,
  ⟨some 44, .ext (.t 38) 0, none, [], []⟩,
  ⟨some 45, .ext (.t 38) 1, none, [], []⟩,
  ⟨some 9, .mov (.t 44), none, [], []⟩,
  ⟨some 10, .mov (.t 45), none, [], []⟩] false)
 (.seq (.seq (.region [⟨some 46, .mov (.t 8), none, [], []⟩,
  ⟨some 47, .bin .neq (.t 46) (.c (.int .i64 0)), none, [], []⟩,
  ⟨some 48, .mov (.t 47), none, [], []⟩,
  ⟨some 49, .mov (.t 7), some (48, false), [], []⟩,
  ⟨some 50, .len (.t 49), some (48, false), [], []⟩,
  ⟨some 51, .mov (.t 5), some (48, false), [], []⟩,
  ⟨some 52, .len (.t 51), some (48, false), [], []⟩,
  ⟨some 53, .bin .quo (.t 52) (.c (.int .i64 5)), some (48, false), [], []⟩,
  ⟨some 54, .bin .neq (.t 50) (.t 53), some (48, false), [], []⟩,
  ⟨some 55, .pick (.t 48) (.c (.bool true)) (.t 54), none, [], []⟩] false)
 (.cond (.t 55) (.seq (.region [⟨some 4, .mov (.c (.bool false)), none, [], []⟩] false)
 .ret) .skip))
 (.seq (.seq (.region [⟨some 11, .mov (.c (.int .i64 0)), none, [], []⟩] false)
 (.block 2 (.loop (.keep [1, 5, 7, 10, 11] (.seq (.seq (.region [⟨some 56, .mov (.t 11), none, [], []⟩,
  ⟨some 57, .mov (.t 7), none, [], []⟩,
  ⟨some 58, .len (.t 57), none, [], []⟩,
  ⟨some 59, .bin .lss (.t 56) (.t 58), none, [], []⟩] false)
 (.cond (.t 59) .skip (.exit 2)))
 (.seq (.block 3 (.seq (.region [⟨some 62, .mov (.t 7), none, [], []⟩,
  ⟨some 63, .mov (.t 11), none, [], []⟩,
  ⟨some 64, .iad 5 (.t 62) (.t 63), none, [], []⟩,
  ⟨some 65, .load true 5 (.t 64), none, [], []⟩,
  ⟨some 66, .mov (.t 1), none, [], []⟩,
  ⟨some 67, .conv .i64 (.t 66), none, [], []⟩,
  ⟨some 68, .mov (.t 1), none, [], []⟩,
  ⟨some 69, .conv .i64 (.t 68), none, [], []⟩,
  ⟨some 70, .mov (.t 1), none, [], []⟩,
  ⟨some 71, .conv .i64 (.t 70), none, [], []⟩,
  ⟨some 72, .mov (.t 1), none, [], []⟩,
  ⟨some 73, .conv .i64 (.t 72), none, [], []⟩,
  ⟨some 74, .mov (.t 1), none, [], []⟩,
  ⟨some 75, .conv .i64 (.t 74), none, [], []⟩,
  ⟨some 76, .build [.int .i64 0, .int .i64 0, .int .i64 0, .int .i64 0, .int .i64 0] [(0, 1, (.t 67)), (1, 1, (.t 69)), (2, 1, (.t 71)), (3, 1, (.t 73)), (4, 1, (.t 75))], none, [], []⟩,
  ⟨some 77, .eqs true [true, true, true, true, true] (.t 65) (.t 76), none, [], []⟩] false)
 (.cond (.t 77) (.seq (.region [⟨some 4, .mov (.c (.bool false)), none, [], []⟩] false)
 .ret) .skip)))
 (.region [⟨some 60, .mov (.t 11), none, [], []⟩,
  ⟨some 61, .bin .add (.t 60) (.c (.int .i64 1)), none, [], []⟩,
  ⟨some 11, .mov (.t 61), none, [], []⟩] false)))))))
 (.seq (.region [⟨some 79, .mov (.t 7), none, [], []⟩,
  ⟨some 80, .call false 10 [(.t 79)], none, [], []⟩,
  ⟨some 78, .mov (.t 80), none, [], []⟩,
  ⟨some 81, .ext (.t 78) 0, none, [], []⟩,
  ⟨some 82, .ext (.t 78) 1, none, [], []⟩,
  ⟨some 12, .mov (.t 81), none, [], []⟩,
  ⟨some 13, .mov (.t 82), none, [], []⟩] false)
 (.seq (.block 4 (.loop (.keep [5, 7, 10, 12, 13] (.seq (.seq (.region [⟨some 83, .mov (.t 7), none, [], []⟩,
  ⟨some 84, .len (.t 83), none, [], []⟩,
  ⟨some 85, .bin .leq (.t 84) (.c (.int .i64 800)), none, [], []⟩] false)
 (.cond (.t 85) .skip (.exit 4)))
 (.block 5 (.region [⟨some 86, .mov (.t 7), none, [], []⟩,
  ⟨some 87, .build [.int .i64 0, .int .i64 0, .int .i64 0, .int .i64 0, .int .i64 0] [], none, [], []⟩,
  ⟨some 88, .bsl 27 5 1 [.int .i64 0, .int .i64 0, .int .i64 0, .int .i64 0, .int .i64 0] [(0, (.t 87))], none, [], []⟩,
  ⟨some 89, .app 27 5 40 (.t 86) (.t 88), none, [], []⟩,
  ⟨some 7, .mov (.t 89), none, [], []⟩] false))))))
 (.seq (.region [⟨some 91, .mov (.t 7), none, [], []⟩,
  ⟨some 92, .call false 10 [(.t 91)], none, [], []⟩,
  ⟨some 90, .mov (.t 92), none, [], []⟩,
  ⟨some 93, .ext (.t 90) 0, none, [], []⟩,
  ⟨some 94, .ext (.t 90) 1, none, [], []⟩,
  ⟨some 14, .mov (.t 93), none, [], []⟩,
  ⟨some 15, .mov (.t 94), none, [], []⟩] false)
 (.seq (.region [⟨some 95, .mov (.t 10), none, [], []⟩,
  ⟨some 96, .bin .eql (.t 95) (.c (.int .i64 2)), none, [], []⟩,
  ⟨some 97, .mov (.t 96), none, [], []⟩,
  ⟨some 98, .mov (.t 13), some (97, true), [], []⟩,
  ⟨some 99, .bin .eql (.t 98) (.c (.int .i64 0)), some (97, true), [], []⟩,
  ⟨some 100, .pick (.t 97) (.t 99) (.c (.bool false)), none, [], []⟩,
  ⟨some 101, .mov (.t 100), none, [], []⟩,
  ⟨some 102, .mov (.t 12), some (101, true), [], []⟩,
  ⟨some 103, .len (.t 102), some (101, true), [], []⟩,
  ⟨some 104, .mov (.t 5), some (101, true), [], []⟩,
  ⟨some 105, .len (.t 104), some (101, true), [], []⟩,
  ⟨some 106, .mov (.t 5), some (101, true), [], []⟩,
  ⟨some 107, .len (.t 106), some (101, true), [], []⟩,
  ⟨some 108, .bin .rem (.t 107) (.c (.int .i64 5)), some (101, true), [], []⟩,
  ⟨some 109, .bin .sub (.t 105) (.t 108), some (101, true), [], []⟩,
  ⟨some 110, .bin .eql (.t 103) (.t 109), some (101, true), [], []⟩,
  ⟨some 111, .pick (.t 101) (.t 110) (.c (.bool false)), none, [], []⟩,
  ⟨some 112, .mov (.t 111), none, [], []⟩,
  ⟨some 113, .mov (.t 15), some (112, true), [], []⟩,
  ⟨some 114, .bin .eql (.t 113) (.c (.int .i64 2)), some (112, true), [], []⟩,
  ⟨some 115, .pick (.t 112) (.t 114) (.c (.bool false)), none, [], []⟩,
  ⟨some 116, .mov (.t 115), none, [], []⟩,
  ⟨some 117, .call false 18 [], some (116, true), [], []⟩,
  ⟨some 118, .pick (.t 116) (.t 117) (.c (.bool false)), none, [], []⟩,
  ⟨some 4, .mov (.t 118), none, [], []⟩] false)
 .ret))))))))))))
def i6 : F := ⟨2, 119, j6, [.t 4]⟩
theorem b6 : i6.body = j6 := rfl
theorem q6 : i6.res = [.t 4] := rfl
theorem c6 : chkF Tryd.prog Tryd.f6 i6 = true := by kernel_rfl
theorem s6 {m : Model} {E : Nat → Model} (hE : ∀ f, Sound Tryd.prog f (E f)) (hm : ∀ args r, m args = some r → ∃ N, i6.ev E N args = some r) : Sound Tryd.prog 6 m := sound_of i6 Tryd.func6 rfl c6 hE hm
/-- bellwether/bellwetherlaw09.ScriptConfs -/
def j7 : C := (.seq (.region [⟨some 6, .mov (.c (.bool false)), none, [], []⟩] false)
 (.seq (.region [⟨some 12, .mov (.t 0), none, [], []⟩,
  ⟨some 13, .call false 20 [(.t 12)], none, [], []⟩,
  ⟨some 7, .alloc [.int .i64 0, .int .i64 0, .int .i64 0, .int .i64 0, .int .i64 0, .int .i64 0, .int .i64 0], none, [], []⟩,
  ⟨none, .store none 7 (.t 7) (.t 13), none, [], []⟩] false)
 (.seq (.region [⟨some 14, .mov (.t 2), none, [], []⟩,
  ⟨some 15, .conv .u64 (.t 14), none, [], []⟩,
  ⟨some 16, .bin .rem (.t 15) (.c (.int .u64 100)), none, [], []⟩,
  ⟨some 17, .conv .i64 (.t 16), none, [], []⟩,
  ⟨some 2, .mov (.t 17), none, [], []⟩] false)
 (.seq (.region [⟨some 18, .bsl 3 1 7 [.int .i64 0] [(0, (.c (.int .i64 1))), (1, (.c (.int .i64 1))), (2, (.c (.int .i64 1))), (3, (.c (.int .i64 1))), (4, (.c (.int .i64 1))), (5, (.c (.int .i64 1))), (6, (.c (.int .i64 2)))], none, [], []⟩,
  ⟨some 8, .mov (.t 18), none, [], []⟩] false)
 (.seq (.region [⟨some 19, .bsl 3 1 7 [.int .i64 0] [(0, (.c (.int .i64 8))), (1, (.c (.int .i64 4))), (2, (.c (.int .i64 4))), (3, (.c (.int .i64 8))), (4, (.c (.int .i64 16))), (5, (.c (.int .i64 16))), (6, (.c (.int .i64 32)))], none, [], []⟩,
  ⟨some 9, .mov (.t 19), none, [], []⟩] false)
 (.seq (.region [⟨some 20, .mov (.t 1), none, [], []⟩,
  ⟨some 21, .conv .u64 (.t 20), none, [], []⟩,
  ⟨some 22, .bin .rem (.t 21) (.c (.int .u64 7)), none, [], []⟩,
  ⟨some 23, .conv .i64 (.t 22), none, [], []⟩,
  ⟨some 10, .mov (.t 23), none, [], []⟩] false)
 (.seq (.region [⟨some 24, .mov (.t 2), none, [], []⟩,
  ⟨some 25, .bin .sub (.t 24) (.c (.int .i64 30)), none, [], []⟩,
  ⟨some 11, .mov (.t 25), none, [], []⟩] false)
 (.seq (.seq (.region [⟨some 26, .mov (.t 10), none, [], []⟩] false)
 (.block 0 (.seq (.region [⟨some 30, .bin .eql (.t 26) (.c (.int .i64 0)), none, [], []⟩,
  ⟨some 29, .mov (.t 30), none, [], []⟩] false)
 (.cond (.t 29) (.region [⟨some 31, .mov (.t 11), none, [], []⟩,
  ⟨some 32, .fad 0 (.t 7), none, [], []⟩,
  ⟨none, .store none 1 (.t 32) (.t 31), none, [], []⟩] false) (.seq (.region [⟨some 34, .bin .eql (.t 26) (.c (.int .i64 1)), none, [], []⟩,
  ⟨some 33, .mov (.t 34), none, [], []⟩] false)
 (.cond (.t 33) (.region [⟨some 35, .mov (.t 11), none, [], []⟩,
  ⟨some 36, .fad 1 (.t 7), none, [], []⟩,
  ⟨none, .store none 1 (.t 36) (.t 35), none, [], []⟩] false) (.seq (.region [⟨some 38, .bin .eql (.t 26) (.c (.int .i64 2)), none, [], []⟩,
  ⟨some 37, .mov (.t 38), none, [], []⟩] false)
 (.cond (.t 37) (.region [⟨some 39, .mov (.t 11), none, [], []⟩,
  ⟨some 40, .fad 2 (.t 7), none, [], []⟩,
  ⟨none, .store none 1 (.t 40) (.t 39), none, [], []⟩] false) (.seq (.region [⟨some 42, .bin .eql (.t 26) (.c (.int .i64 3)), none, [], []⟩,
  ⟨some 41, .mov (.t 42), none, [], []⟩] false)
 (.cond (.t 41) (.region [⟨some 43, .mov (.t 11), none, [], []⟩,
  ⟨some 44, .fad 3 (.t 7), none, [], []⟩,
  ⟨none, .store none 1 (.t 44) (.t 43), none, [], []⟩] false) (.seq (.region [⟨some 46, .bin .eql (.t 26) (.c (.int .i64 4)), none, [], []⟩,
  ⟨some 45, .mov (.t 46), none, [], []⟩] false)
 (.cond (.t 45) (.region [⟨some 47, .mov (.t 11), none, [], []⟩,
  ⟨some 48, .fad 4 (.t 7), none, [], []⟩,
  ⟨none, .store none 1 (.t 48) (.t 47), none, [], []⟩] false) (.seq (.region [⟨some 50, .bin .eql (.t 26) (.c (.int .i64 5)), none, [], []⟩,
  ⟨some 49, .mov (.t 50), none, [], []⟩] false)
 (.cond (.t 49) (.region [⟨some 51, .mov (.t 11), none, [], []⟩,
  ⟨some 52, .fad 5 (.t 7), none, [], []⟩,
  ⟨none, .store none 1 (.t 52) (.t 51), none, [], []⟩] false) (.region [⟨some 27, .mov (.t 11), none, [], []⟩,
  ⟨some 28, .fad 6 (.t 7), none, [], []⟩,
  ⟨none, .store none 1 (.t 28) (.t 27), none, [], []⟩] false)))))))))))))))
 (.seq (.region [⟨some 53, .load true 7 (.t 7), none, [56, 57, 58, 59, 60, 61], []⟩,
  ⟨some 54, .call false 11 [(.t 53)], none, [56, 57, 58, 59, 60, 61], [0]⟩,
  ⟨some 55, .bin .eql (.t 54) (.c (.int .i64 0)), none, [56, 57, 58, 59, 60, 61, 62, 63, 64, 65, 66, 67, 68, 69], [0, 1]⟩,
  ⟨some 56, .mov (.t 11), none, [53, 54, 55, 57, 58, 59, 60], []⟩,
  ⟨some 57, .mov (.t 8), none, [53, 54, 55, 56, 58], []⟩,
  ⟨some 58, .mov (.t 10), none, [53, 54, 55, 56, 57], []⟩,
  ⟨some 59, .iad 1 (.t 57) (.t 58), none, [53, 54, 55, 56], [4, 5]⟩,
  ⟨some 60, .load false 1 (.t 59), none, [53, 54, 55, 56], [4, 5, 6]⟩,
  ⟨some 61, .bin .geq (.t 56) (.t 60), none, [53, 54, 55], [3, 4, 5, 6, 7]⟩,
  ⟨some 62, .mov (.t 61), none, [55], [0, 1, 3, 4, 5, 6, 7, 8]⟩,
  ⟨some 63, .mov (.t 11), some (62, true), [55, 64, 65, 66, 67], [0, 1, 3, 4, 5, 6, 7, 8, 9]⟩,
  ⟨some 64, .mov (.t 9), some (62, true), [55, 63, 65], [0, 1, 3, 4, 5, 6, 7, 8, 9]⟩,
  ⟨some 65, .mov (.t 10), some (62, true), [55, 63, 64], [0, 1, 3, 4, 5, 6, 7, 8, 9]⟩,
  ⟨some 66, .iad 1 (.t 64) (.t 65), some (62, true), [55, 63], [0, 1, 3, 4, 5, 6, 7, 8, 9, 11, 12]⟩,
  ⟨some 67, .load false 1 (.t 66), some (62, true), [55, 63], [0, 1, 3, 4, 5, 6, 7, 8, 9, 11, 12, 13]⟩,
  ⟨some 68, .bin .leq (.t 63) (.t 67), some (62, true), [55], [0, 1, 3, 4, 5, 6, 7, 8, 9, 10, 11, 12, 13, 14]⟩,
  ⟨some 69, .pick (.t 62) (.t 68) (.c (.bool false)), none, [55], [0, 1, 3, 4, 5, 6, 7, 8, 9, 10, 11, 12, 13, 14, 15]⟩,
  ⟨some 70, .eqb false (.t 55) (.t 69), none, [], [0, 1, 2, 3, 4, 5, 6, 7, 8, 9, 10, 11, 12, 13, 14, 15, 16]⟩,
  ⟨some 71, .mov (.t 70), none, [], [0, 1, 2, 3, 4, 5, 6, 7, 8, 9, 10, 11, 12, 13, 14, 15, 16, 17]⟩,
  ⟨some 72, .call false 18 [], some (71, true), [], [0, 1, 2, 3, 4, 5, 6, 7, 8, 9, 10, 11, 12, 13, 14, 15, 16, 17, 18]⟩,
  ⟨some 73, .pick (.t 71) (.t 72) (.c (.bool false)), none, [], [0, 1, 2, 3, 4, 5, 6, 7, 8, 9, 10, 11, 12, 13, 14, 15, 16, 17, 18, 19]⟩,
  ⟨some 6, .mov (.t 73), none, [], [0, 1, 2, 3, 4, 5, 6, 7, 8, 9, 10, 11, 12, 13, 14, 15, 16, 17, 18, 19, 20]⟩] true)
 .ret)))))))))
def i7 : F := ⟨3, 74, j7, [.t 6]⟩
theorem b7 : i7.body = j7 := rfl
theorem q7 : i7.res = [.t 6] := rfl
theorem c7 : chkF Tryd.prog Tryd.f7 i7 = true := by kernel_rfl
theorem s7 {m : Model} {E : Nat → Model} (hE : ∀ f, Sound Tryd.prog f (E f)) (hm : ∀ args r, m args = some r → ∃ N, i7.ev E N args = some r) : Sound Tryd.prog 7 m := sound_of i7 Tryd.func7 rfl c7 hE hm
/-- bellwether/bellwetherkeep.Twin -/
def j8 : C := (.seq (.region [⟨some 2, .nilsl 5 1 0, none, [], []⟩] false)
 (.seq (.region [⟨some 3, .nilsl 5 1 0, none, [], []⟩] false)
 (.seq (.region [⟨some 4, .mov (.t 3), none, [], []⟩,
  ⟨some 5, .mov (.t 0), none, [], []⟩,
  ⟨some 6, .app 5 1 1 (.t 4) (.t 5), none, [], []⟩,
  ⟨some 2, .mov (.t 6), none, [], []⟩] false)
 .ret)))
def i8 : F := ⟨1, 7, j8, [.t 2]⟩
theorem b8 : i8.body = j8 := rfl
theorem q8 : i8.res = [.t 2] := rfl
theorem c8 : chkF Tryd.prog Tryd.f8 i8 = true := by kernel_rfl
theorem s8 {m : Model} {E : Nat → Model} (hE : ∀ f, Sound Tryd.prog f (E f)) (hm : ∀ args r, m args = some r → ∃ N, i8.ev E N args = some r) : Sound Tryd.prog 8 m := sound_of i8 Tryd.func8 rfl c8 hE hm
/-- bellwether/script.Parse -/
def j9 : C := (.seq (.region [⟨some 2, .nilsl 27 5 0, none, [], []⟩,
  ⟨some 3, .mov (.c (.int .i64 0)), none, [], []⟩] false)
 (.seq (.seq (.region [⟨some 5, .mov (.t 0), none, [], []⟩,
  ⟨some 6, .len (.t 5), none, [], []⟩,
  ⟨some 7, .bin .gtr (.t 6) (.c (.int .i64 4000)), none, [], []⟩] false)
 (.cond (.t 7) (.seq (.region [⟨some 2, .nilsl 27 5 1, none, [], []⟩,
  ⟨some 3, .mov (.c (.int .i64 2)), none, [], []⟩] false)
 .ret) .skip))
 (.seq (.region [⟨some 4, .nilsl 27 5 0, none, [], []⟩] false)
 (.seq (.block 0 (.loop (.keep [0, 4] (.seq (.seq (.region [⟨some 8, .mov (.t 0), none, [], []⟩,
  ⟨some 9, .len (.t 8), none, [], []⟩,
  ⟨some 10, .bin .geq (.t 9) (.c (.int .i64 5)), none, [], []⟩] false)
 (.cond (.t 10) .skip (.exit 0)))
 (.seq (.block 1 (.region [⟨some 13, .mov (.t 4), none, [14, 15, 16, 17, 18, 19, 20, 21, 22, 23, 24, 25, 26, 27, 28, 29, 30, 31, 32, 33, 34, 35], []⟩,
  ⟨some 14, .mov (.t 0), none, [13, 18, 19, 20, 21, 22, 23, 24, 25, 26, 27, 28, 29, 30, 31, 32, 33], []⟩,
  ⟨some 15, .iad 1 (.t 14) (.c (.int .i64 0)), none, [13, 18, 19, 20, 21, 22, 23, 24, 25, 26, 27, 28, 29, 30, 31, 32, 33], [1]⟩,
  ⟨some 16, .load false 1 (.t 15), none, [13, 18, 19, 20, 21, 22, 23, 24, 25, 26, 27, 28, 29, 30, 31, 32, 33], [1, 2]⟩,
  ⟨some 17, .conv .i64 (.t 16), none, [13, 18, 19, 20, 21, 22, 23, 24, 25, 26, 27, 28, 29, 30, 31, 32, 33], [1, 2, 3]⟩,
  ⟨some 18, .mov (.t 0), none, [13, 14, 15, 16, 17, 22, 23, 24, 25, 26, 27, 28, 29, 30, 31, 32, 33], []⟩,
  ⟨some 19, .iad 1 (.t 18) (.c (.int .i64 1)), none, [13, 14, 15, 16, 17, 22, 23, 24, 25, 26, 27, 28, 29, 30, 31, 32, 33], [5]⟩,
  ⟨some 20, .load false 1 (.t 19), none, [13, 14, 15, 16, 17, 22, 23, 24, 25, 26, 27, 28, 29, 30, 31, 32, 33], [5, 6]⟩,
  ⟨some 21, .conv .i64 (.t 20), none, [13, 14, 15, 16, 17, 22, 23, 24, 25, 26, 27, 28, 29, 30, 31, 32, 33], [5, 6, 7]⟩,
  ⟨some 22, .mov (.t 0), none, [13, 14, 15, 16, 17, 18, 19, 20, 21, 26, 27, 28, 29, 30, 31, 32, 33], []⟩,
  ⟨some 23, .iad 1 (.t 22) (.c (.int .i64 2)), none, [13, 14, 15, 16, 17, 18, 19, 20, 21, 26, 27, 28, 29, 30, 31, 32, 33], [9]⟩,
  ⟨some 24, .load false 1 (.t 23), none, [13, 14, 15, 16, 17, 18, 19, 20, 21, 26, 27, 28, 29, 30, 31, 32, 33], [9, 10]⟩,
  ⟨some 25, .conv .i64 (.t 24), none, [13, 14, 15, 16, 17, 18, 19, 20, 21, 26, 27, 28, 29, 30, 31, 32, 33], [9, 10, 11]⟩,
  ⟨some 26, .mov (.t 0), none, [13, 14, 15, 16, 17, 18, 19, 20, 21, 22, 23, 24, 25, 30, 31, 32, 33], []⟩,
  ⟨some 27, .iad 1 (.t 26) (.c (.int .i64 3)), none, [13, 14, 15, 16, 17, 18, 19, 20, 21, 22, 23, 24, 25, 30, 31, 32, 33], [13]⟩,
  ⟨some 28, .load false 1 (.t 27), none, [13, 14, 15, 16, 17, 18, 19, 20, 21, 22, 23, 24, 25, 30, 31, 32, 33], [13, 14]⟩,
  ⟨some 29, .conv .i64 (.t 28), none, [13, 14, 15, 16, 17, 18, 19, 20, 21, 22, 23, 24, 25, 30, 31, 32, 33], [13, 14, 15]⟩,
  ⟨some 30, .mov (.t 0), none, [13, 14, 15, 16, 17, 18, 19, 20, 21, 22, 23, 24, 25, 26, 27, 28, 29], []⟩,
  ⟨some 31, .iad 1 (.t 30) (.c (.int .i64 4)), none, [13, 14, 15, 16, 17, 18, 19, 20, 21, 22, 23, 24, 25, 26, 27, 28, 29], [17]⟩,
  ⟨some 32, .load false 1 (.t 31), none, [13, 14, 15, 16, 17, 18, 19, 20, 21, 22, 23, 24, 25, 26, 27, 28, 29], [17, 18]⟩,
  ⟨some 33, .conv .i64 (.t 32), none, [13, 14, 15, 16, 17, 18, 19, 20, 21, 22, 23, 24, 25, 26, 27, 28, 29], [17, 18, 19]⟩,
  ⟨some 34, .build [.int .i64 0, .int .i64 0, .int .i64 0, .int .i64 0, .int .i64 0] [(0, 1, (.t 17)), (1, 1, (.t 21)), (2, 1, (.t 25)), (3, 1, (.t 29)), (4, 1, (.t 33))], none, [13], [1, 2, 3, 4, 5, 6, 7, 8, 9, 10, 11, 12, 13, 14, 15, 16, 17, 18, 19, 20]⟩,
  ⟨some 35, .bsl 27 5 1 [.int .i64 0, .int .i64 0, .int .i64 0, .int .i64 0, .int .i64 0] [(0, (.t 34))], none, [13], [1, 2, 3, 4, 5, 6, 7, 8, 9, 10, 11, 12, 13, 14, 15, 16, 17, 18, 19, 20, 21]⟩,
  ⟨some 36, .app 27 5 40 (.t 13) (.t 35), none, [], [0, 1, 2, 3, 4, 5, 6, 7, 8, 9, 10, 11, 12, 13, 14, 15, 16, 17, 18, 19, 20, 21, 22]⟩,
  ⟨some 4, .mov (.t 36), none, [], [0, 1, 2, 3, 4, 5, 6, 7, 8, 9, 10, 11, 12, 13, 14, 15, 16, 17, 18, 19, 20, 21, 22, 23]⟩] true))
 (.region [⟨some 11, .mov (.t 0), none, [], []⟩,
  ⟨some 12, .cut 1 (.t 11) (some (.c (.int .i64 5))) none, none, [], []⟩,
  ⟨some 0, .mov (.t 12), none, [], []⟩] false))))))
 (.seq (.region [⟨some 37, .mov (.t 4), none, [], []⟩,
  ⟨some 2, .mov (.t 37), none, [], []⟩,
  ⟨some 3, .mov (.c (.int .i64 0)), none, [], []⟩] false)
 .ret)))))
def i9 : F := ⟨1, 38, j9, [.t 2, .t 3]⟩
theorem b9 : i9.body = j9 := rfl
theorem q9 : i9.res = [.t 2, .t 3] := rfl
theorem c9 : chkF Tryd.prog Tryd.f9 i9 = true := by kernel_rfl
theorem s9 {m : Model} {E : Nat → Model} (hE : ∀ f, Sound Tryd.prog f (E f)) (hm : ∀ args r, m args = some r → ∃ N, i9.ev E N args = some r) : Sound Tryd.prog 9 m := sound_of i9 Tryd.func9 rfl c9 hE hm
/-- bellwether/script.Bytes -/
def j10 : C := (.seq (.region [⟨some 2, .nilsl 5 1 0, none, [], []⟩,
  ⟨some 3, .mov (.c (.int .i64 0)), none, [], []⟩] false)
 (.seq (.region [⟨some 4, .nilsl 5 1 0, none, [], []⟩] false)
 (.seq (.seq (.region [⟨some 10, .mov (.t 0), none, [], []⟩,
  ⟨some 11, .len (.t 10), none, [], []⟩,
  ⟨some 12, .mov (.c (.int .i64 0)), none, [], []⟩] false)
 (.block 0 (.loop (.keep [4, 10, 11, 12] (.seq (.region [⟨some 13, .bin .lss (.t 12) (.t 11), none, [], []⟩] false)
 (.seq (.cond (.t 13) .skip (.exit 0))
 (.seq (.block 1 (.seq (.region [⟨some 14, .iad 5 (.t 10) (.t 12), none, [], []⟩,
  ⟨some 15, .load true 5 (.t 14), none, [], []⟩,
  ⟨some 6, .alloc [.int .i64 0, .int .i64 0, .int .i64 0, .int .i64 0, .int .i64 0], none, [], []⟩,
  ⟨none, .store none 5 (.t 6) (.t 15), none, [], []⟩] false)
 (.seq (.region [⟨some 16, .fad 0 (.t 6), none, [], []⟩,
  ⟨some 17, .load false 1 (.t 16), none, [], []⟩,
  ⟨some 18, .fad 1 (.t 6), none, [], []⟩,
  ⟨some 19, .load false 1 (.t 18), none, [], []⟩,
  ⟨some 20, .fad 2 (.t 6), none, [], []⟩,
  ⟨some 21, .load false 1 (.t 20), none, [], []⟩,
  ⟨some 22, .fad 3 (.t 6), none, [], []⟩,
  ⟨some 23, .load false 1 (.t 22), none, [], []⟩,
  ⟨some 24, .fad 4 (.t 6), none, [], []⟩,
  ⟨some 25, .load false 1 (.t 24), none, [], []⟩,
  ⟨some 26, .bsl 3 1 5 [.int .i64 0] [(0, (.t 17)), (1, (.t 19)), (2, (.t 21)), (3, (.t 23)), (4, (.t 25))], none, [], []⟩,
  ⟨some 7, .mov (.t 26), none, [], []⟩] false)
 (.seq (.seq (.region [⟨some 27, .mov (.t 7), none, [], []⟩,
  ⟨some 28, .call false 21 [(.t 27), (.c (.fn 22 []))], none, [], []⟩] false)
 (.cond (.t 28) (.seq (.region [⟨some 2, .nilsl 5 1 1, none, [], []⟩,
  ⟨some 3, .mov (.c (.int .i64 1)), none, [], []⟩] false)
 .ret) .skip))
 (.seq (.region [⟨some 29, .mov (.t 7), none, [], []⟩,
  ⟨some 30, .len (.t 29), none, [], []⟩,
  ⟨some 31, .mov (.c (.int .i64 0)), none, [], []⟩] false)
 (.block 2 (.loop (.keep [4, 10, 11, 12, 29, 30, 31] (.seq (.region [⟨some 32, .bin .lss (.t 31) (.t 30), none, [], []⟩] false)
 (.seq (.cond (.t 32) .skip (.exit 2))
 (.seq (.block 3 (.seq (.region [⟨some 33, .iad 1 (.t 29) (.t 31), none, [], []⟩,
  ⟨some 34, .load false 1 (.t 33), none, [], []⟩,
  ⟨some 9, .mov (.t 34), none, [], []⟩] false)
 (.region [⟨some 35, .mov (.t 4), none, [], []⟩,
  ⟨some 36, .mov (.t 9), none, [], []⟩,
  ⟨some 37, .conv .u8 (.t 36), none, [], []⟩,
  ⟨some 38, .bsl 5 1 1 [.int .u8 0] [(0, (.t 37))], none, [], []⟩,
  ⟨some 39, .app 5 1 1 (.t 35) (.t 38), none, [], []⟩,
  ⟨some 4, .mov (.t 39), none, [], []⟩] false)))
 (.region [⟨some 40, .bin .add (.t 31) (.c (.int .i64 1)), none, [], []⟩,
  ⟨some 31, .mov (.t 40), none, [], []⟩] false))))))))))))
 (.region [⟨some 41, .bin .add (.t 12) (.c (.int .i64 1)), none, [], []⟩,
  ⟨some 12, .mov (.t 41), none, [], []⟩] false))))))))
 (.seq (.seq (.region [⟨some 42, .mov (.t 4), none, [], []⟩,
  ⟨some 43, .len (.t 42), none, [], []⟩,
  ⟨some 44, .bin .gtr (.t 43) (.c (.int .i64 4000)), none, [], []⟩] false)
 (.cond (.t 44) (.seq (.region [⟨some 2, .nilsl 5 1 2, none, [], []⟩,
  ⟨some 3, .mov (.c (.int .i64 2)), none, [], []⟩] false)
 .ret) .skip))
 (.seq (.region [⟨some 45, .mov (.t 4), none, [], []⟩,
  ⟨some 2, .mov (.t 45), none, [], []⟩,
  ⟨some 3, .mov (.c (.int .i64 0)), none, [], []⟩] false)
 .ret)))))
def i10 : F := ⟨1, 46, j10, [.t 2, .t 3]⟩
theorem b10 : i10.body = j10 := rfl
theorem q10 : i10.res = [.t 2, .t 3] := rfl
theorem c10 : chkF Tryd.prog Tryd.f10 i10 = true := by kernel_rfl
theorem s10 {m : Model} {E : Nat → Model} (hE : ∀ f, Sound Tryd.prog f (E f)) (hm : ∀ args r, m args = some r → ∃ N, i10.ev E N args = some r) : Sound Tryd.prog 10 m := sound_of i10 Tryd.func10 rfl c10 hE hm
/-- bellwether/script.Config -/
def j11 : C := (.seq (.region [⟨some 1, .box (.t 0), none, [], []⟩,
  ⟨some 2, .mov (.c (.int .i64 0)), none, [], []⟩] false)
 (.seq (.region [⟨some 3, .load true 7 (.t 1), none, [], []⟩,
  ⟨some 4, .call false 24 [(.t 3)], none, [], []⟩,
  ⟨some 5, .call false 23 [(.t 4)], none, [], []⟩,
  ⟨some 2, .mov (.t 5), none, [], []⟩] false)
 .ret))
def i11 : F := ⟨1, 6, j11, [.t 2]⟩
theorem b11 : i11.body = j11 := rfl
theorem q11 : i11.res = [.t 2] := rfl
theorem c11 : chkF Tryd.prog Tryd.f11 i11 = true := by kernel_rfl
theorem s11 {m : Model} {E : Nat → Model} (hE : ∀ f, Sound Tryd.prog f (E f)) (hm : ∀ args r, m args = some r → ∃ N, i11.ev E N args = some r) : Sound Tryd.prog 11 m := sound_of i11 Tryd.func11 rfl c11 hE hm
/-- bellwether/bellwetherref01.Config -/
def j12 : C := (.seq (.region [⟨some 1, .box (.t 0), none, [], []⟩,
  ⟨some 2, .mov (.c (.bool false)), none, [], []⟩] false)
 (.seq (.region [⟨some 3, .fad 0 (.t 1), none, [], []⟩,
  ⟨some 4, .load false 1 (.t 3), none, [], []⟩,
  ⟨some 5, .call false 16 [(.t 4), (.c (.int .i64 1)), (.c (.int .i64 8))], none, [], []⟩,
  ⟨some 6, .mov (.t 5), none, [], []⟩,
  ⟨some 7, .fad 1 (.t 1), some (6, true), [], []⟩,
  ⟨some 8, .load false 1 (.t 7), some (6, true), [], []⟩,
  ⟨some 9, .call false 16 [(.t 8), (.c (.int .i64 1)), (.c (.int .i64 4))], some (6, true), [], []⟩,
  ⟨some 10, .pick (.t 6) (.t 9) (.c (.bool false)), none, [], []⟩,
  ⟨some 11, .mov (.t 10), none, [], []⟩,
  ⟨some 12, .fad 2 (.t 1), some (11, true), [], []⟩,
  ⟨some 13, .load false 1 (.t 12), some (11, true), [], []⟩,
  ⟨some 14, .call false 16 [(.t 13), (.c (.int .i64 1)), (.c (.int .i64 4))], some (11, true), [], []⟩,
  ⟨some 15, .pick (.t 11) (.t 14) (.c (.bool false)), none, [], []⟩,
  ⟨some 16, .mov (.t 15), none, [], []⟩,
  ⟨some 17, .fad 3 (.t 1), some (16, true), [], []⟩,
  ⟨some 18, .load false 1 (.t 17), some (16, true), [], []⟩,
  ⟨some 19, .call false 16 [(.t 18), (.c (.int .i64 1)), (.c (.int .i64 8))], some (16, true), [], []⟩,
  ⟨some 20, .pick (.t 16) (.t 19) (.c (.bool false)), none, [], []⟩,
  ⟨some 21, .mov (.t 20), none, [], []⟩,
  ⟨some 22, .fad 4 (.t 1), some (21, true), [], []⟩,
  ⟨some 23, .load false 1 (.t 22), some (21, true), [], []⟩,
  ⟨some 24, .call false 16 [(.t 23), (.c (.int .i64 1)), (.c (.int .i64 16))], some (21, true), [], []⟩,
  ⟨some 25, .pick (.t 21) (.t 24) (.c (.bool false)), none, [], []⟩,
  ⟨some 26, .mov (.t 25), none, [], []⟩,
  ⟨some 27, .fad 5 (.t 1), some (26, true), [], []⟩,
  ⟨some 28, .load false 1 (.t 27), some (26, true), [], []⟩,
  ⟨some 29, .call false 16 [(.t 28), (.c (.int .i64 1)), (.c (.int .i64 16))], some (26, true), [], []⟩,
  ⟨some 30, .pick (.t 26) (.t 29) (.c (.bool false)), none, [], []⟩,
  ⟨some 31, .mov (.t 30), none, [], []⟩,
  ⟨some 32, .fad 6 (.t 1), some (31, true), [], []⟩,
  ⟨some 33, .load false 1 (.t 32), some (31, true), [], []⟩,
  ⟨some 34, .call false 16 [(.t 33), (.c (.int .i64 2)), (.c (.int .i64 32))], some (31, true), [], []⟩,
  ⟨some 35, .pick (.t 31) (.t 34) (.c (.bool false)), none, [], []⟩,
  ⟨some 2, .mov (.t 35), none, [], []⟩] false)
 .ret))
def i12 : F := ⟨1, 36, j12, [.t 2]⟩
theorem b12 : i12.body = j12 := rfl
theorem q12 : i12.res = [.t 2] := rfl
theorem c12 : chkF Tryd.prog Tryd.f12 i12 = true := by kernel_rfl
theorem s12 {m : Model} {E : Nat → Model} (hE : ∀ f, Sound Tryd.prog f (E f)) (hm : ∀ args r, m args = some r → ∃ N, i12.ev E N args = some r) : Sound Tryd.prog 12 m := sound_of i12 Tryd.func12 rfl c12 hE hm
/-- bellwether/bellwetherkeep.Bytes -/
def j13 : C := (.seq (.region [⟨some 4, .mov (.c (.bool false)), none, [], []⟩] false)
 (.seq (.seq (.region [⟨some 6, .mov (.t 0), none, [], []⟩,
  ⟨some 7, .len (.t 6), none, [], []⟩,
  ⟨some 8, .mov (.t 1), none, [], []⟩,
  ⟨some 9, .len (.t 8), none, [], []⟩,
  ⟨some 10, .bin .neq (.t 7) (.t 9), none, [], []⟩] false)
 (.cond (.t 10) (.seq (.region [⟨some 4, .mov (.c (.bool false)), none, [], []⟩] false)
 .ret) .skip))
 (.seq (.seq (.region [⟨some 5, .mov (.c (.int .i64 0)), none, [], []⟩] false)
 (.block 0 (.loop (.keep [0, 1, 5] (.seq (.seq (.region [⟨some 11, .mov (.t 5), none, [], []⟩,
  ⟨some 12, .mov (.t 0), none, [], []⟩,
  ⟨some 13, .len (.t 12), none, [], []⟩,
  ⟨some 14, .bin .lss (.t 11) (.t 13), none, [], []⟩] false)
 (.cond (.t 14) .skip (.exit 0)))
 (.seq (.block 1 (.seq (.region [⟨some 17, .mov (.t 0), none, [18, 21, 22, 23, 24], []⟩,
  ⟨some 18, .mov (.t 5), none, [17, 21, 22, 23, 24], []⟩,
  ⟨some 19, .iad 1 (.t 17) (.t 18), none, [21, 22, 23, 24], [0, 1]⟩,
  ⟨some 20, .load false 1 (.t 19), none, [21, 22, 23, 24], [0, 1, 2]⟩,
  ⟨some 21, .mov (.t 1), none, [17, 18, 19, 20, 22], []⟩,
  ⟨some 22, .mov (.t 5), none, [17, 18, 19, 20, 21], []⟩,
  ⟨some 23, .iad 1 (.t 21) (.t 22), none, [17, 18, 19, 20], [4, 5]⟩,
  ⟨some 24, .load false 1 (.t 23), none, [17, 18, 19, 20], [4, 5, 6]⟩,
  ⟨some 25, .bin .neq (.t 20) (.t 24), none, [], [0, 1, 2, 3, 4, 5, 6, 7]⟩] true)
 (.cond (.t 25) (.seq (.region [⟨some 4, .mov (.c (.bool false)), none, [], []⟩] false)
 .ret) .skip)))
 (.region [⟨some 15, .mov (.t 5), none, [], []⟩,
  ⟨some 16, .bin .add (.t 15) (.c (.int .i64 1)), none, [], []⟩,
  ⟨some 5, .mov (.t 16), none, [], []⟩] false)))))))
 (.seq (.region [⟨some 4, .mov (.c (.bool true)), none, [], []⟩] false)
 .ret))))
def i13 : F := ⟨2, 26, j13, [.t 4]⟩
theorem b13 : i13.body = j13 := rfl
theorem q13 : i13.res = [.t 4] := rfl
theorem c13 : chkF Tryd.prog Tryd.f13 i13 = true := by kernel_rfl
theorem s13 {m : Model} {E : Nat → Model} (hE : ∀ f, Sound Tryd.prog f (E f)) (hm : ∀ args r, m args = some r → ∃ N, i13.ev E N args = some r) : Sound Tryd.prog 13 m := sound_of i13 Tryd.func13 rfl c13 hE hm
/-- bellwether/bellwetherkeep.Steps -/
def j14 : C := (.seq (.region [⟨some 4, .mov (.c (.bool false)), none, [], []⟩] false)
 (.seq (.seq (.region [⟨some 6, .mov (.t 0), none, [], []⟩,
  ⟨some 7, .len (.t 6), none, [], []⟩,
  ⟨some 8, .mov (.t 1), none, [], []⟩,
  ⟨some 9, .len (.t 8), none, [], []⟩,
  ⟨some 10, .bin .neq (.t 7) (.t 9), none, [], []⟩] false)
 (.cond (.t 10) (.seq (.region [⟨some 4, .mov (.c (.bool false)), none, [], []⟩] false)
 .ret) .skip))
 (.seq (.seq (.region [⟨some 5, .mov (.c (.int .i64 0)), none, [], []⟩] false)
 (.block 0 (.loop (.keep [0, 1, 5] (.seq (.seq (.region [⟨some 11, .mov (.t 5), none, [], []⟩,
  ⟨some 12, .mov (.t 0), none, [], []⟩,
  ⟨some 13, .len (.t 12), none, [], []⟩,
  ⟨some 14, .bin .lss (.t 11) (.t 13), none, [], []⟩] false)
 (.cond (.t 14) .skip (.exit 0)))
 (.seq (.block 1 (.seq (.region [⟨some 17, .mov (.t 0), none, [18, 21, 22, 23, 24], []⟩,
  ⟨some 18, .mov (.t 5), none, [17, 21, 22, 23, 24], []⟩,
  ⟨some 19, .iad 5 (.t 17) (.t 18), none, [21, 22, 23, 24], [0, 1]⟩,
  ⟨some 20, .load true 5 (.t 19), none, [21, 22, 23, 24], [0, 1, 2]⟩,
  ⟨some 21, .mov (.t 1), none, [17, 18, 19, 20, 22], []⟩,
  ⟨some 22, .mov (.t 5), none, [17, 18, 19, 20, 21], []⟩,
  ⟨some 23, .iad 5 (.t 21) (.t 22), none, [17, 18, 19, 20], [4, 5]⟩,
  ⟨some 24, .load true 5 (.t 23), none, [17, 18, 19, 20], [4, 5, 6]⟩,
  ⟨some 25, .eqs true [true, true, true, true, true] (.t 20) (.t 24), none, [], [0, 1, 2, 3, 4, 5, 6, 7]⟩] true)
 (.cond (.t 25) (.seq (.region [⟨some 4, .mov (.c (.bool false)), none, [], []⟩] false)
 .ret) .skip)))
 (.region [⟨some 15, .mov (.t 5), none, [], []⟩,
  ⟨some 16, .bin .add (.t 15) (.c (.int .i64 1)), none, [], []⟩,
  ⟨some 5, .mov (.t 16), none, [], []⟩] false)))))))
 (.seq (.region [⟨some 4, .mov (.c (.bool true)), none, [], []⟩] false)
 .ret))))
def i14 : F := ⟨2, 26, j14, [.t 4]⟩
theorem b14 : i14.body = j14 := rfl
theorem q14 : i14.res = [.t 4] := rfl
theorem c14 : chkF Tryd.prog Tryd.f14 i14 = true := by kernel_rfl
theorem s14 {m : Model} {E : Nat → Model} (hE : ∀ f, Sound Tryd.prog f (E f)) (hm : ∀ args r, m args = some r → ∃ N, i14.ev E N args = some r) : Sound Tryd.prog 14 m := sound_of i14 Tryd.func14 rfl c14 hE hm
/-- bellwether/bellwetherref01.Steps -/
def j15 : C := (.seq (.region [⟨some 2, .nilsl 27 5 0, none, [], []⟩] false)
 (.seq (.region [⟨some 3, .nilsl 27 5 0, none, [], []⟩] false)
 (.seq (.seq (.region [⟨some 4, .mov (.c (.int .i64 0)), none, [], []⟩] false)
 (.block 0 (.loop (.keep [0, 3, 4] (.seq (.seq (.region [⟨some 5, .mov (.t 4), none, [], []⟩,
  ⟨some 6, .bin .add (.t 5) (.c (.int .i64 5)), none, [], []⟩,
  ⟨some 7, .mov (.t 0), none, [], []⟩,
  ⟨some 8, .len (.t 7), none, [], []⟩,
  ⟨some 9, .bin .leq (.t 6) (.t 8), none, [], []⟩] false)
 (.cond (.t 9) .skip (.exit 0)))
 (.seq (.block 1 (.region [⟨some 12, .mov (.t 3), none, [13, 14, 15, 16, 17, 18, 19, 20, 21, 22, 23, 24, 25, 26, 27, 28, 29, 30, 31, 32, 33, 34, 35, 36, 37, 38, 39, 40, 41, 42, 43], []⟩,
  ⟨some 13, .mov (.t 0), none, [12, 14, 18, 19, 20, 21, 22, 23, 24, 25, 26, 27, 28, 29, 30, 31, 32, 33, 34, 35, 36, 37, 38, 39, 40, 41], []⟩,
  ⟨some 14, .mov (.t 4), none, [12, 13, 18, 19, 20, 21, 22, 23, 24, 25, 26, 27, 28, 29, 30, 31, 32, 33, 34, 35, 36, 37, 38, 39, 40, 41], []⟩,
  ⟨some 15, .iad 1 (.t 13) (.t 14), none, [12, 18, 19, 20, 21, 22, 23, 24, 25, 26, 27, 28, 29, 30, 31, 32, 33, 34, 35, 36, 37, 38, 39, 40, 41], [1, 2]⟩,
  ⟨some 16, .load false 1 (.t 15), none, [12, 18, 19, 20, 21, 22, 23, 24, 25, 26, 27, 28, 29, 30, 31, 32, 33, 34, 35, 36, 37, 38, 39, 40, 41], [1, 2, 3]⟩,
  ⟨some 17, .conv .i64 (.t 16), none, [12, 18, 19, 20, 21, 22, 23, 24, 25, 26, 27, 28, 29, 30, 31, 32, 33, 34, 35, 36, 37, 38, 39, 40, 41], [1, 2, 3, 4]⟩,
  ⟨some 18, .mov (.t 0), none, [12, 13, 14, 15, 16, 17, 19, 20, 24, 25, 26, 27, 28, 29, 30, 31, 32, 33, 34, 35, 36, 37, 38, 39, 40, 41], []⟩,
  ⟨some 19, .mov (.t 4), none, [12, 13, 14, 15, 16, 17, 18, 24, 25, 26, 27, 28, 29, 30, 31, 32, 33, 34, 35, 36, 37, 38, 39, 40, 41], []⟩,
  ⟨some 20, .bin .add (.t 19) (.c (.int .i64 1)), none, [12, 13, 14, 15, 16, 17, 18, 24, 25, 26, 27, 28, 29, 30, 31, 32, 33, 34, 35, 36, 37, 38, 39, 40, 41], [7]⟩,
  ⟨some 21, .iad 1 (.t 18) (.t 20), none, [12, 13, 14, 15, 16, 17, 24, 25, 26, 27, 28, 29, 30, 31, 32, 33, 34, 35, 36, 37, 38, 39, 40, 41], [6, 7, 8]⟩,
  ⟨some 22, .load false 1 (.t 21), none, [12, 13, 14, 15, 16, 17, 24, 25, 26, 27, 28, 29, 30, 31, 32, 33, 34, 35, 36, 37, 38, 39, 40, 41], [6, 7, 8, 9]⟩,
  ⟨some 23, .conv .i64 (.t 22), none, [12, 13, 14, 15, 16, 17, 24, 25, 26, 27, 28, 29, 30, 31, 32, 33, 34, 35, 36, 37, 38, 39, 40, 41], [6, 7, 8, 9, 10]⟩,
  ⟨some 24, .mov (.t 0), none, [12, 13, 14, 15, 16, 17, 18, 19, 20, 21, 22, 23, 25, 26, 30, 31, 32, 33, 34, 35, 36, 37, 38, 39, 40, 41], []⟩,
  ⟨some 25, .mov (.t 4), none, [12, 13, 14, 15, 16, 17, 18, 19, 20, 21, 22, 23, 24, 30, 31, 32, 33, 34, 35, 36, 37, 38, 39, 40, 41], []⟩,
  ⟨some 26, .bin .add (.t 25) (.c (.int .i64 2)), none, [12, 13, 14, 15, 16, 17, 18, 19, 20, 21, 22, 23, 24, 30, 31, 32, 33, 34, 35, 36, 37, 38, 39, 40, 41], [13]⟩,
  ⟨some 27, .iad 1 (.t 24) (.t 26), none, [12, 13, 14, 15, 16, 17, 18, 19, 20, 21, 22, 23, 30, 31, 32, 33, 34, 35, 36, 37, 38, 39, 40, 41], [12, 13, 14]⟩,
  ⟨some 28, .load false 1 (.t 27), none, [12, 13, 14, 15, 16, 17, 18, 19, 20, 21, 22, 23, 30, 31, 32, 33, 34, 35, 36, 37, 38, 39, 40, 41], [12, 13, 14, 15]⟩,
  ⟨some 29, .conv .i64 (.t 28), none, [12, 13, 14, 15, 16, 17, 18, 19, 20, 21, 22, 23, 30, 31, 32, 33, 34, 35, 36, 37, 38, 39, 40, 41], [12, 13, 14, 15, 16]⟩,
  ⟨some 30, .mov (.t 0), none, [12, 13, 14, 15, 16, 17, 18, 19, 20, 21, 22, 23, 24, 25, 26, 27, 28, 29, 31, 32, 36, 37, 38, 39, 40, 41], []⟩,
  ⟨some 31, .mov (.t 4), none, [12, 13, 14, 15, 16, 17, 18, 19, 20, 21, 22, 23, 24, 25, 26, 27, 28, 29, 30, 36, 37, 38, 39, 40, 41], []⟩,
  ⟨some 32, .bin .add (.t 31) (.c (.int .i64 3)), none, [12, 13, 14, 15, 16, 17, 18, 19, 20, 21, 22, 23, 24, 25, 26, 27, 28, 29, 30, 36, 37, 38, 39, 40, 41], [19]⟩,
  ⟨some 33, .iad 1 (.t 30) (.t 32), none, [12, 13, 14, 15, 16, 17, 18, 19, 20, 21, 22, 23, 24, 25, 26, 27, 28, 29, 36, 37, 38, 39, 40, 41], [18, 19, 20]⟩,
  ⟨some 34, .load false 1 (.t 33), none, [12, 13, 14, 15, 16, 17, 18, 19, 20, 21, 22, 23, 24, 25, 26, 27, 28, 29, 36, 37, 38, 39, 40, 41], [18, 19, 20, 21]⟩,
  ⟨some 35, .conv .i64 (.t 34), none, [12, 13, 14, 15, 16, 17, 18, 19, 20, 21, 22, 23, 24, 25, 26, 27, 28, 29, 36, 37, 38, 39, 40, 41], [18, 19, 20, 21, 22]⟩,
  ⟨some 36, .mov (.t 0), none, [12, 13, 14, 15, 16, 17, 18, 19, 20, 21, 22, 23, 24, 25, 26, 27, 28, 29, 30, 31, 32, 33, 34, 35, 37, 38], []⟩,
  ⟨some 37, .mov (.t 4), none, [12, 13, 14, 15, 16, 17, 18, 19, 20, 21, 22, 23, 24, 25, 26, 27, 28, 29, 30, 31, 32, 33, 34, 35, 36], []⟩,
  ⟨some 38, .bin .add (.t 37) (.c (.int .i64 4)), none, [12, 13, 14, 15, 16, 17, 18, 19, 20, 21, 22, 23, 24, 25, 26, 27, 28, 29, 30, 31, 32, 33, 34, 35, 36], [25]⟩,
  ⟨some 39, .iad 1 (.t 36) (.t 38), none, [12, 13, 14, 15, 16, 17, 18, 19, 20, 21, 22, 23, 24, 25, 26, 27, 28, 29, 30, 31, 32, 33, 34, 35], [24, 25, 26]⟩,
  ⟨some 40, .load false 1 (.t 39), none, [12, 13, 14, 15, 16, 17, 18, 19, 20, 21, 22, 23, 24, 25, 26, 27, 28, 29, 30, 31, 32, 33, 34, 35], [24, 25, 26, 27]⟩,
  ⟨some 41, .conv .i64 (.t 40), none, [12, 13, 14, 15, 16, 17, 18, 19, 20, 21, 22, 23, 24, 25, 26, 27, 28, 29, 30, 31, 32, 33, 34, 35], [24, 25, 26, 27, 28]⟩,
  ⟨some 42, .build [.int .i64 0, .int .i64 0, .int .i64 0, .int .i64 0, .int .i64 0] [(0, 1, (.t 17)), (1, 1, (.t 23)), (2, 1, (.t 29)), (3, 1, (.t 35)), (4, 1, (.t 41))], none, [12], [1, 2, 3, 4, 5, 6, 7, 8, 9, 10, 11, 12, 13, 14, 15, 16, 17, 18, 19, 20, 21, 22, 23, 24, 25, 26, 27, 28, 29]⟩,
  ⟨some 43, .bsl 27 5 1 [.int .i64 0, .int .i64 0, .int .i64 0, .int .i64 0, .int .i64 0] [(0, (.t 42))], none, [12], [1, 2, 3, 4, 5, 6, 7, 8, 9, 10, 11, 12, 13, 14, 15, 16, 17, 18, 19, 20, 21, 22, 23, 24, 25, 26, 27, 28, 29, 30]⟩,
  ⟨some 44, .app 27 5 40 (.t 12) (.t 43), none, [], [0, 1, 2, 3, 4, 5, 6, 7, 8, 9, 10, 11, 12, 13, 14, 15, 16, 17, 18, 19, 20, 21, 22, 23, 24, 25, 26, 27, 28, 29, 30, 31]⟩,
  ⟨some 3, .mov (.t 44), none, [], [0, 1, 2, 3, 4, 5, 6, 7, 8, 9, 10, 11, 12, 13, 14, 15, 16, 17, 18, 19, 20, 21, 22, 23, 24, 25, 26, 27, 28, 29, 30, 31, 32]⟩] true))
 (.region [⟨some 10, .mov (.t 4), none, [], []⟩,
  ⟨some 11, .bin .add (.t 10) (.c (.int .i64 5)), none, [], []⟩,
  ⟨some 4, .mov (.t 11), none, [], []⟩] false)))))))
 (.seq (.region [⟨some 45, .mov (.t 3), none, [], []⟩,
  ⟨some 2, .mov (.t 45), none, [], []⟩] false)
 .ret))))
def i15 : F := ⟨1, 46, j15, [.t 2]⟩
theorem b15 : i15.body = j15 := rfl
theorem q15 : i15.res = [.t 2] := rfl
theorem c15 : chkF Tryd.prog Tryd.f15 i15 = true := by kernel_rfl
theorem s15 {m : Model} {E : Nat → Model} (hE : ∀ f, Sound Tryd.prog f (E f)) (hm : ∀ args r, m args = some r → ∃ N, i15.ev E N args = some r) : Sound Tryd.prog 15 m := sound_of i15 Tryd.func15 rfl c15 hE hm
/-- bellwether/bellwetherref01.In -/
def j16 : C := (.seq (.region [⟨some 6, .mov (.c (.bool false)), none, [], []⟩] false)
 (.seq (.region [⟨some 7, .mov (.t 0), none, [], []⟩,
  ⟨some 8, .mov (.t 1), none, [], []⟩,
  ⟨some 9, .bin .geq (.t 7) (.t 8), none, [], []⟩,
  ⟨some 10, .mov (.t 9), none, [], []⟩,
  ⟨some 11, .mov (.t 0), some (10, true), [], []⟩,
  ⟨some 12, .mov (.t 2), some (10, true), [], []⟩,
  ⟨some 13, .bin .leq (.t 11) (.t 12), some (10, true), [], []⟩,
  ⟨some 14, .pick (.t 10) (.t 13) (.c (.bool false)), none, [], []⟩,
  ⟨some 6, .mov (.t 14), none, [], []⟩] false)
 .ret))
def i16 : F := ⟨3, 15, j16, [.t 6]⟩
theorem b16 : i16.body = j16 := rfl
theorem q16 : i16.res = [.t 6] := rfl
theorem c16 : chkF Tryd.prog Tryd.f16 i16 = true := by kernel_rfl
theorem s16 {m : Model} {E : Nat → Model} (hE : ∀ f, Sound Tryd.prog f (E f)) (hm : ∀ args r, m args = some r → ∃ N, i16.ev E N args = some r) : Sound Tryd.prog 16 m := sound_of i16 Tryd.func16 rfl c16 hE hm
/-- bellwether/script.Check -/
def j17 : C := (.seq (.region [⟨some 2, .box (.t 0), none, [], []⟩,
  ⟨some 3, .box (.t 1), none, [], []⟩,
  ⟨some 4, .mov (.c (.int .i64 0)), none, [], []⟩] false)
 (.seq (.region [⟨some 6, .load true 7 (.t 2), none, [], []⟩,
  ⟨some 7, .call false 11 [(.t 6)], none, [], []⟩,
  ⟨some 5, .mov (.t 7), none, [], []⟩] false)
 (.seq (.seq (.region [⟨some 8, .mov (.t 5), none, [], []⟩,
  ⟨some 9, .bin .neq (.t 8) (.c (.int .i64 0)), none, [], []⟩] false)
 (.cond (.t 9) (.seq (.region [⟨some 10, .mov (.t 5), none, [], []⟩,
  ⟨some 4, .mov (.t 10), none, [], []⟩] false)
 .ret) .skip))
 (.seq (.region [⟨some 11, .load true 7 (.t 2), none, [], []⟩,
  ⟨some 12, .load true 5 (.t 3), none, [], []⟩,
  ⟨some 13, .call false 25 [(.t 11), (.t 12)], none, [], []⟩,
  ⟨some 14, .call false 23 [(.t 13)], none, [], []⟩,
  ⟨some 4, .mov (.t 14), none, [], []⟩] false)
 .ret))))
def i17 : F := ⟨2, 15, j17, [.t 4]⟩
theorem b17 : i17.body = j17 := rfl
theorem q17 : i17.res = [.t 4] := rfl
theorem c17 : chkF Tryd.prog Tryd.f17 i17 = true := by kernel_rfl
theorem s17 {m : Model} {E : Nat → Model} (hE : ∀ f, Sound Tryd.prog f (E f)) (hm : ∀ args r, m args = some r → ∃ N, i17.ev E N args = some r) : Sound Tryd.prog 17 m := sound_of i17 Tryd.func17 rfl c17 hE hm
/-- bellwether/bellwetherlaw09.wakes -/
def j18 : C := (.seq (.region [⟨some 0, .mov (.c (.bool false)), none, [], []⟩] false)
 (.seq (.region [⟨some 7, .bsl 5 1 6 [.int .u8 0] [(0, (.c (.int .u8 1))), (1, (.c (.int .u8 2))), (2, (.c (.int .u8 3))), (3, (.c (.int .u8 4))), (4, (.c (.int .u8 5))), (5, (.c (.int .u8 6)))], none, [], []⟩,
  ⟨some 8, .call false 9 [(.t 7)], none, [], []⟩,
  ⟨some 6, .mov (.t 8), none, [], []⟩,
  ⟨some 9, .ext (.t 6) 0, none, [], []⟩,
  ⟨some 10, .ext (.t 6) 1, none, [], []⟩,
  ⟨some 1, .mov (.t 9), none, [], []⟩,
  ⟨some 2, .mov (.t 10), none, [], []⟩] false)
 (.seq (.region [⟨some 12, .mov (.t 1), none, [], []⟩,
  ⟨some 13, .call false 10 [(.t 12)], none, [], []⟩,
  ⟨some 11, .mov (.t 13), none, [], []⟩,
  ⟨some 14, .ext (.t 11) 0, none, [], []⟩,
  ⟨some 15, .ext (.t 11) 1, none, [], []⟩,
  ⟨some 3, .mov (.t 14), none, [], []⟩,
  ⟨some 4, .mov (.t 15), none, [], []⟩] false)
 (.seq (.region [⟨some 16, .call false 20 [(.c (.int .i64 7))], none, [], []⟩,
  ⟨some 5, .alloc [.int .i64 0, .int .i64 0, .int .i64 0, .int .i64 0, .int .i64 0, .int .i64 0, .int .i64 0], none, [], []⟩,
  ⟨none, .store none 7 (.t 5) (.t 16), none, [], []⟩] false)
 (.seq (.region [⟨some 17, .mov (.t 2), none, [], []⟩,
  ⟨some 18, .bin .eql (.t 17) (.c (.int .i64 0)), none, [], []⟩,
  ⟨some 19, .mov (.t 18), none, [], []⟩,
  ⟨some 20, .mov (.t 1), some (19, true), [], []⟩,
  ⟨some 21, .build [.int .i64 0, .int .i64 0, .int .i64 0, .int .i64 0, .int .i64 0] [(0, 1, (.c (.int .i64 1))), (1, 1, (.c (.int .i64 2))), (2, 1, (.c (.int .i64 3))), (3, 1, (.c (.int .i64 4))), (4, 1, (.c (.int .i64 5)))], some (19, true), [], []⟩,
  ⟨some 22, .bsl 27 5 1 [.int .i64 0, .int .i64 0, .int .i64 0, .int .i64 0, .int .i64 0] [(0, (.t 21))], some (19, true), [], []⟩,
  ⟨some 23, .call false 14 [(.t 20), (.t 22)], some (19, true), [], []⟩,
  ⟨some 24, .pick (.t 19) (.t 23) (.c (.bool false)), none, [], []⟩,
  ⟨some 25, .mov (.t 24), none, [], []⟩,
  ⟨some 26, .mov (.t 4), some (25, true), [], []⟩,
  ⟨some 27, .bin .eql (.t 26) (.c (.int .i64 0)), some (25, true), [], []⟩,
  ⟨some 28, .pick (.t 25) (.t 27) (.c (.bool false)), none, [], []⟩,
  ⟨some 29, .mov (.t 28), none, [], []⟩,
  ⟨some 30, .mov (.t 3), some (29, true), [], []⟩,
  ⟨some 31, .len (.t 30), some (29, true), [], []⟩,
  ⟨some 32, .bin .eql (.t 31) (.c (.int .i64 5)), some (29, true), [], []⟩,
  ⟨some 33, .pick (.t 29) (.t 32) (.c (.bool false)), none, [], []⟩,
  ⟨some 34, .mov (.t 33), none, [], []⟩,
  ⟨some 35, .load true 7 (.t 5), some (34, true), [], []⟩,
  ⟨some 36, .call false 11 [(.t 35)], some (34, true), [], []⟩,
  ⟨some 37, .bin .eql (.t 36) (.c (.int .i64 0)), some (34, true), [], []⟩,
  ⟨some 38, .pick (.t 34) (.t 37) (.c (.bool false)), none, [], []⟩,
  ⟨some 39, .mov (.t 38), none, [], []⟩,
  ⟨some 40, .build [.int .i64 0, .int .i64 0, .int .i64 0, .int .i64 0, .int .i64 0, .int .i64 0, .int .i64 0] [], some (39, true), [], []⟩,
  ⟨some 41, .call false 11 [(.t 40)], some (39, true), [], []⟩,
  ⟨some 42, .bin .eql (.t 41) (.c (.int .i64 13)), some (39, true), [], []⟩,
  ⟨some 43, .pick (.t 39) (.t 42) (.c (.bool false)), none, [], []⟩,
  ⟨some 44, .mov (.t 43), none, [], []⟩,
  ⟨some 45, .load true 7 (.t 5), some (44, true), [], []⟩,
  ⟨some 46, .build [.int .i64 0, .int .i64 0, .int .i64 0, .int .i64 0, .int .i64 0] [(0, 1, (.c (.int .i64 1))), (1, 1, (.c (.int .i64 1)))], some (44, true), [], []⟩,
  ⟨some 47, .call false 17 [(.t 45), (.t 46)], some (44, true), [], []⟩,
  ⟨some 48, .bin .eql (.t 47) (.c (.int .i64 0)), some (44, true), [], []⟩,
  ⟨some 49, .pick (.t 44) (.t 48) (.c (.bool false)), none, [], []⟩,
  ⟨some 50, .mov (.t 49), none, [], []⟩,
  ⟨some 51, .load true 7 (.t 5), some (50, true), [], []⟩,
  ⟨some 52, .build [.int .i64 0, .int .i64 0, .int .i64 0, .int .i64 0, .int .i64 0] [], some (50, true), [], []⟩,
  ⟨some 53, .call false 17 [(.t 51), (.t 52)], some (50, true), [], []⟩,
  ⟨some 54, .bin .eql (.t 53) (.c (.int .i64 1)), some (50, true), [], []⟩,
  ⟨some 55, .pick (.t 50) (.t 54) (.c (.bool false)), none, [], []⟩,
  ⟨some 0, .mov (.t 55), none, [], []⟩] false)
 .ret)))))
def i18 : F := ⟨0, 56, j18, [.t 0]⟩
theorem b18 : i18.body = j18 := rfl
theorem q18 : i18.res = [.t 0] := rfl
theorem c18 : chkF Tryd.prog Tryd.f18 i18 = true := by kernel_rfl
theorem s18 {m : Model} {E : Nat → Model} (hE : ∀ f, Sound Tryd.prog f (E f)) (hm : ∀ args r, m args = some r → ∃ N, i18.ev E N args = some r) : Sound Tryd.prog 18 m := sound_of i18 Tryd.func18 rfl c18 hE hm
/-- bellwether/bellwetherref01.Step -/
def j19 : C := (.seq (.region [⟨some 2, .box (.t 0), none, [], []⟩,
  ⟨some 3, .box (.t 1), none, [], []⟩,
  ⟨some 4, .mov (.c (.int .i64 0)), none, [], []⟩] false)
 (.seq (.seq (.region [⟨some 7, .fad 0 (.t 3), none, [], []⟩,
  ⟨some 8, .load false 1 (.t 7), none, [], []⟩,
  ⟨some 9, .call false 16 [(.t 8), (.c (.int .i64 1)), (.c (.int .i64 13))], none, [], []⟩,
  ⟨some 10, .un .not (.t 9), none, [], []⟩] false)
 (.cond (.t 10) (.seq (.region [⟨some 4, .mov (.c (.int .i64 1)), none, [], []⟩] false)
 .ret) .skip))
 (.seq (.region [⟨some 11, .fad 0 (.t 3), none, [], []⟩,
  ⟨some 12, .load false 1 (.t 11), none, [], []⟩,
  ⟨some 13, .call false 16 [(.t 12), (.c (.int .i64 2)), (.c (.int .i64 5))], none, [], []⟩,
  ⟨some 5, .mov (.t 13), none, [], []⟩] false)
 (.seq (.seq (.region [⟨some 14, .mov (.t 5), none, [], []⟩,
  ⟨some 15, .un .not (.t 14), none, [], []⟩,
  ⟨some 16, .mov (.t 15), none, [], []⟩,
  ⟨some 17, .fad 1 (.t 3), some (16, true), [], []⟩,
  ⟨some 18, .load false 1 (.t 17), some (16, true), [], []⟩,
  ⟨some 19, .fad 0 (.t 2), some (16, true), [], []⟩,
  ⟨some 20, .load false 1 (.t 19), some (16, true), [], []⟩,
  ⟨some 21, .bin .sub (.t 20) (.c (.int .i64 1)), some (16, true), [], []⟩,
  ⟨some 22, .call false 16 [(.t 18), (.c (.int .i64 0)), (.t 21)], some (16, true), [], []⟩,
  ⟨some 23, .un .not (.t 22), some (16, true), [], []⟩,
  ⟨some 24, .pick (.t 16) (.t 23) (.c (.bool false)), none, [], []⟩] false)
 (.cond (.t 24) (.seq (.region [⟨some 4, .mov (.c (.int .i64 9)), none, [], []⟩] false)
 .ret) .skip))
 (.seq (.region [⟨some 6, .mov (.c (.bool true)), none, [], []⟩] false)
 (.seq (.block 0 (.seq (.region [⟨some 26, .fad 0 (.t 3), none, [], []⟩,
  ⟨some 27, .load false 1 (.t 26), none, [], []⟩,
  ⟨some 28, .bin .eql (.t 27) (.c (.int .i64 5)), none, [], []⟩,
  ⟨some 25, .mov (.t 28), none, [], []⟩] false)
 (.cond (.t 25) (.region [⟨some 29, .fad 3 (.t 3), none, [], []⟩,
  ⟨some 30, .load false 1 (.t 29), none, [], []⟩,
  ⟨some 31, .call false 16 [(.t 30), (.c (.int .i64 0)), (.c (.int .i64 255))], none, [], []⟩,
  ⟨some 32, .mov (.t 31), none, [], []⟩,
  ⟨some 33, .fad 2 (.t 3), some (32, true), [], []⟩,
  ⟨some 34, .load false 1 (.t 33), some (32, true), [], []⟩,
  ⟨some 35, .call false 16 [(.t 34), (.c (.int .i64 0)), (.c (.int .i64 255))], some (32, true), [], []⟩,
  ⟨some 36, .pick (.t 32) (.t 35) (.c (.bool false)), none, [], []⟩,
  ⟨some 37, .mov (.t 36), none, [], []⟩,
  ⟨some 38, .fad 4 (.t 3), some (37, true), [], []⟩,
  ⟨some 39, .load false 1 (.t 38), some (37, true), [], []⟩,
  ⟨some 40, .call false 16 [(.t 39), (.c (.int .i64 1)), (.c (.int .i64 255))], some (37, true), [], []⟩,
  ⟨some 41, .pick (.t 37) (.t 40) (.c (.bool false)), none, [], []⟩,
  ⟨some 6, .mov (.t 41), none, [], []⟩] false) (.seq (.region [⟨some 43, .mov (.t 5), none, [], []⟩,
  ⟨some 42, .mov (.t 43), none, [], []⟩] false)
 (.cond (.t 42) (.region [⟨some 44, .fad 3 (.t 3), none, [], []⟩,
  ⟨some 45, .load false 1 (.t 44), none, [], []⟩,
  ⟨some 46, .call false 16 [(.t 45), (.c (.int .i64 0)), (.c (.int .i64 255))], none, [], []⟩,
  ⟨some 6, .mov (.t 46), none, [], []⟩] false) (.seq (.region [⟨some 48, .fad 0 (.t 3), none, [], []⟩,
  ⟨some 49, .load false 1 (.t 48), none, [], []⟩,
  ⟨some 50, .bin .geq (.t 49) (.c (.int .i64 8)), none, [], []⟩,
  ⟨some 47, .mov (.t 50), none, [], []⟩] false)
 (.cond (.t 47) (.region [⟨some 51, .fad 2 (.t 3), none, [], []⟩,
  ⟨some 52, .load false 1 (.t 51), none, [], []⟩,
  ⟨some 53, .fad 1 (.t 2), none, [], []⟩,
  ⟨some 54, .load false 1 (.t 53), none, [], []⟩,
  ⟨some 55, .bin .sub (.t 54) (.c (.int .i64 1)), none, [], []⟩,
  ⟨some 56, .call false 16 [(.t 52), (.c (.int .i64 0)), (.t 55)], none, [], []⟩,
  ⟨some 57, .mov (.t 56), none, [], []⟩,
  ⟨some 58, .fad 0 (.t 3), some (57, true), [], []⟩,
  ⟨some 59, .load false 1 (.t 58), some (57, true), [], []⟩,
  ⟨some 60, .bin .neq (.t 59) (.c (.int .i64 11)), some (57, true), [], []⟩,
  ⟨some 61, .mov (.t 60), some (57, true), [], []⟩,
  ⟨some 62, .fad 3 (.t 3), some (61, false), [], []⟩,
  ⟨some 63, .load false 1 (.t 62), some (61, false), [], []⟩,
  ⟨some 64, .call false 16 [(.t 63), (.c (.int .i64 0)), (.c (.int .i64 255))], some (61, false), [], []⟩,
  ⟨some 65, .pick (.t 61) (.c (.bool true)) (.t 64), some (57, true), [], []⟩,
  ⟨some 66, .pick (.t 57) (.t 65) (.c (.bool false)), none, [], []⟩,
  ⟨some 6, .mov (.t 66), none, [], []⟩] false) .skip)))))))
 (.seq (.seq (.region [⟨some 67, .mov (.t 6), none, [], []⟩,
  ⟨some 68, .un .not (.t 67), none, [], []⟩] false)
 (.cond (.t 68) (.seq (.region [⟨some 4, .mov (.c (.int .i64 1)), none, [], []⟩] false)
 .ret) .skip))
 (.seq (.region [⟨some 4, .mov (.c (.int .i64 0)), none, [], []⟩] false)
 .ret))))))))
def i19 : F := ⟨2, 69, j19, [.t 4]⟩
theorem b19 : i19.body = j19 := rfl
theorem q19 : i19.res = [.t 4] := rfl
theorem c19 : chkF Tryd.prog Tryd.f19 i19 = true := by kernel_rfl
theorem s19 {m : Model} {E : Nat → Model} (hE : ∀ f, Sound Tryd.prog f (E f)) (hm : ∀ args r, m args = some r → ∃ N, i19.ev E N args = some r) : Sound Tryd.prog 19 m := sound_of i19 Tryd.func19 rfl c19 hE hm
/-- bellwether/bellwetherlaw09.Conf -/
def j20 : C := (.seq (.region [⟨some 2, .alloc [.int .i64 0, .int .i64 0, .int .i64 0, .int .i64 0, .int .i64 0, .int .i64 0, .int .i64 0], none, [], []⟩] false)
 (.seq (.region [⟨some 3, .mov (.t 0), none, [], []⟩,
  ⟨some 4, .conv .u64 (.t 3), none, [], []⟩,
  ⟨some 5, .bin .rem (.t 4) (.c (.int .u64 1000000)), none, [], []⟩,
  ⟨some 6, .conv .i64 (.t 5), none, [], []⟩,
  ⟨some 0, .mov (.t 6), none, [], []⟩] false)
 (.seq (.region [⟨some 7, .mov (.t 0), none, [], []⟩,
  ⟨some 8, .bin .rem (.t 7) (.c (.int .i64 8)), none, [], []⟩,
  ⟨some 9, .bin .add (.c (.int .i64 1)) (.t 8), none, [], []⟩,
  ⟨some 10, .mov (.t 0), none, [], []⟩,
  ⟨some 11, .bin .quo (.t 10) (.c (.int .i64 8)), none, [], []⟩,
  ⟨some 12, .bin .rem (.t 11) (.c (.int .i64 4)), none, [], []⟩,
  ⟨some 13, .bin .add (.c (.int .i64 1)) (.t 12), none, [], []⟩,
  ⟨some 14, .mov (.t 0), none, [], []⟩,
  ⟨some 15, .bin .quo (.t 14) (.c (.int .i64 32)), none, [], []⟩,
  ⟨some 16, .bin .rem (.t 15) (.c (.int .i64 4)), none, [], []⟩,
  ⟨some 17, .bin .add (.c (.int .i64 1)) (.t 16), none, [], []⟩,
  ⟨some 18, .mov (.t 0), none, [], []⟩,
  ⟨some 19, .bin .quo (.t 18) (.c (.int .i64 128)), none, [], []⟩,
  ⟨some 20, .bin .rem (.t 19) (.c (.int .i64 8)), none, [], []⟩,
  ⟨some 21, .bin .add (.c (.int .i64 1)) (.t 20), none, [], []⟩,
  ⟨some 22, .mov (.t 0), none, [], []⟩,
  ⟨some 23, .bin .quo (.t 22) (.c (.int .i64 1024)), none, [], []⟩,
  ⟨some 24, .bin .rem (.t 23) (.c (.int .i64 16)), none, [], []⟩,
  ⟨some 25, .bin .add (.c (.int .i64 1)) (.t 24), none, [], []⟩,
  ⟨some 26, .mov (.t 0), none, [], []⟩,
  ⟨some 27, .bin .quo (.t 26) (.c (.int .i64 16)), none, [], []⟩,
  ⟨some 28, .bin .rem (.t 27) (.c (.int .i64 16)), none, [], []⟩,
  ⟨some 29, .bin .add (.c (.int .i64 1)) (.t 28), none, [], []⟩,
  ⟨some 30, .mov (.t 0), none, [], []⟩,
  ⟨some 31, .bin .quo (.t 30) (.c (.int .i64 64)), none, [], []⟩,
  ⟨some 32, .bin .rem (.t 31) (.c (.int .i64 31)), none, [], []⟩,
  ⟨some 33, .bin .add (.c (.int .i64 2)) (.t 32), none, [], []⟩,
  ⟨some 34, .build [.int .i64 0, .int .i64 0, .int .i64 0, .int .i64 0, .int .i64 0, .int .i64 0, .int .i64 0] [(0, 1, (.t 9)), (1, 1, (.t 13)), (2, 1, (.t 17)), (3, 1, (.t 21)), (4, 1, (.t 25)), (5, 1, (.t 29)), (6, 1, (.t 33))], none, [], []⟩,
  ⟨none, .store none 7 (.t 2) (.t 34), none, [], []⟩] false)
 .ret)))
def i20 : F := ⟨1, 35, j20, [.c 2 7 true]⟩
theorem b20 : i20.body = j20 := rfl
theorem q20 : i20.res = [.c 2 7 true] := rfl
theorem c20 : chkF Tryd.prog Tryd.f20 i20 = true := by kernel_rfl
theorem s20 {m : Model} {E : Nat → Model} (hE : ∀ f, Sound Tryd.prog f (E f)) (hm : ∀ args r, m args = some r → ∃ N, i20.ev E N args = some r) : Sound Tryd.prog 20 m := sound_of i20 Tryd.func20 rfl c20 hE hm
/-- slices.ContainsFunc   int int  -/
def j21 : C := (.seq (.region [⟨some 4, .mov (.c (.bool false)), none, [], []⟩] false)
 (.seq (.region [⟨some 5, .mov (.t 0), none, [], []⟩,
  ⟨some 6, .mov (.t 1), none, [], []⟩,
  ⟨some 7, .call false 26 [(.t 5), (.t 6)], none, [], []⟩,
  ⟨some 8, .bin .geq (.t 7) (.c (.int .i64 0)), none, [], []⟩,
  ⟨some 4, .mov (.t 8), none, [], []⟩] false)
 .ret))
def i21 : F := ⟨2, 9, j21, [.t 4]⟩
theorem b21 : i21.body = j21 := rfl
theorem q21 : i21.res = [.t 4] := rfl
theorem c21 : chkF Tryd.prog Tryd.f21 i21 = true := by kernel_rfl
theorem s21 {m : Model} {E : Nat → Model} (hE : ∀ f, Sound Tryd.prog f (E f)) (hm : ∀ args r, m args = some r → ∃ N, i21.ev E N args = some r) : Sound Tryd.prog 21 m := sound_of i21 Tryd.func21 rfl c21 hE hm
/-- bellwether/script.Bytes$1 -/
def j22 : C := (.seq (.region [⟨some 2, .mov (.c (.bool false)), none, [], []⟩] false)
 (.seq (.region [⟨some 3, .mov (.t 0), none, [], []⟩,
  ⟨some 4, .bin .lss (.t 3) (.c (.int .i64 0)), none, [], []⟩,
  ⟨some 5, .mov (.t 4), none, [], []⟩,
  ⟨some 6, .mov (.t 0), some (5, false), [], []⟩,
  ⟨some 7, .bin .gtr (.t 6) (.c (.int .i64 255)), some (5, false), [], []⟩,
  ⟨some 8, .pick (.t 5) (.c (.bool true)) (.t 7), none, [], []⟩,
  ⟨some 2, .mov (.t 8), none, [], []⟩] false)
 .ret))
def i22 : F := ⟨1, 9, j22, [.t 2]⟩
theorem b22 : i22.body = j22 := rfl
theorem q22 : i22.res = [.t 2] := rfl
theorem c22 : chkF Tryd.prog Tryd.f22 i22 = true := by kernel_rfl
theorem s22 {m : Model} {E : Nat → Model} (hE : ∀ f, Sound Tryd.prog f (E f)) (hm : ∀ args r, m args = some r → ∃ N, i22.ev E N args = some r) : Sound Tryd.prog 22 m := sound_of i22 Tryd.func22 rfl c22 hE hm
theorem x23 : Sound Tryd.prog 23 XE.errnoM := XE.errno_ok
/-- bellwether/script.config -/
def j24 : C := (.seq (.region [⟨some 1, .box (.t 0), none, [], []⟩,
  ⟨some 2, .mov (.c (.k .nilIface)), none, [], []⟩] false)
 (.seq (.region [⟨some 3, .fad 0 (.t 1), none, [6, 7, 9, 10, 12, 13, 15, 16, 18, 19, 21, 22], []⟩,
  ⟨some 4, .load false 1 (.t 3), none, [6, 7, 9, 10, 12, 13, 15, 16, 18, 19, 21, 22], [0]⟩,
  ⟨some 5, .call false 30 [(.c (.k (.string ⟨#[110, 111, 100, 101, 115]⟩))), (.t 4), (.c (.int .i64 1)), (.c (.int .i64 8)), (.c (.int .i64 13))], none, [6, 7, 9, 10, 12, 13, 15, 16, 18, 19, 21, 22], [0, 1]⟩,
  ⟨some 6, .fad 1 (.t 1), none, [3, 4, 5, 9, 10, 12, 13, 15, 16, 18, 19, 21, 22], []⟩,
  ⟨some 7, .load false 1 (.t 6), none, [3, 4, 5, 9, 10, 12, 13, 15, 16, 18, 19, 21, 22], [3]⟩,
  ⟨some 8, .call false 30 [(.c (.k (.string ⟨#[116, 111, 112, 105, 99, 115]⟩))), (.t 7), (.c (.int .i64 1)), (.c (.int .i64 4)), (.c (.int .i64 13))], none, [9, 10, 12, 13, 15, 16, 18, 19, 21, 22], [0, 1, 2, 3, 4]⟩,
  ⟨some 9, .fad 2 (.t 1), none, [3, 4, 5, 6, 7, 8, 12, 13, 15, 16, 18, 19, 21, 22], []⟩,
  ⟨some 10, .load false 1 (.t 9), none, [3, 4, 5, 6, 7, 8, 12, 13, 15, 16, 18, 19, 21, 22], [6]⟩,
  ⟨some 11, .call false 30 [(.c (.k (.string ⟨#[107, 105, 100, 115]⟩))), (.t 10), (.c (.int .i64 1)), (.c (.int .i64 4)), (.c (.int .i64 13))], none, [12, 13, 15, 16, 18, 19, 21, 22], [0, 1, 2, 3, 4, 5, 6, 7]⟩,
  ⟨some 12, .fad 3 (.t 1), none, [3, 4, 5, 6, 7, 8, 9, 10, 11, 15, 16, 18, 19, 21, 22], []⟩,
  ⟨some 13, .load false 1 (.t 12), none, [3, 4, 5, 6, 7, 8, 9, 10, 11, 15, 16, 18, 19, 21, 22], [9]⟩,
  ⟨some 14, .call false 30 [(.c (.k (.string ⟨#[100, 101, 112, 116, 104]⟩))), (.t 13), (.c (.int .i64 1)), (.c (.int .i64 8)), (.c (.int .i64 13))], none, [15, 16, 18, 19, 21, 22], [0, 1, 2, 3, 4, 5, 6, 7, 8, 9, 10]⟩,
  ⟨some 15, .fad 4 (.t 1), none, [3, 4, 5, 6, 7, 8, 9, 10, 11, 12, 13, 14, 18, 19, 21, 22], []⟩,
  ⟨some 16, .load false 1 (.t 15), none, [3, 4, 5, 6, 7, 8, 9, 10, 11, 12, 13, 14, 18, 19, 21, 22], [12]⟩,
  ⟨some 17, .call false 30 [(.c (.k (.string ⟨#[107, 101, 101, 112]⟩))), (.t 16), (.c (.int .i64 1)), (.c (.int .i64 16)), (.c (.int .i64 13))], none, [18, 19, 21, 22], [0, 1, 2, 3, 4, 5, 6, 7, 8, 9, 10, 11, 12, 13]⟩,
  ⟨some 18, .fad 5 (.t 1), none, [3, 4, 5, 6, 7, 8, 9, 10, 11, 12, 13, 14, 15, 16, 17, 21, 22], []⟩,
  ⟨some 19, .load false 1 (.t 18), none, [3, 4, 5, 6, 7, 8, 9, 10, 11, 12, 13, 14, 15, 16, 17, 21, 22], [15]⟩,
  ⟨some 20, .call false 30 [(.c (.k (.string ⟨#[119, 105, 110, 100, 111, 119]⟩))), (.t 19), (.c (.int .i64 1)), (.c (.int .i64 16)), (.c (.int .i64 13))], none, [21, 22], [0, 1, 2, 3, 4, 5, 6, 7, 8, 9, 10, 11, 12, 13, 14, 15, 16]⟩,
  ⟨some 21, .fad 6 (.t 1), none, [3, 4, 5, 6, 7, 8, 9, 10, 11, 12, 13, 14, 15, 16, 17, 18, 19, 20], []⟩,
  ⟨some 22, .load false 1 (.t 21), none, [3, 4, 5, 6, 7, 8, 9, 10, 11, 12, 13, 14, 15, 16, 17, 18, 19, 20], [18]⟩,
  ⟨some 23, .call false 30 [(.c (.k (.string ⟨#[113, 117, 101, 117, 101]⟩))), (.t 22), (.c (.int .i64 2)), (.c (.int .i64 32)), (.c (.int .i64 13))], none, [], [0, 1, 2, 3, 4, 5, 6, 7, 8, 9, 10, 11, 12, 13, 14, 15, 16, 17, 18, 19]⟩,
  ⟨some 24, .bsr 53 1 7 [.k .nilIface] [(0, (.t 5)), (1, (.t 8)), (2, (.t 11)), (3, (.t 14)), (4, (.t 17)), (5, (.t 20)), (6, (.t 23))], none, [], [0, 1, 2, 3, 4, 5, 6, 7, 8, 9, 10, 11, 12, 13, 14, 15, 16, 17, 18, 19, 20]⟩,
  ⟨some 25, .call false 29 [(.t 24)], none, [], [0, 1, 2, 3, 4, 5, 6, 7, 8, 9, 10, 11, 12, 13, 14, 15, 16, 17, 18, 19, 20, 21]⟩,
  ⟨some 2, .mov (.t 25), none, [], [0, 1, 2, 3, 4, 5, 6, 7, 8, 9, 10, 11, 12, 13, 14, 15, 16, 17, 18, 19, 20, 21, 22]⟩] true)
 .ret))
def i24 : F := ⟨1, 26, j24, [.t 2]⟩
theorem b24 : i24.body = j24 := rfl
theorem q24 : i24.res = [.t 2] := rfl
theorem c24 : chkF Tryd.prog Tryd.f24 i24 = true := by kernel_rfl
theorem s24 {m : Model} {E : Nat → Model} (hE : ∀ f, Sound Tryd.prog f (E f)) (hm : ∀ args r, m args = some r → ∃ N, i24.ev E N args = some r) : Sound Tryd.prog 24 m := sound_of i24 Tryd.func24 rfl c24 hE hm
/-- bellwether/script.fields -/
def j25 : C := (.seq (.region [⟨some 2, .box (.t 0), none, [], []⟩,
  ⟨some 3, .box (.t 1), none, [], []⟩,
  ⟨some 4, .mov (.c (.k .nilIface)), none, [], []⟩] false)
 (.seq (.seq (.region [⟨some 5, .fad 0 (.t 3), none, [], []⟩,
  ⟨some 6, .load false 1 (.t 5), none, [], []⟩] false)
 (.block 0 (.seq (.seq (.region [⟨some 8, .bin .eql (.t 6) (.c (.int .i64 1)), none, [], []⟩,
  ⟨some 7, .mov (.t 8), none, [], []⟩] false)
 (.cond (.t 7) .skip (.seq (.region [⟨some 9, .bin .eql (.t 6) (.c (.int .i64 6)), none, [], []⟩,
  ⟨some 7, .mov (.t 9), none, [], []⟩] false)
 (.cond (.t 7) .skip (.region [⟨some 10, .bin .eql (.t 6) (.c (.int .i64 7)), none, [], []⟩,
  ⟨some 7, .mov (.t 10), none, [], []⟩] false)))))
 (.cond (.t 7) (.seq (.region [⟨some 11, .load true 7 (.t 2), none, [], []⟩,
  ⟨some 12, .load true 5 (.t 3), none, [], []⟩,
  ⟨some 13, .call false 31 [(.t 11), (.t 12)], none, [], []⟩,
  ⟨some 4, .mov (.t 13), none, [], []⟩] false)
 .ret) (.seq (.seq (.region [⟨some 15, .bin .eql (.t 6) (.c (.int .i64 8)), none, [], []⟩,
  ⟨some 14, .mov (.t 15), none, [], []⟩] false)
 (.cond (.t 14) .skip (.seq (.region [⟨some 16, .bin .eql (.t 6) (.c (.int .i64 9)), none, [], []⟩,
  ⟨some 14, .mov (.t 16), none, [], []⟩] false)
 (.cond (.t 14) .skip (.seq (.region [⟨some 17, .bin .eql (.t 6) (.c (.int .i64 10)), none, [], []⟩,
  ⟨some 14, .mov (.t 17), none, [], []⟩] false)
 (.cond (.t 14) .skip (.seq (.region [⟨some 18, .bin .eql (.t 6) (.c (.int .i64 12)), none, [], []⟩,
  ⟨some 14, .mov (.t 18), none, [], []⟩] false)
 (.cond (.t 14) .skip (.region [⟨some 19, .bin .eql (.t 6) (.c (.int .i64 13)), none, [], []⟩,
  ⟨some 14, .mov (.t 19), none, [], []⟩] false)))))))))
 (.cond (.t 14) (.seq (.region [⟨some 20, .load true 7 (.t 2), none, [21, 23, 24], []⟩,
  ⟨some 21, .load true 5 (.t 3), none, [20, 23, 24], []⟩,
  ⟨some 22, .call false 31 [(.t 20), (.t 21)], none, [23, 24], [0, 1]⟩,
  ⟨some 23, .load true 7 (.t 2), none, [20, 21, 22, 24], []⟩,
  ⟨some 24, .load true 5 (.t 3), none, [20, 21, 22, 23], []⟩,
  ⟨some 25, .call false 32 [(.t 23), (.t 24)], none, [], [0, 1, 2, 3, 4]⟩,
  ⟨some 26, .bsr 53 1 2 [.k .nilIface] [(0, (.t 22)), (1, (.t 25))], none, [], [0, 1, 2, 3, 4, 5]⟩,
  ⟨some 27, .call false 29 [(.t 26)], none, [], [0, 1, 2, 3, 4, 5, 6]⟩,
  ⟨some 4, .mov (.t 27), none, [], [0, 1, 2, 3, 4, 5, 6, 7]⟩] true)
 .ret) (.seq (.region [⟨some 29, .bin .eql (.t 6) (.c (.int .i64 11)), none, [], []⟩,
  ⟨some 28, .mov (.t 29), none, [], []⟩] false)
 (.cond (.t 28) (.seq (.region [⟨some 30, .load true 7 (.t 2), none, [31, 33, 34, 36, 37], []⟩,
  ⟨some 31, .load true 5 (.t 3), none, [30, 33, 34, 36, 37], []⟩,
  ⟨some 32, .call false 31 [(.t 30), (.t 31)], none, [33, 34, 36, 37], [0, 1]⟩,
  ⟨some 33, .load true 7 (.t 2), none, [30, 31, 32, 34, 36, 37], []⟩,
  ⟨some 34, .load true 5 (.t 3), none, [30, 31, 32, 33, 36, 37], []⟩,
  ⟨some 35, .call false 32 [(.t 33), (.t 34)], none, [36, 37], [0, 1, 2, 3, 4]⟩,
  ⟨some 36, .fad 3 (.t 3), none, [30, 31, 32, 33, 34, 35], []⟩,
  ⟨some 37, .load false 1 (.t 36), none, [30, 31, 32, 33, 34, 35], [6]⟩,
  ⟨some 38, .call false 33 [(.c (.k (.string ⟨#[118, 97, 108, 117, 101]⟩))), (.t 37), (.c (.int .i64 0))], none, [], [0, 1, 2, 3, 4, 5, 6, 7]⟩,
  ⟨some 39, .bsr 53 1 3 [.k .nilIface] [(0, (.t 32)), (1, (.t 35)), (2, (.t 38))], none, [], [0, 1, 2, 3, 4, 5, 6, 7, 8]⟩,
  ⟨some 40, .call false 29 [(.t 39)], none, [], [0, 1, 2, 3, 4, 5, 6, 7, 8, 9]⟩,
  ⟨some 4, .mov (.t 40), none, [], [0, 1, 2, 3, 4, 5, 6, 7, 8, 9, 10]⟩] true)
 .ret) (.seq (.seq (.region [⟨some 42, .bin .eql (.t 6) (.c (.int .i64 2)), none, [], []⟩,
  ⟨some 41, .mov (.t 42), none, [], []⟩] false)
 (.cond (.t 41) .skip (.seq (.region [⟨some 43, .bin .eql (.t 6) (.c (.int .i64 3)), none, [], []⟩,
  ⟨some 41, .mov (.t 43), none, [], []⟩] false)
 (.cond (.t 41) .skip (.region [⟨some 44, .bin .eql (.t 6) (.c (.int .i64 4)), none, [], []⟩,
  ⟨some 41, .mov (.t 44), none, [], []⟩] false)))))
 (.cond (.t 41) (.seq (.region [⟨some 45, .fad 3 (.t 3), none, [], []⟩,
  ⟨some 46, .load false 1 (.t 45), none, [], []⟩,
  ⟨some 47, .call false 33 [(.c (.k (.string ⟨#[118, 97, 108, 117, 101]⟩))), (.t 46), (.c (.int .i64 0))], none, [], []⟩,
  ⟨some 4, .mov (.t 47), none, [], []⟩] false)
 .ret) (.seq (.region [⟨some 49, .bin .eql (.t 6) (.c (.int .i64 5)), none, [], []⟩,
  ⟨some 48, .mov (.t 49), none, [], []⟩] false)
 (.cond (.t 48) (.seq (.region [⟨some 50, .fad 3 (.t 3), none, [53, 54, 56, 57], []⟩,
  ⟨some 51, .load false 1 (.t 50), none, [53, 54, 56, 57], [0]⟩,
  ⟨some 52, .call false 33 [(.c (.k (.string ⟨#[118, 97, 108, 117, 101]⟩))), (.t 51), (.c (.int .i64 0))], none, [53, 54, 56, 57], [0, 1]⟩,
  ⟨some 53, .fad 2 (.t 3), none, [50, 51, 52, 56, 57], []⟩,
  ⟨some 54, .load false 1 (.t 53), none, [50, 51, 52, 56, 57], [3]⟩,
  ⟨some 55, .call false 33 [(.c (.k (.string ⟨#[112, 108, 97, 99, 101]⟩))), (.t 54), (.c (.int .i64 0))], none, [56, 57], [0, 1, 2, 3, 4]⟩,
  ⟨some 56, .fad 4 (.t 3), none, [50, 51, 52, 53, 54, 55], []⟩,
  ⟨some 57, .load false 1 (.t 56), none, [50, 51, 52, 53, 54, 55], [6]⟩,
  ⟨some 58, .call false 33 [(.c (.k (.string ⟨#[109, 97, 115, 107]⟩))), (.t 57), (.c (.int .i64 1))], none, [], [0, 1, 2, 3, 4, 5, 6, 7]⟩,
  ⟨some 59, .bsr 53 1 3 [.k .nilIface] [(0, (.t 52)), (1, (.t 55)), (2, (.t 58))], none, [], [0, 1, 2, 3, 4, 5, 6, 7, 8]⟩,
  ⟨some 60, .call false 29 [(.t 59)], none, [], [0, 1, 2, 3, 4, 5, 6, 7, 8, 9]⟩,
  ⟨some 4, .mov (.t 60), none, [], [0, 1, 2, 3, 4, 5, 6, 7, 8, 9, 10]⟩] true)
 .ret) .skip))))))))))))
 (.seq (.region [⟨some 61, .fad 0 (.t 3), none, [], []⟩,
  ⟨some 62, .load false 1 (.t 61), none, [], []⟩,
  ⟨some 63, .call false 30 [(.c (.k (.string ⟨#[107, 105, 110, 100]⟩))), (.t 62), (.c (.int .i64 1)), (.c (.int .i64 13)), (.c (.int .i64 1))], none, [], []⟩,
  ⟨some 4, .mov (.t 63), none, [], []⟩] false)
 .ret)))
def i25 : F := ⟨2, 64, j25, [.t 4]⟩
theorem b25 : i25.body = j25 := rfl
theorem q25 : i25.res = [.t 4] := rfl
theorem c25 : chkF Tryd.prog Tryd.f25 i25 = true := by kernel_rfl
theorem s25 {m : Model} {E : Nat → Model} (hE : ∀ f, Sound Tryd.prog f (E f)) (hm : ∀ args r, m args = some r → ∃ N, i25.ev E N args = some r) : Sound Tryd.prog 25 m := sound_of i25 Tryd.func25 rfl c25 hE hm
/-- slices.IndexFunc   int int  -/
def j26 : C := (.seq (.region [⟨some 4, .mov (.c (.int .i64 0)), none, [], []⟩] false)
 (.seq (.seq (.region [⟨some 6, .mov (.t 0), none, [], []⟩,
  ⟨some 7, .len (.t 6), none, [], []⟩,
  ⟨some 8, .mov (.c (.int .i64 0)), none, [], []⟩] false)
 (.block 0 (.loop (.keep [0, 1, 7, 8] (.seq (.region [⟨some 9, .bin .lss (.t 8) (.t 7), none, [], []⟩] false)
 (.seq (.cond (.t 9) .skip (.exit 0))
 (.seq (.block 1 (.seq (.region [⟨some 10, .mov (.t 8), none, [], []⟩,
  ⟨some 5, .mov (.t 10), none, [], []⟩] false)
 (.seq (.region [⟨some 11, .mov (.t 1), none, [], []⟩,
  ⟨some 12, .mov (.t 0), none, [], []⟩,
  ⟨some 13, .mov (.t 5), none, [], []⟩,
  ⟨some 14, .iad 1 (.t 12) (.t 13), none, [], []⟩,
  ⟨some 15, .load false 1 (.t 14), none, [], []⟩,
  ⟨some 16, .callv false (.t 11) [(.t 15)], none, [], []⟩] false)
 (.cond (.t 16) (.seq (.region [⟨some 17, .mov (.t 5), none, [], []⟩,
  ⟨some 4, .mov (.t 17), none, [], []⟩] false)
 .ret) .skip))))
 (.region [⟨some 18, .bin .add (.t 8) (.c (.int .i64 1)), none, [], []⟩,
  ⟨some 8, .mov (.t 18), none, [], []⟩] false))))))))
 (.seq (.region [⟨some 4, .mov (.c (.int .i64 (-1))), none, [], []⟩] false)
 .ret)))
def i26 : F := ⟨2, 19, j26, [.t 4]⟩
theorem b26 : i26.body = j26 := rfl
theorem q26 : i26.res = [.t 4] := rfl
theorem c26 : chkF Tryd.prog Tryd.f26 i26 = true := by kernel_rfl
theorem s26 {m : Model} {E : Nat → Model} (hE : ∀ f, Sound Tryd.prog f (E f)) (hm : ∀ args r, m args = some r → ∃ N, i26.ev E N args = some r) : Sound Tryd.prog 26 m := sound_of i26 Tryd.func26 rfl c26 hE hm
/-- errors.Join -/
def j29 : C := (.seq (.region [⟨some 2, .mov (.c (.k .nilIface)), none, [], []⟩] false)
 (.seq (.region [⟨some 3, .mov (.c (.int .i64 0)), none, [], []⟩] false)
 (.seq (.seq (.region [⟨some 9, .mov (.t 0), none, [], []⟩,
  ⟨some 10, .len (.t 9), none, [], []⟩,
  ⟨some 11, .mov (.c (.int .i64 0)), none, [], []⟩] false)
 (.block 0 (.loop (.keep [0, 3, 9, 10, 11] (.seq (.region [⟨some 12, .bin .lss (.t 11) (.t 10), none, [], []⟩] false)
 (.seq (.cond (.t 12) .skip (.exit 0))
 (.seq (.block 1 (.seq (.region [⟨some 13, .iad 1 (.t 9) (.t 11), none, [], []⟩,
  ⟨some 14, .load false 1 (.t 13), none, [], []⟩,
  ⟨some 5, .mov (.t 14), none, [], []⟩] false)
 (.seq (.region [⟨some 15, .mov (.t 5), none, [], []⟩,
  ⟨some 16, .ifn true (.t 15), none, [], []⟩] false)
 (.cond (.t 16) (.region [⟨some 17, .mov (.t 3), none, [], []⟩,
  ⟨some 18, .bin .add (.t 17) (.c (.int .i64 1)), none, [], []⟩,
  ⟨some 3, .mov (.t 18), none, [], []⟩] false) .skip))))
 (.region [⟨some 19, .bin .add (.t 11) (.c (.int .i64 1)), none, [], []⟩,
  ⟨some 11, .mov (.t 19), none, [], []⟩] false))))))))
 (.seq (.seq (.region [⟨some 20, .mov (.t 3), none, [], []⟩,
  ⟨some 21, .bin .eql (.t 20) (.c (.int .i64 0)), none, [], []⟩] false)
 (.cond (.t 21) (.seq (.region [⟨some 2, .mov (.c (.k .nilIface)), none, [], []⟩] false)
 .ret) .skip))
 (.seq (.region [⟨some 22, .mov (.t 3), none, [], []⟩,
  ⟨some 23, .mkz 53 1 16 [.k .nilIface] (.t 22), none, [], []⟩,
  ⟨some 24, .build [.row []] [(0, 1, (.t 23))], none, [], []⟩,
  ⟨some 25, .box (.t 24), none, [], []⟩,
  ⟨some 6, .mov (.t 25), none, [], []⟩] false)
 (.seq (.seq (.region [⟨some 26, .mov (.t 0), none, [], []⟩,
  ⟨some 27, .len (.t 26), none, [], []⟩,
  ⟨some 28, .mov (.c (.int .i64 0)), none, [], []⟩] false)
 (.block 2 (.loop (.keep [6, 26, 27, 28] (.seq (.region [⟨some 29, .bin .lss (.t 28) (.t 27), none, [], []⟩] false)
 (.seq (.cond (.t 29) .skip (.exit 2))
 (.seq (.block 3 (.seq (.region [⟨some 30, .iad 1 (.t 26) (.t 28), none, [], []⟩,
  ⟨some 31, .load false 1 (.t 30), none, [], []⟩,
  ⟨some 8, .mov (.t 31), none, [], []⟩] false)
 (.seq (.region [⟨some 32, .mov (.t 8), none, [], []⟩,
  ⟨some 33, .ifn true (.t 32), none, [], []⟩] false)
 (.cond (.t 33) (.region [⟨some 34, .mov (.t 6), none, [], []⟩,
  ⟨some 35, .mov (.t 6), none, [], []⟩,
  ⟨some 36, .nck (.t 35), none, [], []⟩,
  ⟨some 37, .fad 0 (.t 36), none, [], []⟩,
  ⟨some 38, .load false 1 (.t 37), none, [], []⟩,
  ⟨some 39, .mov (.t 8), none, [], []⟩,
  ⟨some 40, .bsl 53 1 1 [.k .nilIface] [(0, (.t 39))], none, [], []⟩,
  ⟨some 41, .app 53 1 16 (.t 38) (.t 40), none, [], []⟩,
  ⟨some 42, .nck (.t 34), none, [], []⟩,
  ⟨some 43, .fad 0 (.t 42), none, [], []⟩,
  ⟨none, .store none 1 (.t 43) (.t 41), none, [], []⟩] false) .skip))))
 (.region [⟨some 44, .bin .add (.t 28) (.c (.int .i64 1)), none, [], []⟩,
  ⟨some 28, .mov (.t 44), none, [], []⟩] false))))))))
 (.seq (.region [⟨some 45, .mov (.t 6), none, [], []⟩,
  ⟨some 46, .mkp 78 (.t 45), none, [], []⟩,
  ⟨some 2, .mov (.t 46), none, [], []⟩] false)
 .ret)))))))
def i29 : F := ⟨1, 47, j29, [.t 2]⟩
theorem b29 : i29.body = j29 := rfl
theorem q29 : i29.res = [.t 2] := rfl
theorem c29 : chkF Tryd.prog Tryd.f29 i29 = true := by kernel_rfl
theorem s29 {m : Model} {E : Nat → Model} (hE : ∀ f, Sound Tryd.prog f (E f)) (hm : ∀ args r, m args = some r → ∃ N, i29.ev E N args = some r) : Sound Tryd.prog 29 m := sound_of i29 Tryd.func29 rfl c29 hE hm
/-- bellwether/script.field -/
def j30 : C := (.seq (.region [⟨some 10, .mov (.c (.k .nilIface)), none, [], []⟩] false)
 (.seq (.seq (.region [⟨some 11, .mov (.t 1), none, [], []⟩,
  ⟨some 12, .mov (.t 2), none, [], []⟩,
  ⟨some 13, .bin .lss (.t 11) (.t 12), none, [], []⟩,
  ⟨some 14, .mov (.t 13), none, [], []⟩,
  ⟨some 15, .mov (.t 1), some (14, false), [], []⟩,
  ⟨some 16, .mov (.t 3), some (14, false), [], []⟩,
  ⟨some 17, .bin .gtr (.t 15) (.t 16), some (14, false), [], []⟩,
  ⟨some 18, .pick (.t 14) (.c (.bool true)) (.t 17), none, [], []⟩] false)
 (.cond (.t 18) (.seq (.region [⟨some 19, .mov (.t 0), none, [], []⟩,
  ⟨some 20, .mov (.t 4), none, [], []⟩,
  ⟨some 21, .mki 29 (.t 20), none, [], []⟩,
  ⟨some 22, .build [.k (.string ⟨#[]⟩), .k .nilIface] [(0, 1, (.t 19)), (1, 1, (.t 21))], none, [], []⟩,
  ⟨some 23, .box (.t 22), none, [], []⟩,
  ⟨some 24, .mkp 81 (.t 23), none, [], []⟩,
  ⟨some 10, .mov (.t 24), none, [], []⟩] false)
 .ret) .skip))
 (.seq (.region [⟨some 10, .mov (.c (.k .nilIface)), none, [], []⟩] false)
 .ret)))
def i30 : F := ⟨5, 25, j30, [.t 10]⟩
theorem b30 : i30.body = j30 := rfl
theorem q30 : i30.res = [.t 10] := rfl
theorem c30 : chkF Tryd.prog Tryd.f30 i30 = true := by kernel_rfl
theorem s30 {m : Model} {E : Nat → Model} (hE : ∀ f, Sound Tryd.prog f (E f)) (hm : ∀ args r, m args = some r → ∃ N, i30.ev E N args = some r) : Sound Tryd.prog 30 m := sound_of i30 Tryd.func30 rfl c30 hE hm
/-- bellwether/script.node -/
def j31 : C := (.seq (.region [⟨some 2, .box (.t 0), none, [], []⟩,
  ⟨some 3, .box (.t 1), none, [], []⟩,
  ⟨some 4, .mov (.c (.k .nilIface)), none, [], []⟩] false)
 (.seq (.region [⟨some 5, .fad 1 (.t 3), none, [], []⟩,
  ⟨some 6, .load false 1 (.t 5), none, [], []⟩,
  ⟨some 7, .fad 0 (.t 2), none, [], []⟩,
  ⟨some 8, .load false 1 (.t 7), none, [], []⟩,
  ⟨some 9, .bin .sub (.t 8) (.c (.int .i64 1)), none, [], []⟩,
  ⟨some 10, .call false 30 [(.c (.k (.string ⟨#[110, 111, 100, 101]⟩))), (.t 6), (.c (.int .i64 0)), (.t 9), (.c (.int .i64 9))], none, [], []⟩,
  ⟨some 4, .mov (.t 10), none, [], []⟩] false)
 .ret))
def i31 : F := ⟨2, 11, j31, [.t 4]⟩
theorem b31 : i31.body = j31 := rfl
theorem q31 : i31.res = [.t 4] := rfl
theorem c31 : chkF Tryd.prog Tryd.f31 i31 = true := by kernel_rfl
theorem s31 {m : Model} {E : Nat → Model} (hE : ∀ f, Sound Tryd.prog f (E f)) (hm : ∀ args r, m args = some r → ∃ N, i31.ev E N args = some r) : Sound Tryd.prog 31 m := sound_of i31 Tryd.func31 rfl c31 hE hm
/-- bellwether/script.topic -/
def j32 : C := (.seq (.region [⟨some 2, .box (.t 0), none, [], []⟩,
  ⟨some 3, .box (.t 1), none, [], []⟩,
  ⟨some 4, .mov (.c (.k .nilIface)), none, [], []⟩] false)
 (.seq (.region [⟨some 5, .fad 2 (.t 3), none, [], []⟩,
  ⟨some 6, .load false 1 (.t 5), none, [], []⟩,
  ⟨some 7, .fad 1 (.t 2), none, [], []⟩,
  ⟨some 8, .load false 1 (.t 7), none, [], []⟩,
  ⟨some 9, .bin .sub (.t 8) (.c (.int .i64 1)), none, [], []⟩,
  ⟨some 10, .call false 30 [(.c (.k (.string ⟨#[116, 111, 112, 105, 99]⟩))), (.t 6), (.c (.int .i64 0)), (.t 9), (.c (.int .i64 1))], none, [], []⟩,
  ⟨some 4, .mov (.t 10), none, [], []⟩] false)
 .ret))
def i32 : F := ⟨2, 11, j32, [.t 4]⟩
theorem b32 : i32.body = j32 := rfl
theorem q32 : i32.res = [.t 4] := rfl
theorem c32 : chkF Tryd.prog Tryd.f32 i32 = true := by kernel_rfl
theorem s32 {m : Model} {E : Nat → Model} (hE : ∀ f, Sound Tryd.prog f (E f)) (hm : ∀ args r, m args = some r → ∃ N, i32.ev E N args = some r) : Sound Tryd.prog 32 m := sound_of i32 Tryd.func32 rfl c32 hE hm
/-- bellwether/script.one -/
def j33 : C := (.seq (.region [⟨some 6, .mov (.c (.k .nilIface)), none, [], []⟩] false)
 (.seq (.region [⟨some 7, .mov (.t 0), none, [], []⟩,
  ⟨some 8, .mov (.t 1), none, [], []⟩,
  ⟨some 9, .mov (.t 2), none, [], []⟩,
  ⟨some 10, .call false 30 [(.t 7), (.t 8), (.t 9), (.c (.int .i64 255)), (.c (.int .i64 1))], none, [], []⟩,
  ⟨some 6, .mov (.t 10), none, [], []⟩] false)
 .ret))
def i33 : F := ⟨3, 11, j33, [.t 6]⟩
theorem b33 : i33.body = j33 := rfl
theorem q33 : i33.res = [.t 6] := rfl
theorem c33 : chkF Tryd.prog Tryd.f33 i33 = true := by kernel_rfl
theorem s33 {m : Model} {E : Nat → Model} (hE : ∀ f, Sound Tryd.prog f (E f)) (hm : ∀ args r, m args = some r → ∃ N, i33.ev E N args = some r) : Sound Tryd.prog 33 m := sound_of i33 Tryd.func33 rfl c33 hE hm
def xt : List (Nat × Model) := [(23, XE.errnoM)]
def tb : List (Nat × F) := [(3, i3), (4, i4), (5, i5), (6, i6), (7, i7), (8, i8), (9, i9), (10, i10), (11, i11), (12, i12), (13, i13), (14, i14), (15, i15), (16, i16), (17, i17), (18, i18), (19, i19), (20, i20), (21, i21), (22, i22), (24, i24), (25, i25), (26, i26), (29, i29), (30, i30), (31, i31), (32, i32), (33, i33)]
theorem xt_ok : ∀ p ∈ xt, Sound Tryd.prog p.1 p.2 := all_cons x23 (all_nil)
theorem tb_ok (N : Nat) : ∀ p ∈ tb, ∀ E : Nat → Model, (∀ f, Sound Tryd.prog f (E f)) → Sound Tryd.prog p.1 (p.2.ev E N) := all_cons (fun E hE => s3 hE fun _ _ h => ⟨N, h⟩) (all_cons (fun E hE => s4 hE fun _ _ h => ⟨N, h⟩) (all_cons (fun E hE => s5 hE fun _ _ h => ⟨N, h⟩) (all_cons (fun E hE => s6 hE fun _ _ h => ⟨N, h⟩) (all_cons (fun E hE => s7 hE fun _ _ h => ⟨N, h⟩) (all_cons (fun E hE => s8 hE fun _ _ h => ⟨N, h⟩) (all_cons (fun E hE => s9 hE fun _ _ h => ⟨N, h⟩) (all_cons (fun E hE => s10 hE fun _ _ h => ⟨N, h⟩) (all_cons (fun E hE => s11 hE fun _ _ h => ⟨N, h⟩) (all_cons (fun E hE => s12 hE fun _ _ h => ⟨N, h⟩) (all_cons (fun E hE => s13 hE fun _ _ h => ⟨N, h⟩) (all_cons (fun E hE => s14 hE fun _ _ h => ⟨N, h⟩) (all_cons (fun E hE => s15 hE fun _ _ h => ⟨N, h⟩) (all_cons (fun E hE => s16 hE fun _ _ h => ⟨N, h⟩) (all_cons (fun E hE => s17 hE fun _ _ h => ⟨N, h⟩) (all_cons (fun E hE => s18 hE fun _ _ h => ⟨N, h⟩) (all_cons (fun E hE => s19 hE fun _ _ h => ⟨N, h⟩) (all_cons (fun E hE => s20 hE fun _ _ h => ⟨N, h⟩) (all_cons (fun E hE => s21 hE fun _ _ h => ⟨N, h⟩) (all_cons (fun E hE => s22 hE fun _ _ h => ⟨N, h⟩) (all_cons (fun E hE => s24 hE fun _ _ h => ⟨N, h⟩) (all_cons (fun E hE => s25 hE fun _ _ h => ⟨N, h⟩) (all_cons (fun E hE => s26 hE fun _ _ h => ⟨N, h⟩) (all_cons (fun E hE => s29 hE fun _ _ h => ⟨N, h⟩) (all_cons (fun E hE => s30 hE fun _ _ h => ⟨N, h⟩) (all_cons (fun E hE => s31 hE fun _ _ h => ⟨N, h⟩) (all_cons (fun E hE => s32 hE fun _ _ h => ⟨N, h⟩) (all_cons (fun E hE => s33 hE fun _ _ h => ⟨N, h⟩) (all_nil))))))))))))))))))))))))))))
abbrev TT := T xt tb
theorem TT_ok (N d f : Nat) : Sound Tryd.prog f (TT N d f) := T_ok xt_ok (tb_ok N) d f
theorem t3 (N d : Nat) : TT N (d + 1) 3 = i3.ev (TT N d) N := rfl
theorem t4 (N d : Nat) : TT N (d + 1) 4 = i4.ev (TT N d) N := rfl
theorem t5 (N d : Nat) : TT N (d + 1) 5 = i5.ev (TT N d) N := rfl
theorem t6 (N d : Nat) : TT N (d + 1) 6 = i6.ev (TT N d) N := rfl
theorem t7 (N d : Nat) : TT N (d + 1) 7 = i7.ev (TT N d) N := rfl
theorem t8 (N d : Nat) : TT N (d + 1) 8 = i8.ev (TT N d) N := rfl
theorem t9 (N d : Nat) : TT N (d + 1) 9 = i9.ev (TT N d) N := rfl
theorem t10 (N d : Nat) : TT N (d + 1) 10 = i10.ev (TT N d) N := rfl
theorem t11 (N d : Nat) : TT N (d + 1) 11 = i11.ev (TT N d) N := rfl
theorem t12 (N d : Nat) : TT N (d + 1) 12 = i12.ev (TT N d) N := rfl
theorem t13 (N d : Nat) : TT N (d + 1) 13 = i13.ev (TT N d) N := rfl
theorem t14 (N d : Nat) : TT N (d + 1) 14 = i14.ev (TT N d) N := rfl
theorem t15 (N d : Nat) : TT N (d + 1) 15 = i15.ev (TT N d) N := rfl
theorem t16 (N d : Nat) : TT N (d + 1) 16 = i16.ev (TT N d) N := rfl
theorem t17 (N d : Nat) : TT N (d + 1) 17 = i17.ev (TT N d) N := rfl
theorem t18 (N d : Nat) : TT N (d + 1) 18 = i18.ev (TT N d) N := rfl
theorem t19 (N d : Nat) : TT N (d + 1) 19 = i19.ev (TT N d) N := rfl
theorem t20 (N d : Nat) : TT N (d + 1) 20 = i20.ev (TT N d) N := rfl
theorem t21 (N d : Nat) : TT N (d + 1) 21 = i21.ev (TT N d) N := rfl
theorem t22 (N d : Nat) : TT N (d + 1) 22 = i22.ev (TT N d) N := rfl
theorem t24 (N d : Nat) : TT N (d + 1) 24 = i24.ev (TT N d) N := rfl
theorem t25 (N d : Nat) : TT N (d + 1) 25 = i25.ev (TT N d) N := rfl
theorem t26 (N d : Nat) : TT N (d + 1) 26 = i26.ev (TT N d) N := rfl
theorem t29 (N d : Nat) : TT N (d + 1) 29 = i29.ev (TT N d) N := rfl
theorem t30 (N d : Nat) : TT N (d + 1) 30 = i30.ev (TT N d) N := rfl
theorem t31 (N d : Nat) : TT N (d + 1) 31 = i31.ev (TT N d) N := rfl
theorem t32 (N d : Nat) : TT N (d + 1) 32 = i32.ev (TT N d) N := rfl
theorem t33 (N d : Nat) : TT N (d + 1) 33 = i33.ev (TT N d) N := rfl
theorem t23 (N d : Nat) : TT N (d + 1) 23 = XE.errnoM := rfl
end Go.Proofs.YtbkemldecbcfhaaDoor.IS
