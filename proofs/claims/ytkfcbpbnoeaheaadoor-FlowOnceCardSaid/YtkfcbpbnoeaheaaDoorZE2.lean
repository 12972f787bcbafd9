/- Texts joined: LO FR. -/
import Derived.Test.YtkfcbpbnoeaheaaDoorZE1
import Derived.Test.YtkfcbpbnoeaheaaDoorProg
set_option linter.unusedVariables false
set_option linter.unusedSimpArgs false
/- Functions of the program in the evaluator's form, each checked against the program (written by wip/prog/irgen.py). -/
set_option maxRecDepth 100000
namespace Go.Proofs.YtkfcbpbnoeaheaaDoor.LO
open Go Go.Proofs.YtkfcbpbnoeaheaaDoorR
/-- bellwether/bellwetherlaw18.FlowOnce -/
def j3 : C := (.seq (.region [⟨some 6, .mov (.c (.bool false)), none, [], []⟩] false)
 (.seq (.seq (.region [⟨some 21, .mov (.t 2), none, [], []⟩,
  ⟨some 22, .len (.t 21), none, [], []⟩,
  ⟨some 23, .bin .gtr (.t 22) (.c (.int .i64 80)), none, [], []⟩] false)
 (.cond (.t 23) (.seq (.region [⟨some 6, .mov (.c (.bool true)), none, [], []⟩] false)
 .ret) .skip))
 (.seq (.region [⟨some 24, .mov (.t 0), none, [], []⟩,
  ⟨some 25, .call false 7 [(.t 24)], none, [], []⟩,
  ⟨some 7, .alloc [.int .i64 0, .int .i64 0, .int .i64 0, .int .i64 0, .int .i64 0, .int .i64 0, .int .i64 0], none, [], []⟩,
  ⟨none, .store none 7 (.t 7) (.t 25), none, [], []⟩] false)
 (.seq (.region [⟨some 26, .mov (.t 1), none, [], []⟩,
  ⟨some 27, .conv .u64 (.t 26), none, [], []⟩,
  ⟨some 28, .bin .rem (.t 27) (.c (.int .u64 1000)), none, [], []⟩,
  ⟨some 29, .conv .i64 (.t 28), none, [], []⟩,
  ⟨some 30, .bin .add (.c (.int .i64 1)) (.t 29), none, [], []⟩,
  ⟨some 1, .mov (.t 30), none, [], []⟩] false)
 (.seq (.region [⟨some 32, .load true 7 (.t 7), none, [], []⟩,
  ⟨some 33, .build [.int .i64 0, .int .i64 0, .int .i64 0, .row [], .row []] [], none, [], []⟩,
  ⟨some 34, .mov (.t 1), none, [], []⟩,
  ⟨some 35, .call false 8 [(.t 32), (.t 33), (.c (.int .i64 35)), (.t 34)], none, [], []⟩,
  ⟨some 31, .mov (.t 35), none, [], []⟩,
  ⟨some 36, .ext (.t 31) 0, none, [], []⟩,
  ⟨some 37, .ext (.t 31) 1, none, [], []⟩,
  ⟨some 8, .alloc [.int .i64 0, .int .i64 0, .int .i64 0, .row [], .row []], none, [], []⟩,
  ⟨none, .store none 5 (.t 8) (.t 36), none, [], []⟩,
  ⟨some 9, .mov (.t 37), none, [], []⟩] false)
 (.seq (.seq (.region [⟨some 38, .mov (.t 9), none, [], []⟩,
  ⟨some 39, .bin .neq (.t 38) (.c (.int .i64 0)), none, [], []⟩] false)
 (.cond (.t 39) (.seq (.region [⟨some 6, .mov (.c (.bool false)), none, [], []⟩] false)
 .ret) .skip))
 (.seq (.region [⟨some 10, .mov (.c (.row [])), none, [], []⟩] false)
 (.seq (.region [⟨some 40, .mov (.t 1), none, [], []⟩,
  ⟨some 11, .mov (.t 40), none, [], []⟩] false)
 (.seq (.seq (.region [⟨some 12, .mov (.c (.int .i64 0)), none, [], []⟩] false)
 (.block 0 (.loop (.keep [1, 2, 7, 8, 10, 11, 12] (.seq (.seq (.region [⟨some 41, .mov (.t 12), none, [], []⟩,
  ⟨some 42, .mov (.t 2), none, [], []⟩,
  ⟨some 43, .len (.t 42), none, [], []⟩,
  ⟨some 44, .bin .lss (.t 41) (.t 43), none, [], []⟩] false)
 (.cond (.t 44) .skip (.exit 0)))
 (.seq (.block 1 (.seq (.region [⟨some 47, .mov (.t 1), none, [13, 48, 49, 50, 51, 52, 53, 54, 56, 57, 58, 59, 60, 61, 62], []⟩,
  ⟨some 48, .mov (.t 2), none, [13, 47, 49, 56, 57, 58, 59, 60, 61, 62], []⟩,
  ⟨some 49, .mov (.t 12), none, [13, 47, 48, 56, 57, 58, 59, 60, 61, 62], []⟩,
  ⟨some 50, .iad 1 (.t 48) (.t 49), none, [13, 47, 56, 57, 58, 59, 60, 61, 62], [1, 2]⟩,
  ⟨some 51, .load false 1 (.t 50), none, [13, 47, 56, 57, 58, 59, 60, 61, 62], [1, 2, 3]⟩,
  ⟨some 52, .conv .u64 (.t 51), none, [13, 47, 56, 57, 58, 59, 60, 61, 62], [1, 2, 3, 4]⟩,
  ⟨some 53, .bin .rem (.t 52) (.c (.int .u64 30)), none, [13, 47, 56, 57, 58, 59, 60, 61, 62], [1, 2, 3, 4, 5]⟩,
  ⟨some 54, .conv .i64 (.t 53), none, [13, 47, 56, 57, 58, 59, 60, 61, 62], [1, 2, 3, 4, 5, 6]⟩,
  ⟨some 55, .bin .add (.t 47) (.t 54), none, [13, 56, 57, 58, 59, 60, 61, 62], [0, 1, 2, 3, 4, 5, 6, 7]⟩,
  ⟨some 56, .mov (.t 2), none, [13, 47, 48, 49, 50, 51, 52, 53, 54, 55, 57], []⟩,
  ⟨some 57, .mov (.t 12), none, [13, 47, 48, 49, 50, 51, 52, 53, 54, 55, 56], []⟩,
  ⟨some 58, .iad 1 (.t 56) (.t 57), none, [13, 47, 48, 49, 50, 51, 52, 53, 54, 55], [9, 10]⟩,
  ⟨some 59, .load false 1 (.t 58), none, [13, 47, 48, 49, 50, 51, 52, 53, 54, 55], [9, 10, 11]⟩,
  ⟨some 60, .conv .u64 (.t 59), none, [13, 47, 48, 49, 50, 51, 52, 53, 54, 55], [9, 10, 11, 12]⟩,
  ⟨some 61, .bin .rem (.t 60) (.c (.int .u64 30)), none, [13, 47, 48, 49, 50, 51, 52, 53, 54, 55], [9, 10, 11, 12, 13]⟩,
  ⟨some 62, .conv .i64 (.t 61), none, [13, 47, 48, 49, 50, 51, 52, 53, 54, 55], [9, 10, 11, 12, 13, 14]⟩,
  ⟨some 63, .build [.int .i64 0, .int .i64 0] [(0, 1, (.t 55)), (1, 1, (.t 62))], none, [13], [0, 1, 2, 3, 4, 5, 6, 7, 8, 9, 10, 11, 12, 13, 14, 15]⟩,
  ⟨some 13, .alloc [.int .i64 0, .int .i64 0], none, [47, 48, 49, 50, 51, 52, 53, 54, 55, 56, 57, 58, 59, 60, 61, 62, 63], []⟩,
  ⟨none, .store none 2 (.t 13) (.t 63), none, [], [0, 1, 2, 3, 4, 5, 6, 7, 8, 9, 10, 11, 12, 13, 14, 15, 16, 17]⟩] true)
 (.seq (.region [⟨some 65, .load true 7 (.t 7), none, [], []⟩,
  ⟨some 66, .load true 5 (.t 8), none, [], []⟩,
  ⟨some 67, .mov (.t 10), none, [], []⟩,
  ⟨some 68, .load true 2 (.t 13), none, [], []⟩,
  ⟨some 69, .call false 9 [(.t 65), (.t 66), (.c (.bool true)), (.t 67), (.c (.int .i64 35)), (.t 68)], none, [], []⟩,
  ⟨some 64, .mov (.t 69), none, [], []⟩,
  ⟨some 70, .ext (.t 64) 0, none, [], []⟩,
  ⟨some 71, .ext (.t 64) 1, none, [], []⟩,
  ⟨some 72, .ext (.t 64) 2, none, [], []⟩,
  ⟨some 73, .ext (.t 64) 3, none, [], []⟩,
  ⟨some 14, .alloc [.int .i64 0, .int .i64 0, .int .i64 0, .row [], .row []], none, [], []⟩,
  ⟨none, .store none 5 (.t 14) (.t 70), none, [], []⟩,
  ⟨some 15, .mov (.t 71), none, [], []⟩,
  ⟨some 16, .mov (.t 72), none, [], []⟩,
  ⟨some 17, .mov (.t 73), none, [], []⟩] false)
 (.seq (.seq (.region [⟨some 74, .mov (.t 17), none, [], []⟩,
  ⟨some 75, .bin .neq (.t 74) (.c (.int .i64 0)), none, [], []⟩,
  ⟨some 76, .mov (.t 75), none, [], []⟩,
  ⟨some 77, .fad 0 (.t 14), some (76, false), [], []⟩,
  ⟨some 78, .load false 1 (.t 77), some (76, false), [], []⟩,
  ⟨some 79, .bin .neq (.t 78) (.c (.int .i64 35)), some (76, false), [], []⟩,
  ⟨some 80, .pick (.t 76) (.c (.bool true)) (.t 79), none, [], []⟩,
  ⟨some 81, .mov (.t 80), none, [], []⟩,
  ⟨some 82, .fad 1 (.t 14), some (81, false), [], []⟩,
  ⟨some 83, .load false 1 (.t 82), some (81, false), [], []⟩,
  ⟨some 84, .fad 1 (.t 8), some (81, false), [], []⟩,
  ⟨some 85, .load false 1 (.t 84), some (81, false), [], []⟩,
  ⟨some 86, .bin .lss (.t 83) (.t 85), some (81, false), [], []⟩,
  ⟨some 87, .pick (.t 81) (.c (.bool true)) (.t 86), none, [], []⟩,
  ⟨some 88, .mov (.t 87), none, [], []⟩,
  ⟨some 89, .fad 2 (.t 14), some (88, false), [], []⟩,
  ⟨some 90, .load false 1 (.t 89), some (88, false), [], []⟩,
  ⟨some 91, .fad 1 (.t 14), some (88, false), [], []⟩,
  ⟨some 92, .load false 1 (.t 91), some (88, false), [], []⟩,
  ⟨some 93, .bin .lss (.t 90) (.t 92), some (88, false), [], []⟩,
  ⟨some 94, .pick (.t 88) (.c (.bool true)) (.t 93), none, [], []⟩,
  ⟨some 95, .mov (.t 94), none, [], []⟩,
  ⟨some 96, .load true 7 (.t 7), some (95, false), [], []⟩,
  ⟨some 97, .load true 5 (.t 14), some (95, false), [], []⟩,
  ⟨some 98, .mov (.t 15), some (95, false), [], []⟩,
  ⟨some 99, .call false 10 [(.t 96), (.t 97), (.t 98)], some (95, false), [], []⟩,
  ⟨some 100, .bin .neq (.t 99) (.c (.int .i64 0)), some (95, false), [], []⟩,
  ⟨some 101, .pick (.t 95) (.c (.bool true)) (.t 100), none, [], []⟩] false)
 (.cond (.t 101) (.seq (.region [⟨some 6, .mov (.c (.bool false)), none, [], []⟩] false)
 .ret) .skip))
 (.seq (.seq (.region [⟨some 18, .mov (.c (.int .i64 0)), none, [], []⟩] false)
 (.block 2 (.loop (.keep [1, 2, 7, 8, 11, 12, 13, 14, 15, 16, 18] (.seq (.seq (.region [⟨some 102, .mov (.t 18), none, [], []⟩,
  ⟨some 103, .mov (.t 16), none, [], []⟩,
  ⟨some 104, .len (.t 103), none, [], []⟩,
  ⟨some 105, .bin .lss (.t 102) (.t 104), none, [], []⟩] false)
 (.cond (.t 105) .skip (.exit 2)))
 (.seq (.block 3 (.seq (.seq (.region [⟨some 108, .mov (.t 16), none, [], []⟩,
  ⟨some 109, .mov (.t 18), none, [], []⟩,
  ⟨some 110, .iad 2 (.t 108) (.t 109), none, [], []⟩,
  ⟨some 111, .load true 2 (.t 110), none, [], []⟩,
  ⟨some 112, .mov (.t 11), none, [], []⟩,
  ⟨some 113, .mov (.t 11), none, [], []⟩,
  ⟨some 114, .mov (.t 1), none, [], []⟩,
  ⟨some 115, .bin .sub (.t 113) (.t 114), none, [], []⟩,
  ⟨some 116, .build [.int .i64 0, .int .i64 0] [(0, 1, (.t 112)), (1, 1, (.t 115))], none, [], []⟩,
  ⟨some 117, .eqs true [true, true] (.t 111) (.t 116), none, [], []⟩] false)
 (.cond (.t 117) (.seq (.region [⟨some 6, .mov (.c (.bool false)), none, [], []⟩] false)
 .ret) .skip))
 (.region [⟨some 118, .mov (.t 11), none, [], []⟩,
  ⟨some 119, .bin .add (.t 118) (.c (.int .i64 1)), none, [], []⟩,
  ⟨some 11, .mov (.t 119), none, [], []⟩] false)))
 (.region [⟨some 106, .mov (.t 18), none, [], []⟩,
  ⟨some 107, .bin .add (.t 106) (.c (.int .i64 1)), none, [], []⟩,
  ⟨some 18, .mov (.t 107), none, [], []⟩] false)))))))
 (.seq (.seq (.region [⟨some 120, .fad 1 (.t 14), none, [], []⟩,
  ⟨some 121, .load false 1 (.t 120), none, [], []⟩,
  ⟨some 122, .mov (.t 11), none, [], []⟩,
  ⟨some 123, .bin .neq (.t 121) (.t 122), none, [], []⟩,
  ⟨some 124, .mov (.t 123), none, [], []⟩,
  ⟨some 125, .fad 2 (.t 14), some (124, false), [], []⟩,
  ⟨some 126, .load false 1 (.t 125), some (124, false), [], []⟩,
  ⟨some 127, .fad 0 (.t 13), some (124, false), [], []⟩,
  ⟨some 128, .load false 1 (.t 127), some (124, false), [], []⟩,
  ⟨some 129, .bin .add (.t 128) (.c (.int .i64 1)), some (124, false), [], []⟩,
  ⟨some 130, .fad 2 (.t 14), some (124, false), [], []⟩,
  ⟨some 131, .load false 1 (.t 130), some (124, false), [], []⟩,
  ⟨some 132, .mn (.t 129) (.t 131), some (124, false), [], []⟩,
  ⟨some 133, .bin .lss (.t 126) (.t 132), some (124, false), [], []⟩,
  ⟨some 134, .pick (.t 124) (.c (.bool true)) (.t 133), none, [], []⟩,
  ⟨some 135, .mov (.t 134), none, [], []⟩,
  ⟨some 136, .fad 0 (.t 13), some (135, false), [], []⟩,
  ⟨some 137, .load false 1 (.t 136), some (135, false), [], []⟩,
  ⟨some 138, .fad 1 (.t 14), some (135, false), [], []⟩,
  ⟨some 139, .load false 1 (.t 138), some (135, false), [], []⟩,
  ⟨some 140, .bin .geq (.t 137) (.t 139), some (135, false), [], []⟩,
  ⟨some 141, .mov (.t 140), some (135, false), [], []⟩,
  ⟨some 142, .load true 5 (.t 14), some (141, true), [], []⟩,
  ⟨some 143, .call false 11 [(.t 142)], some (141, true), [], []⟩,
  ⟨some 144, .un .not (.t 143), some (141, true), [], []⟩,
  ⟨some 145, .pick (.t 141) (.t 144) (.c (.bool false)), some (135, false), [], []⟩,
  ⟨some 146, .pick (.t 135) (.c (.bool true)) (.t 145), none, [], []⟩] false)
 (.cond (.t 146) (.seq (.region [⟨some 6, .mov (.c (.bool false)), none, [], []⟩] false)
 .ret) .skip))
 (.region [⟨some 147, .load true 5 (.t 14), none, [], []⟩,
  ⟨some 148, .mov (.t 15), none, [], []⟩,
  ⟨none, .store none 5 (.t 8) (.t 147), none, [], []⟩,
  ⟨some 10, .mov (.t 148), none, [], []⟩] false)))))))
 (.region [⟨some 45, .mov (.t 12), none, [], []⟩,
  ⟨some 46, .bin .add (.t 45) (.c (.int .i64 1)), none, [], []⟩,
  ⟨some 12, .mov (.t 46), none, [], []⟩] false)))))))
 (.seq (.region [⟨some 149, .mov (.t 1), none, [], []⟩,
  ⟨some 19, .mov (.t 149), none, [], []⟩] false)
 (.seq (.seq (.region [⟨some 20, .mov (.c (.int .i64 0)), none, [], []⟩] false)
 (.block 4 (.loop (.keep [1, 10, 11, 19, 20] (.seq (.seq (.region [⟨some 150, .mov (.t 20), none, [], []⟩,
  ⟨some 151, .mov (.t 10), none, [], []⟩,
  ⟨some 152, .len (.t 151), none, [], []⟩,
  ⟨some 153, .bin .lss (.t 150) (.t 152), none, [], []⟩] false)
 (.cond (.t 153) .skip (.exit 4)))
 (.seq (.block 5 (.seq (.seq (.region [⟨some 156, .mov (.t 10), none, [], []⟩,
  ⟨some 157, .mov (.t 20), none, [], []⟩,
  ⟨some 158, .iad 6 (.t 156) (.t 157), none, [], []⟩,
  ⟨some 159, .fad 1 (.t 158), none, [], []⟩,
  ⟨some 160, .load false 1 (.t 159), none, [], []⟩,
  ⟨some 161, .bin .neq (.t 160) (.c (.int .i64 35)), none, [], []⟩,
  ⟨some 162, .mov (.t 161), none, [], []⟩,
  ⟨some 163, .mov (.t 10), some (162, false), [], []⟩,
  ⟨some 164, .mov (.t 20), some (162, false), [], []⟩,
  ⟨some 165, .iad 6 (.t 163) (.t 164), some (162, false), [], []⟩,
  ⟨some 166, .fad 2 (.t 165), some (162, false), [], []⟩,
  ⟨some 167, .load false 1 (.t 166), some (162, false), [], []⟩,
  ⟨some 168, .mov (.t 19), some (162, false), [], []⟩,
  ⟨some 169, .bin .neq (.t 167) (.t 168), some (162, false), [], []⟩,
  ⟨some 170, .pick (.t 162) (.c (.bool true)) (.t 169), none, [], []⟩] false)
 (.cond (.t 170) (.seq (.region [⟨some 6, .mov (.c (.bool false)), none, [], []⟩] false)
 .ret) .skip))
 (.seq (.region [⟨some 171, .mov (.t 19), none, [], []⟩,
  ⟨some 172, .bin .add (.t 171) (.c (.int .i64 1)), none, [], []⟩,
  ⟨some 19, .mov (.t 172), none, [], []⟩] false)
 (.seq (.region [⟨some 173, .mov (.t 10), none, [], []⟩,
  ⟨some 174, .mov (.t 20), none, [], []⟩,
  ⟨some 175, .iad 6 (.t 173) (.t 174), none, [], []⟩,
  ⟨some 176, .fad 0 (.t 175), none, [], []⟩,
  ⟨some 177, .load false 1 (.t 176), none, [], []⟩,
  ⟨some 178, .bin .eql (.t 177) (.c (.int .i64 2)), none, [], []⟩] false)
 (.cond (.t 178) (.region [⟨some 179, .mov (.t 10), none, [], []⟩,
  ⟨some 180, .mov (.t 20), none, [], []⟩,
  ⟨some 181, .iad 6 (.t 179) (.t 180), none, [], []⟩,
  ⟨some 182, .fad 3 (.t 181), none, [], []⟩,
  ⟨some 183, .load false 1 (.t 182), none, [], []⟩,
  ⟨some 184, .bin .add (.t 183) (.c (.int .i64 1)), none, [], []⟩,
  ⟨some 19, .mov (.t 184), none, [], []⟩] false) (.seq (.region [⟨some 185, .mov (.t 10), none, [186, 190, 191, 192, 193, 194, 195, 196], []⟩,
  ⟨some 186, .mov (.t 20), none, [185, 190, 191, 192, 193, 194, 195, 196], []⟩,
  ⟨some 187, .iad 6 (.t 185) (.t 186), none, [190, 191, 192, 193, 194, 195, 196], [0, 1]⟩,
  ⟨some 188, .fad 4 (.t 187), none, [190, 191, 192, 193, 194, 195, 196], [0, 1, 2]⟩,
  ⟨some 189, .load false 1 (.t 188), none, [190, 191, 192, 193, 194, 195, 196], [0, 1, 2, 3]⟩,
  ⟨some 190, .mov (.t 10), none, [185, 186, 187, 188, 189, 191, 195], []⟩,
  ⟨some 191, .mov (.t 20), none, [185, 186, 187, 188, 189, 190, 195], []⟩,
  ⟨some 192, .iad 6 (.t 190) (.t 191), none, [185, 186, 187, 188, 189, 195], [5, 6]⟩,
  ⟨some 193, .fad 2 (.t 192), none, [185, 186, 187, 188, 189, 195], [5, 6, 7]⟩,
  ⟨some 194, .load false 1 (.t 193), none, [185, 186, 187, 188, 189, 195], [5, 6, 7, 8]⟩,
  ⟨some 195, .mov (.t 1), none, [185, 186, 187, 188, 189, 190, 191, 192, 193, 194], []⟩,
  ⟨some 196, .bin .sub (.t 194) (.t 195), none, [185, 186, 187, 188, 189], [5, 6, 7, 8, 9, 10]⟩,
  ⟨some 197, .bin .neq (.t 189) (.t 196), none, [], [0, 1, 2, 3, 4, 5, 6, 7, 8, 9, 10, 11]⟩] true)
 (.cond (.t 197) (.seq (.region [⟨some 6, .mov (.c (.bool false)), none, [], []⟩] false)
 .ret) .skip)))))))
 (.region [⟨some 154, .mov (.t 20), none, [], []⟩,
  ⟨some 155, .bin .add (.t 154) (.c (.int .i64 1)), none, [], []⟩,
  ⟨some 20, .mov (.t 155), none, [], []⟩] false)))))))
 (.seq (.region [⟨some 198, .mov (.t 19), none, [], []⟩,
  ⟨some 199, .mov (.t 11), none, [], []⟩,
  ⟨some 200, .bin .eql (.t 198) (.t 199), none, [], []⟩,
  ⟨some 201, .mov (.t 200), none, [], []⟩,
  ⟨some 202, .call false 12 [], some (201, true), [], []⟩,
  ⟨some 203, .pick (.t 201) (.t 202) (.c (.bool false)), none, [], []⟩,
  ⟨some 6, .mov (.t 203), none, [], []⟩] false)
 .ret))))))))))))
def i3 : F := ⟨3, 204, j3, [.t 6]⟩
theorem b3 : i3.body = j3 := rfl
theorem q3 : i3.res = [.t 6] := rfl
theorem c3 : chkF Tryd.prog Tryd.f3 i3 = true := by kernel_rfl
theorem s3 {m : Model} {E : Nat → Model} (hE : ∀ f, Sound Tryd.prog f (E f)) (hm : ∀ args r, m args = some r → ∃ N, i3.ev E N args = some r) : Sound Tryd.prog 3 m := sound_of i3 Tryd.func3 rfl c3 hE hm
def xt : List (Nat × Model) := []
def tb : List (Nat × F) := [(3, i3)]
theorem xt_ok : ∀ p ∈ xt, Sound Tryd.prog p.1 p.2 := all_nil
theorem tb_ok (N : Nat) : ∀ p ∈ tb, ∀ E : Nat → Model, (∀ f, Sound Tryd.prog f (E f)) → Sound Tryd.prog p.1 (p.2.ev E N) := all_cons (fun E hE => s3 hE fun _ _ h => ⟨N, h⟩) (all_nil)
abbrev TT (N : Nat) : Nat → Nat → Model := T1 (IF.TT N) 3 i3 N
theorem TT_ok (N d f : Nat) : Sound Tryd.prog f (TT N d f) := T1_ok (IF.TT_ok N) (fun E hE => s3 hE fun _ _ h => ⟨N, h⟩) d f
theorem t3 (N d : Nat) : TT N (d + 1) 3 = i3.ev (IF.TT N d) N := rfl
end Go.Proofs.YtkfcbpbnoeaheaaDoor.LO
namespace Go.Proofs.YtkfcbpbnoeaheaaDoor.FA
open Go Go.Proofs.YtkfcbpbnoeaheaaDoorR Go.Proofs.YtkfcbpbnoeaheaaDoor.IF
open Go.Proofs.YtkfcbpbnoeaheaaDoor.QA (Ev eE aE rE inB epOK evOK qOK putE n01 gapE lastK)
open Go.Proofs.YtkfcbpbnoeaheaaDoor.AA (It eT aT rT ahOK addA addR leftL wi wm takeT allT take_s hR pre cP risB fitsB left_s ins)
open Go.Proofs.YtkfcbpbnoeaheaaDoor.EC (Cf eC okC confC)
open Go.Proofs.YtkfcbpbnoeaheaaDoor.LO (j3 i3 b3 q3)
set_option maxRecDepth 100000
set_option maxHeartbeats 8000000
theorem e3 (conf first : Int) (seqs : List Int) : LO.TT 1000 18 3 [iV conf, iV first, .one (rI seqs)] = some (bV true, []) := by
  rw [LO.t3, F_ev rfl]
  by_cases h80 : (seqs.length : Int) > 80
  · simp only [decide_eq_true h80, List.length_map, j3, b3, q3, qq, ww, List.replicate, Nat.reduceBEq, Nat.reduceAdd, Nat.reduceMul, Nat.reduceDiv, Nat.reduceEqDiff, Nat.reduceLeDiff, Nat.reduceLT, Int.reduceEq, Int.reduceNe, Int.reduceLT, Int.reduceLE, Int.reduceAdd, Int.reduceSub, Int.reduceMul, Int.reduceNeg, Int.reduceToNat, Int.reducePow, Nat.reducePow, reduceCtorEq, reduceIte, if_true, if_false]
  obtain ⟨m1, m2⟩ := umodF conf 1000000 (by omega) (by omega)
  obtain ⟨f1, f2⟩ := umodF first 1000 (by omega) (by omega)
  have hcf := fun d => EC.e7 1000 d conf _ rfl ⟨m1, m2⟩
  have hok := EC.ok_conf (IntKind.i64.wrap ((IntKind.u64.wrap conf).tmod 1000000))
  generalize confC (IntKind.i64.wrap ((IntKind.u64.wrap conf).tmod 1000000)) = c at *
  generalize hF : IntKind.i64.wrap ((IntKind.u64.wrap first).tmod 1000) = F0 at *
  have w1 : IntKind.i64.wrap (1 + F0) = 1 + F0 := IntWalk.i64_in _ (by omega)
  have hfr : 1 ≤ 1 + F0 ∧ 1 + F0 ≤ 1000 := by omega
  have hw := w18
  obtain ⟨t1, t2⟩ := told_new (c := c) (a := 35) (n := 1 + F0) hok (by decide) (by omega)
  have hT : ∀ d, TT 1000 (d + 12) 8 [.agg (eC c), .agg [.int .i64 0, .int .i64 0, .int .i64 0, .row [], .row []], iV 35, iV (1 + F0)] = some (.tup [aS ⟨35, 1 + F0, 1 + F0, [], []⟩, iV 0], []) := fun d => by
    have := e8 1000 d (by omega) c s0 35 (1 + F0) (by simp)
    rw [t1] at this
    exact this
  simp only [decide_eq_false h80, hcf, hF, w1, hT, List.length_map, j3, b3, q3, qq, ww, List.replicate, Nat.reduceBEq, Nat.reduceAdd, Nat.reduceMul, Nat.reduceDiv, Nat.reduceEqDiff, Nat.reduceLeDiff, Nat.reduceLT, Int.reduceEq, Int.reduceNe, Int.reduceLT, Int.reduceLE, Int.reduceAdd, Int.reduceSub, Int.reduceMul, Int.reduceNeg, Int.reduceToNat, Int.reducePow, Nat.reducePow, reduceCtorEq, reduceIte, if_true, if_false]
  generalize 1 + F0 = fi at *
  generalize hs1 : (⟨35, fi, fi, [], []⟩ : Sm) = sI at *
  have hI0 : sI.e = 35 ∧ sI.w = fi ∧ sI.ah = [] := by subst hs1; exact ⟨rfl, rfl, rfl⟩
  refine loopI (K := fun o => fin _ (aft _ _ _ o)) (I := fun i st => ∃ s q, st = ⟨[(1, iV fi), (2, .one (rI seqs)), (7, .one (.ref 448 0 0)), (8, .one (.ref 512 0 0)), (10, .one (rE q)), (11, iV s.w), (12, iV i)], [(448, .box (eC c)), (512, .box (eS s))]⟩ ∧ flowC c s q = 0 ∧ s.e = 35 ∧ fi ≤ s.w ∧ (∀ y ∈ s.ah, y.v = y.s - fi) ∧ qch 35 (fun s v => v = s - fi) fi q s.w) _ seqs.length ?hr seqs.length 0 1000 _ ⟨[(1, iV fi), (2, .one (rI seqs)), (7, .one (.ref 448 0 0)), (8, .one (.ref 512 0 0)), (10, .one (.row [])), (11, iV fi), (12, iV 0)], [(448, .box (eC c)), (512, .box (eS sI))]⟩ (by omega) (by omega) ?hk ⟨sI, [], by rw [hI0.2.1]; rfl, t2, hI0.1, by omega, by rw [hI0.2.2]; simp, hI0.2.1.symm⟩
  case hk => simp only [gcK, lowB, Nat.reduceLeDiff, Nat.reduceBEq, List.contains_nil, List.contains_cons, Bool.or_false, Bool.false_or, Bool.false_eq_true, if_false, Bool.true_and, Bool.and_true, pickL, look_hit, look_miss, look_end, slMent, hpMent, S.ment, S.ment.smt, ments, V.ment, List.append_nil, List.nil_append, List.cons_append, List.all_nil, List.all_cons, Option.isSome_some, Bool.and_self, if_true, reduceIte, Nat.reduceEqDiff, not_false_eq_true, reduceCtorEq, Nat.reduceMul, Nat.reduceAdd]; subst hs1; rfl
  case hr =>
    rintro i n st hi ⟨s, q, rfl, h0, he, hge, hA, hq⟩ ih
    (try dsimp only)
    obtain ⟨k1, k2, k3⟩ := flow_t h0
    have k4 := right_t k2
    have kw := k4.2.2.2.1
    have k5 := q_t k3
    have hep : epOK s.e = true := by rw [he]; decide
    by_cases hlt : i < seqs.length
    · have hb : 0 ≤ (i : Int) ∧ (i : Int) < (seqs.length : Int) := by omega
      have g1 : decide ((i : Int) < (seqs.length : Int)) = true := decide_eq_true hb.2
      have hget : (seqs.map eI)[i]? = some (eI seqs[i]) := by simp [hlt]
      obtain ⟨d1, d2⟩ := umodF seqs[i] 30 (by omega) (by omega)
      generalize hD : IntKind.i64.wrap ((IntKind.u64.wrap seqs[i]).tmod 30) = D at *
      have w2 : IntKind.i64.wrap (fi + D) = fi + D := IntWalk.i64_in _ (by omega)
      have w3 : IntKind.i64.wrap (fi + D + 1) = fi + D + 1 := IntWalk.i64_in _ (by omega)
      have hx : inB (fi + D) 1 1073741823 = true := by simp [inB]; omega
      have hv : inB D 0 2147483647 = true := by simp [inB]; omega
      have hit := fun d => e9 1000 d (by omega) c s true q 35 ⟨fi + D, D⟩ ⟨by omega, by omega⟩ (by omega)
      rw [← he, item_at h0 hep hx hv, he] at hit
      obtain ⟨a1, a2, a3, a4, a5, a6, a7, _, a9, _, _⟩ := item_same (sub := true) (x := ⟨fi + D, D⟩) (P := fun s v => v = s - fi) h0 hep hx hv (by show D = fi + D - fi; omega) hA
      have a9 := a9 rfl fi (by rw [he]; exact hq)
      generalize hG : itemG c s true q false ⟨fi + D, D⟩ = G at *
      obtain ⟨t, r, on⟩ := G
      dsimp only at a1 a2 a3 a4 a5 a6 a7 a9 hit
      obtain ⟨p1, p2, p3⟩ := flow_t a1
      have p4 := right_t p2
      have p5 := q_t p3
      have pw := p4.2.2.2.1
      have pk := p4.2.2.2.2.1
      have hck := fun d => e10 1000 d (by omega) c t r ⟨by omega, by omega⟩ (by omega)
      rw [a1] at hck
      have hlk := fun d => e11 1000 d t
      obtain ⟨o1, o2⟩ := seqP_t a6
      have z1 : decide (t.w < s.w) = false := by simp; omega
      have z2 : decide (t.kn < t.w) = false := by simp; omega
      have a2' : t.e = 35 := by rw [a2, he]
      have z0 : decide (t.e = 35) = true := decide_eq_true a2'
      simp only [g1, hb.1, hb.2, hget, hD, w2, hit, fA, z0, z1, z2, hck, List.length_map, Int.toNat_natCast, j3, b3, q3, qq, ww, List.replicate, Nat.reduceBEq, Nat.reduceAdd, Nat.reduceMul, Nat.reduceDiv, Nat.reduceEqDiff, Nat.reduceLeDiff, Nat.reduceLT, Int.reduceEq, Int.reduceNe, Int.reduceLT, Int.reduceLE, Int.reduceAdd, Int.reduceSub, Int.reduceMul, Int.reduceNeg, Int.reduceToNat, Int.reducePow, Nat.reducePow, reduceCtorEq, reduceIte, if_true, if_false]
      have hol : on.length ≤ 46 := by
        have h1 := moreK_on (c := c) (sub := true) (s := s) (q := q) (x := ⟨fi + D, D⟩)
        rw [hG] at h1
        have : on.length ≤ s.ah.length + 1 := h1
        omega
      refine loopK (K := fun o => fin _ (aft _ _ _ (goL _ _ _ _ (aft _ _ _ o)))) (fun j => ⟨[(1, iV fi), (2, .one (rI seqs)), (7, .one (.ref 448 0 0)), (8, .one (.ref 512 0 0)), (11, iV (s.w + j)), (12, iV i), (13, .one (.ref 832 0 0)), (14, .one (.ref 896 0 0)), (15, .one (rE r)), (16, .one (rT on)), (18, iV j)], [(448, .box (eC c)), (512, .box (eS s)), (832, .box (eT (⟨fi + D, D⟩ : It))), (896, .box (eS t))]⟩) (fun _ => some (bV true, [])) on.length ?hr2 on.length 0 1000 _ (by omega) (by omega) ?hk2
      case hk2 => simp only [gcK, lowB, Nat.reduceLeDiff, Nat.reduceBEq, List.contains_nil, List.contains_cons, Bool.or_false, Bool.false_or, Bool.false_eq_true, if_false, Bool.true_and, Bool.and_true, pickL, look_hit, look_miss, look_end, slMent, hpMent, S.ment, S.ment.smt, ments, V.ment, List.append_nil, List.nil_append, List.cons_append, List.all_nil, List.all_cons, Option.isSome_some, Bool.and_self, if_true, reduceIte, Nat.reduceEqDiff, not_false_eq_true, reduceCtorEq, Nat.reduceMul, Nat.reduceAdd]; rw [Int.ofNat_zero, Int.add_zero]
      case hr2 =>
        intro j n2 hj ih2
        (try dsimp only)
        by_cases hjl : j < on.length
        · have y1 : decide ((j : Int) < (on.length : Int)) = true := by simp; omega
          have y2 : 0 ≤ (j : Int) ∧ (j : Int) < (on.length : Int) := by omega
          have y3 : (on.map eT)[j]? = some (eT on[j]) := by simp [hjl]
          obtain ⟨o3, o4⟩ := o2 j hjl
          have y4 : IntKind.i64.wrap (s.w + (j : Int) - fi) = s.w + j - fi := IntWalk.i64_in _ (by omega)
          have y5 : IntKind.i64.wrap (s.w + (j : Int) + 1) = s.w + ((j + 1 : Nat) : Int) := by rw [IntWalk.i64_in _ (by omega)]; omega
          have y6 : decide (on[j].s = s.w + (j : Int)) = true := decide_eq_true o3
          have y7 : decide (on[j].v = s.w + (j : Int) - fi) = true := decide_eq_true o4
          simp only [y1, y2.1, y2.2, y3, y4, y5, y6, y7, wi j (by omega), Bool.and_self, Bool.not_true, List.length_map, Int.toNat_natCast, j3, b3, q3, qq, ww, List.replicate, Nat.reduceBEq, Nat.reduceAdd, Nat.reduceMul, Nat.reduceDiv, Nat.reduceEqDiff, Nat.reduceLeDiff, Nat.reduceLT, Int.reduceEq, Int.reduceNe, Int.reduceLT, Int.reduceLE, Int.reduceAdd, Int.reduceSub, Int.reduceMul, Int.reduceNeg, Int.reduceToNat, Int.reducePow, Nat.reducePow, reduceCtorEq, reduceIte, if_true, if_false]
          exact ih2 hjl _ (by simp only [gcK, lowB, Nat.reduceLeDiff, Nat.reduceBEq, List.contains_nil, List.contains_cons, Bool.or_false, Bool.false_or, Bool.false_eq_true, if_false, Bool.true_and, Bool.and_true, pickL, look_hit, look_miss, look_end, slMent, hpMent, S.ment, S.ment.smt, ments, V.ment, List.append_nil, List.nil_append, List.cons_append, List.all_nil, List.all_cons, Option.isSome_some, Bool.and_self, if_true, reduceIte, Nat.reduceEqDiff, not_false_eq_true, reduceCtorEq, Nat.reduceMul, Nat.reduceAdd])
        · obtain rfl : j = on.length := by omega
          clear ih2
          have y1 : decide ((on.length : Int) < (on.length : Int)) = false := by simp
          rw [← o1]
          have y2 : decide (t.w = t.w) = true := by simp
          have y3 : decide (t.kn < (if t.kn < fi + D + 1 then t.kn else fi + D + 1)) = false := by
            simp only [decide_eq_false_iff_not]
            split <;> omega
          by_cases y4 : fi + D ≥ t.w
          · have y5 : decide (t.kn > t.w) = true := decide_eq_true (a5 y4)
            simp only [y1, y2, y3, w3, hlk, decide_eq_true y4, y5, wi i (by omega), Bool.not_true, Bool.not_false, List.length_map, j3, b3, q3, qq, ww, List.replicate, Nat.reduceBEq, Nat.reduceAdd, Nat.reduceMul, Nat.reduceDiv, Nat.reduceEqDiff, Nat.reduceLeDiff, Nat.reduceLT, Int.reduceEq, Int.reduceNe, Int.reduceLT, Int.reduceLE, Int.reduceAdd, Int.reduceSub, Int.reduceMul, Int.reduceNeg, Int.reduceToNat, Int.reducePow, Nat.reducePow, reduceCtorEq, reduceIte, if_true, if_false]
            exact ih hlt _ _ (by simp only [gcK, lowB, Nat.reduceLeDiff, Nat.reduceBEq, List.contains_nil, List.contains_cons, Bool.or_false, Bool.false_or, Bool.false_eq_true, if_false, Bool.true_and, Bool.and_true, pickL, look_hit, look_miss, look_end, slMent, hpMent, S.ment, S.ment.smt, ments, V.ment, List.append_nil, List.nil_append, List.cons_append, List.all_nil, List.all_cons, Option.isSome_some, Bool.and_self, if_true, reduceIte, Nat.reduceEqDiff, not_false_eq_true, reduceCtorEq, Nat.reduceMul, Nat.reduceAdd]) ⟨t, r, rfl, a1, a2', by omega, a7, by rw [← he]; exact a9⟩
          · simp only [y1, y2, y3, w3, decide_eq_false y4, wi i (by omega), Bool.not_true, Bool.not_false, List.length_map, j3, b3, q3, qq, ww, List.replicate, Nat.reduceBEq, Nat.reduceAdd, Nat.reduceMul, Nat.reduceDiv, Nat.reduceEqDiff, Nat.reduceLeDiff, Nat.reduceLT, Int.reduceEq, Int.reduceNe, Int.reduceLT, Int.reduceLE, Int.reduceAdd, Int.reduceSub, Int.reduceMul, Int.reduceNeg, Int.reduceToNat, Int.reducePow, Nat.reducePow, reduceCtorEq, reduceIte, if_true, if_false]
            exact ih hlt _ _ (by simp only [gcK, lowB, Nat.reduceLeDiff, Nat.reduceBEq, List.contains_nil, List.contains_cons, Bool.or_false, Bool.false_or, Bool.false_eq_true, if_false, Bool.true_and, Bool.and_true, pickL, look_hit, look_miss, look_end, slMent, hpMent, S.ment, S.ment.smt, ments, V.ment, List.append_nil, List.nil_append, List.cons_append, List.all_nil, List.all_cons, Option.isSome_some, Bool.and_self, if_true, reduceIte, Nat.reduceEqDiff, not_false_eq_true, reduceCtorEq, Nat.reduceMul, Nat.reduceAdd]) ⟨t, r, rfl, a1, a2', by omega, a7, by rw [← he]; exact a9⟩
    · clear ih
      obtain rfl : i = seqs.length := by omega
      have g1 : decide ((seqs.length : Int) < (seqs.length : Int)) = false := by simp
      have hev : ∀ x ∈ q, evOK x = true := by
        simp only [qOK, Bool.and_eq_true, List.all_eq_true] at k3
        exact k3.1.2
      simp only [g1, List.length_map, j3, b3, q3, qq, ww, List.replicate, Nat.reduceBEq, Nat.reduceAdd, Nat.reduceMul, Nat.reduceDiv, Nat.reduceEqDiff, Nat.reduceLeDiff, Nat.reduceLT, Int.reduceEq, Int.reduceNe, Int.reduceLT, Int.reduceLE, Int.reduceAdd, Int.reduceSub, Int.reduceMul, Int.reduceNeg, Int.reduceToNat, Int.reducePow, Nat.reducePow, reduceCtorEq, reduceIte, if_true, if_false]
      refine loopI (K := fun o => fin _ (aft _ _ _ o)) (I := fun i st => ∃ a, st = ⟨[(1, iV fi), (10, .one (rE q)), (11, iV s.w), (19, iV a), (20, iV i)], []⟩ ∧ qch 35 (fun s v => v = s - fi) a (q.drop i) s.w) _ q.length ?hr3 q.length 0 1000 _ ⟨[(1, iV fi), (10, .one (rE q)), (11, iV s.w), (19, iV fi), (20, iV 0)], []⟩ (by omega) (by omega) ?hk3 ⟨fi, rfl, hq⟩
      case hk3 => simp only [gcK, lowB, Nat.reduceLeDiff, Nat.reduceBEq, List.contains_nil, List.contains_cons, Bool.or_false, Bool.false_or, Bool.false_eq_true, if_false, Bool.true_and, Bool.and_true, pickL, look_hit, look_miss, look_end, slMent, hpMent, S.ment, S.ment.smt, ments, V.ment, List.append_nil, List.nil_append, List.cons_append, List.all_nil, List.all_cons, Option.isSome_some, Bool.and_self, if_true, reduceIte, Nat.reduceEqDiff, not_false_eq_true, reduceCtorEq, Nat.reduceMul, Nat.reduceAdd]
      case hr3 =>
        rintro j n3 st hj ⟨a, rfl, hc⟩ ih
        (try dsimp only)
        by_cases hjl : j < q.length
        · have y1 : decide ((j : Int) < (q.length : Int)) = true := by simp; omega
          have y2 : 0 ≤ (j : Int) ∧ (j : Int) < (q.length : Int) := by omega
          have y3 : (q.map eE)[j]? = some (eE q[j]) := by simp [hjl]
          have hd : q.drop j = q[j] :: q.drop (j + 1) := by simp
          rw [hd] at hc
          obtain ⟨e1, e2, e3⟩ := hc
          have hx := hev q[j] (List.getElem_mem _)
          have y4 : decide (q[j].e = 35) = true := decide_eq_true e1
          have y5 : decide (q[j].s = a) = true := decide_eq_true e2
          rcases e3 with ⟨b1, b2, b3⟩ | ⟨b1, b2, b3⟩
          · have hb := hx
            simp [evOK, b1, inB] at hb
            have y6 : decide (q[j].k = 2) = false := by rw [b1]; rfl
            have y7 : IntKind.i64.wrap (a + 1) = a + 1 := IntWalk.i64_in _ (by omega)
            have y8 : IntKind.i64.wrap (q[j].s - fi) = q[j].s - fi := IntWalk.i64_in _ (by omega)
            have y9 : decide (q[j].v = q[j].s - fi) = true := decide_eq_true (by rw [b2, e2])
            simp only [y1, y2.1, y2.2, y3, y4, y5, y6, y7, y8, y9, wi j (by omega), Bool.not_true, Bool.not_false, List.length_map, Int.toNat_natCast, j3, b3, q3, qq, ww, List.replicate, Nat.reduceBEq, Nat.reduceAdd, Nat.reduceMul, Nat.reduceDiv, Nat.reduceEqDiff, Nat.reduceLeDiff, Nat.reduceLT, Int.reduceEq, Int.reduceNe, Int.reduceLT, Int.reduceLE, Int.reduceAdd, Int.reduceSub, Int.reduceMul, Int.reduceNeg, Int.reduceToNat, Int.reducePow, Nat.reducePow, reduceCtorEq, reduceIte, if_true, if_false]
            exact ih hjl _ _ (by simp only [gcK, lowB, Nat.reduceLeDiff, Nat.reduceBEq, List.contains_nil, List.contains_cons, Bool.or_false, Bool.false_or, Bool.false_eq_true, if_false, Bool.true_and, Bool.and_true, pickL, look_hit, look_miss, look_end, slMent, hpMent, S.ment, S.ment.smt, ments, V.ment, List.append_nil, List.nil_append, List.cons_append, List.all_nil, List.all_cons, Option.isSome_some, Bool.and_self, if_true, reduceIte, Nat.reduceEqDiff, not_false_eq_true, reduceCtorEq, Nat.reduceMul, Nat.reduceAdd]) ⟨a + 1, rfl, b3⟩
          · obtain ⟨_, l1, l2, l3, _, _⟩ := evOK_2 hx b1
            have y6 : decide (q[j].k = 2) = true := decide_eq_true b1
            have y7 : IntKind.i64.wrap (a + 1) = a + 1 := IntWalk.i64_in _ (by omega)
            have y8 : IntKind.i64.wrap (q[j].l + 1) = q[j].l + 1 := IntWalk.i64_in _ (by omega)
            simp only [y1, y2.1, y2.2, y3, y4, y5, y6, y7, y8, wi j (by omega), Bool.not_true, Bool.not_false, List.length_map, Int.toNat_natCast, j3, b3, q3, qq, ww, List.replicate, Nat.reduceBEq, Nat.reduceAdd, Nat.reduceMul, Nat.reduceDiv, Nat.reduceEqDiff, Nat.reduceLeDiff, Nat.reduceLT, Int.reduceEq, Int.reduceNe, Int.reduceLT, Int.reduceLE, Int.reduceAdd, Int.reduceSub, Int.reduceMul, Int.reduceNeg, Int.reduceToNat, Int.reducePow, Nat.reducePow, reduceCtorEq, reduceIte, if_true, if_false]
            exact ih hjl _ _ (by simp only [gcK, lowB, Nat.reduceLeDiff, Nat.reduceBEq, List.contains_nil, List.contains_cons, Bool.or_false, Bool.false_or, Bool.false_eq_true, if_false, Bool.true_and, Bool.and_true, pickL, look_hit, look_miss, look_end, slMent, hpMent, S.ment, S.ment.smt, ments, V.ment, List.append_nil, List.nil_append, List.cons_append, List.all_nil, List.all_cons, Option.isSome_some, Bool.and_self, if_true, reduceIte, Nat.reduceEqDiff, not_false_eq_true, reduceCtorEq, Nat.reduceMul, Nat.reduceAdd]) ⟨q[j].l + 1, rfl, b3⟩
        · obtain rfl : j = q.length := by omega
          clear ih
          rw [List.drop_length] at hc
          simp only [qch] at hc
          have y1 : decide ((q.length : Int) < (q.length : Int)) = false := by simp
          have y2 : decide (a = s.w) = true := decide_eq_true hc
          simp only [y1, y2, hw, List.length_map, j3, b3, q3, qq, ww, List.replicate, Nat.reduceBEq, Nat.reduceAdd, Nat.reduceMul, Nat.reduceDiv, Nat.reduceEqDiff, Nat.reduceLeDiff, Nat.reduceLT, Int.reduceEq, Int.reduceNe, Int.reduceLT, Int.reduceLE, Int.reduceAdd, Int.reduceSub, Int.reduceMul, Int.reduceNeg, Int.reduceToNat, Int.reducePow, Nat.reducePow, reduceCtorEq, reduceIte, if_true, if_false]
end Go.Proofs.YtkfcbpbnoeaheaaDoor.FA
