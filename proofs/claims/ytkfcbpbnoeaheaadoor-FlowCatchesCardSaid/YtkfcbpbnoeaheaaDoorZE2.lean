/- Texts joined: LC FX. -/
import Derived.Test.YtkfcbpbnoeaheaaDoorZE1
import Derived.Test.YtkfcbpbnoeaheaaDoorProg
set_option linter.unusedVariables false
set_option linter.unusedSimpArgs false
/- Functions of the program in the evaluator's form, each checked against the program (written by wip/prog/irgen.py). -/
set_option maxRecDepth 100000
namespace Go.Proofs.YtkfcbpbnoeaheaaDoor.LC
open Go Go.Proofs.YtkfcbpbnoeaheaaDoorR
/-- bellwether/bellwetherlaw18.FlowCatches -/
def j6 : C := (.seq (.region [⟨some 6, .mov (.c (.bool false)), none, [], []⟩] false)
 (.seq (.seq (.region [⟨some 30, .mov (.t 2), none, [], []⟩,
  ⟨some 31, .len (.t 30), none, [], []⟩,
  ⟨some 32, .bin .gtr (.t 31) (.c (.int .i64 30)), none, [], []⟩] false)
 (.cond (.t 32) (.seq (.region [⟨some 6, .mov (.c (.bool true)), none, [], []⟩] false)
 .ret) .skip))
 (.seq (.region [⟨some 33, .mov (.t 0), none, [], []⟩,
  ⟨some 34, .call false 7 [(.t 33)], none, [], []⟩,
  ⟨some 7, .alloc [.int .i64 0, .int .i64 0, .int .i64 0, .int .i64 0, .int .i64 0, .int .i64 0, .int .i64 0], none, [], []⟩,
  ⟨none, .store none 7 (.t 7) (.t 34), none, [], []⟩] false)
 (.seq (.region [⟨some 35, .fad 6 (.t 7), none, [], []⟩,
  ⟨none, .store none 1 (.t 35) (.c (.int .i64 32)), none, [], []⟩] false)
 (.seq (.region [⟨some 36, .mov (.t 1), none, [], []⟩,
  ⟨some 37, .conv .u64 (.t 36), none, [], []⟩,
  ⟨some 38, .bin .rem (.t 37) (.c (.int .u64 25)), none, [], []⟩,
  ⟨some 39, .conv .i64 (.t 38), none, [], []⟩,
  ⟨some 1, .mov (.t 39), none, [], []⟩] false)
 (.seq (.region [⟨some 41, .load true 7 (.t 7), none, [], []⟩,
  ⟨some 42, .build [.int .i64 0, .int .i64 0, .int .i64 0, .row [], .row []] [], none, [], []⟩,
  ⟨some 43, .call false 8 [(.t 41), (.t 42), (.c (.int .i64 17)), (.c (.int .i64 1))], none, [], []⟩,
  ⟨some 40, .mov (.t 43), none, [], []⟩,
  ⟨some 44, .ext (.t 40) 0, none, [], []⟩,
  ⟨some 45, .ext (.t 40) 1, none, [], []⟩,
  ⟨some 8, .alloc [.int .i64 0, .int .i64 0, .int .i64 0, .row [], .row []], none, [], []⟩,
  ⟨none, .store none 5 (.t 8) (.t 44), none, [], []⟩,
  ⟨some 9, .mov (.t 45), none, [], []⟩] false)
 (.seq (.region [⟨some 47, .load true 7 (.t 7), none, [], []⟩,
  ⟨some 48, .build [.int .i64 0, .int .i64 0, .int .i64 0, .row [], .row []] [], none, [], []⟩,
  ⟨some 49, .call false 8 [(.t 47), (.t 48), (.c (.int .i64 17)), (.c (.int .i64 1))], none, [], []⟩,
  ⟨some 46, .mov (.t 49), none, [], []⟩,
  ⟨some 50, .ext (.t 46) 0, none, [], []⟩,
  ⟨some 51, .ext (.t 46) 1, none, [], []⟩,
  ⟨some 10, .alloc [.int .i64 0, .int .i64 0, .int .i64 0, .row [], .row []], none, [], []⟩,
  ⟨none, .store none 5 (.t 10) (.t 50), none, [], []⟩,
  ⟨some 11, .mov (.t 51), none, [], []⟩] false)
 (.seq (.seq (.region [⟨some 52, .mov (.t 9), none, [], []⟩,
  ⟨some 53, .bin .neq (.t 52) (.c (.int .i64 0)), none, [], []⟩,
  ⟨some 54, .mov (.t 53), none, [], []⟩,
  ⟨some 55, .mov (.t 11), some (54, false), [], []⟩,
  ⟨some 56, .bin .neq (.t 55) (.c (.int .i64 0)), some (54, false), [], []⟩,
  ⟨some 57, .pick (.t 54) (.c (.bool true)) (.t 56), none, [], []⟩] false)
 (.cond (.t 57) (.seq (.region [⟨some 6, .mov (.c (.bool false)), none, [], []⟩] false)
 .ret) .skip))
 (.seq (.region [⟨some 12, .mov (.c (.row [])), none, [], []⟩] false)
 (.seq (.seq (.region [⟨some 13, .mov (.c (.int .i64 1)), none, [], []⟩] false)
 (.block 0 (.loop (.keep [1, 2, 7, 8, 10, 12, 13] (.seq (.seq (.region [⟨some 58, .mov (.t 13), none, [], []⟩,
  ⟨some 59, .mov (.t 1), none, [], []⟩,
  ⟨some 60, .bin .leq (.t 58) (.t 59), none, [], []⟩] false)
 (.cond (.t 60) .skip (.exit 0)))
 (.seq (.block 1 (.seq (.region [⟨some 63, .mov (.t 13), none, [], []⟩,
  ⟨some 64, .mov (.t 13), none, [], []⟩,
  ⟨some 65, .bin .mul (.c (.int .i64 3)) (.t 64), none, [], []⟩,
  ⟨some 66, .build [.int .i64 0, .int .i64 0] [(0, 1, (.t 63)), (1, 1, (.t 65))], none, [], []⟩,
  ⟨some 14, .alloc [.int .i64 0, .int .i64 0], none, [], []⟩,
  ⟨none, .store none 2 (.t 14) (.t 66), none, [], []⟩] false)
 (.seq (.region [⟨some 68, .load true 7 (.t 7), none, [], []⟩,
  ⟨some 69, .load true 5 (.t 8), none, [], []⟩,
  ⟨some 70, .load true 2 (.t 14), none, [], []⟩,
  ⟨some 71, .call false 9 [(.t 68), (.t 69), (.c (.bool false)), (.c (.row [])), (.c (.int .i64 17)), (.t 70)], none, [], []⟩,
  ⟨some 67, .mov (.t 71), none, [], []⟩,
  ⟨some 72, .ext (.t 67) 0, none, [], []⟩,
  ⟨some 73, .ext (.t 67) 1, none, [], []⟩,
  ⟨some 74, .ext (.t 67) 2, none, [], []⟩,
  ⟨some 75, .ext (.t 67) 3, none, [], []⟩,
  ⟨some 15, .alloc [.int .i64 0, .int .i64 0, .int .i64 0, .row [], .row []], none, [], []⟩,
  ⟨none, .store none 5 (.t 15) (.t 72), none, [], []⟩,
  ⟨some 16, .mov (.t 73), none, [], []⟩,
  ⟨some 17, .mov (.t 74), none, [], []⟩,
  ⟨some 18, .mov (.t 75), none, [], []⟩] false)
 (.seq (.seq (.region [⟨some 76, .mov (.t 18), none, [], []⟩,
  ⟨some 77, .bin .neq (.t 76) (.c (.int .i64 0)), none, [], []⟩,
  ⟨some 78, .mov (.t 77), none, [], []⟩,
  ⟨some 79, .mov (.t 17), some (78, false), [], []⟩,
  ⟨some 80, .len (.t 79), some (78, false), [], []⟩,
  ⟨some 81, .bin .neq (.t 80) (.c (.int .i64 1)), some (78, false), [], []⟩,
  ⟨some 82, .pick (.t 78) (.c (.bool true)) (.t 81), none, [], []⟩] false)
 (.cond (.t 82) (.seq (.region [⟨some 6, .mov (.c (.bool false)), none, [], []⟩] false)
 .ret) .skip))
 (.seq (.region [⟨some 83, .load true 5 (.t 15), none, [], []⟩,
  ⟨none, .store none 5 (.t 8) (.t 83), none, [], []⟩] false)
 (.seq (.seq (.region [⟨some 84, .mov (.t 13), none, [], []⟩,
  ⟨some 85, .bin .sub (.t 84) (.c (.int .i64 1)), none, [], []⟩,
  ⟨some 86, .mov (.t 2), none, [], []⟩,
  ⟨some 87, .len (.t 86), none, [], []⟩,
  ⟨some 88, .bin .lss (.t 85) (.t 87), none, [], []⟩,
  ⟨some 89, .mov (.t 88), none, [], []⟩,
  ⟨some 90, .mov (.t 2), some (89, true), [], []⟩,
  ⟨some 91, .mov (.t 13), some (89, true), [], []⟩,
  ⟨some 92, .bin .sub (.t 91) (.c (.int .i64 1)), some (89, true), [], []⟩,
  ⟨some 93, .iad 1 (.t 90) (.t 92), some (89, true), [], []⟩,
  ⟨some 94, .load false 1 (.t 93), some (89, true), [], []⟩,
  ⟨some 95, .pick (.t 89) (.t 94) (.c (.bool false)), none, [], []⟩] false)
 (.cond (.t 95) (.exit 1) .skip))
 (.seq (.region [⟨some 97, .load true 7 (.t 7), none, [], []⟩,
  ⟨some 98, .load true 5 (.t 10), none, [], []⟩,
  ⟨some 99, .mov (.t 12), none, [], []⟩,
  ⟨some 100, .load true 2 (.t 14), none, [], []⟩,
  ⟨some 101, .call false 9 [(.t 97), (.t 98), (.c (.bool true)), (.t 99), (.c (.int .i64 17)), (.t 100)], none, [], []⟩,
  ⟨some 96, .mov (.t 101), none, [], []⟩,
  ⟨some 102, .ext (.t 96) 0, none, [], []⟩,
  ⟨some 103, .ext (.t 96) 1, none, [], []⟩,
  ⟨some 104, .ext (.t 96) 2, none, [], []⟩,
  ⟨some 105, .ext (.t 96) 3, none, [], []⟩,
  ⟨some 19, .alloc [.int .i64 0, .int .i64 0, .int .i64 0, .row [], .row []], none, [], []⟩,
  ⟨none, .store none 5 (.t 19) (.t 102), none, [], []⟩,
  ⟨some 20, .mov (.t 103), none, [], []⟩,
  ⟨some 21, .mov (.t 104), none, [], []⟩,
  ⟨some 22, .mov (.t 105), none, [], []⟩] false)
 (.seq (.seq (.region [⟨some 106, .mov (.t 22), none, [], []⟩,
  ⟨some 107, .bin .neq (.t 106) (.c (.int .i64 0)), none, [], []⟩] false)
 (.cond (.t 107) (.seq (.region [⟨some 6, .mov (.c (.bool false)), none, [], []⟩] false)
 .ret) .skip))
 (.region [⟨some 108, .load true 5 (.t 19), none, [], []⟩,
  ⟨some 109, .mov (.t 20), none, [], []⟩,
  ⟨none, .store none 5 (.t 10) (.t 108), none, [], []⟩,
  ⟨some 12, .mov (.t 109), none, [], []⟩] false)))))))))
 (.region [⟨some 61, .mov (.t 13), none, [], []⟩,
  ⟨some 62, .bin .add (.t 61) (.c (.int .i64 1)), none, [], []⟩,
  ⟨some 13, .mov (.t 62), none, [], []⟩] false)))))))
 (.seq (.region [⟨some 111, .load true 7 (.t 7), none, [], []⟩,
  ⟨some 112, .load true 5 (.t 10), none, [], []⟩,
  ⟨some 113, .fad 1 (.t 8), none, [], []⟩,
  ⟨some 114, .load false 1 (.t 113), none, [], []⟩,
  ⟨some 115, .call false 8 [(.t 111), (.t 112), (.c (.int .i64 17)), (.t 114)], none, [], []⟩,
  ⟨some 110, .mov (.t 115), none, [], []⟩,
  ⟨some 116, .ext (.t 110) 0, none, [], []⟩,
  ⟨some 117, .ext (.t 110) 1, none, [], []⟩,
  ⟨none, .store none 5 (.t 10) (.t 116), none, [], []⟩,
  ⟨some 9, .mov (.t 117), none, [], []⟩] false)
 (.seq (.seq (.region [⟨some 23, .mov (.c (.int .i64 0)), none, [], []⟩] false)
 (.block 2 (.loop (.keep [1, 7, 8, 9, 10, 12, 23] (.seq (.seq (.region [⟨some 118, .mov (.t 23), none, [], []⟩,
  ⟨some 119, .bin .lss (.t 118) (.c (.int .i64 40)), none, [], []⟩,
  ⟨some 120, .mov (.t 119), none, [], []⟩,
  ⟨some 121, .load true 5 (.t 10), some (120, true), [], []⟩,
  ⟨some 122, .call false 11 [(.t 121)], some (120, true), [], []⟩,
  ⟨some 123, .pick (.t 120) (.t 122) (.c (.bool false)), none, [], []⟩,
  ⟨some 124, .mov (.t 123), none, [], []⟩,
  ⟨some 125, .mov (.t 9), some (124, true), [], []⟩,
  ⟨some 126, .bin .eql (.t 125) (.c (.int .i64 0)), some (124, true), [], []⟩,
  ⟨some 127, .pick (.t 124) (.t 126) (.c (.bool false)), none, [], []⟩] false)
 (.cond (.t 127) .skip (.exit 2)))
 (.seq (.block 3 (.seq (.region [⟨some 131, .fad 3 (.t 8), none, [], []⟩,
  ⟨some 132, .load false 1 (.t 131), none, [], []⟩,
  ⟨some 133, .fad 1 (.t 8), none, [], []⟩,
  ⟨some 134, .load false 1 (.t 133), none, [], []⟩,
  ⟨some 135, .fad 4 (.t 7), none, [], []⟩,
  ⟨some 136, .load false 1 (.t 135), none, [], []⟩,
  ⟨some 137, .fad 1 (.t 10), none, [], []⟩,
  ⟨some 138, .load false 1 (.t 137), none, [], []⟩,
  ⟨some 139, .call false 18 [(.t 132), (.t 134), (.t 136), (.t 138)], none, [], []⟩,
  ⟨some 130, .mov (.t 139), none, [], []⟩,
  ⟨some 140, .ext (.t 130) 0, none, [], []⟩,
  ⟨some 141, .ext (.t 130) 1, none, [], []⟩,
  ⟨some 142, .ext (.t 130) 2, none, [], []⟩,
  ⟨some 24, .mov (.t 140), none, [], []⟩,
  ⟨some 25, .mov (.t 141), none, [], []⟩,
  ⟨some 26, .mov (.t 142), none, [], []⟩] false)
 (.seq (.seq (.region [⟨some 143, .mov (.t 26), none, [], []⟩,
  ⟨some 144, .bin .neq (.t 143) (.c (.int .i64 0)), none, [], []⟩] false)
 (.cond (.t 144) (.seq (.region [⟨some 6, .mov (.c (.bool false)), none, [], []⟩] false)
 .ret) .skip))
 (.seq (.seq (.region [⟨some 145, .mov (.t 24), none, [], []⟩,
  ⟨some 146, .bin .gtr (.t 145) (.c (.int .i64 0)), none, [], []⟩] false)
 (.cond (.t 146) (.region [⟨some 148, .load true 7 (.t 7), none, [], []⟩,
  ⟨some 149, .load true 5 (.t 10), none, [], []⟩,
  ⟨some 150, .mov (.t 12), none, [], []⟩,
  ⟨some 151, .fad 1 (.t 10), none, [], []⟩,
  ⟨some 152, .load false 1 (.t 151), none, [], []⟩,
  ⟨some 153, .mov (.t 24), none, [], []⟩,
  ⟨some 154, .call false 13 [(.t 148), (.t 149), (.c (.bool true)), (.t 150), (.c (.int .i64 17)), (.t 152), (.t 153)], none, [], []⟩,
  ⟨some 147, .mov (.t 154), none, [], []⟩,
  ⟨some 155, .ext (.t 147) 0, none, [], []⟩,
  ⟨some 156, .ext (.t 147) 1, none, [], []⟩,
  ⟨some 157, .ext (.t 147) 2, none, [], []⟩,
  ⟨some 158, .ext (.t 147) 3, none, [], []⟩,
  ⟨none, .store none 5 (.t 10) (.t 155), none, [], []⟩,
  ⟨some 12, .mov (.t 156), none, [], []⟩,
  ⟨some 9, .mov (.t 158), none, [], []⟩] false) .skip))
 (.seq (.region [⟨some 27, .mov (.c (.int .i64 0)), none, [], []⟩] false)
 (.block 4 (.loop (.keep [1, 7, 8, 9, 10, 12, 23, 25, 27] (.seq (.seq (.region [⟨some 159, .mov (.t 27), none, [], []⟩,
  ⟨some 160, .mov (.t 25), none, [], []⟩,
  ⟨some 161, .len (.t 160), none, [], []⟩,
  ⟨some 162, .bin .lss (.t 159) (.t 161), none, [], []⟩,
  ⟨some 163, .mov (.t 162), none, [], []⟩,
  ⟨some 164, .mov (.t 9), some (163, true), [], []⟩,
  ⟨some 165, .bin .eql (.t 164) (.c (.int .i64 0)), some (163, true), [], []⟩,
  ⟨some 166, .pick (.t 163) (.t 165) (.c (.bool false)), none, [], []⟩] false)
 (.cond (.t 166) .skip (.exit 4)))
 (.seq (.block 5 (.region [⟨some 170, .load true 7 (.t 7), none, [171, 172, 173, 174, 175, 176], []⟩,
  ⟨some 171, .load true 5 (.t 10), none, [170, 172, 173, 174, 175, 176], []⟩,
  ⟨some 172, .mov (.t 12), none, [170, 171, 173, 174, 175, 176], []⟩,
  ⟨some 173, .mov (.t 25), none, [170, 171, 172, 174], []⟩,
  ⟨some 174, .mov (.t 27), none, [170, 171, 172, 173], []⟩,
  ⟨some 175, .iad 2 (.t 173) (.t 174), none, [170, 171, 172], [3, 4]⟩,
  ⟨some 176, .load true 2 (.t 175), none, [170, 171, 172], [3, 4, 5]⟩,
  ⟨some 177, .call false 9 [(.t 170), (.t 171), (.c (.bool true)), (.t 172), (.c (.int .i64 17)), (.t 176)], none, [], [0, 1, 2, 3, 4, 5, 6]⟩,
  ⟨some 169, .mov (.t 177), none, [], [0, 1, 2, 3, 4, 5, 6, 7]⟩,
  ⟨some 178, .ext (.t 169) 0, none, [179, 180, 181], [0, 1, 2, 3, 4, 5, 6, 7, 8]⟩,
  ⟨some 179, .ext (.t 169) 1, none, [10, 178, 180, 181], [0, 1, 2, 3, 4, 5, 6, 7, 8]⟩,
  ⟨some 180, .ext (.t 169) 2, none, [10, 12, 178, 179, 181], [0, 1, 2, 3, 4, 5, 6, 7, 8]⟩,
  ⟨some 181, .ext (.t 169) 3, none, [10, 12, 178, 179, 180], [0, 1, 2, 3, 4, 5, 6, 7, 8]⟩,
  ⟨none, .store (some 10) 5 (.t 10) (.t 178), none, [179, 180, 181], [0, 1, 2, 3, 4, 5, 6, 7, 8, 9]⟩,
  ⟨some 12, .mov (.t 179), none, [180, 181], [0, 1, 2, 3, 4, 5, 6, 7, 8, 9, 10, 13]⟩,
  ⟨some 9, .mov (.t 181), none, [], [0, 1, 2, 3, 4, 5, 6, 7, 8, 9, 10, 11, 12, 13, 14]⟩] true))
 (.region [⟨some 167, .mov (.t 27), none, [], []⟩,
  ⟨some 168, .bin .add (.t 167) (.c (.int .i64 1)), none, [], []⟩,
  ⟨some 27, .mov (.t 168), none, [], []⟩] false)))))))))))
 (.region [⟨some 128, .mov (.t 23), none, [], []⟩,
  ⟨some 129, .bin .add (.t 128) (.c (.int .i64 1)), none, [], []⟩,
  ⟨some 23, .mov (.t 129), none, [], []⟩] false)))))))
 (.seq (.seq (.region [⟨some 182, .mov (.t 9), none, [], []⟩,
  ⟨some 183, .bin .neq (.t 182) (.c (.int .i64 0)), none, [], []⟩,
  ⟨some 184, .mov (.t 183), none, [], []⟩,
  ⟨some 185, .load true 5 (.t 10), some (184, false), [], []⟩,
  ⟨some 186, .call false 11 [(.t 185)], some (184, false), [], []⟩,
  ⟨some 187, .pick (.t 184) (.c (.bool true)) (.t 186), none, [], []⟩,
  ⟨some 188, .mov (.t 187), none, [], []⟩,
  ⟨some 189, .fad 1 (.t 10), some (188, false), [], []⟩,
  ⟨some 190, .load false 1 (.t 189), some (188, false), [], []⟩,
  ⟨some 191, .fad 1 (.t 8), some (188, false), [], []⟩,
  ⟨some 192, .load false 1 (.t 191), some (188, false), [], []⟩,
  ⟨some 193, .bin .neq (.t 190) (.t 192), some (188, false), [], []⟩,
  ⟨some 194, .pick (.t 188) (.c (.bool true)) (.t 193), none, [], []⟩,
  ⟨some 195, .mov (.t 194), none, [], []⟩,
  ⟨some 196, .fad 4 (.t 10), some (195, false), [], []⟩,
  ⟨some 197, .load false 1 (.t 196), some (195, false), [], []⟩,
  ⟨some 198, .call false 16 [(.t 197), (.c (.row []))], some (195, false), [], []⟩,
  ⟨some 199, .un .not (.t 198), some (195, false), [], []⟩,
  ⟨some 200, .pick (.t 195) (.c (.bool true)) (.t 199), none, [], []⟩] false)
 (.cond (.t 200) (.seq (.region [⟨some 6, .mov (.c (.bool false)), none, [], []⟩] false)
 .ret) .skip))
 (.seq (.region [⟨some 28, .mov (.c (.int .i64 1)), none, [], []⟩] false)
 (.seq (.seq (.region [⟨some 29, .mov (.c (.int .i64 0)), none, [], []⟩] false)
 (.block 6 (.loop (.keep [1, 12, 28, 29] (.seq (.seq (.region [⟨some 201, .mov (.t 29), none, [], []⟩,
  ⟨some 202, .mov (.t 12), none, [], []⟩,
  ⟨some 203, .len (.t 202), none, [], []⟩,
  ⟨some 204, .bin .lss (.t 201) (.t 203), none, [], []⟩] false)
 (.cond (.t 204) .skip (.exit 6)))
 (.seq (.block 7 (.seq (.seq (.region [⟨some 207, .mov (.t 12), none, [], []⟩,
  ⟨some 208, .mov (.t 29), none, [], []⟩,
  ⟨some 209, .iad 6 (.t 207) (.t 208), none, [], []⟩,
  ⟨some 210, .fad 2 (.t 209), none, [], []⟩,
  ⟨some 211, .load false 1 (.t 210), none, [], []⟩,
  ⟨some 212, .mov (.t 28), none, [], []⟩,
  ⟨some 213, .bin .neq (.t 211) (.t 212), none, [], []⟩,
  ⟨some 214, .mov (.t 213), none, [], []⟩,
  ⟨some 215, .mov (.t 12), some (214, false), [], []⟩,
  ⟨some 216, .mov (.t 29), some (214, false), [], []⟩,
  ⟨some 217, .iad 6 (.t 215) (.t 216), some (214, false), [], []⟩,
  ⟨some 218, .fad 1 (.t 217), some (214, false), [], []⟩,
  ⟨some 219, .load false 1 (.t 218), some (214, false), [], []⟩,
  ⟨some 220, .bin .neq (.t 219) (.c (.int .i64 17)), some (214, false), [], []⟩,
  ⟨some 221, .pick (.t 214) (.c (.bool true)) (.t 220), none, [], []⟩] false)
 (.cond (.t 221) (.seq (.region [⟨some 6, .mov (.c (.bool false)), none, [], []⟩] false)
 .ret) .skip))
 (.seq (.region [⟨some 222, .mov (.t 28), none, [], []⟩,
  ⟨some 223, .bin .add (.t 222) (.c (.int .i64 1)), none, [], []⟩,
  ⟨some 28, .mov (.t 223), none, [], []⟩] false)
 (.seq (.region [⟨some 224, .mov (.t 12), none, [], []⟩,
  ⟨some 225, .mov (.t 29), none, [], []⟩,
  ⟨some 226, .iad 6 (.t 224) (.t 225), none, [], []⟩,
  ⟨some 227, .fad 0 (.t 226), none, [], []⟩,
  ⟨some 228, .load false 1 (.t 227), none, [], []⟩,
  ⟨some 229, .bin .eql (.t 228) (.c (.int .i64 2)), none, [], []⟩] false)
 (.cond (.t 229) (.region [⟨some 230, .mov (.t 12), none, [], []⟩,
  ⟨some 231, .mov (.t 29), none, [], []⟩,
  ⟨some 232, .iad 6 (.t 230) (.t 231), none, [], []⟩,
  ⟨some 233, .fad 3 (.t 232), none, [], []⟩,
  ⟨some 234, .load false 1 (.t 233), none, [], []⟩,
  ⟨some 235, .bin .add (.t 234) (.c (.int .i64 1)), none, [], []⟩,
  ⟨some 28, .mov (.t 235), none, [], []⟩] false) (.seq (.region [⟨some 236, .mov (.t 12), none, [237, 241, 242, 243, 244, 245, 246], []⟩,
  ⟨some 237, .mov (.t 29), none, [236, 241, 242, 243, 244, 245, 246], []⟩,
  ⟨some 238, .iad 6 (.t 236) (.t 237), none, [241, 242, 243, 244, 245, 246], [0, 1]⟩,
  ⟨some 239, .fad 4 (.t 238), none, [241, 242, 243, 244, 245, 246], [0, 1, 2]⟩,
  ⟨some 240, .load false 1 (.t 239), none, [241, 242, 243, 244, 245, 246], [0, 1, 2, 3]⟩,
  ⟨some 241, .mov (.t 12), none, [236, 237, 238, 239, 240, 242], []⟩,
  ⟨some 242, .mov (.t 29), none, [236, 237, 238, 239, 240, 241], []⟩,
  ⟨some 243, .iad 6 (.t 241) (.t 242), none, [236, 237, 238, 239, 240], [5, 6]⟩,
  ⟨some 244, .fad 2 (.t 243), none, [236, 237, 238, 239, 240], [5, 6, 7]⟩,
  ⟨some 245, .load false 1 (.t 244), none, [236, 237, 238, 239, 240], [5, 6, 7, 8]⟩,
  ⟨some 246, .bin .mul (.c (.int .i64 3)) (.t 245), none, [236, 237, 238, 239, 240], [5, 6, 7, 8, 9]⟩,
  ⟨some 247, .bin .neq (.t 240) (.t 246), none, [], [0, 1, 2, 3, 4, 5, 6, 7, 8, 9, 10]⟩] true)
 (.cond (.t 247) (.seq (.region [⟨some 6, .mov (.c (.bool false)), none, [], []⟩] false)
 .ret) .skip)))))))
 (.region [⟨some 205, .mov (.t 29), none, [], []⟩,
  ⟨some 206, .bin .add (.t 205) (.c (.int .i64 1)), none, [], []⟩,
  ⟨some 29, .mov (.t 206), none, [], []⟩] false)))))))
 (.seq (.region [⟨some 248, .mov (.t 28), none, [], []⟩,
  ⟨some 249, .mov (.t 1), none, [], []⟩,
  ⟨some 250, .bin .add (.t 249) (.c (.int .i64 1)), none, [], []⟩,
  ⟨some 251, .bin .eql (.t 248) (.t 250), none, [], []⟩,
  ⟨some 252, .mov (.t 251), none, [], []⟩,
  ⟨some 253, .call false 12 [], some (252, true), [], []⟩,
  ⟨some 254, .pick (.t 252) (.t 253) (.c (.bool false)), none, [], []⟩,
  ⟨some 6, .mov (.t 254), none, [], []⟩] false)
 .ret))))))))))))))))
def i6 : F := ⟨3, 255, j6, [.t 6]⟩
theorem b6 : i6.body = j6 := rfl
theorem q6 : i6.res = [.t 6] := rfl
theorem c6 : chkF Tryd.prog Tryd.f6 i6 = true := by kernel_rfl
theorem s6 {m : Model} {E : Nat → Model} (hE : ∀ f, Sound Tryd.prog f (E f)) (hm : ∀ args r, m args = some r → ∃ N, i6.ev E N args = some r) : Sound Tryd.prog 6 m := sound_of i6 Tryd.func6 rfl c6 hE hm
def xt : List (Nat × Model) := []
def tb : List (Nat × F) := [(6, i6)]
theorem xt_ok : ∀ p ∈ xt, Sound Tryd.prog p.1 p.2 := all_nil
theorem tb_ok (N : Nat) : ∀ p ∈ tb, ∀ E : Nat → Model, (∀ f, Sound Tryd.prog f (E f)) → Sound Tryd.prog p.1 (p.2.ev E N) := all_cons (fun E hE => s6 hE fun _ _ h => ⟨N, h⟩) (all_nil)
abbrev TT (N : Nat) : Nat → Nat → Model := T1 (IF.TT N) 6 i6 N
theorem TT_ok (N d f : Nat) : Sound Tryd.prog f (TT N d f) := T1_ok (IF.TT_ok N) (fun E hE => s6 hE fun _ _ h => ⟨N, h⟩) d f
theorem t6 (N d : Nat) : TT N (d + 1) 6 = i6.ev (IF.TT N d) N := rfl
end Go.Proofs.YtkfcbpbnoeaheaaDoor.LC
namespace Go.Proofs.YtkfcbpbnoeaheaaDoor.FA
open Go Go.Proofs.YtkfcbpbnoeaheaaDoorR Go.Proofs.YtkfcbpbnoeaheaaDoor.IF
open Go.Proofs.YtkfcbpbnoeaheaaDoor.QA (Ev eE aE rE inB epOK evOK qOK putE n01 gapE lastK)
open Go.Proofs.YtkfcbpbnoeaheaaDoor.AA (It eT aT rT ahOK addA addR leftL wi wm takeT allT take_s hR pre cP risB fitsB left_s ins)
open Go.Proofs.YtkfcbpbnoeaheaaDoor.EC (Cf eC okC confC)
open Go.Proofs.YtkfcbpbnoeaheaaDoor.LC (j6 i6 b6 q6)
set_option maxRecDepth 100000
set_option maxHeartbeats 8000000
abbrev rB (l : List Bool) : V := .row (l.map fun b : Bool => [V.bool b])
/-- What the statement keeps of a child. -/
structure Ch (c : Cf) (M : Int) (s : Sm) (q : List Ev) : Prop where
  fl : flowC c s q = 0
  ep : s.e = 17
  wl : s.w ≤ M
  kn : s.kn ≤ M
  ah : ∀ y ∈ s.ah, y.v = 3 * y.s ∧ y.s < M
  qc : qch 17 (fun s v => v = 3 * s ∧ s < M) 1 q s.w
theorem Ch.item {c : Cf} {M : Int} {s : Sm} {q : List Ev} (h : Ch c M s q) {x : It} (hx : inB x.s 1 1073741823 = true) (hv : inB x.v 0 2147483647 = true) (hp : x.v = 3 * x.s ∧ x.s < M) : Ch c M (itemG c s true q false x).1 (itemG c s true q false x).2.1 ∧ s.w ≤ (itemG c s true q false x).1.w ∧ s.kn ≤ (itemG c s true q false x).1.kn ∧ (x.s = s.w → s.w + 1 ≤ (itemG c s true q false x).1.w) := by
  have hep : epOK s.e = true := by rw [h.ep]; decide
  obtain ⟨a1, a2, a3, a4, a5, a6, a7, _, a9, _, a11⟩ := item_same (sub := true) (q := q) (P := fun s v => v = 3 * s ∧ s < M) h.fl hep hx hv hp h.ah
  have hw := seqP_lt a6 h.wl
  exact ⟨⟨a1, by rw [a2, h.ep], hw, itemG_kn h.kn hp.2 hw, a7, by have := a9 rfl 1 (by rw [h.ep]; exact h.qc); rw [h.ep] at this; exact this⟩, a3, a4, a11⟩
theorem Ch.gone {c : Cf} {M : Int} {s : Sm} {q : List Ev} (h : Ch c M s q) {to : Int} (ht : s.w ≤ to ∧ to < M) (hM : M ≤ 1000) : Ch c M (goneG c s true q 17 s.w to).1 (goneG c s true q 17 s.w to).2.1 ∧ to + 1 ≤ (goneG c s true q 17 s.w to).1.w ∧ s.kn ≤ (goneG c s true q 17 s.w to).1.kn := by
  have hep : epOK s.e = true := by rw [h.ep]; decide
  obtain ⟨a1, a2, a3, a4, a5, a6, _, a8⟩ := gone_same (sub := true) (q := q) (fr := s.w) (to := to) (P := fun s v => v = 3 * s ∧ s < M) h.fl hep ⟨Int.le_refl _, ht.1, by omega⟩ h.ah
  rw [h.ep] at a1 a2 a3 a4 a5 a6 a8
  have hw := seqP_lt a5 (by omega)
  exact ⟨⟨a1, a2, hw, goneG_kn h.kn ht.2 hw, fun y hy => (a6 y hy).1, a8 rfl 1 h.qc⟩, a3, a4⟩
theorem Ch.told {c : Cf} {M : Int} {s : Sm} {q : List Ev} (h : Ch c M s q) (hM : 1 ≤ M ∧ M ≤ 1000) : Ch c M (toldS s 17 M) q ∧ (toldS s 17 M).kn = M ∧ 1 ≤ s.w ∧ (toldS s 17 M).w = s.w ∧ toldP c s 17 M = (toldS s 17 M, 0) := by
  have hep : epOK s.e = true := by rw [h.ep]; decide
  obtain ⟨k1, k2, k3⟩ := flow_t h.fl
  have kc := okC_t k1
  have hqn := q_nil kc.2.2.2.2.2.2
  obtain ⟨r1, r2, r3⟩ := right_e k2 hep
  obtain ⟨n1, n2, n3, n4⟩ := right_kn k2 hep
  have f0 : flowC c s [] = 0 := flow_of k1 k2 hqn
  have hi : inB M 1 1073741824 = true := by simp [inB]; omega
  have h17 : epOK 17 = true := by decide
  have hkn : (if M > s.kn then M else s.kn) = M := by have := h.kn; split <;> omega
  have ht : toldS s 17 M = ⟨s.e, s.w, M, s.kp, s.ah⟩ := by
    unfold toldS
    rw [if_neg (by rw [h.ep]; omega), if_pos h.ep.symm, hkn]
  rw [ht]
  refine ⟨⟨flow_of k1 (right_of hep ⟨r3, n4⟩ h.wl (by show M ≤ _; omega) r1 r2) k3, h.ep, h.wl, Int.le_refl _, h.ah, h.qc⟩, rfl, r3, rfl, ?_⟩
  simp only [toldP, f0, h17, hi, Bool.and_self, if_true, ht]
theorem e6 (conf n : Int) (lost : List Bool) : LC.TT 1000 18 6 [iV conf, iV n, .one (rB lost)] = some (bV true, []) := by
  rw [LC.t6, F_ev rfl]
  by_cases h30 : (lost.length : Int) > 30
  · simp only [decide_eq_true h30, List.length_map, j6, b6, q6, qq, ww, List.replicate, Nat.reduceBEq, Nat.reduceAdd, Nat.reduceMul, Nat.reduceDiv, Nat.reduceEqDiff, Nat.reduceLeDiff, Nat.reduceLT, Int.reduceEq, Int.reduceNe, Int.reduceLT, Int.reduceLE, Int.reduceAdd, Int.reduceSub, Int.reduceMul, Int.reduceNeg, Int.reduceToNat, Int.reducePow, Nat.reducePow, reduceCtorEq, reduceIte, if_true, if_false]
  obtain ⟨m1, m2⟩ := umodF conf 1000000 (by omega) (by omega)
  obtain ⟨f1, f2⟩ := umodF n 25 (by omega) (by omega)
  have hcf := fun d => EC.e7 1000 d conf _ rfl ⟨m1, m2⟩
  have hok0 := EC.ok_conf (IntKind.i64.wrap ((IntKind.u64.wrap conf).tmod 1000000))
  generalize confC (IntKind.i64.wrap ((IntKind.u64.wrap conf).tmod 1000000)) = c0 at *
  generalize hF : IntKind.i64.wrap ((IntKind.u64.wrap n).tmod 25) = nv at *
  obtain ⟨c, hc⟩ : ∃ c : Cf, c = ⟨c0.n, c0.t, c0.k, c0.d, c0.p, c0.w, 32⟩ := ⟨_, rfl⟩
  have hok : okC c = true := by
    have := okC_t hok0
    subst hc
    simp only [okC, decide_eq_true_eq]
    exact ⟨this.1, this.2.1, this.2.2.1, this.2.2.2.1, this.2.2.2.2.1, this.2.2.2.2.2.1, by omega⟩
  have hw := w18
  obtain ⟨u1, u2⟩ := told_new (c := c) (a := 17) (n := 1) hok (by decide) (by omega)
  have hT : ∀ d, TT 1000 (d + 12) 8 [.agg (eC c), .agg [.int .i64 0, .int .i64 0, .int .i64 0, .row [], .row []], iV 17, iV 1] = some (.tup [aS ⟨17, 1, 1, [], []⟩, iV 0], []) := fun d => by
    have := e8 1000 d (by omega) c s0 17 1 (by simp)
    rw [u1] at this
    exact this
  subst hc
  simp only [decide_eq_false h30, hcf, hF, hT, List.length_map, j6, b6, q6, qq, ww, List.replicate, Nat.reduceBEq, Nat.reduceAdd, Nat.reduceMul, Nat.reduceDiv, Nat.reduceEqDiff, Nat.reduceLeDiff, Nat.reduceLT, Int.reduceEq, Int.reduceNe, Int.reduceLT, Int.reduceLE, Int.reduceAdd, Int.reduceSub, Int.reduceMul, Int.reduceNeg, Int.reduceToNat, Int.reducePow, Nat.reducePow, reduceCtorEq, reduceIte, if_true, if_false]
  generalize hcc : (⟨c0.n, c0.t, c0.k, c0.d, c0.p, c0.w, 32⟩ : Cf) = c at *
  have hcE : ([.int .i64 c0.n, .int .i64 c0.t, .int .i64 c0.k, .int .i64 c0.d, .int .i64 c0.p, .int .i64 c0.w, .int .i64 32] : List V) = eC c := by subst hcc; rfl
  generalize hs1 : (⟨17, 1, 1, [], []⟩ : Sm) = sI at *
  have hI0 : sI.e = 17 ∧ sI.w = 1 ∧ sI.kn = 1 ∧ sI.ah = [] ∧ sI.kp = [] := by subst hs1; exact ⟨rfl, rfl, rfl, rfl, rfl⟩
  obtain ⟨M, hM⟩ : ∃ M : Int, M = nv + 1 := ⟨_, rfl⟩
  have hMb : 1 ≤ M ∧ M ≤ 25 := by omega
  have hchI : Ch c M sI [] := ⟨u2, hI0.1, by omega, by omega, by rw [hI0.2.2.2.1]; simp, by rw [hI0.2.1]; rfl⟩
  refine loopI (K := fun o => fin _ (aft _ _ _ o)) (I := fun i st => ∃ p s q, st = ⟨[(1, iV nv), (2, .one (rB lost)), (7, .one (.ref 448 0 0)), (8, .one (.ref 512 0 0)), (10, .one (.ref 640 0 0)), (12, .one (rE q)), (13, iV ((i + 1 : Nat) : Int))], [(448, .box (eC c)), (512, .box (eS p)), (640, .box (eS s))]⟩ ∧ flowC c p [] = 0 ∧ p.e = 17 ∧ p.ah = [] ∧ p.w = (i : Int) + 1 ∧ (∀ y ∈ p.kp, y.v = 3 * y.s) ∧ Ch c M s q) _ nv.toNat ?hr nv.toNat 0 1000 _ ⟨[(1, iV nv), (2, .one (rB lost)), (7, .one (.ref 448 0 0)), (8, .one (.ref 512 0 0)), (10, .one (.ref 640 0 0)), (12, .one (.row [])), (13, iV 1)], [(448, .box (eC c)), (512, .box (eS sI)), (640, .box (eS sI))]⟩ (by omega) (by omega) ?hk ⟨sI, sI, [], rfl, u2, hI0.1, hI0.2.2.2.1, by rw [hI0.2.1]; rfl, by rw [hI0.2.2.2.2]; simp, hchI⟩
  case hk => simp only [gcK, lowB, Nat.reduceLeDiff, Nat.reduceBEq, List.contains_nil, List.contains_cons, Bool.or_false, Bool.false_or, Bool.false_eq_true, if_false, Bool.true_and, Bool.and_true, pickL, look_hit, look_miss, look_end, slMent, hpMent, S.ment, S.ment.smt, ments, V.ment, List.append_nil, List.nil_append, List.cons_append, List.all_nil, List.all_cons, Option.isSome_some, Bool.and_self, if_true, reduceIte, Nat.reduceEqDiff, not_false_eq_true, reduceCtorEq, Nat.reduceMul, Nat.reduceAdd]; rw [hcE]; subst hs1; rfl
  case hr =>
    rintro i k st hi ⟨p, s, q, rfl, p0, pe, pa, pw, pk, hch⟩ ih
    (try dsimp only)
    obtain ⟨k1, k2, k3⟩ := flow_t p0
    have k4 := right_t k2
    have hpe : epOK p.e = true := by rw [pe]; decide
    have hse : epOK s.e = true := by rw [hch.ep]; decide
    obtain ⟨l1, l2, l3⟩ := flow_t hch.fl
    have l4 := right_t l2
    have l5 := q_t l3
    by_cases hlt : i < nv.toNat
    · have g1 : decide (((i + 1 : Nat) : Int) ≤ nv) = true := decide_eq_true (by omega)
      have w1 : IntKind.i64.wrap (3 * ((i + 1 : Nat) : Int)) = 3 * ((i + 1 : Nat) : Int) := IntWalk.i64_in _ (by omega)
      have w2 : IntKind.i64.wrap (((i + 1 : Nat) : Int) - 1) = (i : Int) := by rw [IntWalk.i64_in _ (by omega)]; omega
      have w3 : IntKind.i64.wrap (((i + 1 : Nat) : Int) + 1) = ((i + 1 + 1 : Nat) : Int) := by rw [IntWalk.i64_in _ (by omega)]; omega
      obtain ⟨x, hx⟩ : ∃ x : It, x = ⟨((i + 1 : Nat) : Int), 3 * ((i + 1 : Nat) : Int)⟩ := ⟨_, rfl⟩
      have hxs : x.s = ((i + 1 : Nat) : Int) := by rw [hx]
      have hxv : x.v = 3 * ((i + 1 : Nat) : Int) := by rw [hx]
      have hx1 : inB x.s 1 1073741823 = true := by rw [hxs]; simp [inB]; omega
      have hx2 : inB x.v 0 2147483647 = true := by rw [hxv]; simp [inB]; omega
      have hxe : ([.int .i64 ((i + 1 : Nat) : Int), .int .i64 (3 * ((i + 1 : Nat) : Int))] : List V) = eT x := by rw [hx]
      have hpi : ∀ d, ans (TT 1000 (d + 16) 9 [.agg (eC c), aS p, bV false, .one (.row []), iV 17, .agg [.int .i64 ((i + 1 : Nat) : Int), .int .i64 (3 * ((i + 1 : Nat) : Int))]]) = some (fA (itemG c p false [] false x, 0)) := fun d => by
        have := e9 1000 d (by omega) c p false [] p.e x ⟨by omega, by omega⟩ (by simp)
        rw [item_at p0 hpe hx1 hx2, pe] at this
        rw [hxe]
        exact this
      have hsi : ∀ d, ans (TT 1000 (d + 16) 9 [.agg (eC c), aS s, bV true, .one (rE q), iV 17, .agg [.int .i64 ((i + 1 : Nat) : Int), .int .i64 (3 * ((i + 1 : Nat) : Int))]]) = some (fA (itemG c s true q false x, 0)) := fun d => by
        have := e9 1000 d (by omega) c s true q s.e x ⟨by omega, by omega⟩ (by omega)
        rw [item_at hch.fl hse hx1 hx2, hch.ep] at this
        rw [hxe]
        exact this
      have hnx := item_next p0 hpe hx1 hx2 (by rw [hxs, pw]; omega) pa
      obtain ⟨a1, a2, _⟩ := item_same (sub := false) (q := []) (P := fun _ _ => True) p0 hpe hx1 hx2 trivial (fun _ _ => trivial)
      obtain ⟨b1, _, _, _⟩ := hch.item hx1 hx2 ⟨by rw [hxv, hxs], by rw [hxs]; omega⟩
      have a3 : (itemG c p false [] false x).2.1 = [] := by rw [hnx]
      have a4 : (itemG c p false [] false x).2.2.length = 1 := by rw [hnx]; rfl
      have a5 : (itemG c p false [] false x).1.ah = [] := by rw [hnx]
      have a6 : (itemG c p false [] false x).1.w = p.w + 1 := by rw [hnx]
      have a7 : ∀ y ∈ (itemG c p false [] false x).1.kp, y.v = 3 * y.s := by
        rw [hnx]
        intro y hy
        rcases push_mem hy with h | h
        · exact pk y h
        · rw [h]; show x.v = 3 * p.w; rw [hxv, pw]; omega
      clear hnx
      rw [a3] at a1
      generalize itemG c p false [] false x = G at *
      obtain ⟨p', r1, on⟩ := G
      generalize itemG c s true q false x = H at *
      obtain ⟨s', q', on2⟩ := H
      dsimp only at a1 a2 a3 a4 a5 a6 a7 b1 hpi hsi
      have a4' : decide ((on.length : Int) = 1) = true := decide_eq_true (by omega)
      by_cases c1 : (i : Int) < (lost.length : Int)
      · have c2 : 0 ≤ (i : Int) ∧ (i : Int) < (lost.length : Int) := by omega
        have c3 : (lost.map fun b : Bool => [V.bool b])[i]? = some [.bool (lost[i]'(by omega))] := by simp [show i < lost.length by omega]
        cases c4 : lost[i]'(by omega) with
        | true =>
          rw [c4] at c3
          simp only [g1, w1, w2, w3, hpi, fA, a4', decide_eq_true c1, c2.1, c2.2, c3, List.length_map, Int.toNat_natCast, j6, b6, q6, qq, ww, List.replicate, Nat.reduceBEq, Nat.reduceAdd, Nat.reduceMul, Nat.reduceDiv, Nat.reduceEqDiff, Nat.reduceLeDiff, Nat.reduceLT, Int.reduceEq, Int.reduceNe, Int.reduceLT, Int.reduceLE, Int.reduceAdd, Int.reduceSub, Int.reduceMul, Int.reduceNeg, Int.reduceToNat, Int.reducePow, Nat.reducePow, reduceCtorEq, reduceIte, if_true, if_false]
          exact ih hlt _ _ (by simp only [gcK, lowB, Nat.reduceLeDiff, Nat.reduceBEq, List.contains_nil, List.contains_cons, Bool.or_false, Bool.false_or, Bool.false_eq_true, if_false, Bool.true_and, Bool.and_true, pickL, look_hit, look_miss, look_end, slMent, hpMent, S.ment, S.ment.smt, ments, V.ment, List.append_nil, List.nil_append, List.cons_append, List.all_nil, List.all_cons, Option.isSome_some, Bool.and_self, if_true, reduceIte, Nat.reduceEqDiff, not_false_eq_true, reduceCtorEq, Nat.reduceMul, Nat.reduceAdd]) ⟨p', s, q, rfl, a1, by rw [a2, pe], a5, by rw [a6, pw]; omega, a7, hch⟩
        | false =>
          rw [c4] at c3
          simp only [g1, w1, w2, w3, hpi, hsi, fA, a4', decide_eq_true c1, c2.1, c2.2, c3, List.length_map, Int.toNat_natCast, j6, b6, q6, qq, ww, List.replicate, Nat.reduceBEq, Nat.reduceAdd, Nat.reduceMul, Nat.reduceDiv, Nat.reduceEqDiff, Nat.reduceLeDiff, Nat.reduceLT, Int.reduceEq, Int.reduceNe, Int.reduceLT, Int.reduceLE, Int.reduceAdd, Int.reduceSub, Int.reduceMul, Int.reduceNeg, Int.reduceToNat, Int.reducePow, Nat.reducePow, reduceCtorEq, reduceIte, if_true, if_false]
          exact ih hlt _ _ (by simp only [gcK, lowB, Nat.reduceLeDiff, Nat.reduceBEq, List.contains_nil, List.contains_cons, Bool.or_false, Bool.false_or, Bool.false_eq_true, if_false, Bool.true_and, Bool.and_true, pickL, look_hit, look_miss, look_end, slMent, hpMent, S.ment, S.ment.smt, ments, V.ment, List.append_nil, List.nil_append, List.cons_append, List.all_nil, List.all_cons, Option.isSome_some, Bool.and_self, if_true, reduceIte, Nat.reduceEqDiff, not_false_eq_true, reduceCtorEq, Nat.reduceMul, Nat.reduceAdd]) ⟨p', s', q', rfl, a1, by rw [a2, pe], a5, by rw [a6, pw]; omega, a7, b1⟩
      · simp only [g1, w1, w2, w3, hpi, hsi, fA, a4', decide_eq_false c1, List.length_map, Int.toNat_natCast, j6, b6, q6, qq, ww, List.replicate, Nat.reduceBEq, Nat.reduceAdd, Nat.reduceMul, Nat.reduceDiv, Nat.reduceEqDiff, Nat.reduceLeDiff, Nat.reduceLT, Int.reduceEq, Int.reduceNe, Int.reduceLT, Int.reduceLE, Int.reduceAdd, Int.reduceSub, Int.reduceMul, Int.reduceNeg, Int.reduceToNat, Int.reducePow, Nat.reducePow, reduceCtorEq, reduceIte, if_true, if_false]
        exact ih hlt _ _ (by simp only [gcK, lowB, Nat.reduceLeDiff, Nat.reduceBEq, List.contains_nil, List.contains_cons, Bool.or_false, Bool.false_or, Bool.false_eq_true, if_false, Bool.true_and, Bool.and_true, pickL, look_hit, look_miss, look_end, slMent, hpMent, S.ment, S.ment.smt, ments, V.ment, List.append_nil, List.nil_append, List.cons_append, List.all_nil, List.all_cons, Option.isSome_some, Bool.and_self, if_true, reduceIte, Nat.reduceEqDiff, not_false_eq_true, reduceCtorEq, Nat.reduceMul, Nat.reduceAdd]) ⟨p', s', q', rfl, a1, by rw [a2, pe], a5, by rw [a6, pw]; omega, a7, b1⟩
    · clear ih
      obtain rfl : i = nv.toNat := by omega
      have g1 : decide (((nv.toNat + 1 : Nat) : Int) ≤ nv) = false := decide_eq_false (by omega)
      have hpM : p.w = M := by omega
      obtain ⟨d1, d2, d3, d4, d5⟩ := hch.told (by omega)
      have hTo : ∀ d, TT 1000 (d + 12) 8 [.agg (eC c), aS s, iV 17, iV p.w] = some (.tup [aS (toldS s 17 M), iV 0], []) := fun d => by
        rw [hpM]
        have := e8 1000 d (by omega) c s 17 M ⟨by omega, by omega⟩
        rw [d5] at this
        exact this
      simp only [g1, hTo, List.length_map, j6, b6, q6, qq, ww, List.replicate, Nat.reduceBEq, Nat.reduceAdd, Nat.reduceMul, Nat.reduceDiv, Nat.reduceEqDiff, Nat.reduceLeDiff, Nat.reduceLT, Int.reduceEq, Int.reduceNe, Int.reduceLT, Int.reduceLE, Int.reduceAdd, Int.reduceSub, Int.reduceMul, Int.reduceNeg, Int.reduceToNat, Int.reducePow, Nat.reducePow, reduceCtorEq, reduceIte, if_true, if_false]
      generalize toldS s 17 M = s2 at *
      have hok17 : epOK 17 = true := by decide
      have h00 : decide ((0 : Int) = 0) = true := rfl
      have hKp := (right_e k2 hpe).1
      refine loopI (K := fun o => fin _ (aft _ _ _ o)) (I := fun i st => ∃ s q, st = ⟨[(1, iV nv), (7, .one (.ref 448 0 0)), (8, .one (.ref 512 0 0)), (9, iV 0), (10, .one (.ref 640 0 0)), (12, .one (rE q)), (23, iV i)], [(448, .box (eC c)), (512, .box (eS p)), (640, .box (eS s))]⟩ ∧ Ch c M s q ∧ s.kn = M ∧ (i : Int) + 1 ≤ s.w) _ 40 ?hr2 40 0 1000 _ ⟨[(1, iV nv), (7, .one (.ref 448 0 0)), (8, .one (.ref 512 0 0)), (9, iV 0), (10, .one (.ref 640 0 0)), (12, .one (rE q)), (23, iV 0)], [(448, .box (eC c)), (512, .box (eS p)), (640, .box (eS s2))]⟩ (by omega) (by omega) ?hk2 ⟨s2, q, rfl, d1, d2, by omega⟩
      case hk2 => simp only [gcK, lowB, Nat.reduceLeDiff, Nat.reduceBEq, List.contains_nil, List.contains_cons, Bool.or_false, Bool.false_or, Bool.false_eq_true, if_false, Bool.true_and, Bool.and_true, pickL, look_hit, look_miss, look_end, slMent, hpMent, S.ment, S.ment.smt, ments, V.ment, List.append_nil, List.nil_append, List.cons_append, List.all_nil, List.all_cons, Option.isSome_some, Bool.and_self, if_true, reduceIte, Nat.reduceEqDiff, not_false_eq_true, reduceCtorEq, Nat.reduceMul, Nat.reduceAdd]
      case hr2 =>
        rintro i n2 st hi2 ⟨s, q, rfl, hch, hkn, hiw⟩ ih
        (try dsimp only)
        have hwM := hch.wl
        have hi24 : i < 40 := by omega
        have g1 : decide ((i : Int) < 40) = true := decide_eq_true (by omega)
        have hse : epOK s.e = true := by rw [hch.ep]; decide
        obtain ⟨l1, l2, l3⟩ := flow_t hch.fl
        have l4 := right_t l2
        have l5 := q_t l3
        have hlk := fun d => e11 1000 d s
        have hsl : smL s := ⟨by omega, by omega⟩
        by_cases g2 : s.kn > s.w
        · have hfr : 1 ≤ s.w ∧ s.w < p.w := by omega
          have hag := fun d => e18 1000 d p.kp p.w c.p s.w hKp hfr (by omega) (by omega)
          obtain ⟨x1, x2, x3⟩ := again_t hKp hfr
          have hxk : ∀ (j : Nat) (h : j < (againL p.kp p.w s.w).length), (againL p.kp p.w s.w)[j].v = 3 * (againL p.kp p.w s.w)[j].s := fun j h => pk _ (x1 j h).2.2
          have hx0 : ∀ h : 0 < (againL p.kp p.w s.w).length, againN p.kp p.w s.w = 0 → (againL p.kp p.w s.w)[0].s = s.w := fun h h2 => by
            have := (x1 0 h).1
            rcases x2 with h3 | h3
            · rw [if_neg (by omega)] at this
              omega
            · omega
          have hxl : ∀ (j : Nat) (h : j < (againL p.kp p.w s.w).length), 1 ≤ (againL p.kp p.w s.w)[j].s ∧ (againL p.kp p.w s.w)[j].s < M := fun j h => by
            have := x1 j h
            refine ⟨?_, by have := this.2.1; omega⟩
            have h4 := this.1
            rcases x2 with h3 | h3
            · rw [if_neg (by omega)] at h4; omega
            · rw [if_pos (by omega)] at h4; omega
          have x2' : againN p.kp p.w s.w = 0 ∧ 0 < (againL p.kp p.w s.w).length ∨ s.w ≤ againN p.kp p.w s.w ∧ 0 < againN p.kp p.w s.w ∧ againN p.kp p.w s.w < M := by
            rcases x2 with h3 | h3
            · exact .inl ⟨h3.1, h3.2.2⟩
            · exact .inr ⟨h3.1, h3.2.1, by omega⟩
          clear x1 x2
          generalize againL p.kp p.w s.w = L at *
          generalize againN p.kp p.w s.w = gn at *
          have hin : ∀ (t : Sm) (r : List Ev), Ch c M t r → ∀ (j : Nat) (h : j < L.length), ∀ d, ans (TT 1000 (d + 16) 9 [.agg (eC c), aS t, bV true, .one (rE r), iV 17, aT L[j]]) = some (fA (itemG c t true r false L[j], 0)) := fun t r ht j h d => by
            have hte : epOK t.e = true := by rw [ht.ep]; decide
            obtain ⟨b1, b2, b3⟩ := flow_t ht.fl
            have b4 := right_t b2
            have b5 := q_t b3
            have b6 := hxl j h
            have := e9 1000 d (by omega) c t true r t.e L[j] ⟨by omega, by omega⟩ (by omega)
            rw [item_at ht.fl hte (by simp [inB]; omega) (by rw [hxk j h]; simp [inB]; omega), ht.ep] at this
            exact this
          by_cases g3 : gn > 0
          · have x4 : s.w ≤ gn ∧ gn < M := by omega
            obtain ⟨m1, m2, m3⟩ := hch.gone x4 (by omega)
            have hG : ∀ d, ans (TT 1000 (d + 16) 13 [.agg (eC c), aS s, bV true, .one (rE q), iV 17, iV s.w, iV gn]) = some (fA (goneG c s true q 17 s.w gn, 0)) := fun d => by
              have := e13 1000 d (by omega) c s true q 17 s.w gn hsl (by omega)
              have b1 : decide ((1 : Int) ≤ s.w) = true := by simp; omega
              have b2 : decide (s.w ≤ gn) = true := by simp; omega
              have b3 : inB gn 1 1073741823 = true := by simp [inB]; omega
              rw [show goneP c s true q 17 s.w gn = (goneG c s true q 17 s.w gn, 0) by simp only [goneP, hch.fl, hok17, b1, b2, b3, Bool.and_self, if_true]] at this
              exact this
            generalize goneG c s true q 17 s.w gn = G at *
            obtain ⟨s', q', on⟩ := G
            dsimp only at m1 m2 m3 hG
            have hk' := m1.kn
            simp only [g1, h00, decide_eq_true g2, decide_eq_true g3, hlk, hag, hG, fA, List.length_map, j6, b6, q6, qq, ww, List.replicate, Nat.reduceBEq, Nat.reduceAdd, Nat.reduceMul, Nat.reduceDiv, Nat.reduceEqDiff, Nat.reduceLeDiff, Nat.reduceLT, Int.reduceEq, Int.reduceNe, Int.reduceLT, Int.reduceLE, Int.reduceAdd, Int.reduceSub, Int.reduceMul, Int.reduceNeg, Int.reduceToNat, Int.reducePow, Nat.reducePow, reduceCtorEq, reduceIte, if_true, if_false]
            refine loopI (K := fun o => fin _ (aft _ _ _ (goL _ _ _ _ (aft _ _ _ o)))) (I := fun j st => ∃ t r, st = ⟨[(1, iV nv), (7, .one (.ref 448 0 0)), (8, .one (.ref 512 0 0)), (9, iV 0), (10, .one (.ref 640 0 0)), (12, .one (rE r)), (23, iV i), (25, .one (rT L)), (27, iV j)], [(448, .box (eC c)), (512, .box (eS p)), (640, .box (eS t))]⟩ ∧ Ch c M t r ∧ t.kn = M ∧ s.w + 1 ≤ t.w) _ L.length ?hr4 L.length 0 1000 _ ⟨[(1, iV nv), (7, .one (.ref 448 0 0)), (8, .one (.ref 512 0 0)), (9, iV 0), (10, .one (.ref 640 0 0)), (12, .one (rE q')), (23, iV i), (25, .one (rT L)), (27, iV 0)], [(448, .box (eC c)), (512, .box (eS p)), (640, .box (eS s'))]⟩ (by omega) (by omega) ?hk4 ⟨s', q', rfl, m1, by omega, by omega⟩
            case hk4 => simp only [gcK, lowB, Nat.reduceLeDiff, Nat.reduceBEq, List.contains_nil, List.contains_cons, Bool.or_false, Bool.false_or, Bool.false_eq_true, if_false, Bool.true_and, Bool.and_true, pickL, look_hit, look_miss, look_end, slMent, hpMent, S.ment, S.ment.smt, ments, V.ment, List.append_nil, List.nil_append, List.cons_append, List.all_nil, List.all_cons, Option.isSome_some, Bool.and_self, if_true, reduceIte, Nat.reduceEqDiff, not_false_eq_true, reduceCtorEq, Nat.reduceMul, Nat.reduceAdd]
            case hr4 =>
              rintro j n4 st hj ⟨t, r, rfl, t1, t2, t3⟩ ih2
              (try dsimp only)
              by_cases hjl : j < L.length
              · have z1 : decide ((j : Int) < (L.length : Int)) = true := by simp; omega
                have z2 : 0 ≤ (j : Int) ∧ (j : Int) < (L.length : Int) := by omega
                have z3 : (L.map eT)[j]? = some (eT L[j]) := by simp [hjl]
                have z4 := hin t r t1 j hjl
                have z5 := hxl j hjl
                obtain ⟨v1, v2, v3, v4⟩ := t1.item (x := L[j]) (by simp [inB]; omega) (by rw [hxk j hjl]; simp [inB]; omega) ⟨hxk j hjl, z5.2⟩
                generalize itemG c t true r false L[j] = H at *
                obtain ⟨t', r', on2⟩ := H
                dsimp only at v1 v2 v3 v4 z4
                have v5 := v1.kn
                simp only [z1, z2.1, z2.2, z3, z4, fA, h00, wi j (by omega), List.length_map, Int.toNat_natCast, j6, b6, q6, qq, ww, List.replicate, Nat.reduceBEq, Nat.reduceAdd, Nat.reduceMul, Nat.reduceDiv, Nat.reduceEqDiff, Nat.reduceLeDiff, Nat.reduceLT, Int.reduceEq, Int.reduceNe, Int.reduceLT, Int.reduceLE, Int.reduceAdd, Int.reduceSub, Int.reduceMul, Int.reduceNeg, Int.reduceToNat, Int.reducePow, Nat.reducePow, reduceCtorEq, reduceIte, if_true, if_false]
                exact ih2 hjl _ _ (by simp only [gcK, lowB, Nat.reduceLeDiff, Nat.reduceBEq, List.contains_nil, List.contains_cons, Bool.or_false, Bool.false_or, Bool.false_eq_true, if_false, Bool.true_and, Bool.and_true, pickL, look_hit, look_miss, look_end, slMent, hpMent, S.ment, S.ment.smt, ments, V.ment, List.append_nil, List.nil_append, List.cons_append, List.all_nil, List.all_cons, Option.isSome_some, Bool.and_self, if_true, reduceIte, Nat.reduceEqDiff, not_false_eq_true, reduceCtorEq, Nat.reduceMul, Nat.reduceAdd]) ⟨t', r', rfl, v1, by omega, by omega⟩
              · obtain rfl : j = L.length := by omega
                clear ih2
                have z1 : decide ((L.length : Int) < (L.length : Int)) = false := by simp
                simp only [z1, wi i (by omega), List.length_map, j6, b6, q6, qq, ww, List.replicate, Nat.reduceBEq, Nat.reduceAdd, Nat.reduceMul, Nat.reduceDiv, Nat.reduceEqDiff, Nat.reduceLeDiff, Nat.reduceLT, Int.reduceEq, Int.reduceNe, Int.reduceLT, Int.reduceLE, Int.reduceAdd, Int.reduceSub, Int.reduceMul, Int.reduceNeg, Int.reduceToNat, Int.reducePow, Nat.reducePow, reduceCtorEq, reduceIte, if_true, if_false]
                exact ih hi24 _ _ (by simp only [gcK, lowB, Nat.reduceLeDiff, Nat.reduceBEq, List.contains_nil, List.contains_cons, Bool.or_false, Bool.false_or, Bool.false_eq_true, if_false, Bool.true_and, Bool.and_true, pickL, look_hit, look_miss, look_end, slMent, hpMent, S.ment, S.ment.smt, ments, V.ment, List.append_nil, List.nil_append, List.cons_append, List.all_nil, List.all_cons, Option.isSome_some, Bool.and_self, if_true, reduceIte, Nat.reduceEqDiff, not_false_eq_true, reduceCtorEq, Nat.reduceMul, Nat.reduceAdd]) ⟨t, r, rfl, t1, t2, by omega⟩
          · have x4 : gn = 0 ∧ 0 < L.length := by omega
            simp only [g1, h00, decide_eq_true g2, decide_eq_false g3, hlk, hag, List.length_map, j6, b6, q6, qq, ww, List.replicate, Nat.reduceBEq, Nat.reduceAdd, Nat.reduceMul, Nat.reduceDiv, Nat.reduceEqDiff, Nat.reduceLeDiff, Nat.reduceLT, Int.reduceEq, Int.reduceNe, Int.reduceLT, Int.reduceLE, Int.reduceAdd, Int.reduceSub, Int.reduceMul, Int.reduceNeg, Int.reduceToNat, Int.reducePow, Nat.reducePow, reduceCtorEq, reduceIte, if_true, if_false]
            refine loopI (K := fun o => fin _ (aft _ _ _ (goL _ _ _ _ (aft _ _ _ o)))) (I := fun j st => ∃ t r, st = ⟨[(1, iV nv), (7, .one (.ref 448 0 0)), (8, .one (.ref 512 0 0)), (9, iV 0), (10, .one (.ref 640 0 0)), (12, .one (rE r)), (23, iV i), (25, .one (rT L)), (27, iV j)], [(448, .box (eC c)), (512, .box (eS p)), (640, .box (eS t))]⟩ ∧ Ch c M t r ∧ t.kn = M ∧ (s.w + 1 ≤ t.w ∨ j = 0 ∧ t.w = s.w)) _ L.length ?hr5 L.length 0 1000 _ ⟨[(1, iV nv), (7, .one (.ref 448 0 0)), (8, .one (.ref 512 0 0)), (9, iV 0), (10, .one (.ref 640 0 0)), (12, .one (rE q)), (23, iV i), (25, .one (rT L)), (27, iV 0)], [(448, .box (eC c)), (512, .box (eS p)), (640, .box (eS s))]⟩ (by omega) (by omega) ?hk5 ⟨s, q, rfl, hch, hkn, .inr ⟨rfl, rfl⟩⟩
            case hk5 => simp only [gcK, lowB, Nat.reduceLeDiff, Nat.reduceBEq, List.contains_nil, List.contains_cons, Bool.or_false, Bool.false_or, Bool.false_eq_true, if_false, Bool.true_and, Bool.and_true, pickL, look_hit, look_miss, look_end, slMent, hpMent, S.ment, S.ment.smt, ments, V.ment, List.append_nil, List.nil_append, List.cons_append, List.all_nil, List.all_cons, Option.isSome_some, Bool.and_self, if_true, reduceIte, Nat.reduceEqDiff, not_false_eq_true, reduceCtorEq, Nat.reduceMul, Nat.reduceAdd]
            case hr5 =>
              rintro j n4 st hj ⟨t, r, rfl, t1, t2, t3⟩ ih2
              (try dsimp only)
              by_cases hjl : j < L.length
              · have z1 : decide ((j : Int) < (L.length : Int)) = true := by simp; omega
                have z2 : 0 ≤ (j : Int) ∧ (j : Int) < (L.length : Int) := by omega
                have z3 : (L.map eT)[j]? = some (eT L[j]) := by simp [hjl]
                have z4 := hin t r t1 j hjl
                have z5 := hxl j hjl
                have z6 : j = 0 → L[j].s = s.w := fun h => by subst h; exact hx0 x4.2 x4.1
                obtain ⟨v1, v2, v3, v4⟩ := t1.item (x := L[j]) (by simp [inB]; omega) (by rw [hxk j hjl]; simp [inB]; omega) ⟨hxk j hjl, z5.2⟩
                generalize itemG c t true r false L[j] = H at *
                obtain ⟨t', r', on2⟩ := H
                dsimp only at v1 v2 v3 v4 z4
                have v5 := v1.kn
                simp only [z1, z2.1, z2.2, z3, z4, fA, h00, wi j (by omega), List.length_map, Int.toNat_natCast, j6, b6, q6, qq, ww, List.replicate, Nat.reduceBEq, Nat.reduceAdd, Nat.reduceMul, Nat.reduceDiv, Nat.reduceEqDiff, Nat.reduceLeDiff, Nat.reduceLT, Int.reduceEq, Int.reduceNe, Int.reduceLT, Int.reduceLE, Int.reduceAdd, Int.reduceSub, Int.reduceMul, Int.reduceNeg, Int.reduceToNat, Int.reducePow, Nat.reducePow, reduceCtorEq, reduceIte, if_true, if_false]
                refine ih2 hjl _ _ (by simp only [gcK, lowB, Nat.reduceLeDiff, Nat.reduceBEq, List.contains_nil, List.contains_cons, Bool.or_false, Bool.false_or, Bool.false_eq_true, if_false, Bool.true_and, Bool.and_true, pickL, look_hit, look_miss, look_end, slMent, hpMent, S.ment, S.ment.smt, ments, V.ment, List.append_nil, List.nil_append, List.cons_append, List.all_nil, List.all_cons, Option.isSome_some, Bool.and_self, if_true, reduceIte, Nat.reduceEqDiff, not_false_eq_true, reduceCtorEq, Nat.reduceMul, Nat.reduceAdd]) ⟨t', r', rfl, v1, by omega, .inl ?_⟩
                rcases t3 with h | ⟨h, h2⟩
                · omega
                · have := v4 (by rw [z6 h, h2])
                  omega
              · obtain rfl : j = L.length := by omega
                clear ih2
                have z1 : decide ((L.length : Int) < (L.length : Int)) = false := by simp
                simp only [z1, wi i (by omega), List.length_map, j6, b6, q6, qq, ww, List.replicate, Nat.reduceBEq, Nat.reduceAdd, Nat.reduceMul, Nat.reduceDiv, Nat.reduceEqDiff, Nat.reduceLeDiff, Nat.reduceLT, Int.reduceEq, Int.reduceNe, Int.reduceLT, Int.reduceLE, Int.reduceAdd, Int.reduceSub, Int.reduceMul, Int.reduceNeg, Int.reduceToNat, Int.reducePow, Nat.reducePow, reduceCtorEq, reduceIte, if_true, if_false]
                exact ih hi24 _ _ (by simp only [gcK, lowB, Nat.reduceLeDiff, Nat.reduceBEq, List.contains_nil, List.contains_cons, Bool.or_false, Bool.false_or, Bool.false_eq_true, if_false, Bool.true_and, Bool.and_true, pickL, look_hit, look_miss, look_end, slMent, hpMent, S.ment, S.ment.smt, ments, V.ment, List.append_nil, List.nil_append, List.cons_append, List.all_nil, List.all_cons, Option.isSome_some, Bool.and_self, if_true, reduceIte, Nat.reduceEqDiff, not_false_eq_true, reduceCtorEq, Nat.reduceMul, Nat.reduceAdd]) ⟨t, r, rfl, t1, t2, by omega⟩
        · clear ih
          have hsM : s.w = M := by omega
          have hal : s.ah = [] := by
            cases hA : s.ah with
            | nil => rfl
            | cons y l =>
              have h1 := hch.ah y (by rw [hA]; simp)
              have h2 := right_ah l2 y (by rw [hA]; simp)
              omega
          have hit : ∀ d, TT 1000 (d + 1) 16 [.one (.row []), .one (.row [])] = some (bV true, []) := fun d => by
            have := AA.e16 1000 d [] [] (by simp) (by simp)
            exact this
          have hit2 : ∀ d, TT 1000 (d + 1) 16 [.one (rT []), .one (.row [])] = some (bV true, []) := hit
          have hlk2 : ∀ d, TT 1000 (d + 1) 11 [.agg [.int .i64 s.e, .int .i64 s.w, .int .i64 s.kn, rT s.kp, rT []]] = some (bV (decide (s.kn > s.w)), []) := fun d => by
            have := hlk d
            unfold aS eS at this
            rw [hal] at this
            exact this
          have y0 : decide (s.w = p.w) = true := decide_eq_true (by omega)
          have hev : ∀ x ∈ q, evOK x = true := by
            simp only [qOK, Bool.and_eq_true, List.all_eq_true] at l3
            exact l3.1.2
          have hq0 := hch.qc
          simp only [g1, h00, decide_eq_false g2, y0, hal, hlk, hlk2, hit, hit2, List.map_nil, Bool.not_true, Bool.not_false, List.length_map, j6, b6, q6, qq, ww, List.replicate, Nat.reduceBEq, Nat.reduceAdd, Nat.reduceMul, Nat.reduceDiv, Nat.reduceEqDiff, Nat.reduceLeDiff, Nat.reduceLT, Int.reduceEq, Int.reduceNe, Int.reduceLT, Int.reduceLE, Int.reduceAdd, Int.reduceSub, Int.reduceMul, Int.reduceNeg, Int.reduceToNat, Int.reducePow, Nat.reducePow, reduceCtorEq, reduceIte, if_true, if_false]
          refine loopI (K := fun o => fin _ (aft _ _ _ o)) (I := fun i st => ∃ a, st = ⟨[(1, iV nv), (12, .one (rE q)), (28, iV a), (29, iV i)], []⟩ ∧ qch 17 (fun s v => v = 3 * s ∧ s < M) a (q.drop i) s.w) _ q.length ?hr3 q.length 0 1000 _ ⟨[(1, iV nv), (12, .one (rE q)), (28, iV 1), (29, iV 0)], []⟩ (by omega) (by omega) ?hk3 ⟨1, rfl, hq0⟩
          case hk3 => simp only [gcK, lowB, Nat.reduceLeDiff, Nat.reduceBEq, List.contains_nil, List.contains_cons, Bool.or_false, Bool.false_or, Bool.false_eq_true, if_false, Bool.true_and, Bool.and_true, pickL, look_hit, look_miss, look_end, slMent, hpMent, S.ment, S.ment.smt, ments, V.ment, List.append_nil, List.nil_append, List.cons_append, List.all_nil, List.all_cons, Option.isSome_some, Bool.and_self, if_true, reduceIte, Nat.reduceEqDiff, not_false_eq_true, reduceCtorEq, Nat.reduceMul, Nat.reduceAdd]
          case hr3 =>
            rintro j n3 st hj ⟨a, rfl, hc⟩ ih
            (try dsimp only)
            by_cases hjl : j < q.length
            · have y1 : decide ((j : Int) < (q.length : Int)) = true := by simp; omega
              have y2 : 0 ≤ (j : Int) ∧ (j : Int) < (q.length : Int) := by omega
              have y3 : (q.map eE)[j]? = some (eE q[j]) := by simp [hjl]
              have hd : q.drop j = q[j] :: q.drop (j + 1) := by simp
              rw [hd] at hc
              obtain ⟨e1, e2, e3⟩ := hc
              have hx := hev q[j] (List.getElem_mem _)
              have y4 : decide (q[j].e = 17) = true := decide_eq_true e1
              have y5 : decide (q[j].s = a) = true := decide_eq_true e2
              rcases e3 with ⟨b1, b2, b3⟩ | ⟨b1, b2, b3⟩
              · have hb := hx
                simp [evOK, b1, inB] at hb
                have y6 : decide (q[j].k = 2) = false := by rw [b1]; rfl
                have y7 : IntKind.i64.wrap (a + 1) = a + 1 := IntWalk.i64_in _ (by omega)
                have y8 : IntKind.i64.wrap (3 * q[j].s) = 3 * q[j].s := IntWalk.i64_in _ (by omega)
                have y9 : decide (q[j].v = 3 * q[j].s) = true := decide_eq_true (by rw [b2.1, e2])
                simp only [y1, y2.1, y2.2, y3, y4, y5, y6, y7, y8, y9, wi j (by omega), Bool.not_true, Bool.not_false, List.length_map, Int.toNat_natCast, j6, b6, q6, qq, ww, List.replicate, Nat.reduceBEq, Nat.reduceAdd, Nat.reduceMul, Nat.reduceDiv, Nat.reduceEqDiff, Nat.reduceLeDiff, Nat.reduceLT, Int.reduceEq, Int.reduceNe, Int.reduceLT, Int.reduceLE, Int.reduceAdd, Int.reduceSub, Int.reduceMul, Int.reduceNeg, Int.reduceToNat, Int.reducePow, Nat.reducePow, reduceCtorEq, reduceIte, if_true, if_false]
                exact ih hjl _ _ (by simp only [gcK, lowB, Nat.reduceLeDiff, Nat.reduceBEq, List.contains_nil, List.contains_cons, Bool.or_false, Bool.false_or, Bool.false_eq_true, if_false, Bool.true_and, Bool.and_true, pickL, look_hit, look_miss, look_end, slMent, hpMent, S.ment, S.ment.smt, ments, V.ment, List.append_nil, List.nil_append, List.cons_append, List.all_nil, List.all_cons, Option.isSome_some, Bool.and_self, if_true, reduceIte, Nat.reduceEqDiff, not_false_eq_true, reduceCtorEq, Nat.reduceMul, Nat.reduceAdd]) ⟨a + 1, rfl, b3⟩
              · obtain ⟨_, l1, l2, l3, _, _⟩ := evOK_2 hx b1
                have y6 : decide (q[j].k = 2) = true := decide_eq_true b1
                have y7 : IntKind.i64.wrap (a + 1) = a + 1 := IntWalk.i64_in _ (by omega)
                have y8 : IntKind.i64.wrap (q[j].l + 1) = q[j].l + 1 := IntWalk.i64_in _ (by omega)
                simp only [y1, y2.1, y2.2, y3, y4, y5, y6, y7, y8, wi j (by omega), Bool.not_true, Bool.not_false, List.length_map, Int.toNat_natCast, j6, b6, q6, qq, ww, List.replicate, Nat.reduceBEq, Nat.reduceAdd, Nat.reduceMul, Nat.reduceDiv, Nat.reduceEqDiff, Nat.reduceLeDiff, Nat.reduceLT, Int.reduceEq, Int.reduceNe, Int.reduceLT, Int.reduceLE, Int.reduceAdd, Int.reduceSub, Int.reduceMul, Int.reduceNeg, Int.reduceToNat, Int.reducePow, Nat.reducePow, reduceCtorEq, reduceIte, if_true, if_false]
                exact ih hjl _ _ (by simp only [gcK, lowB, Nat.reduceLeDiff, Nat.reduceBEq, List.contains_nil, List.contains_cons, Bool.or_false, Bool.false_or, Bool.false_eq_true, if_false, Bool.true_and, Bool.and_true, pickL, look_hit, look_miss, look_end, slMent, hpMent, S.ment, S.ment.smt, ments, V.ment, List.append_nil, List.nil_append, List.cons_append, List.all_nil, List.all_cons, Option.isSome_some, Bool.and_self, if_true, reduceIte, Nat.reduceEqDiff, not_false_eq_true, reduceCtorEq, Nat.reduceMul, Nat.reduceAdd]) ⟨q[j].l + 1, rfl, b3⟩
            · obtain rfl : j = q.length := by omega
              clear ih
              rw [List.drop_length] at hc
              simp only [qch] at hc
              have y1 : decide ((q.length : Int) < (q.length : Int)) = false := by simp
              have y2 : decide (a = nv + 1) = true := decide_eq_true (by omega)
              have y3 : IntKind.i64.wrap (nv + 1) = nv + 1 := IntWalk.i64_in _ (by omega)
              simp only [y1, y2, y3, hw, List.length_map, j6, b6, q6, qq, ww, List.replicate, Nat.reduceBEq, Nat.reduceAdd, Nat.reduceMul, Nat.reduceDiv, Nat.reduceEqDiff, Nat.reduceLeDiff, Nat.reduceLT, Int.reduceEq, Int.reduceNe, Int.reduceLT, Int.reduceLE, Int.reduceAdd, Int.reduceSub, Int.reduceMul, Int.reduceNeg, Int.reduceToNat, Int.reducePow, Nat.reducePow, reduceCtorEq, reduceIte, if_true, if_false]
end Go.Proofs.YtkfcbpbnoeaheaaDoor.FA
