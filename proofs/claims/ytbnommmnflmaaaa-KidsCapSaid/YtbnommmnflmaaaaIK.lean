/- Functions of the program in the evaluator's form, each checked against the program (written by wip/prog/irgen.py). -/
import Derived.Test.YtbnommmnflmaaaaProg
import Derived.Test.YtbnommmnflmaaaaR21
import Derived.Test.YtbnommmnflmaaaaXJ
set_option maxRecDepth 100000
set_option linter.unusedSimpArgs false
set_option linter.unusedVariables false
namespace Go.Proofs.Ytbnommmnflmaaaa.IK
open Go Go.Proofs.YtbnommmnflmaaaaR
/-- bellwether/bellwetherlaw13.KidsCap -/
def j3 : C := (.seq (.region [⟨some 8, .mov (.c (.bool false)), none, [], []⟩] false)
 (.seq (.seq (.region [⟨some 19, .mov (.t 3), none, [], []⟩,
  ⟨some 20, .len (.t 19), none, [], []⟩,
  ⟨some 21, .bin .gtr (.t 20) (.c (.int .i64 40)), none, [], []⟩] false)
 (.cond (.t 21) (.seq (.region [⟨some 8, .mov (.c (.bool true)), none, [], []⟩] false)
 .ret) .skip))
 (.seq (.region [⟨some 22, .mov (.t 0), none, [], []⟩,
  ⟨some 23, .conv .u64 (.t 22), none, [], []⟩,
  ⟨some 24, .bin .rem (.t 23) (.c (.int .u64 4)), none, [], []⟩,
  ⟨some 25, .conv .i64 (.t 24), none, [], []⟩,
  ⟨some 26, .mov (.t 1), none, [], []⟩,
  ⟨some 27, .conv .u64 (.t 26), none, [], []⟩,
  ⟨some 28, .bin .rem (.t 27) (.c (.int .u64 8)), none, [], []⟩,
  ⟨some 29, .conv .i64 (.t 28), none, [], []⟩,
  ⟨some 30, .mov (.t 2), none, [], []⟩,
  ⟨some 31, .conv .u64 (.t 30), none, [], []⟩,
  ⟨some 32, .bin .rem (.t 31) (.c (.int .u64 4)), none, [], []⟩,
  ⟨some 33, .conv .i64 (.t 32), none, [], []⟩,
  ⟨some 34, .bin .add (.c (.int .i64 1)) (.t 33), none, [], []⟩,
  ⟨some 0, .mov (.t 25), none, [], []⟩,
  ⟨some 1, .mov (.t 29), none, [], []⟩,
  ⟨some 2, .mov (.t 34), none, [], []⟩] false)
 (.seq (.region [⟨some 35, .mov (.t 0), none, [], []⟩,
  ⟨some 36, .mov (.t 1), none, [], []⟩,
  ⟨some 37, .call false 9 [(.t 35), (.t 36)], none, [], []⟩,
  ⟨some 9, .mov (.t 37), none, [], []⟩] false)
 (.seq (.region [⟨some 10, .mov (.c (.row [])), none, [], []⟩] false)
 (.seq (.region [⟨some 38, .mks 4 1 1 [.bool false] (.c (.int .i64 8)) (.c (.int .i64 8)), none, [], []⟩,
  ⟨some 11, .mov (.t 38), none, [], []⟩] false)
 (.seq (.seq (.region [⟨some 12, .mov (.c (.int .i64 0)), none, [], []⟩] false)
 (.block 0 (.loop (.keep [0, 1, 2, 3, 9, 10, 11, 12] (.seq (.seq (.region [⟨some 39, .mov (.t 12), none, [], []⟩,
  ⟨some 40, .mov (.t 3), none, [], []⟩,
  ⟨some 41, .len (.t 40), none, [], []⟩,
  ⟨some 42, .bin .lss (.t 39) (.t 41), none, [], []⟩,
  ⟨some 43, .mov (.t 42), none, [], []⟩,
  ⟨some 44, .mov (.t 9), some (43, true), [], []⟩,
  ⟨some 45, .len (.t 44), some (43, true), [], []⟩,
  ⟨some 46, .bin .gtr (.t 45) (.c (.int .i64 0)), some (43, true), [], []⟩,
  ⟨some 47, .pick (.t 43) (.t 46) (.c (.bool false)), none, [], []⟩] false)
 (.cond (.t 47) .skip (.exit 0)))
 (.seq (.block 1 (.seq (.region [⟨some 50, .mov (.t 9), none, [], []⟩,
  ⟨some 51, .mov (.t 3), none, [], []⟩,
  ⟨some 52, .mov (.t 12), none, [], []⟩,
  ⟨some 53, .iad 1 (.t 51) (.t 52), none, [], []⟩,
  ⟨some 54, .load false 1 (.t 53), none, [], []⟩,
  ⟨some 55, .conv .u64 (.t 54), none, [], []⟩,
  ⟨some 56, .mov (.t 9), none, [], []⟩,
  ⟨some 57, .len (.t 56), none, [], []⟩,
  ⟨some 58, .conv .u64 (.t 57), none, [], []⟩,
  ⟨some 59, .bin .rem (.t 55) (.t 58), none, [], []⟩,
  ⟨some 60, .conv .i64 (.t 59), none, [], []⟩,
  ⟨some 61, .iad 1 (.t 50) (.t 60), none, [], []⟩,
  ⟨some 62, .load false 1 (.t 61), none, [], []⟩,
  ⟨some 13, .mov (.t 62), none, [], []⟩] false)
 (.seq (.region [⟨some 63, .mov (.t 11), none, [], []⟩,
  ⟨some 64, .mov (.t 13), none, [], []⟩,
  ⟨some 65, .iad 1 (.t 63) (.t 64), none, [], []⟩,
  ⟨none, .store none 1 (.t 65) (.c (.bool true)), none, [], []⟩] false)
 (.seq (.region [⟨some 67, .mov (.t 0), none, [], []⟩,
  ⟨some 68, .mov (.t 1), none, [], []⟩,
  ⟨some 69, .mov (.t 2), none, [], []⟩,
  ⟨some 70, .mov (.t 10), none, [], []⟩,
  ⟨some 71, .mov (.t 13), none, [], []⟩,
  ⟨some 72, .mov (.t 12), none, [], []⟩,
  ⟨some 73, .bin .add (.c (.int .i64 1)) (.t 72), none, [], []⟩,
  ⟨some 74, .call false 10 [(.t 67), (.t 68), (.t 69), (.t 70), (.t 71), (.t 73)], none, [], []⟩,
  ⟨some 66, .mov (.t 74), none, [], []⟩,
  ⟨some 75, .ext (.t 66) 0, none, [], []⟩,
  ⟨some 76, .ext (.t 66) 1, none, [], []⟩,
  ⟨some 77, .ext (.t 66) 2, none, [], []⟩,
  ⟨some 78, .ext (.t 66) 3, none, [], []⟩,
  ⟨some 14, .mov (.t 75), none, [], []⟩,
  ⟨some 15, .mov (.t 76), none, [], []⟩,
  ⟨some 16, .mov (.t 77), none, [], []⟩,
  ⟨some 17, .mov (.t 78), none, [], []⟩] false)
 (.seq (.seq (.region [⟨some 79, .mov (.t 17), none, [], []⟩,
  ⟨some 80, .bin .neq (.t 79) (.c (.int .i64 0)), none, [], []⟩,
  ⟨some 81, .mov (.t 80), none, [], []⟩,
  ⟨some 82, .mov (.t 14), some (81, false), [], []⟩,
  ⟨some 83, .len (.t 82), some (81, false), [], []⟩,
  ⟨some 84, .mov (.t 2), some (81, false), [], []⟩,
  ⟨some 85, .bin .gtr (.t 83) (.t 84), some (81, false), [], []⟩,
  ⟨some 86, .pick (.t 81) (.c (.bool true)) (.t 85), none, [], []⟩,
  ⟨some 87, .mov (.t 86), none, [], []⟩,
  ⟨some 88, .mov (.t 15), some (87, false), [], []⟩,
  ⟨some 89, .bin .eql (.t 88) (.c (.int .i64 0)), some (87, false), [], []⟩,
  ⟨some 90, .mov (.t 16), some (87, false), [], []⟩,
  ⟨some 91, .bin .eql (.t 90) (.c (.int .i64 0)), some (87, false), [], []⟩,
  ⟨some 92, .eqb true (.t 89) (.t 91), some (87, false), [], []⟩,
  ⟨some 93, .pick (.t 87) (.c (.bool true)) (.t 92), none, [], []⟩,
  ⟨some 94, .mov (.t 93), none, [], []⟩,
  ⟨some 95, .mov (.t 15), some (94, false), [], []⟩,
  ⟨some 96, .bin .gtr (.t 95) (.c (.int .i64 0)), some (94, false), [], []⟩,
  ⟨some 97, .mov (.t 96), some (94, false), [], []⟩,
  ⟨some 98, .mov (.t 0), some (97, true), [], []⟩,
  ⟨some 99, .mov (.t 16), some (97, true), [], []⟩,
  ⟨some 100, .bin .sub (.t 99) (.c (.int .i64 1)), some (97, true), [], []⟩,
  ⟨some 101, .mov (.t 15), some (97, true), [], []⟩,
  ⟨some 102, .bin .sub (.t 101) (.c (.int .i64 1)), some (97, true), [], []⟩,
  ⟨some 103, .call false 11 [(.t 98), (.t 100), (.t 102)], some (97, true), [], []⟩,
  ⟨some 104, .un .not (.t 103), some (97, true), [], []⟩,
  ⟨some 105, .pick (.t 97) (.t 104) (.c (.bool false)), some (94, false), [], []⟩,
  ⟨some 106, .pick (.t 94) (.c (.bool true)) (.t 105), none, [], []⟩,
  ⟨some 107, .mov (.t 106), none, [], []⟩,
  ⟨some 108, .mov (.t 15), some (107, false), [], []⟩,
  ⟨some 109, .bin .gtr (.t 108) (.c (.int .i64 0)), some (107, false), [], []⟩,
  ⟨some 110, .mov (.t 109), some (107, false), [], []⟩,
  ⟨some 111, .mov (.t 14), some (110, true), [], []⟩,
  ⟨some 112, .mov (.t 15), some (110, true), [], []⟩,
  ⟨some 113, .bin .sub (.t 112) (.c (.int .i64 1)), some (110, true), [], []⟩,
  ⟨some 114, .call false 12 [(.t 111), (.t 113)], some (110, true), [], []⟩,
  ⟨some 115, .pick (.t 110) (.t 114) (.c (.bool false)), some (107, false), [], []⟩,
  ⟨some 116, .pick (.t 107) (.c (.bool true)) (.t 115), none, [], []⟩,
  ⟨some 117, .mov (.t 116), none, [], []⟩,
  ⟨some 118, .mov (.t 0), some (117, false), [], []⟩,
  ⟨some 119, .mov (.t 1), some (117, false), [], []⟩,
  ⟨some 120, .mov (.t 2), some (117, false), [], []⟩,
  ⟨some 121, .mov (.t 14), some (117, false), [], []⟩,
  ⟨some 122, .call false 13 [(.t 118), (.t 119), (.t 120), (.t 121)], some (117, false), [], []⟩,
  ⟨some 123, .bin .neq (.t 122) (.c (.int .i64 0)), some (117, false), [], []⟩,
  ⟨some 124, .pick (.t 117) (.c (.bool true)) (.t 123), none, [], []⟩] false)
 (.cond (.t 124) (.seq (.region [⟨some 8, .mov (.c (.bool false)), none, [], []⟩] false)
 .ret) .skip))
 (.seq (.seq (.region [⟨some 125, .mov (.t 15), none, [], []⟩,
  ⟨some 126, .bin .eql (.t 125) (.c (.int .i64 0)), none, [], []⟩,
  ⟨some 127, .mov (.t 126), none, [], []⟩,
  ⟨some 128, .mov (.t 14), some (127, true), [], []⟩,
  ⟨some 129, .mov (.t 13), some (127, true), [], []⟩,
  ⟨some 130, .call false 12 [(.t 128), (.t 129)], some (127, true), [], []⟩,
  ⟨some 131, .un .not (.t 130), some (127, true), [], []⟩,
  ⟨some 132, .pick (.t 127) (.t 131) (.c (.bool false)), none, [], []⟩,
  ⟨some 133, .mov (.t 132), none, [], []⟩,
  ⟨some 134, .mov (.t 15), some (133, false), [], []⟩,
  ⟨some 135, .mov (.t 13), some (133, false), [], []⟩,
  ⟨some 136, .bin .add (.t 135) (.c (.int .i64 1)), some (133, false), [], []⟩,
  ⟨some 137, .bin .eql (.t 134) (.t 136), some (133, false), [], []⟩,
  ⟨some 138, .mov (.t 137), some (133, false), [], []⟩,
  ⟨some 139, .mov (.t 14), some (138, true), [], []⟩,
  ⟨some 140, .mov (.t 10), some (138, true), [], []⟩,
  ⟨some 141, .call false 14 [(.t 139), (.t 140)], some (138, true), [], []⟩,
  ⟨some 142, .un .not (.t 141), some (138, true), [], []⟩,
  ⟨some 143, .pick (.t 138) (.t 142) (.c (.bool false)), some (133, false), [], []⟩,
  ⟨some 144, .pick (.t 133) (.c (.bool true)) (.t 143), none, [], []⟩] false)
 (.cond (.t 144) (.seq (.region [⟨some 8, .mov (.c (.bool false)), none, [], []⟩] false)
 .ret) .skip))
 (.region [⟨some 145, .mov (.t 14), none, [], []⟩,
  ⟨some 10, .mov (.t 145), none, [], []⟩] false)))))))
 (.region [⟨some 48, .mov (.t 12), none, [], []⟩,
  ⟨some 49, .bin .add (.t 48) (.c (.int .i64 1)), none, [], []⟩,
  ⟨some 12, .mov (.t 49), none, [], []⟩] false)))))))
 (.seq (.seq (.region [⟨some 18, .mov (.c (.int .i64 0)), none, [], []⟩] false)
 (.block 2 (.loop (.keep [9, 10, 11, 18] (.seq (.seq (.region [⟨some 146, .mov (.t 18), none, [], []⟩,
  ⟨some 147, .mov (.t 9), none, [], []⟩,
  ⟨some 148, .len (.t 147), none, [], []⟩,
  ⟨some 149, .bin .lss (.t 146) (.t 148), none, [], []⟩] false)
 (.cond (.t 149) .skip (.exit 2)))
 (.seq (.block 3 (.seq (.region [⟨some 152, .mov (.t 11), none, [], []⟩,
  ⟨some 153, .mov (.t 9), none, [], []⟩,
  ⟨some 154, .mov (.t 18), none, [], []⟩,
  ⟨some 155, .iad 1 (.t 153) (.t 154), none, [], []⟩,
  ⟨some 156, .load false 1 (.t 155), none, [], []⟩,
  ⟨some 157, .iad 1 (.t 152) (.t 156), none, [], []⟩,
  ⟨some 158, .load false 1 (.t 157), none, [], []⟩] false)
 (.cond (.t 158) (.seq (.region [⟨some 159, .mov (.t 10), none, [], []⟩,
  ⟨some 160, .len (.t 159), none, [], [0]⟩,
  ⟨some 161, .bin .gtr (.t 160) (.c (.int .i64 0)), none, [], [0, 1]⟩,
  ⟨some 162, .mov (.t 161), none, [], [0, 1, 2]⟩,
  ⟨some 163, .mov (.t 10), some (162, true), [167, 168, 169, 170], [0, 1, 2, 3]⟩,
  ⟨some 164, .iad 3 (.t 163) (.c (.int .i64 0)), some (162, true), [167, 168, 169, 170], [0, 1, 2, 3, 4]⟩,
  ⟨some 165, .fad 0 (.t 164), some (162, true), [167, 168, 169, 170], [0, 1, 2, 3, 4, 5]⟩,
  ⟨some 166, .load false 1 (.t 165), some (162, true), [167, 168, 169, 170], [0, 1, 2, 3, 4, 5, 6]⟩,
  ⟨some 167, .mov (.t 9), some (162, true), [163, 164, 165, 166, 168], [0, 1, 2, 3]⟩,
  ⟨some 168, .mov (.t 18), some (162, true), [163, 164, 165, 166, 167], [0, 1, 2, 3]⟩,
  ⟨some 169, .iad 1 (.t 167) (.t 168), some (162, true), [163, 164, 165, 166], [0, 1, 2, 3, 8, 9]⟩,
  ⟨some 170, .load false 1 (.t 169), some (162, true), [163, 164, 165, 166], [0, 1, 2, 3, 8, 9, 10]⟩,
  ⟨some 171, .bin .eql (.t 166) (.t 170), some (162, true), [], [0, 1, 2, 3, 4, 5, 6, 7, 8, 9, 10, 11]⟩,
  ⟨some 172, .pick (.t 162) (.t 171) (.c (.bool false)), none, [], [0, 1, 2, 3, 4, 5, 6, 7, 8, 9, 10, 11, 12]⟩,
  ⟨some 173, .mov (.t 172), none, [], [0, 1, 2, 3, 4, 5, 6, 7, 8, 9, 10, 11, 12, 13]⟩,
  ⟨some 174, .call false 15 [], some (173, true), [], [0, 1, 2, 3, 4, 5, 6, 7, 8, 9, 10, 11, 12, 13, 14]⟩,
  ⟨some 175, .pick (.t 173) (.t 174) (.c (.bool false)), none, [], [0, 1, 2, 3, 4, 5, 6, 7, 8, 9, 10, 11, 12, 13, 14, 15]⟩,
  ⟨some 8, .mov (.t 175), none, [], [0, 1, 2, 3, 4, 5, 6, 7, 8, 9, 10, 11, 12, 13, 14, 15, 16]⟩] true)
 .ret) .skip)))
 (.region [⟨some 150, .mov (.t 18), none, [], []⟩,
  ⟨some 151, .bin .add (.t 150) (.c (.int .i64 1)), none, [], []⟩,
  ⟨some 18, .mov (.t 151), none, [], []⟩] false)))))))
 (.seq (.region [⟨some 176, .mov (.t 10), none, [], []⟩,
  ⟨some 177, .len (.t 176), none, [], []⟩,
  ⟨some 178, .bin .eql (.t 177) (.c (.int .i64 0)), none, [], []⟩,
  ⟨some 179, .mov (.t 178), none, [], []⟩,
  ⟨some 180, .call false 15 [], some (179, true), [], []⟩,
  ⟨some 181, .pick (.t 179) (.t 180) (.c (.bool false)), none, [], []⟩,
  ⟨some 8, .mov (.t 181), none, [], []⟩] false)
 .ret)))))))))
def i3 : F := ⟨4, 182, j3, [.t 8]⟩
theorem b3 : i3.body = j3 := rfl
theorem q3 : i3.res = [.t 8] := rfl
theorem c3 : chkF Try.prog Try.f3 i3 = true := by kernel_rfl
theorem s3 {m : Model} {E : Nat → Model} (hE : ∀ f, Sound Try.prog f (E f)) (hm : ∀ args r, m args = some r → ∃ N, i3.ev E N args = some r) : Sound Try.prog 3 m := sound_of i3 Try.func3 rfl c3 hE hm
/-- bellwether/bellwetherlaw13.KidsDrop -/
def j4 : C := (.seq (.region [⟨some 10, .mov (.c (.bool false)), none, [], []⟩] false)
 (.seq (.seq (.region [⟨some 12, .mov (.t 3), none, [], []⟩,
  ⟨some 13, .len (.t 12), none, [], []⟩,
  ⟨some 14, .bin .gtr (.t 13) (.c (.int .i64 20)), none, [], []⟩,
  ⟨some 15, .mov (.t 14), none, [], []⟩,
  ⟨some 16, .mov (.t 0), some (15, false), [], []⟩,
  ⟨some 17, .mov (.t 1), some (15, false), [], []⟩,
  ⟨some 18, .mov (.t 2), some (15, false), [], []⟩,
  ⟨some 19, .mov (.t 3), some (15, false), [], []⟩,
  ⟨some 20, .call false 16 [(.t 16), (.t 17), (.t 18), (.t 19)], some (15, false), [], []⟩,
  ⟨some 21, .un .not (.t 20), some (15, false), [], []⟩,
  ⟨some 22, .pick (.t 15) (.c (.bool true)) (.t 21), none, [], []⟩,
  ⟨some 23, .mov (.t 22), none, [], []⟩,
  ⟨some 24, .mov (.t 0), some (23, false), [], []⟩,
  ⟨some 25, .call false 17 [(.t 24)], some (23, false), [], []⟩,
  ⟨some 26, .un .not (.t 25), some (23, false), [], []⟩,
  ⟨some 27, .pick (.t 23) (.c (.bool true)) (.t 26), none, [], []⟩] false)
 (.cond (.t 27) (.seq (.region [⟨some 10, .mov (.c (.bool true)), none, [], []⟩] false)
 .ret) .skip))
 (.seq (.region [⟨some 28, .mov (.t 3), none, [], []⟩,
  ⟨some 29, .mov (.t 4), none, [], []⟩,
  ⟨some 30, .call false 18 [(.t 28), (.t 29)], none, [], []⟩,
  ⟨some 11, .mov (.t 30), none, [], []⟩] false)
 (.seq (.seq (.region [⟨some 31, .mov (.t 11), none, [], []⟩,
  ⟨some 32, .mov (.t 4), none, [], []⟩,
  ⟨some 33, .call false 12 [(.t 31), (.t 32)], none, [], []⟩,
  ⟨some 34, .mov (.t 33), none, [], []⟩,
  ⟨some 35, .mov (.t 0), some (34, false), [], []⟩,
  ⟨some 36, .mov (.t 1), some (34, false), [], []⟩,
  ⟨some 37, .mov (.t 2), some (34, false), [], []⟩,
  ⟨some 38, .mov (.t 11), some (34, false), [], []⟩,
  ⟨some 39, .call false 13 [(.t 35), (.t 36), (.t 37), (.t 38)], some (34, false), [], []⟩,
  ⟨some 40, .bin .neq (.t 39) (.c (.int .i64 0)), some (34, false), [], []⟩,
  ⟨some 41, .pick (.t 34) (.c (.bool true)) (.t 40), none, [], []⟩] false)
 (.cond (.t 41) (.seq (.region [⟨some 10, .mov (.c (.bool false)), none, [], []⟩] false)
 .ret) .skip))
 (.seq (.seq (.region [⟨some 42, .mov (.t 3), none, [], []⟩,
  ⟨some 43, .mov (.t 4), none, [], []⟩,
  ⟨some 44, .call false 12 [(.t 42), (.t 43)], none, [], []⟩,
  ⟨some 45, .un .not (.t 44), none, [], []⟩] false)
 (.cond (.t 45) (.seq (.region [⟨some 46, .mov (.t 11), none, [], []⟩,
  ⟨some 47, .mov (.t 3), none, [], []⟩,
  ⟨some 48, .call false 14 [(.t 46), (.t 47)], none, [], []⟩,
  ⟨some 49, .mov (.t 48), none, [], []⟩,
  ⟨some 50, .call false 15 [], some (49, true), [], []⟩,
  ⟨some 51, .pick (.t 49) (.t 50) (.c (.bool false)), none, [], []⟩,
  ⟨some 10, .mov (.t 51), none, [], []⟩] false)
 .ret) .skip))
 (.seq (.region [⟨some 52, .mov (.t 11), none, [], []⟩,
  ⟨some 53, .len (.t 52), none, [], []⟩,
  ⟨some 54, .mov (.t 3), none, [], []⟩,
  ⟨some 55, .len (.t 54), none, [], []⟩,
  ⟨some 56, .bin .sub (.t 55) (.c (.int .i64 1)), none, [], []⟩,
  ⟨some 57, .bin .eql (.t 53) (.t 56), none, [], []⟩,
  ⟨some 58, .mov (.t 57), none, [], []⟩,
  ⟨some 59, .call false 15 [], some (58, true), [], []⟩,
  ⟨some 60, .pick (.t 58) (.t 59) (.c (.bool false)), none, [], []⟩,
  ⟨some 10, .mov (.t 60), none, [], []⟩] false)
 .ret))))))
def i4 : F := ⟨5, 61, j4, [.t 10]⟩
theorem b4 : i4.body = j4 := rfl
theorem q4 : i4.res = [.t 10] := rfl
theorem c4 : chkF Try.prog Try.f4 i4 = true := by kernel_rfl
theorem s4 {m : Model} {E : Nat → Model} (hE : ∀ f, Sound Try.prog f (E f)) (hm : ∀ args r, m args = some r → ∃ N, i4.ev E N args = some r) : Sound Try.prog 4 m := sound_of i4 Try.func4 rfl c4 hE hm
/-- bellwether/bellwetherlaw13.KidsOrder -/
def j5 : C := (.seq (.region [⟨some 10, .mov (.c (.bool false)), none, [], []⟩] false)
 (.seq (.region [⟨some 24, .mov (.t 0), none, [], []⟩,
  ⟨some 25, .conv .u64 (.t 24), none, [], []⟩,
  ⟨some 26, .bin .rem (.t 25) (.c (.int .u64 4)), none, [], []⟩,
  ⟨some 27, .conv .i64 (.t 26), none, [], []⟩,
  ⟨some 28, .mov (.t 1), none, [], []⟩,
  ⟨some 29, .conv .u64 (.t 28), none, [], []⟩,
  ⟨some 30, .bin .rem (.t 29) (.c (.int .u64 8)), none, [], []⟩,
  ⟨some 31, .conv .i64 (.t 30), none, [], []⟩,
  ⟨some 0, .mov (.t 27), none, [], []⟩,
  ⟨some 1, .mov (.t 31), none, [], []⟩] false)
 (.seq (.region [⟨some 32, .mov (.t 0), none, [], []⟩,
  ⟨some 33, .mov (.t 1), none, [], []⟩,
  ⟨some 34, .call false 9 [(.t 32), (.t 33)], none, [], []⟩,
  ⟨some 11, .mov (.t 34), none, [], []⟩] false)
 (.seq (.seq (.region [⟨some 35, .mov (.t 11), none, [], []⟩,
  ⟨some 36, .len (.t 35), none, [], []⟩,
  ⟨some 37, .bin .lss (.t 36) (.c (.int .i64 3)), none, [], []⟩] false)
 (.cond (.t 37) (.seq (.region [⟨some 38, .call false 15 [], none, [], []⟩,
  ⟨some 10, .mov (.t 38), none, [], []⟩] false)
 .ret) .skip))
 (.seq (.region [⟨some 39, .mov (.t 11), none, [40, 41, 42, 43, 44, 45, 46, 49, 50, 51, 52, 53, 54, 55, 56, 57, 58, 59, 60, 61, 62, 63, 64, 65, 66, 67, 68], []⟩,
  ⟨some 40, .mov (.t 2), none, [39, 42, 43, 44, 49, 50, 51, 52, 53, 54, 55, 56, 57, 58, 59, 60, 61, 62, 63, 64, 65, 66, 67, 68], []⟩,
  ⟨some 41, .conv .u64 (.t 40), none, [39, 42, 43, 44, 49, 50, 51, 52, 53, 54, 55, 56, 57, 58, 59, 60, 61, 62, 63, 64, 65, 66, 67, 68], [1]⟩,
  ⟨some 42, .mov (.t 11), none, [39, 40, 41, 49, 50, 51, 52, 53, 54, 55, 56, 57, 58, 59, 60, 61, 62, 63, 64, 65, 66, 67, 68], []⟩,
  ⟨some 43, .len (.t 42), none, [39, 40, 41, 49, 50, 51, 52, 53, 54, 55, 56, 57, 58, 59, 60, 61, 62, 63, 64, 65, 66, 67, 68], [3]⟩,
  ⟨some 44, .conv .u64 (.t 43), none, [39, 40, 41, 49, 50, 51, 52, 53, 54, 55, 56, 57, 58, 59, 60, 61, 62, 63, 64, 65, 66, 67, 68], [3, 4]⟩,
  ⟨some 45, .bin .rem (.t 41) (.t 44), none, [39, 49, 50, 51, 52, 53, 54, 55, 56, 57, 58, 59, 60, 61, 62, 63, 64, 65, 66, 67, 68], [1, 2, 3, 4, 5]⟩,
  ⟨some 46, .conv .i64 (.t 45), none, [39, 49, 50, 51, 52, 53, 54, 55, 56, 57, 58, 59, 60, 61, 62, 63, 64, 65, 66, 67, 68], [1, 2, 3, 4, 5, 6]⟩,
  ⟨some 47, .iad 1 (.t 39) (.t 46), none, [49, 50, 51, 52, 53, 54, 55, 56, 57, 58, 59, 60, 61, 62, 63, 64, 65, 66, 67, 68], [0, 1, 2, 3, 4, 5, 6, 7]⟩,
  ⟨some 48, .load false 1 (.t 47), none, [49, 50, 51, 52, 53, 54, 55, 56, 57, 58, 59, 60, 61, 62, 63, 64, 65, 66, 67, 68], [0, 1, 2, 3, 4, 5, 6, 7, 8]⟩,
  ⟨some 49, .mov (.t 11), none, [39, 40, 41, 42, 43, 44, 45, 46, 47, 48, 50, 51, 52, 53, 54, 55, 56, 59, 60, 61, 62, 63, 64, 65, 66, 67, 68], []⟩,
  ⟨some 50, .mov (.t 3), none, [39, 40, 41, 42, 43, 44, 45, 46, 47, 48, 49, 52, 53, 54, 59, 60, 61, 62, 63, 64, 65, 66, 67, 68], []⟩,
  ⟨some 51, .conv .u64 (.t 50), none, [39, 40, 41, 42, 43, 44, 45, 46, 47, 48, 49, 52, 53, 54, 59, 60, 61, 62, 63, 64, 65, 66, 67, 68], [11]⟩,
  ⟨some 52, .mov (.t 11), none, [39, 40, 41, 42, 43, 44, 45, 46, 47, 48, 49, 50, 51, 59, 60, 61, 62, 63, 64, 65, 66, 67, 68], []⟩,
  ⟨some 53, .len (.t 52), none, [39, 40, 41, 42, 43, 44, 45, 46, 47, 48, 49, 50, 51, 59, 60, 61, 62, 63, 64, 65, 66, 67, 68], [13]⟩,
  ⟨some 54, .conv .u64 (.t 53), none, [39, 40, 41, 42, 43, 44, 45, 46, 47, 48, 49, 50, 51, 59, 60, 61, 62, 63, 64, 65, 66, 67, 68], [13, 14]⟩,
  ⟨some 55, .bin .rem (.t 51) (.t 54), none, [39, 40, 41, 42, 43, 44, 45, 46, 47, 48, 49, 59, 60, 61, 62, 63, 64, 65, 66, 67, 68], [11, 12, 13, 14, 15]⟩,
  ⟨some 56, .conv .i64 (.t 55), none, [39, 40, 41, 42, 43, 44, 45, 46, 47, 48, 49, 59, 60, 61, 62, 63, 64, 65, 66, 67, 68], [11, 12, 13, 14, 15, 16]⟩,
  ⟨some 57, .iad 1 (.t 49) (.t 56), none, [39, 40, 41, 42, 43, 44, 45, 46, 47, 48, 59, 60, 61, 62, 63, 64, 65, 66, 67, 68], [10, 11, 12, 13, 14, 15, 16, 17]⟩,
  ⟨some 58, .load false 1 (.t 57), none, [39, 40, 41, 42, 43, 44, 45, 46, 47, 48, 59, 60, 61, 62, 63, 64, 65, 66, 67, 68], [10, 11, 12, 13, 14, 15, 16, 17, 18]⟩,
  ⟨some 59, .mov (.t 11), none, [39, 40, 41, 42, 43, 44, 45, 46, 47, 48, 49, 50, 51, 52, 53, 54, 55, 56, 57, 58, 60, 61, 62, 63, 64, 65, 66], []⟩,
  ⟨some 60, .mov (.t 4), none, [39, 40, 41, 42, 43, 44, 45, 46, 47, 48, 49, 50, 51, 52, 53, 54, 55, 56, 57, 58, 59, 62, 63, 64], []⟩,
  ⟨some 61, .conv .u64 (.t 60), none, [39, 40, 41, 42, 43, 44, 45, 46, 47, 48, 49, 50, 51, 52, 53, 54, 55, 56, 57, 58, 59, 62, 63, 64], [21]⟩,
  ⟨some 62, .mov (.t 11), none, [39, 40, 41, 42, 43, 44, 45, 46, 47, 48, 49, 50, 51, 52, 53, 54, 55, 56, 57, 58, 59, 60, 61], []⟩,
  ⟨some 63, .len (.t 62), none, [39, 40, 41, 42, 43, 44, 45, 46, 47, 48, 49, 50, 51, 52, 53, 54, 55, 56, 57, 58, 59, 60, 61], [23]⟩,
  ⟨some 64, .conv .u64 (.t 63), none, [39, 40, 41, 42, 43, 44, 45, 46, 47, 48, 49, 50, 51, 52, 53, 54, 55, 56, 57, 58, 59, 60, 61], [23, 24]⟩,
  ⟨some 65, .bin .rem (.t 61) (.t 64), none, [39, 40, 41, 42, 43, 44, 45, 46, 47, 48, 49, 50, 51, 52, 53, 54, 55, 56, 57, 58, 59], [21, 22, 23, 24, 25]⟩,
  ⟨some 66, .conv .i64 (.t 65), none, [39, 40, 41, 42, 43, 44, 45, 46, 47, 48, 49, 50, 51, 52, 53, 54, 55, 56, 57, 58, 59], [21, 22, 23, 24, 25, 26]⟩,
  ⟨some 67, .iad 1 (.t 59) (.t 66), none, [39, 40, 41, 42, 43, 44, 45, 46, 47, 48, 49, 50, 51, 52, 53, 54, 55, 56, 57, 58], [20, 21, 22, 23, 24, 25, 26, 27]⟩,
  ⟨some 68, .load false 1 (.t 67), none, [39, 40, 41, 42, 43, 44, 45, 46, 47, 48, 49, 50, 51, 52, 53, 54, 55, 56, 57, 58], [20, 21, 22, 23, 24, 25, 26, 27, 28]⟩,
  ⟨some 69, .bsl 3 1 3 [.int .i64 0] [(0, (.t 48)), (1, (.t 58)), (2, (.t 68))], none, [], [0, 1, 2, 3, 4, 5, 6, 7, 8, 9, 10, 11, 12, 13, 14, 15, 16, 17, 18, 19, 20, 21, 22, 23, 24, 25, 26, 27, 28, 29]⟩,
  ⟨some 12, .mov (.t 69), none, [], [0, 1, 2, 3, 4, 5, 6, 7, 8, 9, 10, 11, 12, 13, 14, 15, 16, 17, 18, 19, 20, 21, 22, 23, 24, 25, 26, 27, 28, 29, 30]⟩] true)
 (.seq (.region [⟨some 13, .mov (.c (.row [])), none, [], []⟩,
  ⟨some 14, .mov (.c (.row [])), none, [], []⟩] false)
 (.seq (.seq (.region [⟨some 15, .mov (.c (.int .i64 0)), none, [], []⟩] false)
 (.block 0 (.loop (.keep [0, 1, 12, 13, 14, 15] (.seq (.seq (.region [⟨some 70, .mov (.t 15), none, [], []⟩,
  ⟨some 71, .bin .lss (.t 70) (.c (.int .i64 3)), none, [], []⟩] false)
 (.cond (.t 71) .skip (.exit 0)))
 (.seq (.block 1 (.seq (.region [⟨some 75, .mov (.t 0), none, [], []⟩,
  ⟨some 76, .mov (.t 1), none, [], []⟩,
  ⟨some 77, .mov (.t 13), none, [], []⟩,
  ⟨some 78, .mov (.t 12), none, [], []⟩,
  ⟨some 79, .mov (.t 15), none, [], []⟩,
  ⟨some 80, .iad 1 (.t 78) (.t 79), none, [], []⟩,
  ⟨some 81, .load false 1 (.t 80), none, [], []⟩,
  ⟨some 82, .call false 10 [(.t 75), (.t 76), (.c (.int .i64 4)), (.t 77), (.t 81), (.c (.int .i64 2))], none, [], []⟩,
  ⟨some 74, .mov (.t 82), none, [], []⟩,
  ⟨some 83, .ext (.t 74) 0, none, [], []⟩,
  ⟨some 84, .ext (.t 74) 1, none, [], []⟩,
  ⟨some 85, .ext (.t 74) 2, none, [], []⟩,
  ⟨some 86, .ext (.t 74) 3, none, [], []⟩,
  ⟨some 16, .mov (.t 83), none, [], []⟩,
  ⟨some 17, .mov (.t 84), none, [], []⟩,
  ⟨some 18, .mov (.t 85), none, [], []⟩,
  ⟨some 19, .mov (.t 86), none, [], []⟩] false)
 (.seq (.region [⟨some 88, .mov (.t 0), none, [], []⟩,
  ⟨some 89, .mov (.t 1), none, [], []⟩,
  ⟨some 90, .mov (.t 14), none, [], []⟩,
  ⟨some 91, .mov (.t 12), none, [], []⟩,
  ⟨some 92, .mov (.t 15), none, [], []⟩,
  ⟨some 93, .bin .sub (.c (.int .i64 2)) (.t 92), none, [], []⟩,
  ⟨some 94, .iad 1 (.t 91) (.t 93), none, [], []⟩,
  ⟨some 95, .load false 1 (.t 94), none, [], []⟩,
  ⟨some 96, .call false 10 [(.t 88), (.t 89), (.c (.int .i64 4)), (.t 90), (.t 95), (.c (.int .i64 2))], none, [], []⟩,
  ⟨some 87, .mov (.t 96), none, [], []⟩,
  ⟨some 97, .ext (.t 87) 0, none, [], []⟩,
  ⟨some 98, .ext (.t 87) 1, none, [], []⟩,
  ⟨some 99, .ext (.t 87) 2, none, [], []⟩,
  ⟨some 100, .ext (.t 87) 3, none, [], []⟩,
  ⟨some 20, .mov (.t 97), none, [], []⟩,
  ⟨some 21, .mov (.t 98), none, [], []⟩,
  ⟨some 22, .mov (.t 99), none, [], []⟩,
  ⟨some 23, .mov (.t 100), none, [], []⟩] false)
 (.seq (.seq (.region [⟨some 101, .mov (.t 19), none, [], []⟩,
  ⟨some 102, .bin .neq (.t 101) (.c (.int .i64 0)), none, [], []⟩,
  ⟨some 103, .mov (.t 102), none, [], []⟩,
  ⟨some 104, .mov (.t 23), some (103, false), [], []⟩,
  ⟨some 105, .bin .neq (.t 104) (.c (.int .i64 0)), some (103, false), [], []⟩,
  ⟨some 106, .pick (.t 103) (.c (.bool true)) (.t 105), none, [], []⟩,
  ⟨some 107, .mov (.t 106), none, [], []⟩,
  ⟨some 108, .mov (.t 17), some (107, false), [], []⟩,
  ⟨some 109, .mov (.t 18), some (107, false), [], []⟩,
  ⟨some 110, .bin .add (.t 108) (.t 109), some (107, false), [], []⟩,
  ⟨some 111, .mov (.t 21), some (107, false), [], []⟩,
  ⟨some 112, .bin .add (.t 110) (.t 111), some (107, false), [], []⟩,
  ⟨some 113, .mov (.t 22), some (107, false), [], []⟩,
  ⟨some 114, .bin .add (.t 112) (.t 113), some (107, false), [], []⟩,
  ⟨some 115, .bin .neq (.t 114) (.c (.int .i64 0)), some (107, false), [], []⟩,
  ⟨some 116, .pick (.t 107) (.c (.bool true)) (.t 115), none, [], []⟩] false)
 (.cond (.t 116) (.seq (.region [⟨some 10, .mov (.c (.bool false)), none, [], []⟩] false)
 .ret) .skip))
 (.region [⟨some 117, .mov (.t 16), none, [], []⟩,
  ⟨some 118, .mov (.t 20), none, [], []⟩,
  ⟨some 13, .mov (.t 117), none, [], []⟩,
  ⟨some 14, .mov (.t 118), none, [], []⟩] false)))))
 (.region [⟨some 72, .mov (.t 15), none, [], []⟩,
  ⟨some 73, .bin .add (.t 72) (.c (.int .i64 1)), none, [], []⟩,
  ⟨some 15, .mov (.t 73), none, [], []⟩] false)))))))
 (.seq (.region [⟨some 119, .mov (.t 13), none, [], []⟩,
  ⟨some 120, .mov (.t 14), none, [], []⟩,
  ⟨some 121, .call false 14 [(.t 119), (.t 120)], none, [], []⟩,
  ⟨some 122, .mov (.t 121), none, [], []⟩,
  ⟨some 123, .mov (.t 13), some (122, true), [], []⟩,
  ⟨some 124, .mov (.t 12), some (122, true), [], []⟩,
  ⟨some 125, .iad 1 (.t 124) (.c (.int .i64 0)), some (122, true), [], []⟩,
  ⟨some 126, .load false 1 (.t 125), some (122, true), [], []⟩,
  ⟨some 127, .call false 12 [(.t 123), (.t 126)], some (122, true), [], []⟩,
  ⟨some 128, .pick (.t 122) (.t 127) (.c (.bool false)), none, [], []⟩,
  ⟨some 129, .mov (.t 128), none, [], []⟩,
  ⟨some 130, .mov (.t 13), some (129, true), [], []⟩,
  ⟨some 131, .mov (.t 12), some (129, true), [], []⟩,
  ⟨some 132, .iad 1 (.t 131) (.c (.int .i64 1)), some (129, true), [], []⟩,
  ⟨some 133, .load false 1 (.t 132), some (129, true), [], []⟩,
  ⟨some 134, .call false 12 [(.t 130), (.t 133)], some (129, true), [], []⟩,
  ⟨some 135, .pick (.t 129) (.t 134) (.c (.bool false)), none, [], []⟩,
  ⟨some 136, .mov (.t 135), none, [], []⟩,
  ⟨some 137, .mov (.t 13), some (136, true), [], []⟩,
  ⟨some 138, .mov (.t 12), some (136, true), [], []⟩,
  ⟨some 139, .iad 1 (.t 138) (.c (.int .i64 2)), some (136, true), [], []⟩,
  ⟨some 140, .load false 1 (.t 139), some (136, true), [], []⟩,
  ⟨some 141, .call false 12 [(.t 137), (.t 140)], some (136, true), [], []⟩,
  ⟨some 142, .pick (.t 136) (.t 141) (.c (.bool false)), none, [], []⟩,
  ⟨some 143, .mov (.t 142), none, [], []⟩,
  ⟨some 144, .call false 15 [], some (143, true), [], []⟩,
  ⟨some 145, .pick (.t 143) (.t 144) (.c (.bool false)), none, [], []⟩,
  ⟨some 10, .mov (.t 145), none, [], []⟩] false)
 .ret))))))))
def i5 : F := ⟨5, 146, j5, [.t 10]⟩
theorem b5 : i5.body = j5 := rfl
theorem q5 : i5.res = [.t 10] := rfl
theorem c5 : chkF Try.prog Try.f5 i5 = true := by kernel_rfl
theorem s5 {m : Model} {E : Nat → Model} (hE : ∀ f, Sound Try.prog f (E f)) (hm : ∀ args r, m args = some r → ∃ N, i5.ev E N args = some r) : Sound Try.prog 5 m := sound_of i5 Try.func5 rfl c5 hE hm
/-- bellwether/bellwetherlaw13.KidsSent -/
def j6 : C := (.seq (.region [⟨some 8, .mov (.c (.bool false)), none, [], []⟩] false)
 (.seq (.region [⟨some 20, .mov (.t 0), none, [], []⟩,
  ⟨some 21, .conv .u64 (.t 20), none, [], []⟩,
  ⟨some 22, .bin .rem (.t 21) (.c (.int .u64 4)), none, [], []⟩,
  ⟨some 23, .conv .i64 (.t 22), none, [], []⟩,
  ⟨some 24, .mov (.t 1), none, [], []⟩,
  ⟨some 25, .conv .u64 (.t 24), none, [], []⟩,
  ⟨some 26, .bin .rem (.t 25) (.c (.int .u64 8)), none, [], []⟩,
  ⟨some 27, .conv .i64 (.t 26), none, [], []⟩,
  ⟨some 0, .mov (.t 23), none, [], []⟩,
  ⟨some 1, .mov (.t 27), none, [], []⟩] false)
 (.seq (.region [⟨some 28, .mov (.t 0), none, [], []⟩,
  ⟨some 29, .mov (.t 1), none, [], []⟩,
  ⟨some 30, .call false 9 [(.t 28), (.t 29)], none, [], []⟩,
  ⟨some 9, .mov (.t 30), none, [], []⟩] false)
 (.seq (.seq (.region [⟨some 31, .mov (.t 9), none, [], []⟩,
  ⟨some 32, .len (.t 31), none, [], []⟩,
  ⟨some 33, .bin .lss (.t 32) (.c (.int .i64 2)), none, [], []⟩] false)
 (.cond (.t 33) (.seq (.region [⟨some 34, .call false 15 [], none, [], []⟩,
  ⟨some 8, .mov (.t 34), none, [], []⟩] false)
 .ret) .skip))
 (.seq (.region [⟨some 35, .mov (.t 2), none, [], []⟩,
  ⟨some 36, .conv .u64 (.t 35), none, [], []⟩,
  ⟨some 37, .mov (.t 9), none, [], []⟩,
  ⟨some 38, .len (.t 37), none, [], []⟩,
  ⟨some 39, .conv .u64 (.t 38), none, [], []⟩,
  ⟨some 40, .bin .rem (.t 36) (.t 39), none, [], []⟩,
  ⟨some 41, .conv .i64 (.t 40), none, [], []⟩,
  ⟨some 10, .mov (.t 41), none, [], []⟩] false)
 (.seq (.region [⟨some 42, .mov (.t 3), none, [], []⟩,
  ⟨some 43, .conv .u64 (.t 42), none, [], []⟩,
  ⟨some 44, .mov (.t 9), none, [], []⟩,
  ⟨some 45, .len (.t 44), none, [], []⟩,
  ⟨some 46, .conv .u64 (.t 45), none, [], []⟩,
  ⟨some 47, .bin .rem (.t 43) (.t 46), none, [], []⟩,
  ⟨some 48, .conv .i64 (.t 47), none, [], []⟩,
  ⟨some 11, .mov (.t 48), none, [], []⟩] false)
 (.seq (.seq (.region [⟨some 49, .mov (.t 10), none, [], []⟩,
  ⟨some 50, .mov (.t 11), none, [], []⟩,
  ⟨some 51, .bin .eql (.t 49) (.t 50), none, [], []⟩] false)
 (.cond (.t 51) (.seq (.region [⟨some 52, .call false 15 [], none, [], []⟩,
  ⟨some 8, .mov (.t 52), none, [], []⟩] false)
 .ret) .skip))
 (.seq (.region [⟨some 54, .mov (.t 0), none, [], []⟩,
  ⟨some 55, .mov (.t 1), none, [], []⟩,
  ⟨some 56, .mov (.t 9), none, [], []⟩,
  ⟨some 57, .mov (.t 10), none, [], []⟩,
  ⟨some 58, .iad 1 (.t 56) (.t 57), none, [], []⟩,
  ⟨some 59, .load false 1 (.t 58), none, [], []⟩,
  ⟨some 60, .call false 10 [(.t 54), (.t 55), (.c (.int .i64 1)), (.c (.row [])), (.t 59), (.c (.int .i64 3))], none, [], []⟩,
  ⟨some 53, .mov (.t 60), none, [], []⟩,
  ⟨some 61, .ext (.t 53) 0, none, [], []⟩,
  ⟨some 62, .ext (.t 53) 1, none, [], []⟩,
  ⟨some 63, .ext (.t 53) 2, none, [], []⟩,
  ⟨some 64, .ext (.t 53) 3, none, [], []⟩,
  ⟨some 12, .mov (.t 61), none, [], []⟩,
  ⟨some 13, .mov (.t 62), none, [], []⟩,
  ⟨some 14, .mov (.t 63), none, [], []⟩,
  ⟨some 15, .mov (.t 64), none, [], []⟩] false)
 (.seq (.region [⟨some 66, .mov (.t 0), none, [], []⟩,
  ⟨some 67, .mov (.t 1), none, [], []⟩,
  ⟨some 68, .mov (.t 12), none, [], []⟩,
  ⟨some 69, .mov (.t 9), none, [], []⟩,
  ⟨some 70, .mov (.t 11), none, [], []⟩,
  ⟨some 71, .iad 1 (.t 69) (.t 70), none, [], []⟩,
  ⟨some 72, .load false 1 (.t 71), none, [], []⟩,
  ⟨some 73, .call false 10 [(.t 66), (.t 67), (.c (.int .i64 1)), (.t 68), (.t 72), (.c (.int .i64 4))], none, [], []⟩,
  ⟨some 65, .mov (.t 73), none, [], []⟩,
  ⟨some 74, .ext (.t 65) 0, none, [], []⟩,
  ⟨some 75, .ext (.t 65) 1, none, [], []⟩,
  ⟨some 76, .ext (.t 65) 2, none, [], []⟩,
  ⟨some 77, .ext (.t 65) 3, none, [], []⟩,
  ⟨some 16, .mov (.t 74), none, [], []⟩,
  ⟨some 17, .mov (.t 75), none, [], []⟩,
  ⟨some 18, .mov (.t 76), none, [], []⟩,
  ⟨some 19, .mov (.t 77), none, [], []⟩] false)
 (.seq (.seq (.region [⟨some 78, .mov (.t 15), none, [], []⟩,
  ⟨some 79, .bin .neq (.t 78) (.c (.int .i64 0)), none, [], []⟩,
  ⟨some 80, .mov (.t 79), none, [], []⟩,
  ⟨some 81, .mov (.t 19), some (80, false), [], []⟩,
  ⟨some 82, .bin .neq (.t 81) (.c (.int .i64 0)), some (80, false), [], []⟩,
  ⟨some 83, .pick (.t 80) (.c (.bool true)) (.t 82), none, [], []⟩,
  ⟨some 84, .mov (.t 83), none, [], []⟩,
  ⟨some 85, .mov (.t 16), some (84, false), [], []⟩,
  ⟨some 86, .len (.t 85), some (84, false), [], []⟩,
  ⟨some 87, .bin .neq (.t 86) (.c (.int .i64 1)), some (84, false), [], []⟩,
  ⟨some 88, .pick (.t 84) (.c (.bool true)) (.t 87), none, [], []⟩] false)
 (.cond (.t 88) (.seq (.region [⟨some 8, .mov (.c (.bool false)), none, [], []⟩] false)
 .ret) .skip))
 (.seq (.seq (.region [⟨some 89, .mov (.t 11), none, [], []⟩,
  ⟨some 90, .mov (.t 10), none, [], []⟩,
  ⟨some 91, .bin .lss (.t 89) (.t 90), none, [], []⟩] false)
 (.cond (.t 91) (.seq (.region [⟨some 92, .mov (.t 16), none, [95, 96, 97, 98, 99], []⟩,
  ⟨some 93, .iad 3 (.t 92) (.c (.int .i64 0)), none, [95, 96, 97, 98, 99], [0]⟩,
  ⟨some 94, .load true 3 (.t 93), none, [95, 96, 97, 98, 99], [0, 1]⟩,
  ⟨some 95, .mov (.t 9), none, [92, 93, 94, 96], []⟩,
  ⟨some 96, .mov (.t 11), none, [92, 93, 94, 95], []⟩,
  ⟨some 97, .iad 1 (.t 95) (.t 96), none, [92, 93, 94], [3, 4]⟩,
  ⟨some 98, .load false 1 (.t 97), none, [92, 93, 94], [3, 4, 5]⟩,
  ⟨some 99, .build [.int .i64 0, .int .i64 0, .int .i64 0] [(0, 1, (.t 98)), (1, 1, (.c (.int .i64 4)))], none, [92, 93, 94], [3, 4, 5, 6]⟩,
  ⟨some 100, .eqs false [true, true, true] (.t 94) (.t 99), none, [], [0, 1, 2, 3, 4, 5, 6, 7]⟩,
  ⟨some 101, .mov (.t 100), none, [], [0, 1, 2, 3, 4, 5, 6, 7, 8]⟩,
  ⟨some 102, .mov (.t 17), some (101, true), [103, 104, 105, 106, 107], [0, 1, 2, 3, 4, 5, 6, 7, 8, 9]⟩,
  ⟨some 103, .mov (.t 9), some (101, true), [102, 104], [0, 1, 2, 3, 4, 5, 6, 7, 8, 9]⟩,
  ⟨some 104, .mov (.t 10), some (101, true), [102, 103], [0, 1, 2, 3, 4, 5, 6, 7, 8, 9]⟩,
  ⟨some 105, .iad 1 (.t 103) (.t 104), some (101, true), [102], [0, 1, 2, 3, 4, 5, 6, 7, 8, 9, 11, 12]⟩,
  ⟨some 106, .load false 1 (.t 105), some (101, true), [102], [0, 1, 2, 3, 4, 5, 6, 7, 8, 9, 11, 12, 13]⟩,
  ⟨some 107, .bin .add (.t 106) (.c (.int .i64 1)), some (101, true), [102], [0, 1, 2, 3, 4, 5, 6, 7, 8, 9, 11, 12, 13, 14]⟩,
  ⟨some 108, .bin .eql (.t 102) (.t 107), some (101, true), [], [0, 1, 2, 3, 4, 5, 6, 7, 8, 9, 10, 11, 12, 13, 14, 15]⟩,
  ⟨some 109, .pick (.t 101) (.t 108) (.c (.bool false)), none, [], [0, 1, 2, 3, 4, 5, 6, 7, 8, 9, 10, 11, 12, 13, 14, 15, 16]⟩,
  ⟨some 110, .mov (.t 109), none, [], [0, 1, 2, 3, 4, 5, 6, 7, 8, 9, 10, 11, 12, 13, 14, 15, 16, 17]⟩,
  ⟨some 111, .mov (.t 18), some (110, true), [112, 113, 114, 115, 116], [0, 1, 2, 3, 4, 5, 6, 7, 8, 9, 10, 11, 12, 13, 14, 15, 16, 17, 18]⟩,
  ⟨some 112, .mov (.t 9), some (110, true), [111, 113], [0, 1, 2, 3, 4, 5, 6, 7, 8, 9, 10, 11, 12, 13, 14, 15, 16, 17, 18]⟩,
  ⟨some 113, .mov (.t 11), some (110, true), [111, 112], [0, 1, 2, 3, 4, 5, 6, 7, 8, 9, 10, 11, 12, 13, 14, 15, 16, 17, 18]⟩,
  ⟨some 114, .iad 1 (.t 112) (.t 113), some (110, true), [111], [0, 1, 2, 3, 4, 5, 6, 7, 8, 9, 10, 11, 12, 13, 14, 15, 16, 17, 18, 20, 21]⟩,
  ⟨some 115, .load false 1 (.t 114), some (110, true), [111], [0, 1, 2, 3, 4, 5, 6, 7, 8, 9, 10, 11, 12, 13, 14, 15, 16, 17, 18, 20, 21, 22]⟩,
  ⟨some 116, .bin .add (.t 115) (.c (.int .i64 1)), some (110, true), [111], [0, 1, 2, 3, 4, 5, 6, 7, 8, 9, 10, 11, 12, 13, 14, 15, 16, 17, 18, 20, 21, 22, 23]⟩,
  ⟨some 117, .bin .eql (.t 111) (.t 116), some (110, true), [], [0, 1, 2, 3, 4, 5, 6, 7, 8, 9, 10, 11, 12, 13, 14, 15, 16, 17, 18, 19, 20, 21, 22, 23, 24]⟩,
  ⟨some 118, .pick (.t 110) (.t 117) (.c (.bool false)), none, [], [0, 1, 2, 3, 4, 5, 6, 7, 8, 9, 10, 11, 12, 13, 14, 15, 16, 17, 18, 19, 20, 21, 22, 23, 24, 25]⟩,
  ⟨some 119, .mov (.t 118), none, [], [0, 1, 2, 3, 4, 5, 6, 7, 8, 9, 10, 11, 12, 13, 14, 15, 16, 17, 18, 19, 20, 21, 22, 23, 24, 25, 26]⟩,
  ⟨some 120, .call false 15 [], some (119, true), [], [0, 1, 2, 3, 4, 5, 6, 7, 8, 9, 10, 11, 12, 13, 14, 15, 16, 17, 18, 19, 20, 21, 22, 23, 24, 25, 26, 27]⟩,
  ⟨some 121, .pick (.t 119) (.t 120) (.c (.bool false)), none, [], [0, 1, 2, 3, 4, 5, 6, 7, 8, 9, 10, 11, 12, 13, 14, 15, 16, 17, 18, 19, 20, 21, 22, 23, 24, 25, 26, 27, 28]⟩,
  ⟨some 8, .mov (.t 121), none, [], [0, 1, 2, 3, 4, 5, 6, 7, 8, 9, 10, 11, 12, 13, 14, 15, 16, 17, 18, 19, 20, 21, 22, 23, 24, 25, 26, 27, 28, 29]⟩] true)
 .ret) .skip))
 (.seq (.region [⟨some 122, .mov (.t 16), none, [125, 126, 127, 128, 129], []⟩,
  ⟨some 123, .iad 3 (.t 122) (.c (.int .i64 0)), none, [125, 126, 127, 128, 129], [0]⟩,
  ⟨some 124, .load true 3 (.t 123), none, [125, 126, 127, 128, 129], [0, 1]⟩,
  ⟨some 125, .mov (.t 9), none, [122, 123, 124, 126], []⟩,
  ⟨some 126, .mov (.t 10), none, [122, 123, 124, 125], []⟩,
  ⟨some 127, .iad 1 (.t 125) (.t 126), none, [122, 123, 124], [3, 4]⟩,
  ⟨some 128, .load false 1 (.t 127), none, [122, 123, 124], [3, 4, 5]⟩,
  ⟨some 129, .build [.int .i64 0, .int .i64 0, .int .i64 0] [(0, 1, (.t 128)), (1, 1, (.c (.int .i64 3)))], none, [122, 123, 124], [3, 4, 5, 6]⟩,
  ⟨some 130, .eqs false [true, true, true] (.t 124) (.t 129), none, [], [0, 1, 2, 3, 4, 5, 6, 7]⟩,
  ⟨some 131, .mov (.t 130), none, [], [0, 1, 2, 3, 4, 5, 6, 7, 8]⟩,
  ⟨some 132, .mov (.t 17), some (131, true), [133, 134, 135, 136, 137], [0, 1, 2, 3, 4, 5, 6, 7, 8, 9]⟩,
  ⟨some 133, .mov (.t 9), some (131, true), [132, 134], [0, 1, 2, 3, 4, 5, 6, 7, 8, 9]⟩,
  ⟨some 134, .mov (.t 11), some (131, true), [132, 133], [0, 1, 2, 3, 4, 5, 6, 7, 8, 9]⟩,
  ⟨some 135, .iad 1 (.t 133) (.t 134), some (131, true), [132], [0, 1, 2, 3, 4, 5, 6, 7, 8, 9, 11, 12]⟩,
  ⟨some 136, .load false 1 (.t 135), some (131, true), [132], [0, 1, 2, 3, 4, 5, 6, 7, 8, 9, 11, 12, 13]⟩,
  ⟨some 137, .bin .add (.t 136) (.c (.int .i64 1)), some (131, true), [132], [0, 1, 2, 3, 4, 5, 6, 7, 8, 9, 11, 12, 13, 14]⟩,
  ⟨some 138, .bin .eql (.t 132) (.t 137), some (131, true), [], [0, 1, 2, 3, 4, 5, 6, 7, 8, 9, 10, 11, 12, 13, 14, 15]⟩,
  ⟨some 139, .pick (.t 131) (.t 138) (.c (.bool false)), none, [], [0, 1, 2, 3, 4, 5, 6, 7, 8, 9, 10, 11, 12, 13, 14, 15, 16]⟩,
  ⟨some 140, .mov (.t 139), none, [], [0, 1, 2, 3, 4, 5, 6, 7, 8, 9, 10, 11, 12, 13, 14, 15, 16, 17]⟩,
  ⟨some 141, .mov (.t 18), some (140, true), [142, 143, 144, 145, 146], [0, 1, 2, 3, 4, 5, 6, 7, 8, 9, 10, 11, 12, 13, 14, 15, 16, 17, 18]⟩,
  ⟨some 142, .mov (.t 9), some (140, true), [141, 143], [0, 1, 2, 3, 4, 5, 6, 7, 8, 9, 10, 11, 12, 13, 14, 15, 16, 17, 18]⟩,
  ⟨some 143, .mov (.t 10), some (140, true), [141, 142], [0, 1, 2, 3, 4, 5, 6, 7, 8, 9, 10, 11, 12, 13, 14, 15, 16, 17, 18]⟩,
  ⟨some 144, .iad 1 (.t 142) (.t 143), some (140, true), [141], [0, 1, 2, 3, 4, 5, 6, 7, 8, 9, 10, 11, 12, 13, 14, 15, 16, 17, 18, 20, 21]⟩,
  ⟨some 145, .load false 1 (.t 144), some (140, true), [141], [0, 1, 2, 3, 4, 5, 6, 7, 8, 9, 10, 11, 12, 13, 14, 15, 16, 17, 18, 20, 21, 22]⟩,
  ⟨some 146, .bin .add (.t 145) (.c (.int .i64 1)), some (140, true), [141], [0, 1, 2, 3, 4, 5, 6, 7, 8, 9, 10, 11, 12, 13, 14, 15, 16, 17, 18, 20, 21, 22, 23]⟩,
  ⟨some 147, .bin .eql (.t 141) (.t 146), some (140, true), [], [0, 1, 2, 3, 4, 5, 6, 7, 8, 9, 10, 11, 12, 13, 14, 15, 16, 17, 18, 19, 20, 21, 22, 23, 24]⟩,
  ⟨some 148, .pick (.t 140) (.t 147) (.c (.bool false)), none, [], [0, 1, 2, 3, 4, 5, 6, 7, 8, 9, 10, 11, 12, 13, 14, 15, 16, 17, 18, 19, 20, 21, 22, 23, 24, 25]⟩,
  ⟨some 149, .mov (.t 148), none, [], [0, 1, 2, 3, 4, 5, 6, 7, 8, 9, 10, 11, 12, 13, 14, 15, 16, 17, 18, 19, 20, 21, 22, 23, 24, 25, 26]⟩,
  ⟨some 150, .call false 15 [], some (149, true), [], [0, 1, 2, 3, 4, 5, 6, 7, 8, 9, 10, 11, 12, 13, 14, 15, 16, 17, 18, 19, 20, 21, 22, 23, 24, 25, 26, 27]⟩,
  ⟨some 151, .pick (.t 149) (.t 150) (.c (.bool false)), none, [], [0, 1, 2, 3, 4, 5, 6, 7, 8, 9, 10, 11, 12, 13, 14, 15, 16, 17, 18, 19, 20, 21, 22, 23, 24, 25, 26, 27, 28]⟩,
  ⟨some 8, .mov (.t 151), none, [], [0, 1, 2, 3, 4, 5, 6, 7, 8, 9, 10, 11, 12, 13, 14, 15, 16, 17, 18, 19, 20, 21, 22, 23, 24, 25, 26, 27, 28, 29]⟩] true)
 .ret))))))))))))
def i6 : F := ⟨4, 152, j6, [.t 8]⟩
theorem b6 : i6.body = j6 := rfl
theorem q6 : i6.res = [.t 8] := rfl
theorem c6 : chkF Try.prog Try.f6 i6 = true := by kernel_rfl
theorem s6 {m : Model} {E : Nat → Model} (hE : ∀ f, Sound Try.prog f (E f)) (hm : ∀ args r, m args = some r → ∃ N, i6.ev E N args = some r) : Sound Try.prog 6 m := sound_of i6 Try.func6 rfl c6 hE hm
/-- bellwether/bellwetherlaw13.KidsExact -/
def j7 : C := (.seq (.region [⟨some 12, .mov (.c (.bool false)), none, [], []⟩] false)
 (.seq (.seq (.region [⟨some 23, .mov (.t 3), none, [], []⟩,
  ⟨some 24, .len (.t 23), none, [], []⟩,
  ⟨some 25, .bin .gtr (.t 24) (.c (.int .i64 20)), none, [], []⟩] false)
 (.cond (.t 25) (.seq (.region [⟨some 12, .mov (.c (.bool true)), none, [], []⟩] false)
 .ret) .skip))
 (.seq (.region [⟨some 26, .mov (.t 3), none, [], []⟩,
  ⟨some 27, .call false 19 [(.t 26)], none, [], []⟩,
  ⟨some 13, .mov (.t 27), none, [], []⟩] false)
 (.seq (.region [⟨some 29, .mov (.t 0), none, [], []⟩,
  ⟨some 30, .mov (.t 1), none, [], []⟩,
  ⟨some 31, .mov (.t 2), none, [], []⟩,
  ⟨some 32, .mov (.t 13), none, [], []⟩,
  ⟨some 33, .mov (.t 4), none, [], []⟩,
  ⟨some 34, .mov (.t 5), none, [], []⟩,
  ⟨some 35, .call false 10 [(.t 29), (.t 30), (.t 31), (.t 32), (.t 33), (.t 34)], none, [], []⟩,
  ⟨some 28, .mov (.t 35), none, [], []⟩,
  ⟨some 36, .ext (.t 28) 0, none, [], []⟩,
  ⟨some 37, .ext (.t 28) 1, none, [], []⟩,
  ⟨some 38, .ext (.t 28) 2, none, [], []⟩,
  ⟨some 39, .ext (.t 28) 3, none, [], []⟩,
  ⟨some 14, .mov (.t 36), none, [], []⟩,
  ⟨some 15, .mov (.t 37), none, [], []⟩,
  ⟨some 16, .mov (.t 38), none, [], []⟩,
  ⟨some 17, .mov (.t 39), none, [], []⟩] false)
 (.seq (.region [⟨some 41, .mov (.t 0), none, [], []⟩,
  ⟨some 42, .mov (.t 1), none, [], []⟩,
  ⟨some 43, .mov (.t 2), none, [], []⟩,
  ⟨some 44, .mov (.t 13), none, [], []⟩,
  ⟨some 45, .call false 20 [(.t 41), (.t 42), (.t 43), (.t 44)], none, [], []⟩,
  ⟨some 40, .mov (.t 45), none, [], []⟩,
  ⟨some 46, .ext (.t 40) 0, none, [], []⟩,
  ⟨some 47, .ext (.t 40) 1, none, [], []⟩,
  ⟨some 18, .mov (.t 46), none, [], []⟩,
  ⟨some 19, .mov (.t 47), none, [], []⟩] false)
 (.seq (.seq (.region [⟨some 48, .mov (.t 13), none, [], []⟩,
  ⟨some 49, .mov (.t 4), none, [], []⟩,
  ⟨some 50, .call false 18 [(.t 48), (.t 49)], none, [], []⟩,
  ⟨some 51, .mov (.t 3), none, [], []⟩,
  ⟨some 52, .mov (.t 4), none, [], []⟩,
  ⟨some 53, .call false 21 [(.t 51), (.t 52)], none, [], []⟩,
  ⟨some 54, .call false 14 [(.t 50), (.t 53)], none, [], []⟩,
  ⟨some 55, .un .not (.t 54), none, [], []⟩,
  ⟨some 56, .mov (.t 55), none, [], []⟩,
  ⟨some 57, .mov (.t 13), some (56, false), [], []⟩,
  ⟨some 58, .mov (.t 4), some (56, false), [], []⟩,
  ⟨some 59, .call false 12 [(.t 57), (.t 58)], some (56, false), [], []⟩,
  ⟨some 60, .mov (.t 3), some (56, false), [], []⟩,
  ⟨some 61, .mov (.t 4), some (56, false), [], []⟩,
  ⟨some 62, .call false 22 [(.t 60), (.t 61)], some (56, false), [], []⟩,
  ⟨some 63, .eqb true (.t 59) (.t 62), some (56, false), [], []⟩,
  ⟨some 64, .pick (.t 56) (.c (.bool true)) (.t 63), none, [], []⟩,
  ⟨some 65, .mov (.t 64), none, [], []⟩,
  ⟨some 66, .mov (.t 13), some (65, false), [], []⟩,
  ⟨some 67, .mov (.t 3), some (65, false), [], []⟩,
  ⟨some 68, .call false 14 [(.t 66), (.t 67)], some (65, false), [], []⟩,
  ⟨some 69, .un .not (.t 68), some (65, false), [], []⟩,
  ⟨some 70, .pick (.t 65) (.c (.bool true)) (.t 69), none, [], []⟩] false)
 (.cond (.t 70) (.seq (.region [⟨some 12, .mov (.c (.bool false)), none, [], []⟩] false)
 .ret) .skip))
 (.seq (.seq (.region [⟨some 71, .mov (.t 0), none, [], []⟩,
  ⟨some 72, .mov (.t 1), none, [], []⟩,
  ⟨some 73, .mov (.t 2), none, [], []⟩,
  ⟨some 74, .mov (.t 3), none, [], []⟩,
  ⟨some 75, .call false 16 [(.t 71), (.t 72), (.t 73), (.t 74)], none, [], []⟩,
  ⟨some 76, .un .not (.t 75), none, [], []⟩] false)
 (.cond (.t 76) (.seq (.region [⟨some 77, .mov (.t 0), none, [], []⟩,
  ⟨some 78, .mov (.t 1), none, [], []⟩,
  ⟨some 79, .mov (.t 2), none, [], []⟩,
  ⟨some 80, .mov (.t 13), none, [], []⟩,
  ⟨some 81, .call false 13 [(.t 77), (.t 78), (.t 79), (.t 80)], none, [], []⟩,
  ⟨some 82, .bin .eql (.t 81) (.c (.int .i64 1)), none, [], []⟩,
  ⟨some 83, .mov (.t 82), none, [], []⟩,
  ⟨some 84, .mov (.t 17), some (83, true), [], []⟩,
  ⟨some 85, .bin .eql (.t 84) (.c (.int .i64 1)), some (83, true), [], []⟩,
  ⟨some 86, .pick (.t 83) (.t 85) (.c (.bool false)), none, [], []⟩,
  ⟨some 87, .mov (.t 86), none, [], []⟩,
  ⟨some 88, .mov (.t 19), some (87, true), [], []⟩,
  ⟨some 89, .bin .eql (.t 88) (.c (.int .i64 1)), some (87, true), [], []⟩,
  ⟨some 90, .pick (.t 87) (.t 89) (.c (.bool false)), none, [], []⟩,
  ⟨some 91, .mov (.t 90), none, [], []⟩,
  ⟨some 92, .mov (.t 14), some (91, true), [], []⟩,
  ⟨some 93, .len (.t 92), some (91, true), [], []⟩,
  ⟨some 94, .mov (.t 18), some (91, true), [], []⟩,
  ⟨some 95, .len (.t 94), some (91, true), [], []⟩,
  ⟨some 96, .bin .add (.t 93) (.t 95), some (91, true), [], []⟩,
  ⟨some 97, .mov (.t 15), some (91, true), [], []⟩,
  ⟨some 98, .bin .add (.t 96) (.t 97), some (91, true), [], []⟩,
  ⟨some 99, .mov (.t 16), some (91, true), [], []⟩,
  ⟨some 100, .bin .add (.t 98) (.t 99), some (91, true), [], []⟩,
  ⟨some 101, .bin .eql (.t 100) (.c (.int .i64 0)), some (91, true), [], []⟩,
  ⟨some 102, .pick (.t 91) (.t 101) (.c (.bool false)), none, [], []⟩,
  ⟨some 103, .mov (.t 102), none, [], []⟩,
  ⟨some 104, .call false 15 [], some (103, true), [], []⟩,
  ⟨some 105, .pick (.t 103) (.t 104) (.c (.bool false)), none, [], []⟩,
  ⟨some 12, .mov (.t 105), none, [], []⟩] false)
 .ret) .skip))
 (.seq (.seq (.region [⟨some 106, .mov (.t 0), none, [], []⟩,
  ⟨some 107, .mov (.t 1), none, [], []⟩,
  ⟨some 108, .mov (.t 2), none, [], []⟩,
  ⟨some 109, .mov (.t 13), none, [], []⟩,
  ⟨some 110, .call false 13 [(.t 106), (.t 107), (.t 108), (.t 109)], none, [], []⟩,
  ⟨some 111, .bin .neq (.t 110) (.c (.int .i64 0)), none, [], []⟩,
  ⟨some 112, .mov (.t 111), none, [], []⟩,
  ⟨some 113, .mov (.t 19), some (112, false), [], []⟩,
  ⟨some 114, .bin .neq (.t 113) (.c (.int .i64 0)), some (112, false), [], []⟩,
  ⟨some 115, .pick (.t 112) (.c (.bool true)) (.t 114), none, [], []⟩,
  ⟨some 116, .mov (.t 115), none, [], []⟩,
  ⟨some 117, .mov (.t 18), some (116, false), [], []⟩,
  ⟨some 118, .mov (.t 3), some (116, false), [], []⟩,
  ⟨some 119, .call false 23 [(.t 118)], some (116, false), [], []⟩,
  ⟨some 120, .call false 14 [(.t 117), (.t 119)], some (116, false), [], []⟩,
  ⟨some 121, .un .not (.t 120), some (116, false), [], []⟩,
  ⟨some 122, .pick (.t 116) (.c (.bool true)) (.t 121), none, [], []⟩] false)
 (.cond (.t 122) (.seq (.region [⟨some 12, .mov (.c (.bool false)), none, [], []⟩] false)
 .ret) .skip))
 (.seq (.seq (.region [⟨some 123, .mov (.t 0), none, [], []⟩,
  ⟨some 124, .mov (.t 1), none, [], []⟩,
  ⟨some 125, .mov (.t 4), none, [], []⟩,
  ⟨some 126, .mov (.t 5), none, [], []⟩,
  ⟨some 127, .call false 24 [(.t 123), (.t 124), (.t 125), (.t 126)], none, [], []⟩,
  ⟨some 128, .un .not (.t 127), none, [], []⟩] false)
 (.cond (.t 128) (.seq (.region [⟨some 129, .mov (.t 17), none, [], []⟩,
  ⟨some 130, .bin .eql (.t 129) (.c (.int .i64 1)), none, [], []⟩,
  ⟨some 131, .mov (.t 130), none, [], []⟩,
  ⟨some 132, .mov (.t 14), some (131, true), [], []⟩,
  ⟨some 133, .len (.t 132), some (131, true), [], []⟩,
  ⟨some 134, .mov (.t 15), some (131, true), [], []⟩,
  ⟨some 135, .bin .add (.t 133) (.t 134), some (131, true), [], []⟩,
  ⟨some 136, .mov (.t 16), some (131, true), [], []⟩,
  ⟨some 137, .bin .add (.t 135) (.t 136), some (131, true), [], []⟩,
  ⟨some 138, .bin .eql (.t 137) (.c (.int .i64 0)), some (131, true), [], []⟩,
  ⟨some 139, .pick (.t 131) (.t 138) (.c (.bool false)), none, [], []⟩,
  ⟨some 140, .mov (.t 139), none, [], []⟩,
  ⟨some 141, .call false 15 [], some (140, true), [], []⟩,
  ⟨some 142, .pick (.t 140) (.t 141) (.c (.bool false)), none, [], []⟩,
  ⟨some 12, .mov (.t 142), none, [], []⟩] false)
 .ret) .skip))
 (.seq (.region [⟨some 144, .mov (.t 0), none, [], []⟩,
  ⟨some 145, .mov (.t 2), none, [], []⟩,
  ⟨some 146, .mov (.t 3), none, [], []⟩,
  ⟨some 147, .mov (.t 4), none, [], []⟩,
  ⟨some 148, .mov (.t 5), none, [], []⟩,
  ⟨some 149, .call false 25 [(.t 144), (.t 145), (.t 146), (.t 147), (.t 148)], none, [], []⟩,
  ⟨some 143, .mov (.t 149), none, [], []⟩,
  ⟨some 150, .ext (.t 143) 0, none, [], []⟩,
  ⟨some 151, .ext (.t 143) 1, none, [], []⟩,
  ⟨some 152, .ext (.t 143) 2, none, [], []⟩,
  ⟨some 20, .mov (.t 150), none, [], []⟩,
  ⟨some 21, .mov (.t 151), none, [], []⟩,
  ⟨some 22, .mov (.t 152), none, [], []⟩] false)
 (.seq (.region [⟨some 153, .mov (.t 17), none, [], []⟩,
  ⟨some 154, .bin .eql (.t 153) (.c (.int .i64 0)), none, [], []⟩,
  ⟨some 155, .mov (.t 154), none, [], []⟩,
  ⟨some 156, .mov (.t 14), some (155, true), [], []⟩,
  ⟨some 157, .mov (.t 20), some (155, true), [], []⟩,
  ⟨some 158, .call false 14 [(.t 156), (.t 157)], some (155, true), [], []⟩,
  ⟨some 159, .pick (.t 155) (.t 158) (.c (.bool false)), none, [], []⟩,
  ⟨some 160, .mov (.t 159), none, [], []⟩,
  ⟨some 161, .mov (.t 15), some (160, true), [], []⟩,
  ⟨some 162, .mov (.t 21), some (160, true), [], []⟩,
  ⟨some 163, .bin .eql (.t 161) (.t 162), some (160, true), [], []⟩,
  ⟨some 164, .pick (.t 160) (.t 163) (.c (.bool false)), none, [], []⟩,
  ⟨some 165, .mov (.t 164), none, [], []⟩,
  ⟨some 166, .mov (.t 16), some (165, true), [], []⟩,
  ⟨some 167, .mov (.t 22), some (165, true), [], []⟩,
  ⟨some 168, .bin .eql (.t 166) (.t 167), some (165, true), [], []⟩,
  ⟨some 169, .pick (.t 165) (.t 168) (.c (.bool false)), none, [], []⟩,
  ⟨some 170, .mov (.t 169), none, [], []⟩,
  ⟨some 171, .call false 15 [], some (170, true), [], []⟩,
  ⟨some 172, .pick (.t 170) (.t 171) (.c (.bool false)), none, [], []⟩,
  ⟨some 12, .mov (.t 172), none, [], []⟩] false)
 .ret)))))))))))
def i7 : F := ⟨6, 173, j7, [.t 12]⟩
theorem b7 : i7.body = j7 := rfl
theorem q7 : i7.res = [.t 12] := rfl
theorem c7 : chkF Try.prog Try.f7 i7 = true := by kernel_rfl
theorem s7 {m : Model} {E : Nat → Model} (hE : ∀ f, Sound Try.prog f (E f)) (hm : ∀ args r, m args = some r → ∃ N, i7.ev E N args = some r) : Sound Try.prog 7 m := sound_of i7 Try.func7 rfl c7 hE hm
/-- bellwether/bellwetherlaw13.KidsAge -/
def j8 : C := (.seq (.region [⟨some 10, .mov (.c (.bool false)), none, [], []⟩] false)
 (.seq (.region [⟨some 19, .mov (.t 0), none, [], []⟩,
  ⟨some 20, .conv .u64 (.t 19), none, [], []⟩,
  ⟨some 21, .bin .rem (.t 20) (.c (.int .u64 4)), none, [], []⟩,
  ⟨some 22, .conv .i64 (.t 21), none, [], []⟩,
  ⟨some 23, .mov (.t 1), none, [], []⟩,
  ⟨some 24, .conv .u64 (.t 23), none, [], []⟩,
  ⟨some 25, .bin .rem (.t 24) (.c (.int .u64 8)), none, [], []⟩,
  ⟨some 26, .conv .i64 (.t 25), none, [], []⟩,
  ⟨some 27, .mov (.t 3), none, [], []⟩,
  ⟨some 28, .conv .u64 (.t 27), none, [], []⟩,
  ⟨some 29, .bin .rem (.t 28) (.c (.int .u64 12)), none, [], []⟩,
  ⟨some 30, .conv .i64 (.t 29), none, [], []⟩,
  ⟨some 0, .mov (.t 22), none, [], []⟩,
  ⟨some 1, .mov (.t 26), none, [], []⟩,
  ⟨some 3, .mov (.t 30), none, [], []⟩] false)
 (.seq (.region [⟨some 31, .mov (.t 0), none, [], []⟩,
  ⟨some 32, .mov (.t 1), none, [], []⟩,
  ⟨some 33, .call false 9 [(.t 31), (.t 32)], none, [], []⟩,
  ⟨some 11, .mov (.t 33), none, [], []⟩] false)
 (.seq (.seq (.region [⟨some 34, .mov (.t 11), none, [], []⟩,
  ⟨some 35, .len (.t 34), none, [], []⟩,
  ⟨some 36, .bin .eql (.t 35) (.c (.int .i64 0)), none, [], []⟩] false)
 (.cond (.t 36) (.seq (.region [⟨some 37, .call false 15 [], none, [], []⟩,
  ⟨some 10, .mov (.t 37), none, [], []⟩] false)
 .ret) .skip))
 (.seq (.region [⟨some 38, .mov (.t 11), none, [], []⟩,
  ⟨some 39, .mov (.t 2), none, [], []⟩,
  ⟨some 40, .conv .u64 (.t 39), none, [], []⟩,
  ⟨some 41, .mov (.t 11), none, [], []⟩,
  ⟨some 42, .len (.t 41), none, [], []⟩,
  ⟨some 43, .conv .u64 (.t 42), none, [], []⟩,
  ⟨some 44, .bin .rem (.t 40) (.t 43), none, [], []⟩,
  ⟨some 45, .conv .i64 (.t 44), none, [], []⟩,
  ⟨some 46, .iad 1 (.t 38) (.t 45), none, [], []⟩,
  ⟨some 47, .load false 1 (.t 46), none, [], []⟩,
  ⟨some 2, .mov (.t 47), none, [], []⟩] false)
 (.seq (.region [⟨some 49, .mov (.t 0), none, [], []⟩,
  ⟨some 50, .mov (.t 1), none, [], []⟩,
  ⟨some 51, .mov (.t 2), none, [], []⟩,
  ⟨some 52, .call false 10 [(.t 49), (.t 50), (.c (.int .i64 2)), (.c (.row [])), (.t 51), (.c (.int .i64 5))], none, [], []⟩,
  ⟨some 48, .mov (.t 52), none, [], []⟩,
  ⟨some 53, .ext (.t 48) 0, none, [], []⟩,
  ⟨some 54, .ext (.t 48) 1, none, [], []⟩,
  ⟨some 55, .ext (.t 48) 2, none, [], []⟩,
  ⟨some 56, .ext (.t 48) 3, none, [], []⟩,
  ⟨some 12, .mov (.t 53), none, [], []⟩,
  ⟨some 13, .mov (.t 54), none, [], []⟩,
  ⟨some 14, .mov (.t 55), none, [], []⟩,
  ⟨some 15, .mov (.t 56), none, [], []⟩] false)
 (.seq (.seq (.region [⟨some 57, .mov (.t 15), none, [], []⟩,
  ⟨some 58, .bin .neq (.t 57) (.c (.int .i64 0)), none, [], []⟩] false)
 (.cond (.t 58) (.seq (.region [⟨some 10, .mov (.c (.bool false)), none, [], []⟩] false)
 .ret) .skip))
 (.seq (.seq (.region [⟨some 16, .mov (.c (.int .i64 0)), none, [], []⟩] false)
 (.block 0 (.loop (.keep [0, 1, 2, 3, 4, 12, 16] (.seq (.seq (.region [⟨some 59, .mov (.t 16), none, [], []⟩,
  ⟨some 60, .mov (.t 3), none, [], []⟩,
  ⟨some 61, .bin .lss (.t 59) (.t 60), none, [], []⟩] false)
 (.cond (.t 61) .skip (.exit 0)))
 (.seq (.block 1 (.seq (.region [⟨some 65, .mov (.t 0), none, [], []⟩,
  ⟨some 66, .mov (.t 1), none, [], []⟩,
  ⟨some 67, .mov (.t 12), none, [], []⟩,
  ⟨some 68, .call false 20 [(.t 65), (.t 66), (.c (.int .i64 2)), (.t 67)], none, [], []⟩,
  ⟨some 64, .mov (.t 68), none, [], []⟩,
  ⟨some 69, .ext (.t 64) 0, none, [], []⟩,
  ⟨some 70, .ext (.t 64) 1, none, [], []⟩,
  ⟨some 17, .mov (.t 69), none, [], []⟩,
  ⟨some 18, .mov (.t 70), none, [], []⟩] false)
 (.seq (.seq (.region [⟨some 71, .mov (.t 18), none, [], []⟩,
  ⟨some 72, .bin .neq (.t 71) (.c (.int .i64 0)), none, [], []⟩] false)
 (.cond (.t 72) (.seq (.region [⟨some 10, .mov (.c (.bool false)), none, [], []⟩] false)
 .ret) .skip))
 (.seq (.region [⟨some 73, .mov (.t 17), none, [], []⟩,
  ⟨some 12, .mov (.t 73), none, [], []⟩] false)
 (.seq (.region [⟨some 74, .mov (.t 4), none, [], []⟩] false)
 (.cond (.t 74) (.seq (.region [⟨some 76, .mov (.t 0), none, [], []⟩,
  ⟨some 77, .mov (.t 1), none, [], []⟩,
  ⟨some 78, .mov (.t 17), none, [], []⟩,
  ⟨some 79, .mov (.t 2), none, [], []⟩,
  ⟨some 80, .call false 10 [(.t 76), (.t 77), (.c (.int .i64 2)), (.t 78), (.t 79), (.c (.int .i64 6))], none, [], []⟩,
  ⟨some 75, .mov (.t 80), none, [], []⟩,
  ⟨some 81, .ext (.t 75) 0, none, [], []⟩,
  ⟨some 82, .ext (.t 75) 1, none, [], []⟩,
  ⟨some 83, .ext (.t 75) 2, none, [], []⟩,
  ⟨some 84, .ext (.t 75) 3, none, [], []⟩,
  ⟨some 12, .mov (.t 81), none, [], []⟩,
  ⟨some 18, .mov (.t 84), none, [], []⟩] false)
 (.seq (.region [⟨some 85, .mov (.t 18), none, [], []⟩,
  ⟨some 86, .bin .neq (.t 85) (.c (.int .i64 0)), none, [], []⟩,
  ⟨some 87, .mov (.t 86), none, [], []⟩,
  ⟨some 88, .mov (.t 12), some (87, false), [], []⟩,
  ⟨some 89, .len (.t 88), some (87, false), [], []⟩,
  ⟨some 90, .bin .neq (.t 89) (.c (.int .i64 1)), some (87, false), [], []⟩,
  ⟨some 91, .pick (.t 87) (.c (.bool true)) (.t 90), none, [], []⟩,
  ⟨some 92, .mov (.t 91), none, [], []⟩,
  ⟨some 93, .mov (.t 12), some (92, false), [], []⟩,
  ⟨some 94, .iad 3 (.t 93) (.c (.int .i64 0)), some (92, false), [], []⟩,
  ⟨some 95, .fad 2 (.t 94), some (92, false), [], []⟩,
  ⟨some 96, .load false 1 (.t 95), some (92, false), [], []⟩,
  ⟨some 97, .bin .neq (.t 96) (.c (.int .i64 0)), some (92, false), [], []⟩,
  ⟨some 98, .pick (.t 92) (.c (.bool true)) (.t 97), none, [], []⟩,
  ⟨some 99, .mov (.t 98), none, [], []⟩,
  ⟨some 100, .mov (.t 12), some (99, false), [], []⟩,
  ⟨some 101, .iad 3 (.t 100) (.c (.int .i64 0)), some (99, false), [], []⟩,
  ⟨some 102, .fad 1 (.t 101), some (99, false), [], []⟩,
  ⟨some 103, .load false 1 (.t 102), some (99, false), [], []⟩,
  ⟨some 104, .bin .neq (.t 103) (.c (.int .i64 6)), some (99, false), [], []⟩,
  ⟨some 105, .pick (.t 99) (.c (.bool true)) (.t 104), none, [], []⟩] false)
 (.cond (.t 105) (.seq (.region [⟨some 10, .mov (.c (.bool false)), none, [], []⟩] false)
 .ret) .skip))) .skip))))))
 (.region [⟨some 62, .mov (.t 16), none, [], []⟩,
  ⟨some 63, .bin .add (.t 62) (.c (.int .i64 1)), none, [], []⟩,
  ⟨some 16, .mov (.t 63), none, [], []⟩] false)))))))
 (.seq (.region [⟨some 106, .mov (.t 12), none, [], []⟩,
  ⟨some 107, .mov (.t 2), none, [], []⟩,
  ⟨some 108, .call false 12 [(.t 106), (.t 107)], none, [], []⟩,
  ⟨some 109, .mov (.t 4), none, [], []⟩,
  ⟨some 110, .mov (.t 109), none, [], []⟩,
  ⟨some 111, .mov (.t 3), some (110, false), [], []⟩,
  ⟨some 112, .bin .leq (.t 111) (.c (.int .i64 6)), some (110, false), [], []⟩,
  ⟨some 113, .pick (.t 110) (.c (.bool true)) (.t 112), none, [], []⟩,
  ⟨some 114, .eqb false (.t 108) (.t 113), none, [], []⟩,
  ⟨some 115, .mov (.t 114), none, [], []⟩,
  ⟨some 116, .call false 15 [], some (115, true), [], []⟩,
  ⟨some 117, .pick (.t 115) (.t 116) (.c (.bool false)), none, [], []⟩,
  ⟨some 10, .mov (.t 117), none, [], []⟩] false)
 .ret)))))))))
def i8 : F := ⟨5, 118, j8, [.t 10]⟩
theorem b8 : i8.body = j8 := rfl
theorem q8 : i8.res = [.t 10] := rfl
theorem c8 : chkF Try.prog Try.f8 i8 = true := by kernel_rfl
theorem s8 {m : Model} {E : Nat → Model} (hE : ∀ f, Sound Try.prog f (E f)) (hm : ∀ args r, m args = some r → ∃ N, i8.ev E N args = some r) : Sound Try.prog 8 m := sound_of i8 Try.func8 rfl c8 hE hm
/-- bellwether/bellwetherlaw13.Far -/
def j9 : C := (.seq (.region [⟨some 4, .mov (.c (.row [])), none, [], []⟩] false)
 (.seq (.region [⟨some 5, .mov (.c (.row [])), none, [], []⟩] false)
 (.seq (.seq (.region [⟨some 6, .mov (.c (.int .i64 0)), none, [], []⟩] false)
 (.block 0 (.loop (.keep [0, 1, 5, 6] (.seq (.seq (.region [⟨some 8, .mov (.t 6), none, [], []⟩,
  ⟨some 9, .bin .lss (.t 8) (.c (.int .i64 8)), none, [], []⟩] false)
 (.cond (.t 9) .skip (.exit 0)))
 (.seq (.block 1 (.seq (.seq (.region [⟨some 12, .mov (.t 0), none, [], []⟩,
  ⟨some 13, .mov (.t 1), none, [], []⟩,
  ⟨some 14, .mov (.t 6), none, [], []⟩,
  ⟨some 15, .call false 11 [(.t 12), (.t 13), (.t 14)], none, [], []⟩,
  ⟨some 16, .un .not (.t 15), none, [], []⟩] false)
 (.cond (.t 16) (.exit 1) .skip))
 (.seq (.region [⟨some 17, .mov (.t 5), none, [], []⟩,
  ⟨some 18, .len (.t 17), none, [], []⟩,
  ⟨some 7, .mov (.t 18), none, [], []⟩] false)
 (.seq (.block 2 (.loop (.keep [0, 1, 5, 6, 7] (.seq (.seq (.region [⟨some 19, .mov (.t 7), none, [], []⟩,
  ⟨some 20, .bin .gtr (.t 19) (.c (.int .i64 0)), none, [], []⟩,
  ⟨some 21, .mov (.t 20), none, [], []⟩,
  ⟨some 22, .mov (.t 0), some (21, true), [], []⟩,
  ⟨some 23, .mov (.t 6), some (21, true), [], []⟩,
  ⟨some 24, .mov (.t 5), some (21, true), [], []⟩,
  ⟨some 25, .mov (.t 7), some (21, true), [], []⟩,
  ⟨some 26, .bin .sub (.t 25) (.c (.int .i64 1)), some (21, true), [], []⟩,
  ⟨some 27, .iad 1 (.t 24) (.t 26), some (21, true), [], []⟩,
  ⟨some 28, .load false 1 (.t 27), some (21, true), [], []⟩,
  ⟨some 29, .call false 11 [(.t 22), (.t 23), (.t 28)], some (21, true), [], []⟩,
  ⟨some 30, .pick (.t 21) (.t 29) (.c (.bool false)), none, [], []⟩] false)
 (.cond (.t 30) .skip (.exit 2)))
 (.block 3 (.region [⟨some 31, .mov (.t 7), none, [], []⟩,
  ⟨some 32, .bin .sub (.t 31) (.c (.int .i64 1)), none, [], []⟩,
  ⟨some 7, .mov (.t 32), none, [], []⟩] false))))))
 (.region [⟨some 33, .bsl 3 1 0 [.int .i64 0] [], none, [34, 35, 36, 38, 39, 41, 42, 43], []⟩,
  ⟨some 34, .mov (.t 5), none, [33, 35, 38, 39, 41, 42, 43], []⟩,
  ⟨some 35, .mov (.t 7), none, [33, 34, 38, 39, 41, 42, 43], []⟩,
  ⟨some 36, .cut 1 (.t 34) none (some (.t 35)), none, [33, 38, 39, 41, 42, 43], [1, 2]⟩,
  ⟨some 37, .app 3 1 8 (.t 33) (.t 36), none, [38, 39, 41, 42, 43], [0, 1, 2, 3]⟩,
  ⟨some 38, .mov (.t 6), none, [33, 34, 35, 36, 37, 41, 42, 43], []⟩,
  ⟨some 39, .bsl 3 1 1 [.int .i64 0] [(0, (.t 38))], none, [33, 34, 35, 36, 37, 41, 42, 43], [5]⟩,
  ⟨some 40, .app 3 1 8 (.t 37) (.t 39), none, [41, 42, 43], [0, 1, 2, 3, 4, 5, 6]⟩,
  ⟨some 41, .mov (.t 5), none, [33, 34, 35, 36, 37, 38, 39, 40, 42], []⟩,
  ⟨some 42, .mov (.t 7), none, [33, 34, 35, 36, 37, 38, 39, 40, 41], []⟩,
  ⟨some 43, .cut 1 (.t 41) (some (.t 42)) none, none, [33, 34, 35, 36, 37, 38, 39, 40], [8, 9]⟩,
  ⟨some 44, .app 3 1 8 (.t 40) (.t 43), none, [], [0, 1, 2, 3, 4, 5, 6, 7, 8, 9, 10]⟩,
  ⟨some 5, .mov (.t 44), none, [], [0, 1, 2, 3, 4, 5, 6, 7, 8, 9, 10, 11]⟩] true)))))
 (.frz [5] (.region [⟨some 10, .mov (.t 6), none, [], []⟩,
  ⟨some 11, .bin .add (.t 10) (.c (.int .i64 1)), none, [], []⟩,
  ⟨some 6, .mov (.t 11), none, [], []⟩] false))))))))
 (.seq (.region [⟨some 45, .mov (.t 5), none, [], []⟩,
  ⟨some 4, .mov (.t 45), none, [], []⟩] false)
 .ret))))
def i9 : F := ⟨2, 46, j9, [.t 4]⟩
theorem b9 : i9.body = j9 := rfl
theorem q9 : i9.res = [.t 4] := rfl
theorem c9 : chkF Try.prog Try.f9 i9 = true := by kernel_rfl
theorem s9 {m : Model} {E : Nat → Model} (hE : ∀ f, Sound Try.prog f (E f)) (hm : ∀ args r, m args = some r → ∃ N, i9.ev E N args = some r) : Sound Try.prog 9 m := sound_of i9 Try.func9 rfl c9 hE hm
/-- bellwether/kids.Ask -/
def j10 : C := (.seq (.region [⟨some 10, .box (.t 4), none, [], []⟩,
  ⟨some 12, .nilsl 35 3 0, none, [], []⟩,
  ⟨some 13, .mov (.c (.int .i64 0)), none, [], []⟩,
  ⟨some 14, .mov (.c (.int .i64 0)), none, [], []⟩,
  ⟨some 15, .mov (.c (.int .i64 0)), none, [], []⟩] false)
 (.seq (.region [⟨some 19, .mov (.t 0), none, [], []⟩,
  ⟨some 20, .mov (.t 1), none, [], []⟩,
  ⟨some 21, .mov (.t 2), none, [], []⟩,
  ⟨some 22, .mov (.t 3), none, [], []⟩,
  ⟨some 23, .call true 13 [(.t 19), (.t 20), (.t 21), (.t 22)], none, [], []⟩,
  ⟨some 15, .mov (.t 23), none, [], []⟩] false)
 (.seq (.seq (.region [⟨some 24, .mov (.t 15), none, [], []⟩,
  ⟨some 25, .bin .neq (.t 24) (.c (.int .i64 0)), none, [], []⟩,
  ⟨some 26, .mov (.t 25), none, [], []⟩,
  ⟨some 27, .mov (.t 0), some (26, false), [], []⟩,
  ⟨some 28, .mov (.t 1), some (26, false), [], []⟩,
  ⟨some 29, .load false 1 (.t 10), some (26, false), [], []⟩,
  ⟨some 30, .call false 11 [(.t 27), (.t 28), (.t 29)], some (26, false), [], []⟩,
  ⟨some 31, .un .not (.t 30), some (26, false), [], []⟩,
  ⟨some 32, .pick (.t 26) (.c (.bool true)) (.t 31), none, [], []⟩,
  ⟨some 33, .mov (.t 32), none, [], []⟩,
  ⟨some 34, .mov (.t 5), some (33, false), [], []⟩,
  ⟨some 35, .call false 26 [(.t 34)], some (33, false), [], []⟩,
  ⟨some 36, .un .not (.t 35), some (33, false), [], []⟩,
  ⟨some 37, .pick (.t 33) (.c (.bool true)) (.t 36), none, [], []⟩] false)
 (.cond (.t 37) (.seq (.region [⟨some 12, .nilsl 35 3 1, none, [], []⟩,
  ⟨some 13, .mov (.c (.int .i64 0)), none, [], []⟩,
  ⟨some 14, .mov (.c (.int .i64 0)), none, [], []⟩,
  ⟨some 15, .mov (.c (.int .i64 1)), none, [], []⟩] false)
 .ret) .skip))
 (.seq (.region [⟨some 38, .load false 1 (.t 10), none, [], []⟩,
  ⟨some 39, .mov (.t 5), none, [], []⟩,
  ⟨some 40, .build [.int .i64 0, .int .i64 0, .int .i64 0] [(0, 1, (.t 38)), (1, 1, (.t 39))], none, [], []⟩,
  ⟨some 16, .alloc [.int .i64 0, .int .i64 0, .int .i64 0], none, [], []⟩,
  ⟨none, .store none 3 (.t 16) (.t 40), none, [], []⟩] false)
 (.seq (.frz [10] (.region [⟨some 41, .mov (.t 3), none, [], []⟩,
  ⟨some 42, .mkf 28 [(.t 10)], none, [], []⟩,
  ⟨some 43, .call false 27 [(.t 41), (.t 42)], none, [], []⟩,
  ⟨some 17, .mov (.t 43), none, [], []⟩] false))
 (.seq (.block 0 (.seq (.region [⟨some 45, .mov (.t 17), none, [], []⟩,
  ⟨some 46, .bin .geq (.t 45) (.c (.int .i64 0)), none, [], []⟩,
  ⟨some 44, .mov (.t 46), none, [], []⟩] false)
 (.cond (.t 44) (.seq (.region [⟨some 47, .mov (.t 3), none, [], []⟩,
  ⟨some 48, .call true 29 [(.t 47)], none, [], []⟩,
  ⟨some 12, .mov (.t 48), none, [], []⟩] false)
 (.seq (.region [⟨some 49, .mov (.t 12), none, [], []⟩,
  ⟨some 50, .mov (.t 17), none, [], []⟩,
  ⟨some 51, .load true 3 (.t 16), none, [], []⟩,
  ⟨some 52, .iad 3 (.t 49) (.t 50), none, [], []⟩,
  ⟨none, .store none 3 (.t 52) (.t 51), none, [], []⟩] false)
 (.seq (.region [⟨some 53, .mov (.t 12), none, [], []⟩,
  ⟨some 12, .mov (.t 53), none, [], []⟩,
  ⟨some 13, .mov (.c (.int .i64 0)), none, [], []⟩,
  ⟨some 14, .mov (.c (.int .i64 0)), none, [], []⟩,
  ⟨some 15, .mov (.c (.int .i64 0)), none, [], []⟩] false)
 .ret))) (.seq (.region [⟨some 55, .mov (.t 3), none, [], []⟩,
  ⟨some 56, .len (.t 55), none, [], []⟩,
  ⟨some 57, .mov (.t 2), none, [], []⟩,
  ⟨some 58, .bin .lss (.t 56) (.t 57), none, [], []⟩,
  ⟨some 54, .mov (.t 58), none, [], []⟩] false)
 (.cond (.t 54) (.seq (.region [⟨some 59, .mov (.t 0), none, [], []⟩,
  ⟨some 60, .mov (.t 3), none, [], []⟩,
  ⟨some 61, .load true 3 (.t 16), none, [], []⟩,
  ⟨some 62, .call true 30 [(.t 59), (.t 60), (.t 61)], none, [], []⟩,
  ⟨some 12, .mov (.t 62), none, [], []⟩,
  ⟨some 13, .mov (.c (.int .i64 0)), none, [], []⟩,
  ⟨some 14, .mov (.c (.int .i64 0)), none, [], []⟩,
  ⟨some 15, .mov (.c (.int .i64 0)), none, [], []⟩] false)
 .ret) (.seq (.region [⟨some 64, .mov (.t 0), none, [65, 66, 67, 68, 69], []⟩,
  ⟨some 65, .mov (.t 3), none, [64, 69], []⟩,
  ⟨some 66, .iad 3 (.t 65) (.c (.int .i64 0)), none, [64, 69], [1]⟩,
  ⟨some 67, .fad 0 (.t 66), none, [64, 69], [1, 2]⟩,
  ⟨some 68, .load false 1 (.t 67), none, [64, 69], [1, 2, 3]⟩,
  ⟨some 69, .load false 1 (.t 10), none, [64, 65, 66, 67, 68], []⟩,
  ⟨some 70, .call false 11 [(.t 64), (.t 68), (.t 69)], none, [], [0, 1, 2, 3, 4, 5]⟩,
  ⟨some 63, .mov (.t 70), none, [], [0, 1, 2, 3, 4, 5, 6]⟩] true)
 (.cond (.t 63) (.seq (.region [⟨some 71, .mov (.t 3), none, [73, 74, 75, 76, 77, 78, 79], []⟩,
  ⟨some 72, .call true 29 [(.t 71)], none, [73, 74, 75, 76, 77, 78, 79], [0]⟩,
  ⟨some 73, .load false 1 (.t 10), none, [12, 71, 72, 75, 76, 77, 78, 79], []⟩,
  ⟨some 74, .bin .add (.t 73) (.c (.int .i64 1)), none, [12, 71, 72, 75, 76, 77, 78, 79], [2]⟩,
  ⟨some 75, .mov (.t 3), none, [12, 13, 71, 72, 73, 74], []⟩,
  ⟨some 76, .iad 3 (.t 75) (.c (.int .i64 0)), none, [12, 13, 71, 72, 73, 74], [4]⟩,
  ⟨some 77, .fad 0 (.t 76), none, [12, 13, 71, 72, 73, 74], [4, 5]⟩,
  ⟨some 78, .load false 1 (.t 77), none, [12, 13, 71, 72, 73, 74], [4, 5, 6]⟩,
  ⟨some 79, .bin .add (.t 78) (.c (.int .i64 1)), none, [12, 13, 71, 72, 73, 74], [4, 5, 6, 7]⟩,
  ⟨some 12, .mov (.t 72), none, [73, 74, 75, 76, 77, 78, 79], [0, 1]⟩,
  ⟨some 13, .mov (.t 74), none, [75, 76, 77, 78, 79], [0, 1, 2, 3, 9]⟩,
  ⟨some 14, .mov (.t 79), none, [], [0, 1, 2, 3, 4, 5, 6, 7, 8, 9, 10]⟩,
  ⟨some 15, .mov (.c (.int .i64 0)), none, [], [0, 1, 2, 3, 4, 5, 6, 7, 8, 9, 10, 11]⟩] true)
 .ret) .skip)))))))
 (.seq (.region [⟨some 80, .mov (.t 3), none, [], []⟩,
  ⟨some 81, .mov (.t 3), none, [], []⟩,
  ⟨some 82, .len (.t 81), none, [], []⟩,
  ⟨some 83, .bin .sub (.t 82) (.c (.int .i64 1)), none, [], []⟩,
  ⟨some 84, .iad 3 (.t 80) (.t 83), none, [], []⟩,
  ⟨some 85, .fad 0 (.t 84), none, [], []⟩,
  ⟨some 86, .load false 1 (.t 85), none, [], []⟩,
  ⟨some 18, .mov (.t 86), none, [], []⟩] false)
 (.seq (.region [⟨some 87, .mov (.t 0), none, [88, 89, 90, 91, 92, 93, 95, 96, 97, 98], []⟩,
  ⟨some 88, .mov (.t 3), none, [87, 89, 90, 91, 93, 95, 96, 97, 98], []⟩,
  ⟨some 89, .mov (.t 3), none, [87, 88, 93, 95, 96, 97, 98], []⟩,
  ⟨some 90, .len (.t 89), none, [87, 88, 93, 95, 96, 97, 98], [2]⟩,
  ⟨some 91, .bin .sub (.t 90) (.c (.int .i64 1)), none, [87, 88, 93, 95, 96, 97, 98], [2, 3]⟩,
  ⟨some 92, .cut 3 (.t 88) none (some (.t 91)), none, [87, 93, 95, 96, 97, 98], [1, 2, 3, 4]⟩,
  ⟨some 93, .load true 3 (.t 16), none, [87, 88, 89, 90, 91, 92, 95, 96, 97, 98], []⟩,
  ⟨some 94, .call true 30 [(.t 87), (.t 92), (.t 93)], none, [95, 96, 97, 98], [0, 1, 2, 3, 4, 5, 6]⟩,
  ⟨some 95, .mov (.t 18), none, [12, 87, 88, 89, 90, 91, 92, 93, 94, 97, 98], []⟩,
  ⟨some 96, .bin .add (.t 95) (.c (.int .i64 1)), none, [12, 87, 88, 89, 90, 91, 92, 93, 94, 97, 98], [8]⟩,
  ⟨some 97, .load false 1 (.t 10), none, [12, 13, 87, 88, 89, 90, 91, 92, 93, 94, 95, 96], []⟩,
  ⟨some 98, .bin .add (.t 97) (.c (.int .i64 1)), none, [12, 13, 87, 88, 89, 90, 91, 92, 93, 94, 95, 96], [10]⟩,
  ⟨some 12, .mov (.t 94), none, [95, 96, 97, 98], [0, 1, 2, 3, 4, 5, 6, 7]⟩,
  ⟨some 13, .mov (.t 96), none, [97, 98], [0, 1, 2, 3, 4, 5, 6, 7, 8, 9, 12]⟩,
  ⟨some 14, .mov (.t 98), none, [], [0, 1, 2, 3, 4, 5, 6, 7, 8, 9, 10, 11, 12, 13]⟩,
  ⟨some 15, .mov (.c (.int .i64 0)), none, [], [0, 1, 2, 3, 4, 5, 6, 7, 8, 9, 10, 11, 12, 13, 14]⟩] true)
 .ret))))))))
def i10 : F := ⟨6, 99, j10, [.t 12, .t 13, .t 14, .t 15]⟩
theorem b10 : i10.body = j10 := rfl
theorem q10 : i10.res = [.t 12, .t 13, .t 14, .t 15] := rfl
theorem c10 : chkF Try.prog Try.f10 i10 = true := by kernel_rfl
theorem s10 {m : Model} {E : Nat → Model} (hE : ∀ f, Sound Try.prog f (E f)) (hm : ∀ args r, m args = some r → ∃ N, i10.ev E N args = some r) : Sound Try.prog 10 m := sound_of i10 Try.func10 rfl c10 hE hm
/-- bellwether/ring.Nearer -/
def j11 : C := (.seq (.region [⟨some 6, .mov (.c (.bool false)), none, [], []⟩] false)
 (.seq (.region [⟨some 12, .mov (.t 0), none, [], []⟩,
  ⟨some 13, .mov (.t 1), none, [], []⟩,
  ⟨some 14, .call false 31 [(.t 12), (.t 13)], none, [], []⟩,
  ⟨some 11, .mov (.t 14), none, [], []⟩,
  ⟨some 15, .ext (.t 11) 0, none, [], []⟩,
  ⟨some 16, .ext (.t 11) 1, none, [], []⟩,
  ⟨some 7, .mov (.t 15), none, [], []⟩,
  ⟨some 8, .mov (.t 16), none, [], []⟩] false)
 (.seq (.region [⟨some 18, .mov (.t 0), none, [], []⟩,
  ⟨some 19, .mov (.t 2), none, [], []⟩,
  ⟨some 20, .call false 31 [(.t 18), (.t 19)], none, [], []⟩,
  ⟨some 17, .mov (.t 20), none, [], []⟩,
  ⟨some 21, .ext (.t 17) 0, none, [], []⟩,
  ⟨some 22, .ext (.t 17) 1, none, [], []⟩,
  ⟨some 9, .mov (.t 21), none, [], []⟩,
  ⟨some 10, .mov (.t 22), none, [], []⟩] false)
 (.seq (.region [⟨some 23, .mov (.t 8), none, [], []⟩,
  ⟨some 24, .bin .eql (.t 23) (.c (.int .i64 0)), none, [], []⟩,
  ⟨some 25, .mov (.t 24), none, [], []⟩,
  ⟨some 26, .mov (.t 10), some (25, true), [], []⟩,
  ⟨some 27, .bin .eql (.t 26) (.c (.int .i64 0)), some (25, true), [], []⟩,
  ⟨some 28, .pick (.t 25) (.t 27) (.c (.bool false)), none, [], []⟩,
  ⟨some 29, .mov (.t 28), none, [], []⟩,
  ⟨some 30, .mov (.t 7), some (29, true), [], []⟩,
  ⟨some 31, .mov (.t 9), some (29, true), [], []⟩,
  ⟨some 32, .bin .lss (.t 30) (.t 31), some (29, true), [], []⟩,
  ⟨some 33, .pick (.t 29) (.t 32) (.c (.bool false)), none, [], []⟩,
  ⟨some 6, .mov (.t 33), none, [], []⟩] false)
 .ret))))
def i11 : F := ⟨3, 34, j11, [.t 6]⟩
theorem b11 : i11.body = j11 := rfl
theorem q11 : i11.res = [.t 6] := rfl
theorem c11 : chkF Try.prog Try.f11 i11 = true := by kernel_rfl
theorem s11 {m : Model} {E : Nat → Model} (hE : ∀ f, Sound Try.prog f (E f)) (hm : ∀ args r, m args = some r → ∃ N, i11.ev E N args = some r) : Sound Try.prog 11 m := sound_of i11 Try.func11 rfl c11 hE hm
/-- bellwether/kids.Has -/
def j12 : C := (.seq (.region [⟨some 3, .box (.t 1), none, [], []⟩,
  ⟨some 4, .mov (.c (.bool false)), none, [], []⟩] false)
 (.seq (.frz [3] (.region [⟨some 5, .mov (.t 0), none, [], []⟩,
  ⟨some 6, .mkf 33 [(.t 3)], none, [], []⟩,
  ⟨some 7, .call false 32 [(.t 5), (.t 6)], none, [], []⟩,
  ⟨some 4, .mov (.t 7), none, [], []⟩] false))
 .ret))
def i12 : F := ⟨2, 8, j12, [.t 4]⟩
theorem b12 : i12.body = j12 := rfl
theorem q12 : i12.res = [.t 4] := rfl
theorem c12 : chkF Try.prog Try.f12 i12 = true := by kernel_rfl
theorem s12 {m : Model} {E : Nat → Model} (hE : ∀ f, Sound Try.prog f (E f)) (hm : ∀ args r, m args = some r → ∃ N, i12.ev E N args = some r) : Sound Try.prog 12 m := sound_of i12 Try.func12 rfl c12 hE hm
/-- bellwether/kids.Check -/
def j13 : C := (.seq (.region [⟨some 8, .mov (.c (.int .i64 0)), none, [], []⟩] false)
 (.seq (.region [⟨some 14, .mov (.t 0), none, [], []⟩,
  ⟨some 15, .mov (.t 1), none, [], []⟩,
  ⟨some 16, .call false 31 [(.t 14), (.t 15)], none, [], []⟩,
  ⟨some 13, .mov (.t 16), none, [], []⟩,
  ⟨some 17, .ext (.t 13) 0, none, [], []⟩,
  ⟨some 18, .ext (.t 13) 1, none, [], []⟩,
  ⟨some 9, .mov (.t 17), none, [], []⟩,
  ⟨some 10, .mov (.t 18), none, [], []⟩] false)
 (.seq (.seq (.region [⟨some 19, .mov (.t 10), none, [], []⟩,
  ⟨some 20, .bin .neq (.t 19) (.c (.int .i64 0)), none, [], []⟩,
  ⟨some 21, .mov (.t 20), none, [], []⟩,
  ⟨some 22, .mov (.t 2), some (21, false), [], []⟩,
  ⟨some 23, .bin .lss (.t 22) (.c (.int .i64 1)), some (21, false), [], []⟩,
  ⟨some 24, .pick (.t 21) (.c (.bool true)) (.t 23), none, [], []⟩,
  ⟨some 25, .mov (.t 24), none, [], []⟩,
  ⟨some 26, .mov (.t 2), some (25, false), [], []⟩,
  ⟨some 27, .bin .gtr (.t 26) (.c (.int .i64 4)), some (25, false), [], []⟩,
  ⟨some 28, .pick (.t 25) (.c (.bool true)) (.t 27), none, [], []⟩,
  ⟨some 29, .mov (.t 28), none, [], []⟩,
  ⟨some 30, .mov (.t 3), some (29, false), [], []⟩,
  ⟨some 31, .len (.t 30), some (29, false), [], []⟩,
  ⟨some 32, .mov (.t 2), some (29, false), [], []⟩,
  ⟨some 33, .bin .gtr (.t 31) (.t 32), some (29, false), [], []⟩,
  ⟨some 34, .pick (.t 29) (.c (.bool true)) (.t 33), none, [], []⟩] false)
 (.cond (.t 34) (.seq (.region [⟨some 8, .mov (.c (.int .i64 1)), none, [], []⟩] false)
 .ret) .skip))
 (.seq (.seq (.region [⟨some 35, .mov (.t 3), none, [], []⟩,
  ⟨some 36, .len (.t 35), none, [], []⟩,
  ⟨some 37, .mov (.c (.int .i64 0)), none, [], []⟩] false)
 (.block 0 (.loop (.keep [0, 1, 3, 35, 36, 37] (.seq (.region [⟨some 38, .bin .lss (.t 37) (.t 36), none, [], []⟩] false)
 (.seq (.cond (.t 38) .skip (.exit 0))
 (.seq (.block 1 (.seq (.region [⟨some 39, .mov (.t 37), none, [], []⟩,
  ⟨some 40, .iad 3 (.t 35) (.t 37), none, [], []⟩,
  ⟨some 41, .load true 3 (.t 40), none, [], []⟩,
  ⟨some 12, .alloc [.int .i64 0, .int .i64 0, .int .i64 0], none, [], []⟩,
  ⟨some 11, .mov (.t 39), none, [], []⟩,
  ⟨none, .store none 3 (.t 12) (.t 41), none, [], []⟩] false)
 (.seq (.region [⟨some 42, .mov (.t 0), none, [43, 44], []⟩,
  ⟨some 43, .mov (.t 1), none, [42, 44], []⟩,
  ⟨some 44, .load true 3 (.t 12), none, [42, 43], []⟩,
  ⟨some 45, .call false 34 [(.t 42), (.t 43), (.t 44)], none, [], [0, 1, 2]⟩,
  ⟨some 46, .un .not (.t 45), none, [], [0, 1, 2, 3]⟩,
  ⟨some 47, .mov (.t 46), none, [], [0, 1, 2, 3, 4]⟩,
  ⟨some 48, .mov (.t 11), some (47, false), [], [0, 1, 2, 3, 4, 5]⟩,
  ⟨some 49, .bin .gtr (.t 48) (.c (.int .i64 0)), some (47, false), [], [0, 1, 2, 3, 4, 5, 6]⟩,
  ⟨some 50, .mov (.t 49), some (47, false), [], [0, 1, 2, 3, 4, 5, 6, 7]⟩,
  ⟨some 51, .mov (.t 0), some (50, true), [52, 53, 54, 55, 56, 57, 58, 59], [0, 1, 2, 3, 4, 5, 6, 7, 8]⟩,
  ⟨some 52, .mov (.t 3), some (50, true), [51, 53, 54, 58, 59], [0, 1, 2, 3, 4, 5, 6, 7, 8]⟩,
  ⟨some 53, .mov (.t 11), some (50, true), [51, 52, 58, 59], [0, 1, 2, 3, 4, 5, 6, 7, 8]⟩,
  ⟨some 54, .bin .sub (.t 53) (.c (.int .i64 1)), some (50, true), [51, 52, 58, 59], [0, 1, 2, 3, 4, 5, 6, 7, 8, 11]⟩,
  ⟨some 55, .iad 3 (.t 52) (.t 54), some (50, true), [51, 58, 59], [0, 1, 2, 3, 4, 5, 6, 7, 8, 10, 11, 12]⟩,
  ⟨some 56, .fad 0 (.t 55), some (50, true), [51, 58, 59], [0, 1, 2, 3, 4, 5, 6, 7, 8, 10, 11, 12, 13]⟩,
  ⟨some 57, .load false 1 (.t 56), some (50, true), [51, 58, 59], [0, 1, 2, 3, 4, 5, 6, 7, 8, 10, 11, 12, 13, 14]⟩,
  ⟨some 58, .fad 0 (.t 12), some (50, true), [51, 52, 53, 54, 55, 56, 57], [0, 1, 2, 3, 4, 5, 6, 7, 8]⟩,
  ⟨some 59, .load false 1 (.t 58), some (50, true), [51, 52, 53, 54, 55, 56, 57], [0, 1, 2, 3, 4, 5, 6, 7, 8, 16]⟩,
  ⟨some 60, .call false 11 [(.t 51), (.t 57), (.t 59)], some (50, true), [], [0, 1, 2, 3, 4, 5, 6, 7, 8, 9, 10, 11, 12, 13, 14, 15, 16, 17]⟩,
  ⟨some 61, .un .not (.t 60), some (50, true), [], [0, 1, 2, 3, 4, 5, 6, 7, 8, 9, 10, 11, 12, 13, 14, 15, 16, 17, 18]⟩,
  ⟨some 62, .pick (.t 50) (.t 61) (.c (.bool false)), some (47, false), [], [0, 1, 2, 3, 4, 5, 6, 7, 8, 9, 10, 11, 12, 13, 14, 15, 16, 17, 18, 19]⟩,
  ⟨some 63, .pick (.t 47) (.c (.bool true)) (.t 62), none, [], [0, 1, 2, 3, 4, 5, 6, 7, 8, 9, 10, 11, 12, 13, 14, 15, 16, 17, 18, 19, 20]⟩] true)
 (.cond (.t 63) (.seq (.region [⟨some 8, .mov (.c (.int .i64 1)), none, [], []⟩] false)
 .ret) .skip))))
 (.region [⟨some 64, .bin .add (.t 37) (.c (.int .i64 1)), none, [], []⟩,
  ⟨some 37, .mov (.t 64), none, [], []⟩] false))))))))
 (.seq (.region [⟨some 8, .mov (.c (.int .i64 0)), none, [], []⟩] false)
 .ret)))))
def i13 : F := ⟨4, 65, j13, [.t 8]⟩
theorem b13 : i13.body = j13 := rfl
theorem q13 : i13.res = [.t 8] := rfl
theorem c13 : chkF Try.prog Try.f13 i13 = true := by kernel_rfl
theorem s13 {m : Model} {E : Nat → Model} (hE : ∀ f, Sound Try.prog f (E f)) (hm : ∀ args r, m args = some r → ∃ N, i13.ev E N args = some r) : Sound Try.prog 13 m := sound_of i13 Try.func13 rfl c13 hE hm
/-- bellwether/bellwetherkeep.Kids -/
def j14 : C := (.seq (.region [⟨some 4, .mov (.c (.bool false)), none, [], []⟩] false)
 (.seq (.seq (.region [⟨some 6, .mov (.t 0), none, [], []⟩,
  ⟨some 7, .len (.t 6), none, [], []⟩,
  ⟨some 8, .mov (.t 1), none, [], []⟩,
  ⟨some 9, .len (.t 8), none, [], []⟩,
  ⟨some 10, .bin .neq (.t 7) (.t 9), none, [], []⟩] false)
 (.cond (.t 10) (.seq (.region [⟨some 4, .mov (.c (.bool false)), none, [], []⟩] false)
 .ret) .skip))
 (.seq (.seq (.region [⟨some 5, .mov (.c (.int .i64 0)), none, [], []⟩] false)
 (.block 0 (.loop (.keep [0, 1, 5] (.seq (.seq (.region [⟨some 11, .mov (.t 5), none, [], []⟩,
  ⟨some 12, .mov (.t 0), none, [], []⟩,
  ⟨some 13, .len (.t 12), none, [], []⟩,
  ⟨some 14, .bin .lss (.t 11) (.t 13), none, [], []⟩] false)
 (.cond (.t 14) .skip (.exit 0)))
 (.seq (.block 1 (.seq (.region [⟨some 17, .mov (.t 0), none, [18, 21, 22, 23, 24], []⟩,
  ⟨some 18, .mov (.t 5), none, [17, 21, 22, 23, 24], []⟩,
  ⟨some 19, .iad 3 (.t 17) (.t 18), none, [21, 22, 23, 24], [0, 1]⟩,
  ⟨some 20, .load true 3 (.t 19), none, [21, 22, 23, 24], [0, 1, 2]⟩,
  ⟨some 21, .mov (.t 1), none, [17, 18, 19, 20, 22], []⟩,
  ⟨some 22, .mov (.t 5), none, [17, 18, 19, 20, 21], []⟩,
  ⟨some 23, .iad 3 (.t 21) (.t 22), none, [17, 18, 19, 20], [4, 5]⟩,
  ⟨some 24, .load true 3 (.t 23), none, [17, 18, 19, 20], [4, 5, 6]⟩,
  ⟨some 25, .eqs true [true, true, true] (.t 20) (.t 24), none, [], [0, 1, 2, 3, 4, 5, 6, 7]⟩] true)
 (.cond (.t 25) (.seq (.region [⟨some 4, .mov (.c (.bool false)), none, [], []⟩] false)
 .ret) .skip)))
 (.region [⟨some 15, .mov (.t 5), none, [], []⟩,
  ⟨some 16, .bin .add (.t 15) (.c (.int .i64 1)), none, [], []⟩,
  ⟨some 5, .mov (.t 16), none, [], []⟩] false)))))))
 (.seq (.region [⟨some 4, .mov (.c (.bool true)), none, [], []⟩] false)
 .ret))))
def i14 : F := ⟨2, 26, j14, [.t 4]⟩
theorem b14 : i14.body = j14 := rfl
theorem q14 : i14.res = [.t 4] := rfl
theorem c14 : chkF Try.prog Try.f14 i14 = true := by kernel_rfl
theorem s14 {m : Model} {E : Nat → Model} (hE : ∀ f, Sound Try.prog f (E f)) (hm : ∀ args r, m args = some r → ∃ N, i14.ev E N args = some r) : Sound Try.prog 14 m := sound_of i14 Try.func14 rfl c14 hE hm
/-- bellwether/bellwetherlaw13.wakes -/
def j15 : C := (.seq (.region [⟨some 0, .mov (.c (.bool false)), none, [], []⟩] false)
 (.seq (.region [⟨some 13, .bsl 3 1 8 [.int .i64 0] [(0, (.c (.int .i64 0))), (1, (.c (.int .i64 1))), (2, (.c (.int .i64 2))), (3, (.c (.int .i64 3))), (4, (.c (.int .i64 4))), (5, (.c (.int .i64 5))), (6, (.c (.int .i64 6))), (7, (.c (.int .i64 7)))], none, [], []⟩,
  ⟨some 14, .call false 35 [(.c (.int .i64 0)), (.t 13)], none, [], []⟩,
  ⟨some 12, .mov (.t 14), none, [], []⟩,
  ⟨some 15, .ext (.t 12) 0, none, [], []⟩,
  ⟨some 16, .ext (.t 12) 1, none, [], []⟩,
  ⟨some 1, .mov (.t 15), none, [], []⟩,
  ⟨some 2, .mov (.t 16), none, [], []⟩] false)
 (.seq (.region [⟨some 17, .mov (.t 1), none, [], []⟩,
  ⟨some 18, .call false 9 [(.c (.int .i64 0)), (.t 17)], none, [], []⟩,
  ⟨some 3, .mov (.t 18), none, [], []⟩] false)
 (.seq (.seq (.region [⟨some 19, .mov (.t 2), none, [], []⟩,
  ⟨some 20, .bin .neq (.t 19) (.c (.int .i64 0)), none, [], []⟩,
  ⟨some 21, .mov (.t 20), none, [], []⟩,
  ⟨some 22, .mov (.t 3), some (21, false), [], []⟩,
  ⟨some 23, .len (.t 22), some (21, false), [], []⟩,
  ⟨some 24, .bin .neq (.t 23) (.c (.int .i64 7)), some (21, false), [], []⟩,
  ⟨some 25, .pick (.t 21) (.c (.bool true)) (.t 24), none, [], []⟩] false)
 (.cond (.t 25) (.seq (.region [⟨some 0, .mov (.c (.bool false)), none, [], []⟩] false)
 .ret) .skip))
 (.seq (.region [⟨some 27, .mov (.t 1), none, [], []⟩,
  ⟨some 28, .mov (.t 3), none, [], []⟩,
  ⟨some 29, .iad 1 (.t 28) (.c (.int .i64 1)), none, [], []⟩,
  ⟨some 30, .load false 1 (.t 29), none, [], []⟩,
  ⟨some 31, .call false 10 [(.c (.int .i64 0)), (.t 27), (.c (.int .i64 1)), (.c (.row [])), (.t 30), (.c (.int .i64 3))], none, [], []⟩,
  ⟨some 26, .mov (.t 31), none, [], []⟩,
  ⟨some 32, .ext (.t 26) 0, none, [], []⟩,
  ⟨some 33, .ext (.t 26) 1, none, [], []⟩,
  ⟨some 34, .ext (.t 26) 2, none, [], []⟩,
  ⟨some 35, .ext (.t 26) 3, none, [], []⟩,
  ⟨some 4, .mov (.t 32), none, [], []⟩,
  ⟨some 5, .mov (.t 33), none, [], []⟩,
  ⟨some 6, .mov (.t 34), none, [], []⟩,
  ⟨some 7, .mov (.t 35), none, [], []⟩] false)
 (.seq (.region [⟨some 37, .mov (.t 1), none, [], []⟩,
  ⟨some 38, .mov (.t 4), none, [], []⟩,
  ⟨some 39, .mov (.t 3), none, [], []⟩,
  ⟨some 40, .iad 1 (.t 39) (.c (.int .i64 0)), none, [], []⟩,
  ⟨some 41, .load false 1 (.t 40), none, [], []⟩,
  ⟨some 42, .call false 10 [(.c (.int .i64 0)), (.t 37), (.c (.int .i64 1)), (.t 38), (.t 41), (.c (.int .i64 2))], none, [], []⟩,
  ⟨some 36, .mov (.t 42), none, [], []⟩,
  ⟨some 43, .ext (.t 36) 0, none, [], []⟩,
  ⟨some 44, .ext (.t 36) 1, none, [], []⟩,
  ⟨some 45, .ext (.t 36) 2, none, [], []⟩,
  ⟨some 46, .ext (.t 36) 3, none, [], []⟩,
  ⟨some 8, .mov (.t 43), none, [], []⟩,
  ⟨some 9, .mov (.t 44), none, [], []⟩,
  ⟨some 10, .mov (.t 45), none, [], []⟩,
  ⟨some 11, .mov (.t 46), none, [], []⟩] false)
 (.seq (.region [⟨some 47, .mov (.t 7), none, [], []⟩,
  ⟨some 48, .bin .eql (.t 47) (.c (.int .i64 0)), none, [], [0]⟩,
  ⟨some 49, .mov (.t 48), none, [], [0, 1]⟩,
  ⟨some 50, .mov (.t 4), some (49, true), [], [0, 1, 2]⟩,
  ⟨some 51, .len (.t 50), some (49, true), [], [0, 1, 2, 3]⟩,
  ⟨some 52, .bin .eql (.t 51) (.c (.int .i64 1)), some (49, true), [], [0, 1, 2, 3, 4]⟩,
  ⟨some 53, .pick (.t 49) (.t 52) (.c (.bool false)), none, [], [0, 1, 2, 3, 4, 5]⟩,
  ⟨some 54, .mov (.t 53), none, [], [0, 1, 2, 3, 4, 5, 6]⟩,
  ⟨some 55, .mov (.t 5), some (54, true), [56], [0, 1, 2, 3, 4, 5, 6, 7]⟩,
  ⟨some 56, .mov (.t 6), some (54, true), [55], [0, 1, 2, 3, 4, 5, 6, 7]⟩,
  ⟨some 57, .bin .add (.t 55) (.t 56), some (54, true), [], [0, 1, 2, 3, 4, 5, 6, 7, 8, 9]⟩,
  ⟨some 58, .bin .eql (.t 57) (.c (.int .i64 0)), some (54, true), [], [0, 1, 2, 3, 4, 5, 6, 7, 8, 9, 10]⟩,
  ⟨some 59, .pick (.t 54) (.t 58) (.c (.bool false)), none, [], [0, 1, 2, 3, 4, 5, 6, 7, 8, 9, 10, 11]⟩,
  ⟨some 60, .mov (.t 59), none, [], [0, 1, 2, 3, 4, 5, 6, 7, 8, 9, 10, 11, 12]⟩,
  ⟨some 61, .mov (.t 11), some (60, true), [], [0, 1, 2, 3, 4, 5, 6, 7, 8, 9, 10, 11, 12, 13]⟩,
  ⟨some 62, .bin .eql (.t 61) (.c (.int .i64 0)), some (60, true), [], [0, 1, 2, 3, 4, 5, 6, 7, 8, 9, 10, 11, 12, 13, 14]⟩,
  ⟨some 63, .pick (.t 60) (.t 62) (.c (.bool false)), none, [], [0, 1, 2, 3, 4, 5, 6, 7, 8, 9, 10, 11, 12, 13, 14, 15]⟩,
  ⟨some 64, .mov (.t 63), none, [], [0, 1, 2, 3, 4, 5, 6, 7, 8, 9, 10, 11, 12, 13, 14, 15, 16]⟩,
  ⟨some 65, .mov (.t 8), some (64, true), [], [0, 1, 2, 3, 4, 5, 6, 7, 8, 9, 10, 11, 12, 13, 14, 15, 16, 17]⟩,
  ⟨some 66, .len (.t 65), some (64, true), [], [0, 1, 2, 3, 4, 5, 6, 7, 8, 9, 10, 11, 12, 13, 14, 15, 16, 17, 18]⟩,
  ⟨some 67, .bin .eql (.t 66) (.c (.int .i64 1)), some (64, true), [], [0, 1, 2, 3, 4, 5, 6, 7, 8, 9, 10, 11, 12, 13, 14, 15, 16, 17, 18, 19]⟩,
  ⟨some 68, .pick (.t 64) (.t 67) (.c (.bool false)), none, [], [0, 1, 2, 3, 4, 5, 6, 7, 8, 9, 10, 11, 12, 13, 14, 15, 16, 17, 18, 19, 20]⟩,
  ⟨some 69, .mov (.t 68), none, [], [0, 1, 2, 3, 4, 5, 6, 7, 8, 9, 10, 11, 12, 13, 14, 15, 16, 17, 18, 19, 20, 21]⟩,
  ⟨some 70, .mov (.t 8), some (69, true), [74, 75, 76], [0, 1, 2, 3, 4, 5, 6, 7, 8, 9, 10, 11, 12, 13, 14, 15, 16, 17, 18, 19, 20, 21, 22]⟩,
  ⟨some 71, .iad 3 (.t 70) (.c (.int .i64 0)), some (69, true), [74, 75, 76], [0, 1, 2, 3, 4, 5, 6, 7, 8, 9, 10, 11, 12, 13, 14, 15, 16, 17, 18, 19, 20, 21, 22, 23]⟩,
  ⟨some 72, .fad 0 (.t 71), some (69, true), [74, 75, 76], [0, 1, 2, 3, 4, 5, 6, 7, 8, 9, 10, 11, 12, 13, 14, 15, 16, 17, 18, 19, 20, 21, 22, 23, 24]⟩,
  ⟨some 73, .load false 1 (.t 72), some (69, true), [74, 75, 76], [0, 1, 2, 3, 4, 5, 6, 7, 8, 9, 10, 11, 12, 13, 14, 15, 16, 17, 18, 19, 20, 21, 22, 23, 24, 25]⟩,
  ⟨some 74, .mov (.t 3), some (69, true), [70, 71, 72, 73], [0, 1, 2, 3, 4, 5, 6, 7, 8, 9, 10, 11, 12, 13, 14, 15, 16, 17, 18, 19, 20, 21, 22]⟩,
  ⟨some 75, .iad 1 (.t 74) (.c (.int .i64 0)), some (69, true), [70, 71, 72, 73], [0, 1, 2, 3, 4, 5, 6, 7, 8, 9, 10, 11, 12, 13, 14, 15, 16, 17, 18, 19, 20, 21, 22, 27]⟩,
  ⟨some 76, .load false 1 (.t 75), some (69, true), [70, 71, 72, 73], [0, 1, 2, 3, 4, 5, 6, 7, 8, 9, 10, 11, 12, 13, 14, 15, 16, 17, 18, 19, 20, 21, 22, 27, 28]⟩,
  ⟨some 77, .bin .eql (.t 73) (.t 76), some (69, true), [], [0, 1, 2, 3, 4, 5, 6, 7, 8, 9, 10, 11, 12, 13, 14, 15, 16, 17, 18, 19, 20, 21, 22, 23, 24, 25, 26, 27, 28, 29]⟩,
  ⟨some 78, .pick (.t 69) (.t 77) (.c (.bool false)), none, [], [0, 1, 2, 3, 4, 5, 6, 7, 8, 9, 10, 11, 12, 13, 14, 15, 16, 17, 18, 19, 20, 21, 22, 23, 24, 25, 26, 27, 28, 29, 30]⟩,
  ⟨some 79, .mov (.t 78), none, [], [0, 1, 2, 3, 4, 5, 6, 7, 8, 9, 10, 11, 12, 13, 14, 15, 16, 17, 18, 19, 20, 21, 22, 23, 24, 25, 26, 27, 28, 29, 30, 31]⟩,
  ⟨some 80, .mov (.t 9), some (79, true), [81, 82, 83, 84], [0, 1, 2, 3, 4, 5, 6, 7, 8, 9, 10, 11, 12, 13, 14, 15, 16, 17, 18, 19, 20, 21, 22, 23, 24, 25, 26, 27, 28, 29, 30, 31, 32]⟩,
  ⟨some 81, .mov (.t 3), some (79, true), [80], [0, 1, 2, 3, 4, 5, 6, 7, 8, 9, 10, 11, 12, 13, 14, 15, 16, 17, 18, 19, 20, 21, 22, 23, 24, 25, 26, 27, 28, 29, 30, 31, 32]⟩,
  ⟨some 82, .iad 1 (.t 81) (.c (.int .i64 1)), some (79, true), [80], [0, 1, 2, 3, 4, 5, 6, 7, 8, 9, 10, 11, 12, 13, 14, 15, 16, 17, 18, 19, 20, 21, 22, 23, 24, 25, 26, 27, 28, 29, 30, 31, 32, 34]⟩,
  ⟨some 83, .load false 1 (.t 82), some (79, true), [80], [0, 1, 2, 3, 4, 5, 6, 7, 8, 9, 10, 11, 12, 13, 14, 15, 16, 17, 18, 19, 20, 21, 22, 23, 24, 25, 26, 27, 28, 29, 30, 31, 32, 34, 35]⟩,
  ⟨some 84, .bin .add (.t 83) (.c (.int .i64 1)), some (79, true), [80], [0, 1, 2, 3, 4, 5, 6, 7, 8, 9, 10, 11, 12, 13, 14, 15, 16, 17, 18, 19, 20, 21, 22, 23, 24, 25, 26, 27, 28, 29, 30, 31, 32, 34, 35, 36]⟩,
  ⟨some 85, .bin .eql (.t 80) (.t 84), some (79, true), [], [0, 1, 2, 3, 4, 5, 6, 7, 8, 9, 10, 11, 12, 13, 14, 15, 16, 17, 18, 19, 20, 21, 22, 23, 24, 25, 26, 27, 28, 29, 30, 31, 32, 33, 34, 35, 36, 37]⟩,
  ⟨some 86, .pick (.t 79) (.t 85) (.c (.bool false)), none, [], [0, 1, 2, 3, 4, 5, 6, 7, 8, 9, 10, 11, 12, 13, 14, 15, 16, 17, 18, 19, 20, 21, 22, 23, 24, 25, 26, 27, 28, 29, 30, 31, 32, 33, 34, 35, 36, 37, 38]⟩,
  ⟨some 87, .mov (.t 86), none, [], [0, 1, 2, 3, 4, 5, 6, 7, 8, 9, 10, 11, 12, 13, 14, 15, 16, 17, 18, 19, 20, 21, 22, 23, 24, 25, 26, 27, 28, 29, 30, 31, 32, 33, 34, 35, 36, 37, 38, 39]⟩,
  ⟨some 88, .mov (.t 10), some (87, true), [89, 90, 91, 92], [0, 1, 2, 3, 4, 5, 6, 7, 8, 9, 10, 11, 12, 13, 14, 15, 16, 17, 18, 19, 20, 21, 22, 23, 24, 25, 26, 27, 28, 29, 30, 31, 32, 33, 34, 35, 36, 37, 38, 39, 40]⟩,
  ⟨some 89, .mov (.t 3), some (87, true), [88], [0, 1, 2, 3, 4, 5, 6, 7, 8, 9, 10, 11, 12, 13, 14, 15, 16, 17, 18, 19, 20, 21, 22, 23, 24, 25, 26, 27, 28, 29, 30, 31, 32, 33, 34, 35, 36, 37, 38, 39, 40]⟩,
  ⟨some 90, .iad 1 (.t 89) (.c (.int .i64 0)), some (87, true), [88], [0, 1, 2, 3, 4, 5, 6, 7, 8, 9, 10, 11, 12, 13, 14, 15, 16, 17, 18, 19, 20, 21, 22, 23, 24, 25, 26, 27, 28, 29, 30, 31, 32, 33, 34, 35, 36, 37, 38, 39, 40, 42]⟩,
  ⟨some 91, .load false 1 (.t 90), some (87, true), [88], [0, 1, 2, 3, 4, 5, 6, 7, 8, 9, 10, 11, 12, 13, 14, 15, 16, 17, 18, 19, 20, 21, 22, 23, 24, 25, 26, 27, 28, 29, 30, 31, 32, 33, 34, 35, 36, 37, 38, 39, 40, 42, 43]⟩,
  ⟨some 92, .bin .add (.t 91) (.c (.int .i64 1)), some (87, true), [88], [0, 1, 2, 3, 4, 5, 6, 7, 8, 9, 10, 11, 12, 13, 14, 15, 16, 17, 18, 19, 20, 21, 22, 23, 24, 25, 26, 27, 28, 29, 30, 31, 32, 33, 34, 35, 36, 37, 38, 39, 40, 42, 43, 44]⟩,
  ⟨some 93, .bin .eql (.t 88) (.t 92), some (87, true), [], [0, 1, 2, 3, 4, 5, 6, 7, 8, 9, 10, 11, 12, 13, 14, 15, 16, 17, 18, 19, 20, 21, 22, 23, 24, 25, 26, 27, 28, 29, 30, 31, 32, 33, 34, 35, 36, 37, 38, 39, 40, 41, 42, 43, 44, 45]⟩,
  ⟨some 94, .pick (.t 87) (.t 93) (.c (.bool false)), none, [], [0, 1, 2, 3, 4, 5, 6, 7, 8, 9, 10, 11, 12, 13, 14, 15, 16, 17, 18, 19, 20, 21, 22, 23, 24, 25, 26, 27, 28, 29, 30, 31, 32, 33, 34, 35, 36, 37, 38, 39, 40, 41, 42, 43, 44, 45, 46]⟩,
  ⟨some 95, .mov (.t 94), none, [], [0, 1, 2, 3, 4, 5, 6, 7, 8, 9, 10, 11, 12, 13, 14, 15, 16, 17, 18, 19, 20, 21, 22, 23, 24, 25, 26, 27, 28, 29, 30, 31, 32, 33, 34, 35, 36, 37, 38, 39, 40, 41, 42, 43, 44, 45, 46, 47]⟩,
  ⟨some 96, .mov (.t 8), some (95, true), [97, 98, 99], [0, 1, 2, 3, 4, 5, 6, 7, 8, 9, 10, 11, 12, 13, 14, 15, 16, 17, 18, 19, 20, 21, 22, 23, 24, 25, 26, 27, 28, 29, 30, 31, 32, 33, 34, 35, 36, 37, 38, 39, 40, 41, 42, 43, 44, 45, 46, 47, 48]⟩,
  ⟨some 97, .mov (.t 3), some (95, true), [96], [0, 1, 2, 3, 4, 5, 6, 7, 8, 9, 10, 11, 12, 13, 14, 15, 16, 17, 18, 19, 20, 21, 22, 23, 24, 25, 26, 27, 28, 29, 30, 31, 32, 33, 34, 35, 36, 37, 38, 39, 40, 41, 42, 43, 44, 45, 46, 47, 48]⟩,
  ⟨some 98, .iad 1 (.t 97) (.c (.int .i64 0)), some (95, true), [96], [0, 1, 2, 3, 4, 5, 6, 7, 8, 9, 10, 11, 12, 13, 14, 15, 16, 17, 18, 19, 20, 21, 22, 23, 24, 25, 26, 27, 28, 29, 30, 31, 32, 33, 34, 35, 36, 37, 38, 39, 40, 41, 42, 43, 44, 45, 46, 47, 48, 50]⟩,
  ⟨some 99, .load false 1 (.t 98), some (95, true), [96], [0, 1, 2, 3, 4, 5, 6, 7, 8, 9, 10, 11, 12, 13, 14, 15, 16, 17, 18, 19, 20, 21, 22, 23, 24, 25, 26, 27, 28, 29, 30, 31, 32, 33, 34, 35, 36, 37, 38, 39, 40, 41, 42, 43, 44, 45, 46, 47, 48, 50, 51]⟩,
  ⟨some 100, .call false 12 [(.t 96), (.t 99)], some (95, true), [], [0, 1, 2, 3, 4, 5, 6, 7, 8, 9, 10, 11, 12, 13, 14, 15, 16, 17, 18, 19, 20, 21, 22, 23, 24, 25, 26, 27, 28, 29, 30, 31, 32, 33, 34, 35, 36, 37, 38, 39, 40, 41, 42, 43, 44, 45, 46, 47, 48, 49, 50, 51, 52]⟩,
  ⟨some 101, .pick (.t 95) (.t 100) (.c (.bool false)), none, [], [0, 1, 2, 3, 4, 5, 6, 7, 8, 9, 10, 11, 12, 13, 14, 15, 16, 17, 18, 19, 20, 21, 22, 23, 24, 25, 26, 27, 28, 29, 30, 31, 32, 33, 34, 35, 36, 37, 38, 39, 40, 41, 42, 43, 44, 45, 46, 47, 48, 49, 50, 51, 52, 53]⟩,
  ⟨some 102, .mov (.t 101), none, [], [0, 1, 2, 3, 4, 5, 6, 7, 8, 9, 10, 11, 12, 13, 14, 15, 16, 17, 18, 19, 20, 21, 22, 23, 24, 25, 26, 27, 28, 29, 30, 31, 32, 33, 34, 35, 36, 37, 38, 39, 40, 41, 42, 43, 44, 45, 46, 47, 48, 49, 50, 51, 52, 53, 54]⟩,
  ⟨some 103, .mov (.t 8), some (102, true), [104, 105, 106], [0, 1, 2, 3, 4, 5, 6, 7, 8, 9, 10, 11, 12, 13, 14, 15, 16, 17, 18, 19, 20, 21, 22, 23, 24, 25, 26, 27, 28, 29, 30, 31, 32, 33, 34, 35, 36, 37, 38, 39, 40, 41, 42, 43, 44, 45, 46, 47, 48, 49, 50, 51, 52, 53, 54, 55]⟩,
  ⟨some 104, .mov (.t 3), some (102, true), [103], [0, 1, 2, 3, 4, 5, 6, 7, 8, 9, 10, 11, 12, 13, 14, 15, 16, 17, 18, 19, 20, 21, 22, 23, 24, 25, 26, 27, 28, 29, 30, 31, 32, 33, 34, 35, 36, 37, 38, 39, 40, 41, 42, 43, 44, 45, 46, 47, 48, 49, 50, 51, 52, 53, 54, 55]⟩,
  ⟨some 105, .iad 1 (.t 104) (.c (.int .i64 0)), some (102, true), [103], [0, 1, 2, 3, 4, 5, 6, 7, 8, 9, 10, 11, 12, 13, 14, 15, 16, 17, 18, 19, 20, 21, 22, 23, 24, 25, 26, 27, 28, 29, 30, 31, 32, 33, 34, 35, 36, 37, 38, 39, 40, 41, 42, 43, 44, 45, 46, 47, 48, 49, 50, 51, 52, 53, 54, 55, 57]⟩,
  ⟨some 106, .load false 1 (.t 105), some (102, true), [103], [0, 1, 2, 3, 4, 5, 6, 7, 8, 9, 10, 11, 12, 13, 14, 15, 16, 17, 18, 19, 20, 21, 22, 23, 24, 25, 26, 27, 28, 29, 30, 31, 32, 33, 34, 35, 36, 37, 38, 39, 40, 41, 42, 43, 44, 45, 46, 47, 48, 49, 50, 51, 52, 53, 54, 55, 57, 58]⟩,
  ⟨some 107, .call false 18 [(.t 103), (.t 106)], some (102, true), [], [0, 1, 2, 3, 4, 5, 6, 7, 8, 9, 10, 11, 12, 13, 14, 15, 16, 17, 18, 19, 20, 21, 22, 23, 24, 25, 26, 27, 28, 29, 30, 31, 32, 33, 34, 35, 36, 37, 38, 39, 40, 41, 42, 43, 44, 45, 46, 47, 48, 49, 50, 51, 52, 53, 54, 55, 56, 57, 58, 59]⟩,
  ⟨some 108, .len (.t 107), some (102, true), [], [0, 1, 2, 3, 4, 5, 6, 7, 8, 9, 10, 11, 12, 13, 14, 15, 16, 17, 18, 19, 20, 21, 22, 23, 24, 25, 26, 27, 28, 29, 30, 31, 32, 33, 34, 35, 36, 37, 38, 39, 40, 41, 42, 43, 44, 45, 46, 47, 48, 49, 50, 51, 52, 53, 54, 55, 56, 57, 58, 59, 60]⟩,
  ⟨some 109, .bin .eql (.t 108) (.c (.int .i64 0)), some (102, true), [], [0, 1, 2, 3, 4, 5, 6, 7, 8, 9, 10, 11, 12, 13, 14, 15, 16, 17, 18, 19, 20, 21, 22, 23, 24, 25, 26, 27, 28, 29, 30, 31, 32, 33, 34, 35, 36, 37, 38, 39, 40, 41, 42, 43, 44, 45, 46, 47, 48, 49, 50, 51, 52, 53, 54, 55, 56, 57, 58, 59, 60, 61]⟩,
  ⟨some 110, .pick (.t 102) (.t 109) (.c (.bool false)), none, [], [0, 1, 2, 3, 4, 5, 6, 7, 8, 9, 10, 11, 12, 13, 14, 15, 16, 17, 18, 19, 20, 21, 22, 23, 24, 25, 26, 27, 28, 29, 30, 31, 32, 33, 34, 35, 36, 37, 38, 39, 40, 41, 42, 43, 44, 45, 46, 47, 48, 49, 50, 51, 52, 53, 54, 55, 56, 57, 58, 59, 60, 61, 62]⟩,
  ⟨some 111, .mov (.t 110), none, [], [0, 1, 2, 3, 4, 5, 6, 7, 8, 9, 10, 11, 12, 13, 14, 15, 16, 17, 18, 19, 20, 21, 22, 23, 24, 25, 26, 27, 28, 29, 30, 31, 32, 33, 34, 35, 36, 37, 38, 39, 40, 41, 42, 43, 44, 45, 46, 47, 48, 49, 50, 51, 52, 53, 54, 55, 56, 57, 58, 59, 60, 61, 62, 63]⟩,
  ⟨some 112, .mov (.t 1), some (111, true), [], [0, 1, 2, 3, 4, 5, 6, 7, 8, 9, 10, 11, 12, 13, 14, 15, 16, 17, 18, 19, 20, 21, 22, 23, 24, 25, 26, 27, 28, 29, 30, 31, 32, 33, 34, 35, 36, 37, 38, 39, 40, 41, 42, 43, 44, 45, 46, 47, 48, 49, 50, 51, 52, 53, 54, 55, 56, 57, 58, 59, 60, 61, 62, 63, 64]⟩,
  ⟨some 113, .call false 13 [(.c (.int .i64 0)), (.t 112), (.c (.int .i64 9)), (.c (.row []))], some (111, true), [], [0, 1, 2, 3, 4, 5, 6, 7, 8, 9, 10, 11, 12, 13, 14, 15, 16, 17, 18, 19, 20, 21, 22, 23, 24, 25, 26, 27, 28, 29, 30, 31, 32, 33, 34, 35, 36, 37, 38, 39, 40, 41, 42, 43, 44, 45, 46, 47, 48, 49, 50, 51, 52, 53, 54, 55, 56, 57, 58, 59, 60, 61, 62, 63, 64, 65]⟩,
  ⟨some 114, .bin .eql (.t 113) (.c (.int .i64 1)), some (111, true), [], [0, 1, 2, 3, 4, 5, 6, 7, 8, 9, 10, 11, 12, 13, 14, 15, 16, 17, 18, 19, 20, 21, 22, 23, 24, 25, 26, 27, 28, 29, 30, 31, 32, 33, 34, 35, 36, 37, 38, 39, 40, 41, 42, 43, 44, 45, 46, 47, 48, 49, 50, 51, 52, 53, 54, 55, 56, 57, 58, 59, 60, 61, 62, 63, 64, 65, 66]⟩,
  ⟨some 115, .pick (.t 111) (.t 114) (.c (.bool false)), none, [], [0, 1, 2, 3, 4, 5, 6, 7, 8, 9, 10, 11, 12, 13, 14, 15, 16, 17, 18, 19, 20, 21, 22, 23, 24, 25, 26, 27, 28, 29, 30, 31, 32, 33, 34, 35, 36, 37, 38, 39, 40, 41, 42, 43, 44, 45, 46, 47, 48, 49, 50, 51, 52, 53, 54, 55, 56, 57, 58, 59, 60, 61, 62, 63, 64, 65, 66, 67]⟩,
  ⟨some 0, .mov (.t 115), none, [], [0, 1, 2, 3, 4, 5, 6, 7, 8, 9, 10, 11, 12, 13, 14, 15, 16, 17, 18, 19, 20, 21, 22, 23, 24, 25, 26, 27, 28, 29, 30, 31, 32, 33, 34, 35, 36, 37, 38, 39, 40, 41, 42, 43, 44, 45, 46, 47, 48, 49, 50, 51, 52, 53, 54, 55, 56, 57, 58, 59, 60, 61, 62, 63, 64, 65, 66, 67, 68]⟩] true)
 .ret)))))))
def i15 : F := ⟨0, 116, j15, [.t 0]⟩
theorem b15 : i15.body = j15 := rfl
theorem q15 : i15.res = [.t 0] := rfl
theorem c15 : chkF Try.prog Try.f15 i15 = true := by kernel_rfl
theorem s15 {m : Model} {E : Nat → Model} (hE : ∀ f, Sound Try.prog f (E f)) (hm : ∀ args r, m args = some r → ∃ N, i15.ev E N args = some r) : Sound Try.prog 15 m := sound_of i15 Try.func15 rfl c15 hE hm
/-- bellwether/bellwetherref10.Kids -/
def j16 : C := (.seq (.region [⟨some 8, .mov (.c (.bool false)), none, [], []⟩] false)
 (.seq (.seq (.region [⟨some 11, .mov (.t 0), none, [], []⟩,
  ⟨some 12, .call false 17 [(.t 11)], none, [], []⟩,
  ⟨some 13, .un .not (.t 12), none, [], []⟩,
  ⟨some 14, .mov (.t 13), none, [], []⟩,
  ⟨some 15, .mov (.t 1), some (14, false), [], []⟩,
  ⟨some 16, .call false 36 [(.t 15)], some (14, false), [], []⟩,
  ⟨some 17, .un .not (.t 16), some (14, false), [], []⟩,
  ⟨some 18, .pick (.t 14) (.c (.bool true)) (.t 17), none, [], []⟩,
  ⟨some 19, .mov (.t 18), none, [], []⟩,
  ⟨some 20, .mov (.t 2), some (19, false), [], []⟩,
  ⟨some 21, .call false 37 [(.t 20), (.c (.int .i64 1)), (.c (.int .i64 4))], some (19, false), [], []⟩,
  ⟨some 22, .un .not (.t 21), some (19, false), [], []⟩,
  ⟨some 23, .pick (.t 19) (.c (.bool true)) (.t 22), none, [], []⟩,
  ⟨some 24, .mov (.t 23), none, [], []⟩,
  ⟨some 25, .mov (.t 3), some (24, false), [], []⟩,
  ⟨some 26, .len (.t 25), some (24, false), [], []⟩,
  ⟨some 27, .mov (.t 2), some (24, false), [], []⟩,
  ⟨some 28, .bin .gtr (.t 26) (.t 27), some (24, false), [], []⟩,
  ⟨some 29, .pick (.t 24) (.c (.bool true)) (.t 28), none, [], []⟩] false)
 (.cond (.t 29) (.seq (.region [⟨some 8, .mov (.c (.bool false)), none, [], []⟩] false)
 .ret) .skip))
 (.seq (.region [⟨some 30, .mov (.t 1), none, [], []⟩,
  ⟨some 9, .mov (.t 30), none, [], []⟩] false)
 (.seq (.seq (.region [⟨some 10, .mov (.c (.int .i64 0)), none, [], []⟩] false)
 (.block 0 (.loop (.keep [0, 3, 9, 10] (.seq (.seq (.region [⟨some 31, .mov (.t 10), none, [], []⟩,
  ⟨some 32, .mov (.t 3), none, [], []⟩,
  ⟨some 33, .len (.t 32), none, [], []⟩,
  ⟨some 34, .bin .lss (.t 31) (.t 33), none, [], []⟩] false)
 (.cond (.t 34) .skip (.exit 0)))
 (.seq (.block 1 (.seq (.seq (.region [⟨some 37, .mov (.t 3), none, [], []⟩,
  ⟨some 38, .mov (.t 10), none, [], []⟩,
  ⟨some 39, .iad 3 (.t 37) (.t 38), none, [], []⟩,
  ⟨some 40, .fad 0 (.t 39), none, [], []⟩,
  ⟨some 41, .load false 1 (.t 40), none, [], []⟩,
  ⟨some 42, .call false 36 [(.t 41)], none, [], []⟩,
  ⟨some 43, .un .not (.t 42), none, [], []⟩,
  ⟨some 44, .mov (.t 43), none, [], []⟩,
  ⟨some 45, .mov (.t 0), some (44, false), [], []⟩,
  ⟨some 46, .mov (.t 9), some (44, false), [], []⟩,
  ⟨some 47, .mov (.t 3), some (44, false), [], []⟩,
  ⟨some 48, .mov (.t 10), some (44, false), [], []⟩,
  ⟨some 49, .iad 3 (.t 47) (.t 48), some (44, false), [], []⟩,
  ⟨some 50, .fad 0 (.t 49), some (44, false), [], []⟩,
  ⟨some 51, .load false 1 (.t 50), some (44, false), [], []⟩,
  ⟨some 52, .call false 38 [(.t 45), (.t 46), (.t 51)], some (44, false), [], []⟩,
  ⟨some 53, .un .not (.t 52), some (44, false), [], []⟩,
  ⟨some 54, .pick (.t 44) (.c (.bool true)) (.t 53), none, [], []⟩,
  ⟨some 55, .mov (.t 54), none, [], []⟩,
  ⟨some 56, .mov (.t 3), some (55, false), [], []⟩,
  ⟨some 57, .mov (.t 10), some (55, false), [], []⟩,
  ⟨some 58, .iad 3 (.t 56) (.t 57), some (55, false), [], []⟩,
  ⟨some 59, .fad 1 (.t 58), some (55, false), [], []⟩,
  ⟨some 60, .load false 1 (.t 59), some (55, false), [], []⟩,
  ⟨some 61, .call false 37 [(.t 60), (.c (.int .i64 1)), (.c (.int .i64 1073741824))], some (55, false), [], []⟩,
  ⟨some 62, .un .not (.t 61), some (55, false), [], []⟩,
  ⟨some 63, .pick (.t 55) (.c (.bool true)) (.t 62), none, [], []⟩,
  ⟨some 64, .mov (.t 63), none, [], []⟩,
  ⟨some 65, .mov (.t 3), some (64, false), [], []⟩,
  ⟨some 66, .mov (.t 10), some (64, false), [], []⟩,
  ⟨some 67, .iad 3 (.t 65) (.t 66), some (64, false), [], []⟩,
  ⟨some 68, .fad 2 (.t 67), some (64, false), [], []⟩,
  ⟨some 69, .load false 1 (.t 68), some (64, false), [], []⟩,
  ⟨some 70, .call false 37 [(.t 69), (.c (.int .i64 0)), (.c (.int .i64 6))], some (64, false), [], []⟩,
  ⟨some 71, .un .not (.t 70), some (64, false), [], []⟩,
  ⟨some 72, .pick (.t 64) (.c (.bool true)) (.t 71), none, [], []⟩] false)
 (.cond (.t 72) (.seq (.region [⟨some 8, .mov (.c (.bool false)), none, [], []⟩] false)
 .ret) .skip))
 (.region [⟨some 73, .mov (.t 3), none, [], []⟩,
  ⟨some 74, .mov (.t 10), none, [], []⟩,
  ⟨some 75, .iad 3 (.t 73) (.t 74), none, [], []⟩,
  ⟨some 76, .fad 0 (.t 75), none, [], []⟩,
  ⟨some 77, .load false 1 (.t 76), none, [], []⟩,
  ⟨some 9, .mov (.t 77), none, [], []⟩] false)))
 (.region [⟨some 35, .mov (.t 10), none, [], []⟩,
  ⟨some 36, .bin .add (.t 35) (.c (.int .i64 1)), none, [], []⟩,
  ⟨some 10, .mov (.t 36), none, [], []⟩] false)))))))
 (.seq (.region [⟨some 8, .mov (.c (.bool true)), none, [], []⟩] false)
 .ret)))))
def i16 : F := ⟨4, 78, j16, [.t 8]⟩
theorem b16 : i16.body = j16 := rfl
theorem q16 : i16.res = [.t 8] := rfl
theorem c16 : chkF Try.prog Try.f16 i16 = true := by kernel_rfl
theorem s16 {m : Model} {E : Nat → Model} (hE : ∀ f, Sound Try.prog f (E f)) (hm : ∀ args r, m args = some r → ∃ N, i16.ev E N args = some r) : Sound Try.prog 16 m := sound_of i16 Try.func16 rfl c16 hE hm
/-- bellwether/bellwetherref01.IsTopic -/
def j17 : C := (.seq (.region [⟨some 2, .mov (.c (.bool false)), none, [], []⟩] false)
 (.seq (.region [⟨some 3, .mov (.t 0), none, [], []⟩,
  ⟨some 4, .call false 39 [(.t 3), (.c (.int .i64 0)), (.c (.int .i64 3))], none, [], []⟩,
  ⟨some 2, .mov (.t 4), none, [], []⟩] false)
 .ret))
def i17 : F := ⟨1, 5, j17, [.t 2]⟩
theorem b17 : i17.body = j17 := rfl
theorem q17 : i17.res = [.t 2] := rfl
theorem c17 : chkF Try.prog Try.f17 i17 = true := by kernel_rfl
theorem s17 {m : Model} {E : Nat → Model} (hE : ∀ f, Sound Try.prog f (E f)) (hm : ∀ args r, m args = some r → ∃ N, i17.ev E N args = some r) : Sound Try.prog 17 m := sound_of i17 Try.func17 rfl c17 hE hm
/-- bellwether/kids.Drop -/
def j18 : C := (.seq (.region [⟨some 3, .box (.t 1), none, [], []⟩,
  ⟨some 4, .mov (.c (.row [])), none, [], []⟩] false)
 (.seq (.frz [3] (.region [⟨some 5, .mov (.t 0), none, [], []⟩,
  ⟨some 6, .call true 29 [(.t 5)], none, [], []⟩,
  ⟨some 7, .mkf 41 [(.t 3)], none, [], []⟩,
  ⟨some 8, .callo 40 [(.t 6), (.t 7)], none, [], []⟩,
  ⟨some 4, .mov (.t 8), none, [], []⟩] false))
 .ret))
def i18 : F := ⟨2, 9, j18, [.t 4]⟩
theorem b18 : i18.body = j18 := rfl
theorem q18 : i18.res = [.t 4] := rfl
theorem c18 : chkF Try.prog Try.f18 i18 = true := by kernel_rfl
theorem s18 {m : Model} {E : Nat → Model} (hE : ∀ f, Sound Try.prog f (E f)) (hm : ∀ args r, m args = some r → ∃ N, i18.ev E N args = some r) : Sound Try.prog 18 m := sound_of i18 Try.func18 rfl c18 hE hm
/-- bellwether/bellwetherkeep.TwinKids -/
def j19 : C := (.seq (.region [⟨some 2, .nilsl 35 3 0, none, [], []⟩] false)
 (.seq (.region [⟨some 3, .nilsl 35 3 0, none, [], []⟩] false)
 (.seq (.region [⟨some 4, .mov (.t 3), none, [], []⟩,
  ⟨some 5, .mov (.t 0), none, [], []⟩,
  ⟨some 6, .app 35 3 24 (.t 4) (.t 5), none, [], []⟩,
  ⟨some 2, .mov (.t 6), none, [], []⟩] false)
 .ret)))
def i19 : F := ⟨1, 7, j19, [.t 2]⟩
theorem b19 : i19.body = j19 := rfl
theorem q19 : i19.res = [.t 2] := rfl
theorem c19 : chkF Try.prog Try.f19 i19 = true := by kernel_rfl
theorem s19 {m : Model} {E : Nat → Model} (hE : ∀ f, Sound Try.prog f (E f)) (hm : ∀ args r, m args = some r → ∃ N, i19.ev E N args = some r) : Sound Try.prog 19 m := sound_of i19 Try.func19 rfl c19 hE hm
/-- bellwether/kids.Older -/
def j20 : C := (.seq (.region [⟨some 8, .nilsl 35 3 0, none, [], []⟩,
  ⟨some 9, .mov (.c (.int .i64 0)), none, [], []⟩] false)
 (.seq (.region [⟨some 14, .mov (.t 0), none, [], []⟩,
  ⟨some 15, .mov (.t 1), none, [], []⟩,
  ⟨some 16, .mov (.t 2), none, [], []⟩,
  ⟨some 17, .mov (.t 3), none, [], []⟩,
  ⟨some 18, .call true 13 [(.t 14), (.t 15), (.t 16), (.t 17)], none, [], []⟩,
  ⟨some 10, .mov (.t 18), none, [], []⟩] false)
 (.seq (.seq (.region [⟨some 19, .mov (.t 10), none, [], []⟩,
  ⟨some 20, .bin .neq (.t 19) (.c (.int .i64 0)), none, [], []⟩] false)
 (.cond (.t 20) (.seq (.region [⟨some 21, .mov (.t 10), none, [], []⟩,
  ⟨some 8, .nilsl 35 3 1, none, [], []⟩,
  ⟨some 9, .mov (.t 21), none, [], []⟩] false)
 .ret) .skip))
 (.seq (.region [⟨some 11, .nilsl 35 3 0, none, [], []⟩] false)
 (.seq (.seq (.region [⟨some 22, .mov (.t 3), none, [], []⟩,
  ⟨some 23, .len (.t 22), none, [], []⟩,
  ⟨some 24, .mov (.c (.int .i64 0)), none, [], []⟩] false)
 (.block 0 (.loop (.keep [11, 22, 23, 24] (.seq (.region [⟨some 25, .bin .lss (.t 24) (.t 23), none, [], []⟩] false)
 (.seq (.cond (.t 25) .skip (.exit 0))
 (.seq (.block 1 (.seq (.region [⟨some 26, .iad 3 (.t 22) (.t 24), none, [], []⟩,
  ⟨some 27, .load true 3 (.t 26), none, [], []⟩,
  ⟨some 13, .alloc [.int .i64 0, .int .i64 0, .int .i64 0], none, [], []⟩,
  ⟨none, .store none 3 (.t 13) (.t 27), none, [], []⟩] false)
 (.seq (.region [⟨some 28, .fad 2 (.t 13), none, [], []⟩,
  ⟨some 29, .load false 1 (.t 28), none, [], []⟩,
  ⟨some 30, .bin .add (.t 29) (.c (.int .i64 1)), none, [], []⟩,
  ⟨some 31, .fad 2 (.t 13), none, [], []⟩,
  ⟨none, .store none 1 (.t 31) (.t 30), none, [], []⟩] false)
 (.seq (.region [⟨some 32, .fad 2 (.t 13), none, [], []⟩,
  ⟨some 33, .load false 1 (.t 32), none, [], []⟩,
  ⟨some 34, .bin .leq (.t 33) (.c (.int .i64 6)), none, [], []⟩] false)
 (.cond (.t 34) (.region [⟨some 35, .mov (.t 11), none, [], []⟩,
  ⟨some 36, .load true 3 (.t 13), none, [], []⟩,
  ⟨some 37, .bsl 35 3 1 [.int .i64 0, .int .i64 0, .int .i64 0] [(0, (.t 36))], none, [], []⟩,
  ⟨some 38, .app 35 3 24 (.t 35) (.t 37), none, [], []⟩,
  ⟨some 11, .mov (.t 38), none, [], []⟩] false) .skip)))))
 (.region [⟨some 39, .bin .add (.t 24) (.c (.int .i64 1)), none, [], []⟩,
  ⟨some 24, .mov (.t 39), none, [], []⟩] false))))))))
 (.seq (.region [⟨some 40, .mov (.t 11), none, [], []⟩,
  ⟨some 8, .mov (.t 40), none, [], []⟩,
  ⟨some 9, .mov (.c (.int .i64 0)), none, [], []⟩] false)
 .ret))))))
def i20 : F := ⟨4, 41, j20, [.t 8, .t 9]⟩
theorem b20 : i20.body = j20 := rfl
theorem q20 : i20.res = [.t 8, .t 9] := rfl
theorem c20 : chkF Try.prog Try.f20 i20 = true := by kernel_rfl
theorem s20 {m : Model} {E : Nat → Model} (hE : ∀ f, Sound Try.prog f (E f)) (hm : ∀ args r, m args = some r → ∃ N, i20.ev E N args = some r) : Sound Try.prog 20 m := sound_of i20 Try.func20 rfl c20 hE hm
/-- bellwether/bellwetherref10.Drop -/
def j21 : C := (.seq (.region [⟨some 4, .nilsl 35 3 0, none, [], []⟩] false)
 (.seq (.region [⟨some 5, .nilsl 35 3 0, none, [], []⟩] false)
 (.seq (.seq (.region [⟨some 6, .mov (.c (.int .i64 0)), none, [], []⟩] false)
 (.block 0 (.loop (.keep [0, 1, 5, 6] (.seq (.seq (.region [⟨some 7, .mov (.t 6), none, [], []⟩,
  ⟨some 8, .mov (.t 0), none, [], []⟩,
  ⟨some 9, .len (.t 8), none, [], []⟩,
  ⟨some 10, .bin .lss (.t 7) (.t 9), none, [], []⟩] false)
 (.cond (.t 10) .skip (.exit 0)))
 (.seq (.block 1 (.seq (.region [⟨some 13, .mov (.t 0), none, [], []⟩,
  ⟨some 14, .mov (.t 6), none, [], []⟩,
  ⟨some 15, .iad 3 (.t 13) (.t 14), none, [], []⟩,
  ⟨some 16, .fad 0 (.t 15), none, [], []⟩,
  ⟨some 17, .load false 1 (.t 16), none, [], []⟩,
  ⟨some 18, .mov (.t 1), none, [], []⟩,
  ⟨some 19, .bin .neq (.t 17) (.t 18), none, [], []⟩] false)
 (.cond (.t 19) (.region [⟨some 20, .mov (.t 5), none, [], []⟩,
  ⟨some 21, .mov (.t 0), none, [], []⟩,
  ⟨some 22, .mov (.t 6), none, [], []⟩,
  ⟨some 23, .iad 3 (.t 21) (.t 22), none, [], []⟩,
  ⟨some 24, .load true 3 (.t 23), none, [], []⟩,
  ⟨some 25, .bsl 35 3 1 [.int .i64 0, .int .i64 0, .int .i64 0] [(0, (.t 24))], none, [], []⟩,
  ⟨some 26, .app 35 3 24 (.t 20) (.t 25), none, [], []⟩,
  ⟨some 5, .mov (.t 26), none, [], []⟩] false) .skip)))
 (.region [⟨some 11, .mov (.t 6), none, [], []⟩,
  ⟨some 12, .bin .add (.t 11) (.c (.int .i64 1)), none, [], []⟩,
  ⟨some 6, .mov (.t 12), none, [], []⟩] false)))))))
 (.seq (.region [⟨some 27, .mov (.t 5), none, [], []⟩,
  ⟨some 4, .mov (.t 27), none, [], []⟩] false)
 .ret))))
def i21 : F := ⟨2, 28, j21, [.t 4]⟩
theorem b21 : i21.body = j21 := rfl
theorem q21 : i21.res = [.t 4] := rfl
theorem c21 : chkF Try.prog Try.f21 i21 = true := by kernel_rfl
theorem s21 {m : Model} {E : Nat → Model} (hE : ∀ f, Sound Try.prog f (E f)) (hm : ∀ args r, m args = some r → ∃ N, i21.ev E N args = some r) : Sound Try.prog 21 m := sound_of i21 Try.func21 rfl c21 hE hm
/-- bellwether/bellwetherref10.Has -/
def j22 : C := (.seq (.region [⟨some 4, .mov (.c (.bool false)), none, [], []⟩] false)
 (.seq (.seq (.region [⟨some 5, .mov (.c (.int .i64 0)), none, [], []⟩] false)
 (.block 0 (.loop (.keep [0, 1, 5] (.seq (.seq (.region [⟨some 6, .mov (.t 5), none, [], []⟩,
  ⟨some 7, .mov (.t 0), none, [], []⟩,
  ⟨some 8, .len (.t 7), none, [], []⟩,
  ⟨some 9, .bin .lss (.t 6) (.t 8), none, [], []⟩] false)
 (.cond (.t 9) .skip (.exit 0)))
 (.seq (.block 1 (.seq (.region [⟨some 12, .mov (.t 0), none, [], []⟩,
  ⟨some 13, .mov (.t 5), none, [], []⟩,
  ⟨some 14, .iad 3 (.t 12) (.t 13), none, [], []⟩,
  ⟨some 15, .fad 0 (.t 14), none, [], []⟩,
  ⟨some 16, .load false 1 (.t 15), none, [], []⟩,
  ⟨some 17, .mov (.t 1), none, [], []⟩,
  ⟨some 18, .bin .eql (.t 16) (.t 17), none, [], []⟩] false)
 (.cond (.t 18) (.seq (.region [⟨some 4, .mov (.c (.bool true)), none, [], []⟩] false)
 .ret) .skip)))
 (.region [⟨some 10, .mov (.t 5), none, [], []⟩,
  ⟨some 11, .bin .add (.t 10) (.c (.int .i64 1)), none, [], []⟩,
  ⟨some 5, .mov (.t 11), none, [], []⟩] false)))))))
 (.seq (.region [⟨some 4, .mov (.c (.bool false)), none, [], []⟩] false)
 .ret)))
def i22 : F := ⟨2, 19, j22, [.t 4]⟩
theorem b22 : i22.body = j22 := rfl
theorem q22 : i22.res = [.t 4] := rfl
theorem c22 : chkF Try.prog Try.f22 i22 = true := by kernel_rfl
theorem s22 {m : Model} {E : Nat → Model} (hE : ∀ f, Sound Try.prog f (E f)) (hm : ∀ args r, m args = some r → ∃ N, i22.ev E N args = some r) : Sound Try.prog 22 m := sound_of i22 Try.func22 rfl c22 hE hm
/-- bellwether/bellwetherref10.OlderKids -/
def j23 : C := (.seq (.region [⟨some 2, .nilsl 35 3 0, none, [], []⟩] false)
 (.seq (.region [⟨some 3, .nilsl 35 3 0, none, [], []⟩] false)
 (.seq (.seq (.region [⟨some 4, .mov (.c (.int .i64 0)), none, [], []⟩] false)
 (.block 0 (.loop (.keep [0, 3, 4] (.seq (.seq (.region [⟨some 6, .mov (.t 4), none, [], []⟩,
  ⟨some 7, .mov (.t 0), none, [], []⟩,
  ⟨some 8, .len (.t 7), none, [], []⟩,
  ⟨some 9, .bin .lss (.t 6) (.t 8), none, [], []⟩] false)
 (.cond (.t 9) .skip (.exit 0)))
 (.seq (.block 1 (.seq (.region [⟨some 12, .mov (.t 0), none, [], []⟩,
  ⟨some 13, .mov (.t 4), none, [], []⟩,
  ⟨some 14, .iad 3 (.t 12) (.t 13), none, [], []⟩,
  ⟨some 15, .load true 3 (.t 14), none, [], []⟩,
  ⟨some 5, .alloc [.int .i64 0, .int .i64 0, .int .i64 0], none, [], []⟩,
  ⟨none, .store none 3 (.t 5) (.t 15), none, [], []⟩] false)
 (.seq (.region [⟨some 16, .fad 2 (.t 5), none, [], []⟩,
  ⟨some 17, .load false 1 (.t 16), none, [], []⟩,
  ⟨some 18, .bin .add (.t 17) (.c (.int .i64 1)), none, [], []⟩,
  ⟨some 19, .fad 2 (.t 5), none, [], []⟩,
  ⟨none, .store none 1 (.t 19) (.t 18), none, [], []⟩] false)
 (.seq (.region [⟨some 20, .fad 2 (.t 5), none, [], []⟩,
  ⟨some 21, .load false 1 (.t 20), none, [], []⟩,
  ⟨some 22, .bin .leq (.t 21) (.c (.int .i64 6)), none, [], []⟩] false)
 (.cond (.t 22) (.region [⟨some 23, .mov (.t 3), none, [], []⟩,
  ⟨some 24, .load true 3 (.t 5), none, [], []⟩,
  ⟨some 25, .bsl 35 3 1 [.int .i64 0, .int .i64 0, .int .i64 0] [(0, (.t 24))], none, [], []⟩,
  ⟨some 26, .app 35 3 24 (.t 23) (.t 25), none, [], []⟩,
  ⟨some 3, .mov (.t 26), none, [], []⟩] false) .skip)))))
 (.region [⟨some 10, .mov (.t 4), none, [], []⟩,
  ⟨some 11, .bin .add (.t 10) (.c (.int .i64 1)), none, [], []⟩,
  ⟨some 4, .mov (.t 11), none, [], []⟩] false)))))))
 (.seq (.region [⟨some 27, .mov (.t 3), none, [], []⟩,
  ⟨some 2, .mov (.t 27), none, [], []⟩] false)
 .ret))))
def i23 : F := ⟨1, 28, j23, [.t 2]⟩
theorem b23 : i23.body = j23 := rfl
theorem q23 : i23.res = [.t 2] := rfl
theorem c23 : chkF Try.prog Try.f23 i23 = true := by kernel_rfl
theorem s23 {m : Model} {E : Nat → Model} (hE : ∀ f, Sound Try.prog f (E f)) (hm : ∀ args r, m args = some r → ∃ N, i23.ev E N args = some r) : Sound Try.prog 23 m := sound_of i23 Try.func23 rfl c23 hE hm
/-- bellwether/bellwetherref10.May -/
def j24 : C := (.seq (.region [⟨some 8, .mov (.c (.bool false)), none, [], []⟩] false)
 (.seq (.region [⟨some 9, .mov (.t 2), none, [], []⟩,
  ⟨some 10, .call false 36 [(.t 9)], none, [], []⟩,
  ⟨some 11, .mov (.t 10), none, [], []⟩,
  ⟨some 12, .mov (.t 0), some (11, true), [], []⟩,
  ⟨some 13, .mov (.t 1), some (11, true), [], []⟩,
  ⟨some 14, .mov (.t 2), some (11, true), [], []⟩,
  ⟨some 15, .call false 38 [(.t 12), (.t 13), (.t 14)], some (11, true), [], []⟩,
  ⟨some 16, .pick (.t 11) (.t 15) (.c (.bool false)), none, [], []⟩,
  ⟨some 17, .mov (.t 16), none, [], []⟩,
  ⟨some 18, .mov (.t 3), some (17, true), [], []⟩,
  ⟨some 19, .call false 37 [(.t 18), (.c (.int .i64 1)), (.c (.int .i64 1073741824))], some (17, true), [], []⟩,
  ⟨some 20, .pick (.t 17) (.t 19) (.c (.bool false)), none, [], []⟩,
  ⟨some 8, .mov (.t 20), none, [], []⟩] false)
 .ret))
def i24 : F := ⟨4, 21, j24, [.t 8]⟩
theorem b24 : i24.body = j24 := rfl
theorem q24 : i24.res = [.t 8] := rfl
theorem c24 : chkF Try.prog Try.f24 i24 = true := by kernel_rfl
theorem s24 {m : Model} {E : Nat → Model} (hE : ∀ f, Sound Try.prog f (E f)) (hm : ∀ args r, m args = some r → ∃ N, i24.ev E N args = some r) : Sound Try.prog 24 m := sound_of i24 Try.func24 rfl c24 hE hm
/-- bellwether/bellwetherref10.Ask -/
def j25 : C := (.seq (.region [⟨some 10, .mov (.c (.row [])), none, [], []⟩,
  ⟨some 11, .mov (.c (.int .i64 0)), none, [], []⟩,
  ⟨some 12, .mov (.c (.int .i64 0)), none, [], []⟩] false)
 (.seq (.region [⟨some 15, .mov (.t 3), none, [], []⟩,
  ⟨some 16, .mov (.t 4), none, [], []⟩,
  ⟨some 17, .build [.int .i64 0, .int .i64 0, .int .i64 0] [(0, 1, (.t 15)), (1, 1, (.t 16))], none, [], []⟩,
  ⟨some 13, .alloc [.int .i64 0, .int .i64 0, .int .i64 0], none, [], []⟩,
  ⟨none, .store none 3 (.t 13) (.t 17), none, [], []⟩] false)
 (.seq (.seq (.region [⟨some 18, .mov (.t 2), none, [], []⟩,
  ⟨some 19, .mov (.t 3), none, [], []⟩,
  ⟨some 20, .call false 22 [(.t 18), (.t 19)], none, [], []⟩] false)
 (.cond (.t 20) (.seq (.region [⟨some 21, .mov (.t 0), none, [22, 23, 24, 25], []⟩,
  ⟨some 22, .mov (.t 2), none, [21, 23, 25], []⟩,
  ⟨some 23, .mov (.t 3), none, [21, 22, 25], []⟩,
  ⟨some 24, .call false 21 [(.t 22), (.t 23)], none, [21, 25], [1, 2]⟩,
  ⟨some 25, .load true 3 (.t 13), none, [21, 22, 23, 24], []⟩,
  ⟨some 26, .call false 42 [(.t 21), (.t 24), (.t 25)], none, [], [0, 1, 2, 3, 4]⟩,
  ⟨some 10, .mov (.t 26), none, [], [0, 1, 2, 3, 4, 5]⟩,
  ⟨some 11, .mov (.c (.int .i64 0)), none, [], [0, 1, 2, 3, 4, 5, 6]⟩,
  ⟨some 12, .mov (.c (.int .i64 0)), none, [], [0, 1, 2, 3, 4, 5, 6, 7]⟩] true)
 .ret) .skip))
 (.seq (.seq (.region [⟨some 27, .mov (.t 2), none, [], []⟩,
  ⟨some 28, .len (.t 27), none, [], []⟩,
  ⟨some 29, .mov (.t 1), none, [], []⟩,
  ⟨some 30, .bin .lss (.t 28) (.t 29), none, [], []⟩] false)
 (.cond (.t 30) (.seq (.region [⟨some 31, .mov (.t 0), none, [], []⟩,
  ⟨some 32, .mov (.t 2), none, [], []⟩,
  ⟨some 33, .load true 3 (.t 13), none, [], []⟩,
  ⟨some 34, .call false 42 [(.t 31), (.t 32), (.t 33)], none, [], []⟩,
  ⟨some 10, .mov (.t 34), none, [], []⟩,
  ⟨some 11, .mov (.c (.int .i64 0)), none, [], []⟩,
  ⟨some 12, .mov (.c (.int .i64 0)), none, [], []⟩] false)
 .ret) .skip))
 (.seq (.seq (.region [⟨some 35, .mov (.t 0), none, [], []⟩,
  ⟨some 36, .mov (.t 2), none, [], []⟩,
  ⟨some 37, .iad 3 (.t 36) (.c (.int .i64 0)), none, [], []⟩,
  ⟨some 38, .fad 0 (.t 37), none, [], []⟩,
  ⟨some 39, .load false 1 (.t 38), none, [], []⟩,
  ⟨some 40, .mov (.t 3), none, [], []⟩,
  ⟨some 41, .call false 38 [(.t 35), (.t 39), (.t 40)], none, [], []⟩] false)
 (.cond (.t 41) (.seq (.region [⟨some 42, .mov (.t 2), none, [44, 45, 46, 47, 48, 49, 50], []⟩,
  ⟨some 43, .call false 19 [(.t 42)], none, [44, 45, 46, 47, 48, 49, 50], [0]⟩,
  ⟨some 44, .mov (.t 3), none, [10, 42, 43, 46, 47, 48, 49, 50], []⟩,
  ⟨some 45, .bin .add (.t 44) (.c (.int .i64 1)), none, [10, 42, 43, 46, 47, 48, 49, 50], [2]⟩,
  ⟨some 46, .mov (.t 2), none, [10, 11, 42, 43, 44, 45], []⟩,
  ⟨some 47, .iad 3 (.t 46) (.c (.int .i64 0)), none, [10, 11, 42, 43, 44, 45], [4]⟩,
  ⟨some 48, .fad 0 (.t 47), none, [10, 11, 42, 43, 44, 45], [4, 5]⟩,
  ⟨some 49, .load false 1 (.t 48), none, [10, 11, 42, 43, 44, 45], [4, 5, 6]⟩,
  ⟨some 50, .bin .add (.t 49) (.c (.int .i64 1)), none, [10, 11, 42, 43, 44, 45], [4, 5, 6, 7]⟩,
  ⟨some 10, .mov (.t 43), none, [44, 45, 46, 47, 48, 49, 50], [0, 1]⟩,
  ⟨some 11, .mov (.t 45), none, [46, 47, 48, 49, 50], [0, 1, 2, 3, 9]⟩,
  ⟨some 12, .mov (.t 50), none, [], [0, 1, 2, 3, 4, 5, 6, 7, 8, 9, 10]⟩] true)
 .ret) .skip))
 (.seq (.region [⟨some 51, .mov (.t 2), none, [], []⟩,
  ⟨some 52, .mov (.t 2), none, [], []⟩,
  ⟨some 53, .len (.t 52), none, [], []⟩,
  ⟨some 54, .bin .sub (.t 53) (.c (.int .i64 1)), none, [], []⟩,
  ⟨some 55, .iad 3 (.t 51) (.t 54), none, [], []⟩,
  ⟨some 56, .fad 0 (.t 55), none, [], []⟩,
  ⟨some 57, .load false 1 (.t 56), none, [], []⟩,
  ⟨some 14, .mov (.t 57), none, [], []⟩] false)
 (.seq (.region [⟨some 58, .mov (.t 0), none, [59, 60, 61, 62, 63, 64, 66, 67, 68, 69], []⟩,
  ⟨some 59, .mov (.t 2), none, [58, 60, 61, 62, 64, 66, 67, 68, 69], []⟩,
  ⟨some 60, .mov (.t 2), none, [58, 59, 64, 66, 67, 68, 69], []⟩,
  ⟨some 61, .len (.t 60), none, [58, 59, 64, 66, 67, 68, 69], [2]⟩,
  ⟨some 62, .bin .sub (.t 61) (.c (.int .i64 1)), none, [58, 59, 64, 66, 67, 68, 69], [2, 3]⟩,
  ⟨some 63, .cut 3 (.t 59) none (some (.t 62)), none, [58, 64, 66, 67, 68, 69], [1, 2, 3, 4]⟩,
  ⟨some 64, .load true 3 (.t 13), none, [58, 59, 60, 61, 62, 63, 66, 67, 68, 69], []⟩,
  ⟨some 65, .call false 42 [(.t 58), (.t 63), (.t 64)], none, [66, 67, 68, 69], [0, 1, 2, 3, 4, 5, 6]⟩,
  ⟨some 66, .mov (.t 14), none, [10, 58, 59, 60, 61, 62, 63, 64, 65, 68, 69], []⟩,
  ⟨some 67, .bin .add (.t 66) (.c (.int .i64 1)), none, [10, 58, 59, 60, 61, 62, 63, 64, 65, 68, 69], [8]⟩,
  ⟨some 68, .mov (.t 3), none, [10, 11, 58, 59, 60, 61, 62, 63, 64, 65, 66, 67], []⟩,
  ⟨some 69, .bin .add (.t 68) (.c (.int .i64 1)), none, [10, 11, 58, 59, 60, 61, 62, 63, 64, 65, 66, 67], [10]⟩,
  ⟨some 10, .mov (.t 65), none, [66, 67, 68, 69], [0, 1, 2, 3, 4, 5, 6, 7]⟩,
  ⟨some 11, .mov (.t 67), none, [68, 69], [0, 1, 2, 3, 4, 5, 6, 7, 8, 9, 12]⟩,
  ⟨some 12, .mov (.t 69), none, [], [0, 1, 2, 3, 4, 5, 6, 7, 8, 9, 10, 11, 12, 13]⟩] true)
 .ret)))))))
def i25 : F := ⟨5, 70, j25, [.t 10, .t 11, .t 12]⟩
theorem b25 : i25.body = j25 := rfl
theorem q25 : i25.res = [.t 10, .t 11, .t 12] := rfl
theorem c25 : chkF Try.prog Try.f25 i25 = true := by kernel_rfl
theorem s25 {m : Model} {E : Nat → Model} (hE : ∀ f, Sound Try.prog f (E f)) (hm : ∀ args r, m args = some r → ∃ N, i25.ev E N args = some r) : Sound Try.prog 25 m := sound_of i25 Try.func25 rfl c25 hE hm
/-- bellwether/msg.Counted -/
def j26 : C := (.seq (.region [⟨some 2, .mov (.c (.bool false)), none, [], []⟩] false)
 (.seq (.region [⟨some 3, .mov (.t 0), none, [], []⟩,
  ⟨some 4, .call false 43 [(.t 3), (.c (.int .i64 1)), (.c (.int .i64 1073741824))], none, [], []⟩,
  ⟨some 2, .mov (.t 4), none, [], []⟩] false)
 .ret))
def i26 : F := ⟨1, 5, j26, [.t 2]⟩
theorem b26 : i26.body = j26 := rfl
theorem q26 : i26.res = [.t 2] := rfl
theorem c26 : chkF Try.prog Try.f26 i26 = true := by kernel_rfl
theorem s26 {m : Model} {E : Nat → Model} (hE : ∀ f, Sound Try.prog f (E f)) (hm : ∀ args r, m args = some r → ∃ N, i26.ev E N args = some r) : Sound Try.prog 26 m := sound_of i26 Try.func26 rfl c26 hE hm
/-- slices.IndexFunc   bellwether/api.Kid bellwether/api.Kid  -/
def j27 : C := (.seq (.region [⟨some 4, .mov (.c (.int .i64 0)), none, [], []⟩] false)
 (.seq (.seq (.region [⟨some 6, .mov (.t 0), none, [], []⟩,
  ⟨some 7, .len (.t 6), none, [], []⟩,
  ⟨some 8, .mov (.c (.int .i64 0)), none, [], []⟩] false)
 (.block 0 (.loop (.keep [0, 1, 7, 8] (.seq (.region [⟨some 9, .bin .lss (.t 8) (.t 7), none, [], []⟩] false)
 (.seq (.cond (.t 9) .skip (.exit 0))
 (.seq (.block 1 (.seq (.region [⟨some 10, .mov (.t 8), none, [], []⟩,
  ⟨some 5, .mov (.t 10), none, [], []⟩] false)
 (.seq (.region [⟨some 11, .mov (.t 1), none, [], []⟩,
  ⟨some 12, .mov (.t 0), none, [], []⟩,
  ⟨some 13, .mov (.t 5), none, [], []⟩,
  ⟨some 14, .iad 3 (.t 12) (.t 13), none, [], []⟩,
  ⟨some 15, .load true 3 (.t 14), none, [], []⟩,
  ⟨some 16, .callv false (.t 11) [(.t 15)], none, [], []⟩] false)
 (.cond (.t 16) (.seq (.region [⟨some 17, .mov (.t 5), none, [], []⟩,
  ⟨some 4, .mov (.t 17), none, [], []⟩] false)
 .ret) .skip))))
 (.region [⟨some 18, .bin .add (.t 8) (.c (.int .i64 1)), none, [], []⟩,
  ⟨some 8, .mov (.t 18), none, [], []⟩] false))))))))
 (.seq (.region [⟨some 4, .mov (.c (.int .i64 (-1))), none, [], []⟩] false)
 .ret)))
def i27 : F := ⟨2, 19, j27, [.t 4]⟩
theorem b27 : i27.body = j27 := rfl
theorem q27 : i27.res = [.t 4] := rfl
theorem c27 : chkF Try.prog Try.f27 i27 = true := by kernel_rfl
theorem s27 {m : Model} {E : Nat → Model} (hE : ∀ f, Sound Try.prog f (E f)) (hm : ∀ args r, m args = some r → ∃ N, i27.ev E N args = some r) : Sound Try.prog 27 m := sound_of i27 Try.func27 rfl c27 hE hm
/-- bellwether/kids.Ask$1 -/
def j28 : C := (.seq (.region [⟨some 2, .box (.t 0), none, [], []⟩,
  ⟨some 3, .mov (.c (.bool false)), none, [], []⟩] false)
 (.seq (.region [⟨some 4, .fad 0 (.t 2), none, [], []⟩,
  ⟨some 5, .load false 1 (.t 4), none, [], []⟩,
  ⟨some 6, .load false 1 (.t 1), none, [], []⟩,
  ⟨some 7, .bin .eql (.t 5) (.t 6), none, [], []⟩,
  ⟨some 3, .mov (.t 7), none, [], []⟩] false)
 .ret))
def i28 : F := ⟨2, 8, j28, [.t 3]⟩
theorem b28 : i28.body = j28 := rfl
theorem q28 : i28.res = [.t 3] := rfl
theorem c28 : chkF Try.prog Try.f28 i28 = true := by kernel_rfl
theorem s28 {m : Model} {E : Nat → Model} (hE : ∀ f, Sound Try.prog f (E f)) (hm : ∀ args r, m args = some r → ∃ N, i28.ev E N args = some r) : Sound Try.prog 28 m := sound_of i28 Try.func28 rfl c28 hE hm
/-- slices.Clone   bellwether/api.Kid bellwether/api.Kid  -/
def j29 : C := (.seq (.region [⟨some 2, .nilsl 35 3 0, none, [], []⟩] false)
 (.seq (.seq (.region [⟨some 3, .mov (.t 0), none, [], []⟩,
  ⟨some 4, .isnil false (.t 3), none, [], []⟩] false)
 (.cond (.t 4) (.seq (.region [⟨some 2, .nilsl 35 3 1, none, [], []⟩] false)
 .ret) .skip))
 (.seq (.region [⟨some 5, .bsl 35 3 0 [.int .i64 0, .int .i64 0, .int .i64 0] [], none, [], []⟩,
  ⟨some 6, .mov (.t 0), none, [], []⟩,
  ⟨some 7, .app 35 3 24 (.t 5) (.t 6), none, [], []⟩,
  ⟨some 2, .mov (.t 7), none, [], []⟩] false)
 .ret)))
def i29 : F := ⟨1, 8, j29, [.t 2]⟩
theorem b29 : i29.body = j29 := rfl
theorem q29 : i29.res = [.t 2] := rfl
theorem c29 : chkF Try.prog Try.f29 i29 = true := by kernel_rfl
theorem s29 {m : Model} {E : Nat → Model} (hE : ∀ f, Sound Try.prog f (E f)) (hm : ∀ args r, m args = some r → ∃ N, i29.ev E N args = some r) : Sound Try.prog 29 m := sound_of i29 Try.func29 rfl c29 hE hm
theorem x29 : Sound Try.prog 29 (cloneM 35 3 24) := by
  refine clone_ok (r := fun _ => (.undef, [])) (s29 (E := fun _ _ => none) (fun f => Sound.no) fun args r h => ?_) (sound_nil (fun m hm => s29 (E := fun _ _ => none) (fun f => Sound.no) hm) fun A c => ⟨0, ?_⟩)
  · split at h
    · rename_i y ys
      split at h
      · rename_i hc
        cases h
        refine ⟨0, ?_⟩
        rw [F_ev rfl]
        simp only [j29, b29, q29, qq, oo, pp, lives, V.live, purS, S.pur, V.pur, V.pur1, purs, pur1s, mentS, S.ment, S.ment.smt, ments, V.ment, List.append_nil, Hp.ok64, List.all_nil, List.all_cons, S.purT, S.purT.sp, S.self, V.self, selfs, S.self.sself, Hp.self, S.ren, S.ren.sren, V.ren, Hp.ren, true_or, or_true, false_or, or_false, Bool.and_true, Bool.true_and, Bool.and_false, Bool.false_and, Bool.and_self, hand, handSs, handS, handVs, handV, handBs, upTo, one1, List.contains_nil, List.isEmpty_nil, List.take_length, List.getElem?_cons_zero, List.getElem?_cons_succ, fillV, fillR, setAt, List.set_cons_zero, List.set_cons_succ, List.replicate, evE, asRow, callS, callT, callU, names, dedup, blkMents, Blk.mentB, idxOf, V.mapS, S.mapS, S.mapS.smapS, Blk.mapS, encs, encB, isBox, backN, hpBack, killsV, killsS, killsS.ks, killsB, rowsOf, without, keysOk, noTup, boxesOk, fresh, Option.isNone_none, Blk.ren, aloOk, aloV, aloB, frzL, freezes, Go.Proofs.YtbnommmnflmaaaaR.freeze, drop1, S.frz, S.frz.sf, V.frz, Blk.frz, slMent, pickL, List.map_append, S.kill, S.kill.sk, V.kill, Blk.kill, eqvs, ones, Bool.not_true, Bool.not_false, decide_true, decide_false, List.length_append, Int.le_refl, Int.toNat_natCast, Int.toNat_one, Int.cast_ofNat_Int, List.all_nil, List.contains_cons, Nat.reduceBEq, Bool.false_or, Bool.or_false, Bool.true_or, Bool.or_true, look_hit, look_end, look_miss, List.map_cons, List.map_nil, List.cons_append, List.nil_append, Option.getD_some, Option.getD_none, X.ev, ev, bin, ibin, Option.map_some, Option.map_none, Option.bind_some, S.cells, rd, sub, Go.Proofs.YtbnommmnflmaaaaR.shape, asI, bnd, evs, Rs.ev, R.ev, params, okKey, Nat.reduceAdd, Nat.reduceMul, Nat.reduceDiv, Nat.reduceEqDiff, Nat.reduceLeDiff, Nat.reduceLT, Int.reduceEq, Int.reduceNe, Int.reduceLT, Int.reduceLE, Int.reduceAdd, Int.reduceSub, Int.reduceMul, Int.reduceNeg, Int.reduceToNat, Int.reducePow, Nat.reducePow, Int.toNat_zero, not_false_eq_true, not_true_eq_false, reduceCtorEq, Nat.zero_add, Nat.add_zero, reduceIte, if_true, if_false, Bool.true_eq_false, Bool.false_eq_true, List.length_cons, List.length_nil, and_self, true_and, and_true, List.drop_zero, List.take_succ_cons, List.take_zero, List.drop_succ_cons, Nat.le_refl, List.replicate, fillR, evE, V.pur1, asRow, List.map_append]
        rw [if_pos ⟨hc.1, by simpa using hc.2⟩]
        simp only [j29, b29, q29, qq, oo, pp, lives, V.live, purS, S.pur, V.pur, V.pur1, purs, pur1s, mentS, S.ment, S.ment.smt, ments, V.ment, List.append_nil, Hp.ok64, List.all_nil, List.all_cons, S.purT, S.purT.sp, S.self, V.self, selfs, S.self.sself, Hp.self, S.ren, S.ren.sren, V.ren, Hp.ren, true_or, or_true, false_or, or_false, Bool.and_true, Bool.true_and, Bool.and_false, Bool.false_and, Bool.and_self, hand, handSs, handS, handVs, handV, handBs, upTo, one1, List.contains_nil, List.isEmpty_nil, List.take_length, List.getElem?_cons_zero, List.getElem?_cons_succ, fillV, fillR, setAt, List.set_cons_zero, List.set_cons_succ, List.replicate, evE, asRow, callS, callT, callU, names, dedup, blkMents, Blk.mentB, idxOf, V.mapS, S.mapS, S.mapS.smapS, Blk.mapS, encs, encB, isBox, backN, hpBack, killsV, killsS, killsS.ks, killsB, rowsOf, without, keysOk, noTup, boxesOk, fresh, Option.isNone_none, Blk.ren, aloOk, aloV, aloB, frzL, freezes, Go.Proofs.YtbnommmnflmaaaaR.freeze, drop1, S.frz, S.frz.sf, V.frz, Blk.frz, slMent, pickL, List.map_append, S.kill, S.kill.sk, V.kill, Blk.kill, eqvs, ones, Bool.not_true, Bool.not_false, decide_true, decide_false, List.length_append, Int.le_refl, Int.toNat_natCast, Int.toNat_one, Int.cast_ofNat_Int, List.all_nil, List.contains_cons, Nat.reduceBEq, Bool.false_or, Bool.or_false, Bool.true_or, Bool.or_true, look_hit, look_end, look_miss, List.map_cons, List.map_nil, List.cons_append, List.nil_append, Option.getD_some, Option.getD_none, X.ev, ev, bin, ibin, Option.map_some, Option.map_none, Option.bind_some, S.cells, rd, sub, Go.Proofs.YtbnommmnflmaaaaR.shape, asI, bnd, evs, Rs.ev, R.ev, params, okKey, Nat.reduceAdd, Nat.reduceMul, Nat.reduceDiv, Nat.reduceEqDiff, Nat.reduceLeDiff, Nat.reduceLT, Int.reduceEq, Int.reduceNe, Int.reduceLT, Int.reduceLE, Int.reduceAdd, Int.reduceSub, Int.reduceMul, Int.reduceNeg, Int.reduceToNat, Int.reducePow, Nat.reducePow, Int.toNat_zero, not_false_eq_true, not_true_eq_false, reduceCtorEq, Nat.zero_add, Nat.add_zero, reduceIte, if_true, if_false, Bool.true_eq_false, Bool.false_eq_true, List.length_cons, List.length_nil, and_self, true_and, and_true, List.drop_zero, List.take_succ_cons, List.take_zero, List.drop_succ_cons, Nat.le_refl, S.kill, V.kill, Blk.kill, hand, handSs, handS, handVs, handV, List.contains_nil]
        try simp
      · cases h
    · cases h
  · cases A
    · rw [F_ev rfl]
      simp only [j29, b29, q29, qq, oo, pp, lives, V.live, purS, S.pur, V.pur, V.pur1, purs, pur1s, mentS, S.ment, S.ment.smt, ments, V.ment, List.append_nil, Hp.ok64, List.all_nil, List.all_cons, S.purT, S.purT.sp, S.self, V.self, selfs, S.self.sself, Hp.self, S.ren, S.ren.sren, V.ren, Hp.ren, true_or, or_true, false_or, or_false, Bool.and_true, Bool.true_and, Bool.and_false, Bool.false_and, Bool.and_self, hand, handSs, handS, handVs, handV, handBs, upTo, one1, List.contains_nil, List.isEmpty_nil, List.take_length, List.getElem?_cons_zero, List.getElem?_cons_succ, fillV, fillR, setAt, List.set_cons_zero, List.set_cons_succ, List.replicate, evE, asRow, callS, callT, callU, names, dedup, blkMents, Blk.mentB, idxOf, V.mapS, S.mapS, S.mapS.smapS, Blk.mapS, encs, encB, isBox, backN, hpBack, killsV, killsS, killsS.ks, killsB, rowsOf, without, keysOk, noTup, boxesOk, fresh, Option.isNone_none, Blk.ren, aloOk, aloV, aloB, frzL, freezes, Go.Proofs.YtbnommmnflmaaaaR.freeze, drop1, S.frz, S.frz.sf, V.frz, Blk.frz, slMent, pickL, List.map_append, S.kill, S.kill.sk, V.kill, Blk.kill, eqvs, ones, Bool.not_true, Bool.not_false, decide_true, decide_false, List.length_append, Int.le_refl, Int.toNat_natCast, Int.toNat_one, Int.cast_ofNat_Int, List.all_nil, List.contains_cons, Nat.reduceBEq, Bool.false_or, Bool.or_false, Bool.true_or, Bool.or_true, look_hit, look_end, look_miss, List.map_cons, List.map_nil, List.cons_append, List.nil_append, Option.getD_some, Option.getD_none, X.ev, ev, bin, ibin, Option.map_some, Option.map_none, Option.bind_some, S.cells, rd, sub, Go.Proofs.YtbnommmnflmaaaaR.shape, asI, bnd, evs, Rs.ev, R.ev, params, okKey, Nat.reduceAdd, Nat.reduceMul, Nat.reduceDiv, Nat.reduceEqDiff, Nat.reduceLeDiff, Nat.reduceLT, Int.reduceEq, Int.reduceNe, Int.reduceLT, Int.reduceLE, Int.reduceAdd, Int.reduceSub, Int.reduceMul, Int.reduceNeg, Int.reduceToNat, Int.reducePow, Nat.reducePow, Int.toNat_zero, not_false_eq_true, not_true_eq_false, reduceCtorEq, Nat.zero_add, Nat.add_zero, reduceIte, if_true, if_false, Bool.true_eq_false, Bool.false_eq_true, List.length_cons, List.length_nil, and_self, true_and, and_true, List.drop_zero, List.take_succ_cons, List.take_zero, List.drop_succ_cons, Nat.le_refl, hand, handSs, handS, handVs, handV, List.contains_nil, Bool.not_false]
      try simp
    · rw [F_ev rfl]
      simp only [j29, b29, q29, qq, oo, pp, lives, V.live, purS, S.pur, V.pur, V.pur1, purs, pur1s, mentS, S.ment, S.ment.smt, ments, V.ment, List.append_nil, Hp.ok64, List.all_nil, List.all_cons, S.purT, S.purT.sp, S.self, V.self, selfs, S.self.sself, Hp.self, S.ren, S.ren.sren, V.ren, Hp.ren, true_or, or_true, false_or, or_false, Bool.and_true, Bool.true_and, Bool.and_false, Bool.false_and, Bool.and_self, hand, handSs, handS, handVs, handV, handBs, upTo, one1, List.contains_nil, List.isEmpty_nil, List.take_length, List.getElem?_cons_zero, List.getElem?_cons_succ, fillV, fillR, setAt, List.set_cons_zero, List.set_cons_succ, List.replicate, evE, asRow, callS, callT, callU, names, dedup, blkMents, Blk.mentB, idxOf, V.mapS, S.mapS, S.mapS.smapS, Blk.mapS, encs, encB, isBox, backN, hpBack, killsV, killsS, killsS.ks, killsB, rowsOf, without, keysOk, noTup, boxesOk, fresh, Option.isNone_none, Blk.ren, aloOk, aloV, aloB, frzL, freezes, Go.Proofs.YtbnommmnflmaaaaR.freeze, drop1, S.frz, S.frz.sf, V.frz, Blk.frz, slMent, pickL, List.map_append, S.kill, S.kill.sk, V.kill, Blk.kill, eqvs, ones, Bool.not_true, Bool.not_false, decide_true, decide_false, List.length_append, Int.le_refl, Int.toNat_natCast, Int.toNat_one, Int.cast_ofNat_Int, List.all_nil, List.contains_cons, Nat.reduceBEq, Bool.false_or, Bool.or_false, Bool.true_or, Bool.or_true, look_hit, look_end, look_miss, List.map_cons, List.map_nil, List.cons_append, List.nil_append, Option.getD_some, Option.getD_none, X.ev, ev, bin, ibin, Option.map_some, Option.map_none, Option.bind_some, S.cells, rd, sub, Go.Proofs.YtbnommmnflmaaaaR.shape, asI, bnd, evs, Rs.ev, R.ev, params, okKey, Nat.reduceAdd, Nat.reduceMul, Nat.reduceDiv, Nat.reduceEqDiff, Nat.reduceLeDiff, Nat.reduceLT, Int.reduceEq, Int.reduceNe, Int.reduceLT, Int.reduceLE, Int.reduceAdd, Int.reduceSub, Int.reduceMul, Int.reduceNeg, Int.reduceToNat, Int.reducePow, Nat.reducePow, Int.toNat_zero, not_false_eq_true, not_true_eq_false, reduceCtorEq, Nat.zero_add, Nat.add_zero, reduceIte, if_true, if_false, Bool.true_eq_false, Bool.false_eq_true, List.length_cons, List.length_nil, and_self, true_and, and_true, List.drop_zero, List.take_succ_cons, List.take_zero, List.drop_succ_cons, Nat.le_refl, List.replicate, fillR, evE, V.pur1, asRow]
      try (rw [if_pos (by simp)]; simp only [j29, b29, q29, qq, oo, pp, lives, V.live, purS, S.pur, V.pur, V.pur1, purs, pur1s, mentS, S.ment, S.ment.smt, ments, V.ment, List.append_nil, Hp.ok64, List.all_nil, List.all_cons, S.purT, S.purT.sp, S.self, V.self, selfs, S.self.sself, Hp.self, S.ren, S.ren.sren, V.ren, Hp.ren, true_or, or_true, false_or, or_false, Bool.and_true, Bool.true_and, Bool.and_false, Bool.false_and, Bool.and_self, hand, handSs, handS, handVs, handV, handBs, upTo, one1, List.contains_nil, List.isEmpty_nil, List.take_length, List.getElem?_cons_zero, List.getElem?_cons_succ, fillV, fillR, setAt, List.set_cons_zero, List.set_cons_succ, List.replicate, evE, asRow, callS, callT, callU, names, dedup, blkMents, Blk.mentB, idxOf, V.mapS, S.mapS, S.mapS.smapS, Blk.mapS, encs, encB, isBox, backN, hpBack, killsV, killsS, killsS.ks, killsB, rowsOf, without, keysOk, noTup, boxesOk, fresh, Option.isNone_none, Blk.ren, aloOk, aloV, aloB, frzL, freezes, Go.Proofs.YtbnommmnflmaaaaR.freeze, drop1, S.frz, S.frz.sf, V.frz, Blk.frz, slMent, pickL, List.map_append, S.kill, S.kill.sk, V.kill, Blk.kill, eqvs, ones, Bool.not_true, Bool.not_false, decide_true, decide_false, List.length_append, Int.le_refl, Int.toNat_natCast, Int.toNat_one, Int.cast_ofNat_Int, List.all_nil, List.contains_cons, Nat.reduceBEq, Bool.false_or, Bool.or_false, Bool.true_or, Bool.or_true, look_hit, look_end, look_miss, List.map_cons, List.map_nil, List.cons_append, List.nil_append, Option.getD_some, Option.getD_none, X.ev, ev, bin, ibin, Option.map_some, Option.map_none, Option.bind_some, S.cells, rd, sub, Go.Proofs.YtbnommmnflmaaaaR.shape, asI, bnd, evs, Rs.ev, R.ev, params, okKey, Nat.reduceAdd, Nat.reduceMul, Nat.reduceDiv, Nat.reduceEqDiff, Nat.reduceLeDiff, Nat.reduceLT, Int.reduceEq, Int.reduceNe, Int.reduceLT, Int.reduceLE, Int.reduceAdd, Int.reduceSub, Int.reduceMul, Int.reduceNeg, Int.reduceToNat, Int.reducePow, Nat.reducePow, Int.toNat_zero, not_false_eq_true, not_true_eq_false, reduceCtorEq, Nat.zero_add, Nat.add_zero, reduceIte, if_true, if_false, Bool.true_eq_false, Bool.false_eq_true, List.length_cons, List.length_nil, and_self, true_and, and_true, List.drop_zero, List.take_succ_cons, List.take_zero, List.drop_succ_cons, Nat.le_refl, S.kill, V.kill, Blk.kill, hand, handSs, handS, handVs, handV, List.contains_nil])
      try simp
/-- bellwether/kids.among -/
def j30 : C := (.seq (.region [⟨some 5, .box (.t 2), none, [], []⟩,
  ⟨some 6, .mov (.c (.row [])), none, [], []⟩] false)
 (.seq (.region [⟨some 7, .mov (.c (.int .i64 0)), none, [], []⟩] false)
 (.seq (.block 0 (.loop (.keep [0, 1, 5, 7] (.seq (.seq (.region [⟨some 8, .mov (.t 7), none, [9, 10], []⟩,
  ⟨some 9, .mov (.t 1), none, [8], []⟩,
  ⟨some 10, .len (.t 9), none, [8], [1]⟩,
  ⟨some 11, .bin .lss (.t 8) (.t 10), none, [], [0, 1, 2]⟩,
  ⟨some 12, .mov (.t 11), none, [], [0, 1, 2, 3]⟩,
  ⟨some 13, .mov (.t 0), some (12, true), [14, 15, 16, 17, 18, 19, 20], [0, 1, 2, 3, 4]⟩,
  ⟨some 14, .mov (.t 1), some (12, true), [13, 15, 19, 20], [0, 1, 2, 3, 4]⟩,
  ⟨some 15, .mov (.t 7), some (12, true), [13, 14, 19, 20], [0, 1, 2, 3, 4]⟩,
  ⟨some 16, .iad 3 (.t 14) (.t 15), some (12, true), [13, 19, 20], [0, 1, 2, 3, 4, 6, 7]⟩,
  ⟨some 17, .fad 0 (.t 16), some (12, true), [13, 19, 20], [0, 1, 2, 3, 4, 6, 7, 8]⟩,
  ⟨some 18, .load false 1 (.t 17), some (12, true), [13, 19, 20], [0, 1, 2, 3, 4, 6, 7, 8, 9]⟩,
  ⟨some 19, .fad 0 (.t 5), some (12, true), [13, 14, 15, 16, 17, 18], [0, 1, 2, 3, 4]⟩,
  ⟨some 20, .load false 1 (.t 19), some (12, true), [13, 14, 15, 16, 17, 18], [0, 1, 2, 3, 4, 11]⟩,
  ⟨some 21, .call false 11 [(.t 13), (.t 18), (.t 20)], some (12, true), [], [0, 1, 2, 3, 4, 5, 6, 7, 8, 9, 10, 11, 12]⟩,
  ⟨some 22, .pick (.t 12) (.t 21) (.c (.bool false)), none, [], [0, 1, 2, 3, 4, 5, 6, 7, 8, 9, 10, 11, 12, 13]⟩] true)
 (.cond (.t 22) .skip (.exit 0)))
 (.block 1 (.region [⟨some 23, .mov (.t 7), none, [], []⟩,
  ⟨some 24, .bin .add (.t 23) (.c (.int .i64 1)), none, [], []⟩,
  ⟨some 7, .mov (.t 24), none, [], []⟩] false))))))
 (.seq (.region [⟨some 25, .mov (.t 1), none, [27, 28, 29], []⟩,
  ⟨some 26, .call true 29 [(.t 25)], none, [27, 28, 29], [0]⟩,
  ⟨some 27, .mov (.t 7), none, [25, 26, 28, 29], []⟩,
  ⟨some 28, .load true 3 (.t 5), none, [25, 26, 27], []⟩,
  ⟨some 29, .bsl 35 3 1 [.int .i64 0, .int .i64 0, .int .i64 0] [(0, (.t 28))], none, [25, 26, 27], [3]⟩,
  ⟨some 30, .callo 44 [(.t 26), (.t 27), (.t 29)], none, [], [0, 1, 2, 3, 4]⟩,
  ⟨some 6, .mov (.t 30), none, [], [0, 1, 2, 3, 4, 5]⟩] true)
 .ret))))
def i30 : F := ⟨3, 31, j30, [.t 6]⟩
theorem b30 : i30.body = j30 := rfl
theorem q30 : i30.res = [.t 6] := rfl
theorem c30 : chkF Try.prog Try.f30 i30 = true := by kernel_rfl
theorem s30 {m : Model} {E : Nat → Model} (hE : ∀ f, Sound Try.prog f (E f)) (hm : ∀ args r, m args = some r → ∃ N, i30.ev E N args = some r) : Sound Try.prog 30 m := sound_of i30 Try.func30 rfl c30 hE hm
/-- bellwether/ring.Gap -/
def j31 : C := (.seq (.region [⟨some 4, .mov (.c (.int .i64 0)), none, [], []⟩,
  ⟨some 5, .mov (.c (.int .i64 0)), none, [], []⟩] false)
 (.seq (.region [⟨some 10, .mov (.t 0), none, [], []⟩,
  ⟨some 11, .call false 45 [(.t 10)], none, [], []⟩,
  ⟨some 9, .mov (.t 11), none, [], []⟩,
  ⟨some 12, .ext (.t 9) 0, none, [], []⟩,
  ⟨some 13, .ext (.t 9) 1, none, [], []⟩,
  ⟨some 6, .mov (.t 12), none, [], []⟩,
  ⟨some 7, .mov (.t 13), none, [], []⟩] false)
 (.seq (.seq (.region [⟨some 14, .mov (.t 7), none, [], []⟩,
  ⟨some 15, .bin .neq (.t 14) (.c (.int .i64 0)), none, [], []⟩] false)
 (.cond (.t 15) (.seq (.region [⟨some 16, .mov (.t 7), none, [], []⟩,
  ⟨some 4, .mov (.c (.int .i64 0)), none, [], []⟩,
  ⟨some 5, .mov (.t 16), none, [], []⟩] false)
 .ret) .skip))
 (.seq (.region [⟨some 18, .mov (.t 1), none, [], []⟩,
  ⟨some 19, .call false 46 [(.t 18)], none, [], []⟩,
  ⟨some 17, .mov (.t 19), none, [], []⟩,
  ⟨some 20, .ext (.t 17) 0, none, [], []⟩,
  ⟨some 21, .ext (.t 17) 1, none, [], []⟩,
  ⟨some 8, .mov (.t 20), none, [], []⟩,
  ⟨some 7, .mov (.t 21), none, [], []⟩] false)
 (.seq (.seq (.region [⟨some 22, .mov (.t 7), none, [], []⟩,
  ⟨some 23, .bin .neq (.t 22) (.c (.int .i64 0)), none, [], []⟩] false)
 (.cond (.t 23) (.seq (.region [⟨some 24, .mov (.t 7), none, [], []⟩,
  ⟨some 4, .mov (.c (.int .i64 0)), none, [], []⟩,
  ⟨some 5, .mov (.t 24), none, [], []⟩] false)
 .ret) .skip))
 (.seq (.region [⟨some 25, .mov (.t 6), none, [], []⟩,
  ⟨some 26, .mov (.t 8), none, [], []⟩,
  ⟨some 27, .call false 47 [(.t 25), (.t 26)], none, [], []⟩,
  ⟨some 4, .mov (.t 27), none, [], []⟩,
  ⟨some 5, .mov (.c (.int .i64 0)), none, [], []⟩] false)
 .ret))))))
def i31 : F := ⟨2, 28, j31, [.t 4, .t 5]⟩
theorem b31 : i31.body = j31 := rfl
theorem q31 : i31.res = [.t 4, .t 5] := rfl
theorem c31 : chkF Try.prog Try.f31 i31 = true := by kernel_rfl
theorem s31 {m : Model} {E : Nat → Model} (hE : ∀ f, Sound Try.prog f (E f)) (hm : ∀ args r, m args = some r → ∃ N, i31.ev E N args = some r) : Sound Try.prog 31 m := sound_of i31 Try.func31 rfl c31 hE hm
/-- slices.ContainsFunc   bellwether/api.Kid bellwether/api.Kid  -/
def j32 : C := (.seq (.region [⟨some 4, .mov (.c (.bool false)), none, [], []⟩] false)
 (.seq (.region [⟨some 5, .mov (.t 0), none, [], []⟩,
  ⟨some 6, .mov (.t 1), none, [], []⟩,
  ⟨some 7, .call false 27 [(.t 5), (.t 6)], none, [], []⟩,
  ⟨some 8, .bin .geq (.t 7) (.c (.int .i64 0)), none, [], []⟩,
  ⟨some 4, .mov (.t 8), none, [], []⟩] false)
 .ret))
def i32 : F := ⟨2, 9, j32, [.t 4]⟩
theorem b32 : i32.body = j32 := rfl
theorem q32 : i32.res = [.t 4] := rfl
theorem c32 : chkF Try.prog Try.f32 i32 = true := by kernel_rfl
theorem s32 {m : Model} {E : Nat → Model} (hE : ∀ f, Sound Try.prog f (E f)) (hm : ∀ args r, m args = some r → ∃ N, i32.ev E N args = some r) : Sound Try.prog 32 m := sound_of i32 Try.func32 rfl c32 hE hm
/-- bellwether/kids.Has$1 -/
def j33 : C := (.seq (.region [⟨some 2, .box (.t 0), none, [], []⟩,
  ⟨some 3, .mov (.c (.bool false)), none, [], []⟩] false)
 (.seq (.region [⟨some 4, .fad 0 (.t 2), none, [], []⟩,
  ⟨some 5, .load false 1 (.t 4), none, [], []⟩,
  ⟨some 6, .load false 1 (.t 1), none, [], []⟩,
  ⟨some 7, .bin .eql (.t 5) (.t 6), none, [], []⟩,
  ⟨some 3, .mov (.t 7), none, [], []⟩] false)
 .ret))
def i33 : F := ⟨2, 8, j33, [.t 3]⟩
theorem b33 : i33.body = j33 := rfl
theorem q33 : i33.res = [.t 3] := rfl
theorem c33 : chkF Try.prog Try.f33 i33 = true := by kernel_rfl
theorem s33 {m : Model} {E : Nat → Model} (hE : ∀ f, Sound Try.prog f (E f)) (hm : ∀ args r, m args = some r → ∃ N, i33.ev E N args = some r) : Sound Try.prog 33 m := sound_of i33 Try.func33 rfl c33 hE hm
/-- bellwether/kids.right -/
def j34 : C := (.seq (.region [⟨some 5, .box (.t 2), none, [], []⟩,
  ⟨some 6, .mov (.c (.bool false)), none, [], []⟩] false)
 (.seq (.region [⟨some 7, .mov (.t 0), none, [], []⟩,
  ⟨some 8, .mov (.t 1), none, [], []⟩,
  ⟨some 9, .fad 0 (.t 5), none, [], []⟩,
  ⟨some 10, .load false 1 (.t 9), none, [], []⟩,
  ⟨some 11, .call false 11 [(.t 7), (.t 8), (.t 10)], none, [], []⟩,
  ⟨some 12, .mov (.t 11), none, [], []⟩,
  ⟨some 13, .fad 1 (.t 5), some (12, true), [], []⟩,
  ⟨some 14, .load false 1 (.t 13), some (12, true), [], []⟩,
  ⟨some 15, .call false 26 [(.t 14)], some (12, true), [], []⟩,
  ⟨some 16, .pick (.t 12) (.t 15) (.c (.bool false)), none, [], []⟩,
  ⟨some 17, .mov (.t 16), none, [], []⟩,
  ⟨some 18, .fad 2 (.t 5), some (17, true), [], []⟩,
  ⟨some 19, .load false 1 (.t 18), some (17, true), [], []⟩,
  ⟨some 20, .bin .geq (.t 19) (.c (.int .i64 0)), some (17, true), [], []⟩,
  ⟨some 21, .pick (.t 17) (.t 20) (.c (.bool false)), none, [], []⟩,
  ⟨some 22, .mov (.t 21), none, [], []⟩,
  ⟨some 23, .fad 2 (.t 5), some (22, true), [], []⟩,
  ⟨some 24, .load false 1 (.t 23), some (22, true), [], []⟩,
  ⟨some 25, .bin .leq (.t 24) (.c (.int .i64 6)), some (22, true), [], []⟩,
  ⟨some 26, .pick (.t 22) (.t 25) (.c (.bool false)), none, [], []⟩,
  ⟨some 6, .mov (.t 26), none, [], []⟩] false)
 .ret))
def i34 : F := ⟨3, 27, j34, [.t 6]⟩
theorem b34 : i34.body = j34 := rfl
theorem q34 : i34.res = [.t 6] := rfl
theorem c34 : chkF Try.prog Try.f34 i34 = true := by kernel_rfl
theorem s34 {m : Model} {E : Nat → Model} (hE : ∀ f, Sound Try.prog f (E f)) (hm : ∀ args r, m args = some r → ∃ N, i34.ev E N args = some r) : Sound Try.prog 34 m := sound_of i34 Try.func34 rfl c34 hE hm
/-- bellwether/ring.Owner -/
def j35 : C := (.seq (.region [⟨some 4, .mov (.c (.int .i64 0)), none, [], []⟩,
  ⟨some 5, .mov (.c (.int .i64 0)), none, [], []⟩] false)
 (.seq (.region [⟨some 12, .mov (.t 0), none, [], []⟩,
  ⟨some 13, .call false 45 [(.t 12)], none, [], []⟩,
  ⟨some 11, .mov (.t 13), none, [], []⟩,
  ⟨some 14, .ext (.t 11) 0, none, [], []⟩,
  ⟨some 15, .ext (.t 11) 1, none, [], []⟩,
  ⟨some 6, .mov (.t 14), none, [], []⟩,
  ⟨some 7, .mov (.t 15), none, [], []⟩] false)
 (.seq (.block 0 (.seq (.region [⟨some 17, .mov (.t 7), none, [], []⟩,
  ⟨some 18, .bin .neq (.t 17) (.c (.int .i64 0)), none, [], []⟩,
  ⟨some 16, .mov (.t 18), none, [], []⟩] false)
 (.cond (.t 16) (.seq (.region [⟨some 19, .mov (.t 7), none, [], []⟩,
  ⟨some 4, .mov (.c (.int .i64 0)), none, [], []⟩,
  ⟨some 5, .mov (.t 19), none, [], []⟩] false)
 .ret) (.seq (.region [⟨some 21, .mov (.t 1), none, [], []⟩,
  ⟨some 22, .call false 48 [(.t 21)], none, [], []⟩,
  ⟨some 23, .un .not (.t 22), none, [], []⟩,
  ⟨some 20, .mov (.t 23), none, [], []⟩] false)
 (.cond (.t 20) (.seq (.region [⟨some 4, .mov (.c (.int .i64 0)), none, [], []⟩,
  ⟨some 5, .mov (.c (.int .i64 1)), none, [], []⟩] false)
 .ret) (.seq (.region [⟨some 25, .mov (.t 1), none, [], []⟩,
  ⟨some 26, .len (.t 25), none, [], []⟩,
  ⟨some 27, .bin .eql (.t 26) (.c (.int .i64 0)), none, [], []⟩,
  ⟨some 24, .mov (.t 27), none, [], []⟩] false)
 (.cond (.t 24) (.seq (.region [⟨some 4, .mov (.c (.int .i64 0)), none, [], []⟩,
  ⟨some 5, .mov (.c (.int .i64 7)), none, [], []⟩] false)
 .ret) .skip)))))))
 (.seq (.region [⟨some 28, .mov (.t 1), none, [], []⟩,
  ⟨some 29, .iad 1 (.t 28) (.c (.int .i64 0)), none, [], []⟩,
  ⟨some 30, .load false 1 (.t 29), none, [], []⟩,
  ⟨some 8, .mov (.t 30), none, [], []⟩] false)
 (.seq (.seq (.region [⟨some 31, .mov (.t 1), none, [], []⟩,
  ⟨some 32, .len (.t 31), none, [], []⟩,
  ⟨some 33, .mov (.c (.int .i64 0)), none, [], []⟩] false)
 (.block 1 (.loop (.keep [0, 8, 31, 32, 33] (.seq (.region [⟨some 34, .bin .lss (.t 33) (.t 32), none, [], []⟩] false)
 (.seq (.cond (.t 34) .skip (.exit 1))
 (.seq (.block 2 (.seq (.region [⟨some 35, .iad 1 (.t 31) (.t 33), none, [], []⟩,
  ⟨some 36, .load false 1 (.t 35), none, [], []⟩,
  ⟨some 10, .mov (.t 36), none, [], []⟩] false)
 (.seq (.region [⟨some 37, .mov (.t 0), none, [], []⟩,
  ⟨some 38, .mov (.t 10), none, [], []⟩,
  ⟨some 39, .mov (.t 8), none, [], []⟩,
  ⟨some 40, .call false 11 [(.t 37), (.t 38), (.t 39)], none, [], []⟩] false)
 (.cond (.t 40) (.region [⟨some 41, .mov (.t 10), none, [], []⟩,
  ⟨some 8, .mov (.t 41), none, [], []⟩] false) .skip))))
 (.region [⟨some 42, .bin .add (.t 33) (.c (.int .i64 1)), none, [], []⟩,
  ⟨some 33, .mov (.t 42), none, [], []⟩] false))))))))
 (.seq (.region [⟨some 43, .mov (.t 8), none, [], []⟩,
  ⟨some 4, .mov (.t 43), none, [], []⟩,
  ⟨some 5, .mov (.c (.int .i64 0)), none, [], []⟩] false)
 .ret))))))
def i35 : F := ⟨2, 44, j35, [.t 4, .t 5]⟩
theorem b35 : i35.body = j35 := rfl
theorem q35 : i35.res = [.t 4, .t 5] := rfl
theorem c35 : chkF Try.prog Try.f35 i35 = true := by kernel_rfl
theorem s35 {m : Model} {E : Nat → Model} (hE : ∀ f, Sound Try.prog f (E f)) (hm : ∀ args r, m args = some r → ∃ N, i35.ev E N args = some r) : Sound Try.prog 35 m := sound_of i35 Try.func35 rfl c35 hE hm
/-- bellwether/bellwetherref01.IsNode -/
def j36 : C := (.seq (.region [⟨some 2, .mov (.c (.bool false)), none, [], []⟩] false)
 (.seq (.region [⟨some 3, .mov (.t 0), none, [], []⟩,
  ⟨some 4, .call false 39 [(.t 3), (.c (.int .i64 0)), (.c (.int .i64 7))], none, [], []⟩,
  ⟨some 2, .mov (.t 4), none, [], []⟩] false)
 .ret))
def i36 : F := ⟨1, 5, j36, [.t 2]⟩
theorem b36 : i36.body = j36 := rfl
theorem q36 : i36.res = [.t 2] := rfl
theorem c36 : chkF Try.prog Try.f36 i36 = true := by kernel_rfl
theorem s36 {m : Model} {E : Nat → Model} (hE : ∀ f, Sound Try.prog f (E f)) (hm : ∀ args r, m args = some r → ∃ N, i36.ev E N args = some r) : Sound Try.prog 36 m := sound_of i36 Try.func36 rfl c36 hE hm
/-- bellwether/bellwetherref10.in -/
def j37 : C := (.seq (.region [⟨some 6, .mov (.c (.bool false)), none, [], []⟩] false)
 (.seq (.region [⟨some 7, .mov (.t 0), none, [], []⟩,
  ⟨some 8, .mov (.t 1), none, [], []⟩,
  ⟨some 9, .bin .geq (.t 7) (.t 8), none, [], []⟩,
  ⟨some 10, .mov (.t 9), none, [], []⟩,
  ⟨some 11, .mov (.t 0), some (10, true), [], []⟩,
  ⟨some 12, .mov (.t 2), some (10, true), [], []⟩,
  ⟨some 13, .bin .leq (.t 11) (.t 12), some (10, true), [], []⟩,
  ⟨some 14, .pick (.t 10) (.t 13) (.c (.bool false)), none, [], []⟩,
  ⟨some 6, .mov (.t 14), none, [], []⟩] false)
 .ret))
def i37 : F := ⟨3, 15, j37, [.t 6]⟩
theorem b37 : i37.body = j37 := rfl
theorem q37 : i37.res = [.t 6] := rfl
theorem c37 : chkF Try.prog Try.f37 i37 = true := by kernel_rfl
theorem s37 {m : Model} {E : Nat → Model} (hE : ∀ f, Sound Try.prog f (E f)) (hm : ∀ args r, m args = some r → ∃ N, i37.ev E N args = some r) : Sound Try.prog 37 m := sound_of i37 Try.func37 rfl c37 hE hm
/-- bellwether/bellwetherref01.Nearer -/
def j38 : C := (.seq (.region [⟨some 6, .mov (.c (.bool false)), none, [], []⟩] false)
 (.seq (.region [⟨some 7, .mov (.t 0), none, [], []⟩,
  ⟨some 8, .call false 17 [(.t 7)], none, [], []⟩,
  ⟨some 9, .mov (.t 8), none, [], []⟩,
  ⟨some 10, .mov (.t 1), some (9, true), [], []⟩,
  ⟨some 11, .call false 36 [(.t 10)], some (9, true), [], []⟩,
  ⟨some 12, .pick (.t 9) (.t 11) (.c (.bool false)), none, [], []⟩,
  ⟨some 13, .mov (.t 12), none, [], []⟩,
  ⟨some 14, .mov (.t 2), some (13, true), [], []⟩,
  ⟨some 15, .call false 36 [(.t 14)], some (13, true), [], []⟩,
  ⟨some 16, .pick (.t 13) (.t 15) (.c (.bool false)), none, [], []⟩,
  ⟨some 17, .mov (.t 16), none, [], []⟩,
  ⟨some 18, .mov (.t 0), some (17, true), [], []⟩,
  ⟨some 19, .mov (.t 1), some (17, true), [], []⟩,
  ⟨some 20, .call false 49 [(.t 18), (.t 19)], some (17, true), [], []⟩,
  ⟨some 21, .mov (.t 0), some (17, true), [], []⟩,
  ⟨some 22, .mov (.t 2), some (17, true), [], []⟩,
  ⟨some 23, .call false 49 [(.t 21), (.t 22)], some (17, true), [], []⟩,
  ⟨some 24, .bin .lss (.t 20) (.t 23), some (17, true), [], []⟩,
  ⟨some 25, .pick (.t 17) (.t 24) (.c (.bool false)), none, [], []⟩,
  ⟨some 6, .mov (.t 25), none, [], []⟩] false)
 .ret))
def i38 : F := ⟨3, 26, j38, [.t 6]⟩
theorem b38 : i38.body = j38 := rfl
theorem q38 : i38.res = [.t 6] := rfl
theorem c38 : chkF Try.prog Try.f38 i38 = true := by kernel_rfl
theorem s38 {m : Model} {E : Nat → Model} (hE : ∀ f, Sound Try.prog f (E f)) (hm : ∀ args r, m args = some r → ∃ N, i38.ev E N args = some r) : Sound Try.prog 38 m := sound_of i38 Try.func38 rfl c38 hE hm
/-- bellwether/bellwetherref01.In -/
def j39 : C := (.seq (.region [⟨some 6, .mov (.c (.bool false)), none, [], []⟩] false)
 (.seq (.region [⟨some 7, .mov (.t 0), none, [], []⟩,
  ⟨some 8, .mov (.t 1), none, [], []⟩,
  ⟨some 9, .bin .geq (.t 7) (.t 8), none, [], []⟩,
  ⟨some 10, .mov (.t 9), none, [], []⟩,
  ⟨some 11, .mov (.t 0), some (10, true), [], []⟩,
  ⟨some 12, .mov (.t 2), some (10, true), [], []⟩,
  ⟨some 13, .bin .leq (.t 11) (.t 12), some (10, true), [], []⟩,
  ⟨some 14, .pick (.t 10) (.t 13) (.c (.bool false)), none, [], []⟩,
  ⟨some 6, .mov (.t 14), none, [], []⟩] false)
 .ret))
def i39 : F := ⟨3, 15, j39, [.t 6]⟩
theorem b39 : i39.body = j39 := rfl
theorem q39 : i39.res = [.t 6] := rfl
theorem c39 : chkF Try.prog Try.f39 i39 = true := by kernel_rfl
theorem s39 {m : Model} {E : Nat → Model} (hE : ∀ f, Sound Try.prog f (E f)) (hm : ∀ args r, m args = some r → ∃ N, i39.ev E N args = some r) : Sound Try.prog 39 m := sound_of i39 Try.func39 rfl c39 hE hm
/-- slices.DeleteFunc   bellwether/api.Kid bellwether/api.Kid  -/
def j40 : C := (.seq (.region [⟨some 4, .nilsl 35 3 0, none, [], []⟩] false)
 (.seq (.region [⟨some 8, .mov (.t 0), none, [], []⟩,
  ⟨some 9, .mov (.t 1), none, [], []⟩,
  ⟨some 10, .call false 27 [(.t 8), (.t 9)], none, [], []⟩,
  ⟨some 5, .mov (.t 10), none, [], []⟩] false)
 (.seq (.seq (.region [⟨some 11, .mov (.t 5), none, [], []⟩,
  ⟨some 12, .bin .eql (.t 11) (.c (.int .i64 (-1))), none, [], []⟩] false)
 (.cond (.t 12) (.seq (.region [⟨some 13, .mov (.t 0), none, [], []⟩,
  ⟨some 4, .mov (.t 13), none, [], []⟩] false)
 .ret) .skip))
 (.seq (.seq (.region [⟨some 14, .mov (.t 5), none, [], []⟩,
  ⟨some 15, .bin .add (.t 14) (.c (.int .i64 1)), none, [], []⟩,
  ⟨some 6, .mov (.t 15), none, [], []⟩] false)
 (.block 0 (.loop (.keep [0, 1, 5, 6] (.seq (.seq (.region [⟨some 16, .mov (.t 6), none, [], []⟩,
  ⟨some 17, .mov (.t 0), none, [], []⟩,
  ⟨some 18, .len (.t 17), none, [], []⟩,
  ⟨some 19, .bin .lss (.t 16) (.t 18), none, [], []⟩] false)
 (.cond (.t 19) .skip (.exit 0)))
 (.seq (.block 1 (.seq (.region [⟨some 22, .mov (.t 0), none, [], []⟩,
  ⟨some 23, .mov (.t 6), none, [], []⟩,
  ⟨some 24, .iad 3 (.t 22) (.t 23), none, [], []⟩,
  ⟨some 25, .load true 3 (.t 24), none, [], []⟩,
  ⟨some 7, .alloc [.int .i64 0, .int .i64 0, .int .i64 0], none, [], []⟩,
  ⟨none, .store none 3 (.t 7) (.t 25), none, [], []⟩] false)
 (.seq (.region [⟨some 26, .mov (.t 1), none, [], []⟩,
  ⟨some 27, .load true 3 (.t 7), none, [], []⟩,
  ⟨some 28, .callv false (.t 26) [(.t 27)], none, [], []⟩,
  ⟨some 29, .un .not (.t 28), none, [], []⟩] false)
 (.cond (.t 29) (.seq (.region [⟨some 30, .mov (.t 0), none, [], []⟩,
  ⟨some 31, .mov (.t 5), none, [], []⟩,
  ⟨some 32, .load true 3 (.t 7), none, [], []⟩,
  ⟨some 33, .iad 3 (.t 30) (.t 31), none, [], []⟩,
  ⟨none, .store none 3 (.t 33) (.t 32), none, [], []⟩] false)
 (.region [⟨some 34, .mov (.t 5), none, [], []⟩,
  ⟨some 35, .bin .add (.t 34) (.c (.int .i64 1)), none, [], []⟩,
  ⟨some 5, .mov (.t 35), none, [], []⟩] false)) .skip))))
 (.region [⟨some 20, .mov (.t 6), none, [], []⟩,
  ⟨some 21, .bin .add (.t 20) (.c (.int .i64 1)), none, [], []⟩,
  ⟨some 6, .mov (.t 21), none, [], []⟩] false)))))))
 (.seq (.region [⟨some 36, .mov (.t 0), none, [], []⟩,
  ⟨some 37, .mov (.t 5), none, [], []⟩,
  ⟨some 38, .cut 3 (.t 36) (some (.t 37)) none, none, [], []⟩,
  ⟨none, .clr 35 3 (.t 38), none, [], []⟩] false)
 (.seq (.region [⟨some 39, .mov (.t 0), none, [], []⟩,
  ⟨some 40, .mov (.t 5), none, [], []⟩,
  ⟨some 41, .cut 3 (.t 39) none (some (.t 40)), none, [], []⟩,
  ⟨some 4, .mov (.t 41), none, [], []⟩] false)
 .ret))))))
def i40 : F := ⟨2, 42, j40, [.t 4]⟩
theorem b40 : i40.body = j40 := rfl
theorem q40 : i40.res = [.t 4] := rfl
theorem c40 : chkF Try.prog Try.f40 i40 = true := by kernel_rfl
theorem s40 {m : Model} {E : Nat → Model} (hE : ∀ f, Sound Try.prog f (E f)) (hm : ∀ args r, m args = some r → ∃ N, i40.ev E N args = some r) : Sound Try.prog 40 m := sound_of i40 Try.func40 rfl c40 hE hm
/-- bellwether/kids.Drop$1 -/
def j41 : C := (.seq (.region [⟨some 2, .box (.t 0), none, [], []⟩,
  ⟨some 3, .mov (.c (.bool false)), none, [], []⟩] false)
 (.seq (.region [⟨some 4, .fad 0 (.t 2), none, [], []⟩,
  ⟨some 5, .load false 1 (.t 4), none, [], []⟩,
  ⟨some 6, .load false 1 (.t 1), none, [], []⟩,
  ⟨some 7, .bin .eql (.t 5) (.t 6), none, [], []⟩,
  ⟨some 3, .mov (.t 7), none, [], []⟩] false)
 .ret))
def i41 : F := ⟨2, 8, j41, [.t 3]⟩
theorem b41 : i41.body = j41 := rfl
theorem q41 : i41.res = [.t 3] := rfl
theorem c41 : chkF Try.prog Try.f41 i41 = true := by kernel_rfl
theorem s41 {m : Model} {E : Nat → Model} (hE : ∀ f, Sound Try.prog f (E f)) (hm : ∀ args r, m args = some r → ∃ N, i41.ev E N args = some r) : Sound Try.prog 41 m := sound_of i41 Try.func41 rfl c41 hE hm
/-- bellwether/bellwetherref10.among -/
def j42 : C := (.seq (.region [⟨some 5, .box (.t 2), none, [], []⟩,
  ⟨some 6, .nilsl 35 3 0, none, [], []⟩] false)
 (.seq (.region [⟨some 7, .nilsl 35 3 0, none, [], []⟩] false)
 (.seq (.region [⟨some 8, .mov (.c (.bool false)), none, [], []⟩] false)
 (.seq (.seq (.region [⟨some 9, .mov (.c (.int .i64 0)), none, [], []⟩] false)
 (.block 0 (.loop (.keep [0, 1, 5, 7, 8, 9] (.seq (.seq (.region [⟨some 10, .mov (.t 9), none, [], []⟩,
  ⟨some 11, .mov (.t 1), none, [], []⟩,
  ⟨some 12, .len (.t 11), none, [], []⟩,
  ⟨some 13, .bin .lss (.t 10) (.t 12), none, [], []⟩] false)
 (.cond (.t 13) .skip (.exit 0)))
 (.seq (.block 1 (.seq (.seq (.region [⟨some 16, .mov (.t 8), none, [], []⟩,
  ⟨some 17, .un .not (.t 16), none, [], [0]⟩,
  ⟨some 18, .mov (.t 17), none, [], [0, 1]⟩,
  ⟨some 19, .mov (.t 0), some (18, true), [20, 21, 22, 23, 24, 25, 26], [0, 1, 2]⟩,
  ⟨some 20, .fad 0 (.t 5), some (18, true), [19, 22, 23, 24, 25, 26], [0, 1, 2]⟩,
  ⟨some 21, .load false 1 (.t 20), some (18, true), [19, 22, 23, 24, 25, 26], [0, 1, 2, 4]⟩,
  ⟨some 22, .mov (.t 1), some (18, true), [19, 20, 21, 23], [0, 1, 2]⟩,
  ⟨some 23, .mov (.t 9), some (18, true), [19, 20, 21, 22], [0, 1, 2]⟩,
  ⟨some 24, .iad 3 (.t 22) (.t 23), some (18, true), [19, 20, 21], [0, 1, 2, 6, 7]⟩,
  ⟨some 25, .fad 0 (.t 24), some (18, true), [19, 20, 21], [0, 1, 2, 6, 7, 8]⟩,
  ⟨some 26, .load false 1 (.t 25), some (18, true), [19, 20, 21], [0, 1, 2, 6, 7, 8, 9]⟩,
  ⟨some 27, .call false 38 [(.t 19), (.t 21), (.t 26)], some (18, true), [], [0, 1, 2, 3, 4, 5, 6, 7, 8, 9, 10]⟩,
  ⟨some 28, .pick (.t 18) (.t 27) (.c (.bool false)), none, [], [0, 1, 2, 3, 4, 5, 6, 7, 8, 9, 10, 11]⟩] true)
 (.cond (.t 28) (.region [⟨some 29, .mov (.t 7), none, [], []⟩,
  ⟨some 30, .load true 3 (.t 5), none, [], []⟩,
  ⟨some 31, .bsl 35 3 1 [.int .i64 0, .int .i64 0, .int .i64 0] [(0, (.t 30))], none, [], []⟩,
  ⟨some 32, .app 35 3 24 (.t 29) (.t 31), none, [], []⟩,
  ⟨some 7, .mov (.t 32), none, [], []⟩,
  ⟨some 8, .mov (.c (.bool true)), none, [], []⟩] false) .skip))
 (.region [⟨some 33, .mov (.t 7), none, [], []⟩,
  ⟨some 34, .mov (.t 1), none, [], []⟩,
  ⟨some 35, .mov (.t 9), none, [], []⟩,
  ⟨some 36, .iad 3 (.t 34) (.t 35), none, [], []⟩,
  ⟨some 37, .load true 3 (.t 36), none, [], []⟩,
  ⟨some 38, .bsl 35 3 1 [.int .i64 0, .int .i64 0, .int .i64 0] [(0, (.t 37))], none, [], []⟩,
  ⟨some 39, .app 35 3 24 (.t 33) (.t 38), none, [], []⟩,
  ⟨some 7, .mov (.t 39), none, [], []⟩] false)))
 (.region [⟨some 14, .mov (.t 9), none, [], []⟩,
  ⟨some 15, .bin .add (.t 14) (.c (.int .i64 1)), none, [], []⟩,
  ⟨some 9, .mov (.t 15), none, [], []⟩] false)))))))
 (.seq (.seq (.region [⟨some 40, .mov (.t 8), none, [], []⟩,
  ⟨some 41, .un .not (.t 40), none, [], []⟩] false)
 (.cond (.t 41) (.region [⟨some 42, .mov (.t 7), none, [], []⟩,
  ⟨some 43, .load true 3 (.t 5), none, [], []⟩,
  ⟨some 44, .bsl 35 3 1 [.int .i64 0, .int .i64 0, .int .i64 0] [(0, (.t 43))], none, [], []⟩,
  ⟨some 45, .app 35 3 24 (.t 42) (.t 44), none, [], []⟩,
  ⟨some 7, .mov (.t 45), none, [], []⟩] false) .skip))
 (.seq (.region [⟨some 46, .mov (.t 7), none, [], []⟩,
  ⟨some 6, .mov (.t 46), none, [], []⟩] false)
 .ret))))))
def i42 : F := ⟨3, 47, j42, [.t 6]⟩
theorem b42 : i42.body = j42 := rfl
theorem q42 : i42.res = [.t 6] := rfl
theorem c42 : chkF Try.prog Try.f42 i42 = true := by kernel_rfl
theorem s42 {m : Model} {E : Nat → Model} (hE : ∀ f, Sound Try.prog f (E f)) (hm : ∀ args r, m args = some r → ∃ N, i42.ev E N args = some r) : Sound Try.prog 42 m := sound_of i42 Try.func42 rfl c42 hE hm
/-- bellwether/msg.in -/
def j43 : C := (.seq (.region [⟨some 6, .mov (.c (.bool false)), none, [], []⟩] false)
 (.seq (.region [⟨some 7, .mov (.t 0), none, [], []⟩,
  ⟨some 8, .mov (.t 1), none, [], []⟩,
  ⟨some 9, .bin .geq (.t 7) (.t 8), none, [], []⟩,
  ⟨some 10, .mov (.t 9), none, [], []⟩,
  ⟨some 11, .mov (.t 0), some (10, true), [], []⟩,
  ⟨some 12, .mov (.t 2), some (10, true), [], []⟩,
  ⟨some 13, .bin .leq (.t 11) (.t 12), some (10, true), [], []⟩,
  ⟨some 14, .pick (.t 10) (.t 13) (.c (.bool false)), none, [], []⟩,
  ⟨some 6, .mov (.t 14), none, [], []⟩] false)
 .ret))
def i43 : F := ⟨3, 15, j43, [.t 6]⟩
theorem b43 : i43.body = j43 := rfl
theorem q43 : i43.res = [.t 6] := rfl
theorem c43 : chkF Try.prog Try.f43 i43 = true := by kernel_rfl
theorem s43 {m : Model} {E : Nat → Model} (hE : ∀ f, Sound Try.prog f (E f)) (hm : ∀ args r, m args = some r → ∃ N, i43.ev E N args = some r) : Sound Try.prog 43 m := sound_of i43 Try.func43 rfl c43 hE hm
theorem x44 : Sound Try.prog 44 (XI.insM 35 3 24) := XI.ins_ok
/-- bellwether/ring.Topic -/
def j45 : C := (.seq (.region [⟨some 2, .mov (.c (.int .i64 0)), none, [], []⟩,
  ⟨some 3, .mov (.c (.int .i64 0)), none, [], []⟩] false)
 (.seq (.seq (.region [⟨some 4, .mov (.t 0), none, [], []⟩,
  ⟨some 5, .call false 52 [(.t 4), (.c (.int .i64 4))], none, [], []⟩,
  ⟨some 6, .un .not (.t 5), none, [], []⟩] false)
 (.cond (.t 6) (.seq (.region [⟨some 2, .mov (.c (.int .i64 0)), none, [], []⟩,
  ⟨some 3, .mov (.c (.int .i64 1)), none, [], []⟩] false)
 .ret) .skip))
 (.seq (.region [⟨some 7, .call false 53 [], none, [], []⟩,
  ⟨some 8, .mov (.t 0), none, [], []⟩,
  ⟨some 9, .idx false 1 4 (.t 7) (.t 8), none, [], []⟩,
  ⟨some 2, .mov (.t 9), none, [], []⟩,
  ⟨some 3, .mov (.c (.int .i64 0)), none, [], []⟩] false)
 .ret)))
def i45 : F := ⟨1, 10, j45, [.t 2, .t 3]⟩
theorem b45 : i45.body = j45 := rfl
theorem q45 : i45.res = [.t 2, .t 3] := rfl
theorem c45 : chkF Try.prog Try.f45 i45 = true := by kernel_rfl
theorem s45 {m : Model} {E : Nat → Model} (hE : ∀ f, Sound Try.prog f (E f)) (hm : ∀ args r, m args = some r → ∃ N, i45.ev E N args = some r) : Sound Try.prog 45 m := sound_of i45 Try.func45 rfl c45 hE hm
/-- bellwether/ring.Node -/
def j46 : C := (.seq (.region [⟨some 2, .mov (.c (.int .i64 0)), none, [], []⟩,
  ⟨some 3, .mov (.c (.int .i64 0)), none, [], []⟩] false)
 (.seq (.seq (.region [⟨some 4, .mov (.t 0), none, [], []⟩,
  ⟨some 5, .call false 54 [(.t 4)], none, [], []⟩,
  ⟨some 6, .un .not (.t 5), none, [], []⟩] false)
 (.cond (.t 6) (.seq (.region [⟨some 2, .mov (.c (.int .i64 0)), none, [], []⟩,
  ⟨some 3, .mov (.c (.int .i64 1)), none, [], []⟩] false)
 .ret) .skip))
 (.seq (.region [⟨some 7, .call false 55 [], none, [], []⟩,
  ⟨some 8, .mov (.t 0), none, [], []⟩,
  ⟨some 9, .idx false 1 8 (.t 7) (.t 8), none, [], []⟩,
  ⟨some 2, .mov (.t 9), none, [], []⟩,
  ⟨some 3, .mov (.c (.int .i64 0)), none, [], []⟩] false)
 .ret)))
def i46 : F := ⟨1, 10, j46, [.t 2, .t 3]⟩
theorem b46 : i46.body = j46 := rfl
theorem q46 : i46.res = [.t 2, .t 3] := rfl
theorem c46 : chkF Try.prog Try.f46 i46 = true := by kernel_rfl
theorem s46 {m : Model} {E : Nat → Model} (hE : ∀ f, Sound Try.prog f (E f)) (hm : ∀ args r, m args = some r → ∃ N, i46.ev E N args = some r) : Sound Try.prog 46 m := sound_of i46 Try.func46 rfl c46 hE hm
/-- bellwether/key.Far -/
def j47 : C := (.seq (.region [⟨some 4, .mov (.c (.int .i64 0)), none, [], []⟩] false)
 (.seq (.region [⟨some 6, .mov (.t 1), none, [], []⟩,
  ⟨some 7, .mov (.t 0), none, [], []⟩,
  ⟨some 8, .bin .sub (.t 6) (.t 7), none, [], []⟩,
  ⟨some 5, .mov (.t 8), none, [], []⟩] false)
 (.seq (.seq (.region [⟨some 9, .mov (.t 5), none, [], []⟩,
  ⟨some 10, .bin .lss (.t 9) (.c (.int .i64 0)), none, [], []⟩] false)
 (.cond (.t 10) (.region [⟨some 11, .mov (.t 5), none, [], []⟩,
  ⟨some 12, .bin .add (.t 11) (.c (.int .i64 4611686018427387904)), none, [], []⟩,
  ⟨some 5, .mov (.t 12), none, [], []⟩] false) .skip))
 (.seq (.region [⟨some 13, .mov (.t 5), none, [], []⟩,
  ⟨some 4, .mov (.t 13), none, [], []⟩] false)
 .ret))))
def i47 : F := ⟨2, 14, j47, [.t 4]⟩
theorem b47 : i47.body = j47 := rfl
theorem q47 : i47.res = [.t 4] := rfl
theorem c47 : chkF Try.prog Try.f47 i47 = true := by kernel_rfl
theorem s47 {m : Model} {E : Nat → Model} (hE : ∀ f, Sound Try.prog f (E f)) (hm : ∀ args r, m args = some r → ∃ N, i47.ev E N args = some r) : Sound Try.prog 47 m := sound_of i47 Try.func47 rfl c47 hE hm
/-- bellwether/ring.All -/
def j48 : C := (.seq (.region [⟨some 2, .mov (.c (.bool false)), none, [], []⟩] false)
 (.seq (.region [⟨some 3, .mov (.t 0), none, [], []⟩,
  ⟨some 4, .call false 56 [(.t 3), (.c (.fn 57 []))], none, [], []⟩,
  ⟨some 5, .un .not (.t 4), none, [], []⟩,
  ⟨some 2, .mov (.t 5), none, [], []⟩] false)
 .ret))
def i48 : F := ⟨1, 6, j48, [.t 2]⟩
theorem b48 : i48.body = j48 := rfl
theorem q48 : i48.res = [.t 2] := rfl
theorem c48 : chkF Try.prog Try.f48 i48 = true := by kernel_rfl
theorem s48 {m : Model} {E : Nat → Model} (hE : ∀ f, Sound Try.prog f (E f)) (hm : ∀ args r, m args = some r → ∃ N, i48.ev E N args = some r) : Sound Try.prog 48 m := sound_of i48 Try.func48 rfl c48 hE hm
/-- bellwether/bellwetherref01.Gap -/
def j49 : C := (.seq (.region [⟨some 4, .mov (.c (.int .i64 0)), none, [], []⟩] false)
 (.seq (.region [⟨some 5, .mov (.t 0), none, [], []⟩,
  ⟨some 6, .call false 59 [(.t 5)], none, [], []⟩,
  ⟨some 7, .mov (.t 1), none, [], []⟩,
  ⟨some 8, .call false 60 [(.t 7)], none, [], []⟩,
  ⟨some 9, .call false 58 [(.t 6), (.t 8)], none, [], []⟩,
  ⟨some 4, .mov (.t 9), none, [], []⟩] false)
 .ret))
def i49 : F := ⟨2, 10, j49, [.t 4]⟩
theorem b49 : i49.body = j49 := rfl
theorem q49 : i49.res = [.t 4] := rfl
theorem c49 : chkF Try.prog Try.f49 i49 = true := by kernel_rfl
theorem s49 {m : Model} {E : Nat → Model} (hE : ∀ f, Sound Try.prog f (E f)) (hm : ∀ args r, m args = some r → ∃ N, i49.ev E N args = some r) : Sound Try.prog 49 m := sound_of i49 Try.func49 rfl c49 hE hm
/-- bellwether/ring.in -/
def j52 : C := (.seq (.region [⟨some 4, .mov (.c (.bool false)), none, [], []⟩] false)
 (.seq (.region [⟨some 5, .mov (.t 0), none, [], []⟩,
  ⟨some 6, .bin .geq (.t 5) (.c (.int .i64 0)), none, [], []⟩,
  ⟨some 7, .mov (.t 6), none, [], []⟩,
  ⟨some 8, .mov (.t 0), some (7, true), [], []⟩,
  ⟨some 9, .mov (.t 1), some (7, true), [], []⟩,
  ⟨some 10, .bin .lss (.t 8) (.t 9), some (7, true), [], []⟩,
  ⟨some 11, .pick (.t 7) (.t 10) (.c (.bool false)), none, [], []⟩,
  ⟨some 4, .mov (.t 11), none, [], []⟩] false)
 .ret))
def i52 : F := ⟨2, 12, j52, [.t 4]⟩
theorem b52 : i52.body = j52 := rfl
theorem q52 : i52.res = [.t 4] := rfl
theorem c52 : chkF Try.prog Try.f52 i52 = true := by kernel_rfl
theorem s52 {m : Model} {E : Nat → Model} (hE : ∀ f, Sound Try.prog f (E f)) (hm : ∀ args r, m args = some r → ∃ N, i52.ev E N args = some r) : Sound Try.prog 52 m := sound_of i52 Try.func52 rfl c52 hE hm
/-- bellwether/ring.topics -/
def j53 : C := (.seq (.region [⟨some 0, .alloc [.int .i64 0, .int .i64 0, .int .i64 0, .int .i64 0], none, [], []⟩] false)
 (.seq (.region [⟨some 1, .build [.int .i64 0, .int .i64 0, .int .i64 0, .int .i64 0] [(0, 1, (.c (.int .i64 1462484242049070477))), (1, 1, (.c (.int .i64 1775212608919665246))), (2, 1, (.c (.int .i64 3535639072113518480))), (3, 1, (.c (.int .i64 3725500155902745375)))], none, [], []⟩,
  ⟨none, .store none 4 (.t 0) (.t 1), none, [], []⟩] false)
 .ret))
def i53 : F := ⟨0, 2, j53, [.c 0 4 true]⟩
theorem b53 : i53.body = j53 := rfl
theorem q53 : i53.res = [.c 0 4 true] := rfl
theorem c53 : chkF Try.prog Try.f53 i53 = true := by kernel_rfl
theorem s53 {m : Model} {E : Nat → Model} (hE : ∀ f, Sound Try.prog f (E f)) (hm : ∀ args r, m args = some r → ∃ N, i53.ev E N args = some r) : Sound Try.prog 53 m := sound_of i53 Try.func53 rfl c53 hE hm
/-- bellwether/ring.Is -/
def j54 : C := (.seq (.region [⟨some 2, .mov (.c (.bool false)), none, [], []⟩] false)
 (.seq (.region [⟨some 3, .mov (.t 0), none, [], []⟩,
  ⟨some 4, .call false 52 [(.t 3), (.c (.int .i64 8))], none, [], []⟩,
  ⟨some 2, .mov (.t 4), none, [], []⟩] false)
 .ret))
def i54 : F := ⟨1, 5, j54, [.t 2]⟩
theorem b54 : i54.body = j54 := rfl
theorem q54 : i54.res = [.t 2] := rfl
theorem c54 : chkF Try.prog Try.f54 i54 = true := by kernel_rfl
theorem s54 {m : Model} {E : Nat → Model} (hE : ∀ f, Sound Try.prog f (E f)) (hm : ∀ args r, m args = some r → ∃ N, i54.ev E N args = some r) : Sound Try.prog 54 m := sound_of i54 Try.func54 rfl c54 hE hm
/-- bellwether/ring.nodes -/
def j55 : C := (.seq (.region [⟨some 0, .alloc [.int .i64 0, .int .i64 0, .int .i64 0, .int .i64 0, .int .i64 0, .int .i64 0, .int .i64 0, .int .i64 0], none, [], []⟩] false)
 (.seq (.region [⟨some 1, .build [.int .i64 0, .int .i64 0, .int .i64 0, .int .i64 0, .int .i64 0, .int .i64 0, .int .i64 0, .int .i64 0] [(0, 1, (.c (.int .i64 2342812313538366385))), (1, 1, (.c (.int .i64 1863050908023769503))), (2, 1, (.c (.int .i64 81111313352671826))), (3, 1, (.c (.int .i64 2434324899588211290))), (4, 1, (.c (.int .i64 2454816673080883147))), (5, 1, (.c (.int .i64 1342378062264523301))), (6, 1, (.c (.int .i64 820659310660760249))), (7, 1, (.c (.int .i64 2006264061484817761)))], none, [], []⟩,
  ⟨none, .store none 8 (.t 0) (.t 1), none, [], []⟩] false)
 .ret))
def i55 : F := ⟨0, 2, j55, [.c 0 8 true]⟩
theorem b55 : i55.body = j55 := rfl
theorem q55 : i55.res = [.c 0 8 true] := rfl
theorem c55 : chkF Try.prog Try.f55 i55 = true := by kernel_rfl
theorem s55 {m : Model} {E : Nat → Model} (hE : ∀ f, Sound Try.prog f (E f)) (hm : ∀ args r, m args = some r → ∃ N, i55.ev E N args = some r) : Sound Try.prog 55 m := sound_of i55 Try.func55 rfl c55 hE hm
/-- slices.ContainsFunc   int int  -/
def j56 : C := (.seq (.region [⟨some 4, .mov (.c (.bool false)), none, [], []⟩] false)
 (.seq (.region [⟨some 5, .mov (.t 0), none, [], []⟩,
  ⟨some 6, .mov (.t 1), none, [], []⟩,
  ⟨some 7, .call false 62 [(.t 5), (.t 6)], none, [], []⟩,
  ⟨some 8, .bin .geq (.t 7) (.c (.int .i64 0)), none, [], []⟩,
  ⟨some 4, .mov (.t 8), none, [], []⟩] false)
 .ret))
def i56 : F := ⟨2, 9, j56, [.t 4]⟩
theorem b56 : i56.body = j56 := rfl
theorem q56 : i56.res = [.t 4] := rfl
theorem c56 : chkF Try.prog Try.f56 i56 = true := by kernel_rfl
theorem s56 {m : Model} {E : Nat → Model} (hE : ∀ f, Sound Try.prog f (E f)) (hm : ∀ args r, m args = some r → ∃ N, i56.ev E N args = some r) : Sound Try.prog 56 m := sound_of i56 Try.func56 rfl c56 hE hm
/-- bellwether/ring.All$1 -/
def j57 : C := (.seq (.region [⟨some 2, .mov (.c (.bool false)), none, [], []⟩] false)
 (.seq (.region [⟨some 3, .mov (.t 0), none, [], []⟩,
  ⟨some 4, .call false 54 [(.t 3)], none, [], []⟩,
  ⟨some 5, .un .not (.t 4), none, [], []⟩,
  ⟨some 2, .mov (.t 5), none, [], []⟩] false)
 .ret))
def i57 : F := ⟨1, 6, j57, [.t 2]⟩
theorem b57 : i57.body = j57 := rfl
theorem q57 : i57.res = [.t 2] := rfl
theorem c57 : chkF Try.prog Try.f57 i57 = true := by kernel_rfl
theorem s57 {m : Model} {E : Nat → Model} (hE : ∀ f, Sound Try.prog f (E f)) (hm : ∀ args r, m args = some r → ∃ N, i57.ev E N args = some r) : Sound Try.prog 57 m := sound_of i57 Try.func57 rfl c57 hE hm
/-- bellwether/bellwetherref01.Behind -/
def j58 : C := (.seq (.region [⟨some 4, .mov (.c (.int .i64 0)), none, [], []⟩] false)
 (.seq (.seq (.region [⟨some 5, .mov (.t 1), none, [], []⟩,
  ⟨some 6, .mov (.t 0), none, [], []⟩,
  ⟨some 7, .bin .geq (.t 5) (.t 6), none, [], []⟩] false)
 (.cond (.t 7) (.seq (.region [⟨some 8, .mov (.t 1), none, [], []⟩,
  ⟨some 9, .mov (.t 0), none, [], []⟩,
  ⟨some 10, .bin .sub (.t 8) (.t 9), none, [], []⟩,
  ⟨some 4, .mov (.t 10), none, [], []⟩] false)
 .ret) .skip))
 (.seq (.region [⟨some 11, .mov (.t 0), none, [], []⟩,
  ⟨some 12, .mov (.t 1), none, [], []⟩,
  ⟨some 13, .bin .sub (.t 11) (.t 12), none, [], []⟩,
  ⟨some 14, .bin .sub (.c (.int .i64 4611686018427387904)) (.t 13), none, [], []⟩,
  ⟨some 4, .mov (.t 14), none, [], []⟩] false)
 .ret)))
def i58 : F := ⟨2, 15, j58, [.t 4]⟩
theorem b58 : i58.body = j58 := rfl
theorem q58 : i58.res = [.t 4] := rfl
theorem c58 : chkF Try.prog Try.f58 i58 = true := by kernel_rfl
theorem s58 {m : Model} {E : Nat → Model} (hE : ∀ f, Sound Try.prog f (E f)) (hm : ∀ args r, m args = some r → ∃ N, i58.ev E N args = some r) : Sound Try.prog 58 m := sound_of i58 Try.func58 rfl c58 hE hm
/-- bellwether/bellwetherref01.Topic -/
def j59 : C := (.seq (.region [⟨some 2, .mov (.c (.int .i64 0)), none, [], []⟩] false)
 (.seq (.region [⟨some 3, .bsl 3 1 4 [.int .i64 0] [(0, (.c (.int .i64 1462484242049070477))), (1, (.c (.int .i64 1775212608919665246))), (2, (.c (.int .i64 3535639072113518480))), (3, (.c (.int .i64 3725500155902745375)))], none, [], []⟩,
  ⟨some 4, .mov (.t 0), none, [], []⟩,
  ⟨some 5, .iad 1 (.t 3) (.t 4), none, [], []⟩,
  ⟨some 6, .load false 1 (.t 5), none, [], []⟩,
  ⟨some 2, .mov (.t 6), none, [], []⟩] false)
 .ret))
def i59 : F := ⟨1, 7, j59, [.t 2]⟩
theorem b59 : i59.body = j59 := rfl
theorem q59 : i59.res = [.t 2] := rfl
theorem c59 : chkF Try.prog Try.f59 i59 = true := by kernel_rfl
theorem s59 {m : Model} {E : Nat → Model} (hE : ∀ f, Sound Try.prog f (E f)) (hm : ∀ args r, m args = some r → ∃ N, i59.ev E N args = some r) : Sound Try.prog 59 m := sound_of i59 Try.func59 rfl c59 hE hm
/-- bellwether/bellwetherref01.Node -/
def j60 : C := (.seq (.region [⟨some 2, .mov (.c (.int .i64 0)), none, [], []⟩] false)
 (.seq (.region [⟨some 3, .bsl 3 1 8 [.int .i64 0] [(0, (.c (.int .i64 2342812313538366385))), (1, (.c (.int .i64 1863050908023769503))), (2, (.c (.int .i64 81111313352671826))), (3, (.c (.int .i64 2434324899588211290))), (4, (.c (.int .i64 2454816673080883147))), (5, (.c (.int .i64 1342378062264523301))), (6, (.c (.int .i64 820659310660760249))), (7, (.c (.int .i64 2006264061484817761)))], none, [], []⟩,
  ⟨some 4, .mov (.t 0), none, [], []⟩,
  ⟨some 5, .iad 1 (.t 3) (.t 4), none, [], []⟩,
  ⟨some 6, .load false 1 (.t 5), none, [], []⟩,
  ⟨some 2, .mov (.t 6), none, [], []⟩] false)
 .ret))
def i60 : F := ⟨1, 7, j60, [.t 2]⟩
theorem b60 : i60.body = j60 := rfl
theorem q60 : i60.res = [.t 2] := rfl
theorem c60 : chkF Try.prog Try.f60 i60 = true := by kernel_rfl
theorem s60 {m : Model} {E : Nat → Model} (hE : ∀ f, Sound Try.prog f (E f)) (hm : ∀ args r, m args = some r → ∃ N, i60.ev E N args = some r) : Sound Try.prog 60 m := sound_of i60 Try.func60 rfl c60 hE hm
/-- slices.IndexFunc   int int  -/
def j62 : C := (.seq (.region [⟨some 4, .mov (.c (.int .i64 0)), none, [], []⟩] false)
 (.seq (.seq (.region [⟨some 6, .mov (.t 0), none, [], []⟩,
  ⟨some 7, .len (.t 6), none, [], []⟩,
  ⟨some 8, .mov (.c (.int .i64 0)), none, [], []⟩] false)
 (.block 0 (.loop (.keep [0, 1, 7, 8] (.seq (.region [⟨some 9, .bin .lss (.t 8) (.t 7), none, [], []⟩] false)
 (.seq (.cond (.t 9) .skip (.exit 0))
 (.seq (.block 1 (.seq (.region [⟨some 10, .mov (.t 8), none, [], []⟩,
  ⟨some 5, .mov (.t 10), none, [], []⟩] false)
 (.seq (.region [⟨some 11, .mov (.t 1), none, [], []⟩,
  ⟨some 12, .mov (.t 0), none, [], []⟩,
  ⟨some 13, .mov (.t 5), none, [], []⟩,
  ⟨some 14, .iad 1 (.t 12) (.t 13), none, [], []⟩,
  ⟨some 15, .load false 1 (.t 14), none, [], []⟩,
  ⟨some 16, .callv false (.t 11) [(.t 15)], none, [], []⟩] false)
 (.cond (.t 16) (.seq (.region [⟨some 17, .mov (.t 5), none, [], []⟩,
  ⟨some 4, .mov (.t 17), none, [], []⟩] false)
 .ret) .skip))))
 (.region [⟨some 18, .bin .add (.t 8) (.c (.int .i64 1)), none, [], []⟩,
  ⟨some 8, .mov (.t 18), none, [], []⟩] false))))))))
 (.seq (.region [⟨some 4, .mov (.c (.int .i64 (-1))), none, [], []⟩] false)
 .ret)))
def i62 : F := ⟨2, 19, j62, [.t 4]⟩
theorem b62 : i62.body = j62 := rfl
theorem q62 : i62.res = [.t 4] := rfl
theorem c62 : chkF Try.prog Try.f62 i62 = true := by kernel_rfl
theorem s62 {m : Model} {E : Nat → Model} (hE : ∀ f, Sound Try.prog f (E f)) (hm : ∀ args r, m args = some r → ∃ N, i62.ev E N args = some r) : Sound Try.prog 62 m := sound_of i62 Try.func62 rfl c62 hE hm
def xt : List (Nat × Model) := [(29, cloneM 35 3 24), (44, XI.insM 35 3 24)]
def tb : List (Nat × F) := [(3, i3), (4, i4), (5, i5), (6, i6), (7, i7), (8, i8), (9, i9), (10, i10), (11, i11), (12, i12), (13, i13), (14, i14), (15, i15), (16, i16), (17, i17), (18, i18), (19, i19), (20, i20), (21, i21), (22, i22), (23, i23), (24, i24), (25, i25), (26, i26), (27, i27), (28, i28), (30, i30), (31, i31), (32, i32), (33, i33), (34, i34), (35, i35), (36, i36), (37, i37), (38, i38), (39, i39), (40, i40), (41, i41), (42, i42), (43, i43), (45, i45), (46, i46), (47, i47), (48, i48), (49, i49), (52, i52), (53, i53), (54, i54), (55, i55), (56, i56), (57, i57), (58, i58), (59, i59), (60, i60), (62, i62)]
theorem xt_ok : ∀ p ∈ xt, Sound Try.prog p.1 p.2 := all_cons x29 (all_cons x44 (all_nil))
theorem tb_ok (N : Nat) : ∀ p ∈ tb, ∀ E : Nat → Model, (∀ f, Sound Try.prog f (E f)) → Sound Try.prog p.1 (p.2.ev E N) := all_cons (fun E hE => s3 hE fun _ _ h => ⟨N, h⟩) (all_cons (fun E hE => s4 hE fun _ _ h => ⟨N, h⟩) (all_cons (fun E hE => s5 hE fun _ _ h => ⟨N, h⟩) (all_cons (fun E hE => s6 hE fun _ _ h => ⟨N, h⟩) (all_cons (fun E hE => s7 hE fun _ _ h => ⟨N, h⟩) (all_cons (fun E hE => s8 hE fun _ _ h => ⟨N, h⟩) (all_cons (fun E hE => s9 hE fun _ _ h => ⟨N, h⟩) (all_cons (fun E hE => s10 hE fun _ _ h => ⟨N, h⟩) (all_cons (fun E hE => s11 hE fun _ _ h => ⟨N, h⟩) (all_cons (fun E hE => s12 hE fun _ _ h => ⟨N, h⟩) (all_cons (fun E hE => s13 hE fun _ _ h => ⟨N, h⟩) (all_cons (fun E hE => s14 hE fun _ _ h => ⟨N, h⟩) (all_cons (fun E hE => s15 hE fun _ _ h => ⟨N, h⟩) (all_cons (fun E hE => s16 hE fun _ _ h => ⟨N, h⟩) (all_cons (fun E hE => s17 hE fun _ _ h => ⟨N, h⟩) (all_cons (fun E hE => s18 hE fun _ _ h => ⟨N, h⟩) (all_cons (fun E hE => s19 hE fun _ _ h => ⟨N, h⟩) (all_cons (fun E hE => s20 hE fun _ _ h => ⟨N, h⟩) (all_cons (fun E hE => s21 hE fun _ _ h => ⟨N, h⟩) (all_cons (fun E hE => s22 hE fun _ _ h => ⟨N, h⟩) (all_cons (fun E hE => s23 hE fun _ _ h => ⟨N, h⟩) (all_cons (fun E hE => s24 hE fun _ _ h => ⟨N, h⟩) (all_cons (fun E hE => s25 hE fun _ _ h => ⟨N, h⟩) (all_cons (fun E hE => s26 hE fun _ _ h => ⟨N, h⟩) (all_cons (fun E hE => s27 hE fun _ _ h => ⟨N, h⟩) (all_cons (fun E hE => s28 hE fun _ _ h => ⟨N, h⟩) (all_cons (fun E hE => s30 hE fun _ _ h => ⟨N, h⟩) (all_cons (fun E hE => s31 hE fun _ _ h => ⟨N, h⟩) (all_cons (fun E hE => s32 hE fun _ _ h => ⟨N, h⟩) (all_cons (fun E hE => s33 hE fun _ _ h => ⟨N, h⟩) (all_cons (fun E hE => s34 hE fun _ _ h => ⟨N, h⟩) (all_cons (fun E hE => s35 hE fun _ _ h => ⟨N, h⟩) (all_cons (fun E hE => s36 hE fun _ _ h => ⟨N, h⟩) (all_cons (fun E hE => s37 hE fun _ _ h => ⟨N, h⟩) (all_cons (fun E hE => s38 hE fun _ _ h => ⟨N, h⟩) (all_cons (fun E hE => s39 hE fun _ _ h => ⟨N, h⟩) (all_cons (fun E hE => s40 hE fun _ _ h => ⟨N, h⟩) (all_cons (fun E hE => s41 hE fun _ _ h => ⟨N, h⟩) (all_cons (fun E hE => s42 hE fun _ _ h => ⟨N, h⟩) (all_cons (fun E hE => s43 hE fun _ _ h => ⟨N, h⟩) (all_cons (fun E hE => s45 hE fun _ _ h => ⟨N, h⟩) (all_cons (fun E hE => s46 hE fun _ _ h => ⟨N, h⟩) (all_cons (fun E hE => s47 hE fun _ _ h => ⟨N, h⟩) (all_cons (fun E hE => s48 hE fun _ _ h => ⟨N, h⟩) (all_cons (fun E hE => s49 hE fun _ _ h => ⟨N, h⟩) (all_cons (fun E hE => s52 hE fun _ _ h => ⟨N, h⟩) (all_cons (fun E hE => s53 hE fun _ _ h => ⟨N, h⟩) (all_cons (fun E hE => s54 hE fun _ _ h => ⟨N, h⟩) (all_cons (fun E hE => s55 hE fun _ _ h => ⟨N, h⟩) (all_cons (fun E hE => s56 hE fun _ _ h => ⟨N, h⟩) (all_cons (fun E hE => s57 hE fun _ _ h => ⟨N, h⟩) (all_cons (fun E hE => s58 hE fun _ _ h => ⟨N, h⟩) (all_cons (fun E hE => s59 hE fun _ _ h => ⟨N, h⟩) (all_cons (fun E hE => s60 hE fun _ _ h => ⟨N, h⟩) (all_cons (fun E hE => s62 hE fun _ _ h => ⟨N, h⟩) (all_nil)))))))))))))))))))))))))))))))))))))))))))))))))))))))
abbrev TT := T xt tb
theorem TT_ok (N d f : Nat) : Sound Try.prog f (TT N d f) := T_ok xt_ok (tb_ok N) d f
theorem t3 (N d : Nat) : TT N (d + 1) 3 = i3.ev (TT N d) N := rfl
theorem t4 (N d : Nat) : TT N (d + 1) 4 = i4.ev (TT N d) N := rfl
theorem t5 (N d : Nat) : TT N (d + 1) 5 = i5.ev (TT N d) N := rfl
theorem t6 (N d : Nat) : TT N (d + 1) 6 = i6.ev (TT N d) N := rfl
theorem t7 (N d : Nat) : TT N (d + 1) 7 = i7.ev (TT N d) N := rfl
theorem t8 (N d : Nat) : TT N (d + 1) 8 = i8.ev (TT N d) N := rfl
theorem t9 (N d : Nat) : TT N (d + 1) 9 = i9.ev (TT N d) N := rfl
theorem t10 (N d : Nat) : TT N (d + 1) 10 = i10.ev (TT N d) N := rfl
theorem t11 (N d : Nat) : TT N (d + 1) 11 = i11.ev (TT N d) N := rfl
theorem t12 (N d : Nat) : TT N (d + 1) 12 = i12.ev (TT N d) N := rfl
theorem t13 (N d : Nat) : TT N (d + 1) 13 = i13.ev (TT N d) N := rfl
theorem t14 (N d : Nat) : TT N (d + 1) 14 = i14.ev (TT N d) N := rfl
theorem t15 (N d : Nat) : TT N (d + 1) 15 = i15.ev (TT N d) N := rfl
theorem t16 (N d : Nat) : TT N (d + 1) 16 = i16.ev (TT N d) N := rfl
theorem t17 (N d : Nat) : TT N (d + 1) 17 = i17.ev (TT N d) N := rfl
theorem t18 (N d : Nat) : TT N (d + 1) 18 = i18.ev (TT N d) N := rfl
theorem t19 (N d : Nat) : TT N (d + 1) 19 = i19.ev (TT N d) N := rfl
theorem t20 (N d : Nat) : TT N (d + 1) 20 = i20.ev (TT N d) N := rfl
theorem t21 (N d : Nat) : TT N (d + 1) 21 = i21.ev (TT N d) N := rfl
theorem t22 (N d : Nat) : TT N (d + 1) 22 = i22.ev (TT N d) N := rfl
theorem t23 (N d : Nat) : TT N (d + 1) 23 = i23.ev (TT N d) N := rfl
theorem t24 (N d : Nat) : TT N (d + 1) 24 = i24.ev (TT N d) N := rfl
theorem t25 (N d : Nat) : TT N (d + 1) 25 = i25.ev (TT N d) N := rfl
theorem t26 (N d : Nat) : TT N (d + 1) 26 = i26.ev (TT N d) N := rfl
theorem t27 (N d : Nat) : TT N (d + 1) 27 = i27.ev (TT N d) N := rfl
theorem t28 (N d : Nat) : TT N (d + 1) 28 = i28.ev (TT N d) N := rfl
theorem t30 (N d : Nat) : TT N (d + 1) 30 = i30.ev (TT N d) N := rfl
theorem t31 (N d : Nat) : TT N (d + 1) 31 = i31.ev (TT N d) N := rfl
theorem t32 (N d : Nat) : TT N (d + 1) 32 = i32.ev (TT N d) N := rfl
theorem t33 (N d : Nat) : TT N (d + 1) 33 = i33.ev (TT N d) N := rfl
theorem t34 (N d : Nat) : TT N (d + 1) 34 = i34.ev (TT N d) N := rfl
theorem t35 (N d : Nat) : TT N (d + 1) 35 = i35.ev (TT N d) N := rfl
theorem t36 (N d : Nat) : TT N (d + 1) 36 = i36.ev (TT N d) N := rfl
theorem t37 (N d : Nat) : TT N (d + 1) 37 = i37.ev (TT N d) N := rfl
theorem t38 (N d : Nat) : TT N (d + 1) 38 = i38.ev (TT N d) N := rfl
theorem t39 (N d : Nat) : TT N (d + 1) 39 = i39.ev (TT N d) N := rfl
theorem t40 (N d : Nat) : TT N (d + 1) 40 = i40.ev (TT N d) N := rfl
theorem t41 (N d : Nat) : TT N (d + 1) 41 = i41.ev (TT N d) N := rfl
theorem t42 (N d : Nat) : TT N (d + 1) 42 = i42.ev (TT N d) N := rfl
theorem t43 (N d : Nat) : TT N (d + 1) 43 = i43.ev (TT N d) N := rfl
theorem t45 (N d : Nat) : TT N (d + 1) 45 = i45.ev (TT N d) N := rfl
theorem t46 (N d : Nat) : TT N (d + 1) 46 = i46.ev (TT N d) N := rfl
theorem t47 (N d : Nat) : TT N (d + 1) 47 = i47.ev (TT N d) N := rfl
theorem t48 (N d : Nat) : TT N (d + 1) 48 = i48.ev (TT N d) N := rfl
theorem t49 (N d : Nat) : TT N (d + 1) 49 = i49.ev (TT N d) N := rfl
theorem t52 (N d : Nat) : TT N (d + 1) 52 = i52.ev (TT N d) N := rfl
theorem t53 (N d : Nat) : TT N (d + 1) 53 = i53.ev (TT N d) N := rfl
theorem t54 (N d : Nat) : TT N (d + 1) 54 = i54.ev (TT N d) N := rfl
theorem t55 (N d : Nat) : TT N (d + 1) 55 = i55.ev (TT N d) N := rfl
theorem t56 (N d : Nat) : TT N (d + 1) 56 = i56.ev (TT N d) N := rfl
theorem t57 (N d : Nat) : TT N (d + 1) 57 = i57.ev (TT N d) N := rfl
theorem t58 (N d : Nat) : TT N (d + 1) 58 = i58.ev (TT N d) N := rfl
theorem t59 (N d : Nat) : TT N (d + 1) 59 = i59.ev (TT N d) N := rfl
theorem t60 (N d : Nat) : TT N (d + 1) 60 = i60.ev (TT N d) N := rfl
theorem t62 (N d : Nat) : TT N (d + 1) 62 = i62.ev (TT N d) N := rfl
theorem t29 (N d : Nat) : TT N (d + 1) 29 = cloneM 35 3 24 := rfl
theorem t44 (N d : Nat) : TT N (d + 1) 44 = XI.insM 35 3 24 := rfl
end Go.Proofs.Ytbnommmnflmaaaa.IK
