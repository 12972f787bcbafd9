/- Functions of the program in the evaluator's form, each checked against the program (written by wip/prog/irgen.py). -/
import Derived.Test.YtgjacdfiilcaaaaProg
import Derived.Test.YtgjacdfiilcaaaaR22
set_option maxRecDepth 100000
set_option linter.unusedSimpArgs false
set_option linter.unusedVariables false
namespace Go.Proofs.Ytgjacdfiilcaaaa.IW
open Go Go.Proofs.YtgjacdfiilcaaaaR
/-- bellwether/bellwetherlaw05.CrcBack -/
def j3 : C := (.seq (.region [⟨some 5, .box (.t 2), none, [], []⟩,
  ⟨some 6, .mov (.c (.bool false)), none, [], []⟩] false)
 (.seq (.seq (.region [⟨some 14, .mov (.t 0), none, [], []⟩,
  ⟨some 15, .len (.t 14), none, [], []⟩,
  ⟨some 16, .bin .gtr (.t 15) (.c (.int .i64 400)), none, [], []⟩] false)
 (.cond (.t 16) (.seq (.region [⟨some 6, .mov (.c (.bool true)), none, [], []⟩] false)
 .ret) .skip))
 (.seq (.region [⟨some 17, .mov (.t 0), none, [], []⟩,
  ⟨some 18, .call true 8 [(.t 17)], none, [], []⟩,
  ⟨some 7, .mov (.t 18), none, [], []⟩] false)
 (.seq (.region [⟨some 20, .mov (.t 7), none, [], []⟩,
  ⟨some 21, .call false 9 [(.t 20)], none, [], []⟩,
  ⟨some 19, .mov (.t 21), none, [], []⟩,
  ⟨some 22, .ext (.t 19) 0, none, [], []⟩,
  ⟨some 23, .ext (.t 19) 1, none, [], []⟩,
  ⟨some 8, .mov (.t 22), none, [], []⟩,
  ⟨some 9, .mov (.t 23), none, [], []⟩] false)
 (.seq (.seq (.region [⟨some 24, .mov (.t 9), none, [], []⟩,
  ⟨some 25, .bin .neq (.t 24) (.c (.int .i64 0)), none, [], []⟩,
  ⟨some 26, .mov (.t 25), none, [], []⟩,
  ⟨some 27, .mov (.t 8), some (26, false), [], []⟩,
  ⟨some 28, .mov (.t 0), some (26, false), [], []⟩,
  ⟨some 29, .call false 10 [(.t 27), (.t 28)], some (26, false), [], []⟩,
  ⟨some 30, .un .not (.t 29), some (26, false), [], []⟩,
  ⟨some 31, .pick (.t 26) (.c (.bool true)) (.t 30), none, [], []⟩,
  ⟨some 32, .mov (.t 31), none, [], []⟩,
  ⟨some 33, .mov (.t 7), some (32, false), [], []⟩,
  ⟨some 34, .len (.t 33), some (32, false), [], []⟩,
  ⟨some 35, .mov (.t 0), some (32, false), [], []⟩,
  ⟨some 36, .len (.t 35), some (32, false), [], []⟩,
  ⟨some 37, .bin .add (.t 36) (.c (.int .i64 4)), some (32, false), [], []⟩,
  ⟨some 38, .bin .neq (.t 34) (.t 37), some (32, false), [], []⟩,
  ⟨some 39, .pick (.t 32) (.c (.bool true)) (.t 38), none, [], []⟩] false)
 (.cond (.t 39) (.seq (.region [⟨some 6, .mov (.c (.bool false)), none, [], []⟩] false)
 .ret) .skip))
 (.seq (.region [⟨some 40, .mov (.t 1), none, [], []⟩,
  ⟨some 41, .conv .u64 (.t 40), none, [], []⟩,
  ⟨some 42, .mov (.t 7), none, [], []⟩,
  ⟨some 43, .len (.t 42), none, [], []⟩,
  ⟨some 44, .bin .sub (.t 43) (.c (.int .i64 3)), none, [], []⟩,
  ⟨some 45, .conv .u64 (.t 44), none, [], []⟩,
  ⟨some 46, .bin .rem (.t 41) (.t 45), none, [], []⟩,
  ⟨some 47, .conv .i64 (.t 46), none, [], []⟩,
  ⟨some 1, .mov (.t 47), none, [], []⟩] false)
 (.seq (.region [⟨some 10, .mov (.c (.bool false)), none, [], []⟩] false)
 (.seq (.seq (.region [⟨some 11, .mov (.c (.int .i64 0)), none, [], []⟩] false)
 (.block 0 (.loop (.keep [1, 5, 7, 10, 11] (.seq (.seq (.region [⟨some 48, .mov (.t 11), none, [], []⟩,
  ⟨some 49, .bin .lss (.t 48) (.c (.int .i64 4)), none, [], []⟩] false)
 (.cond (.t 49) .skip (.exit 0)))
 (.seq (.block 1 (.seq (.region [⟨some 52, .mov (.t 7), none, [53, 54, 55, 56, 57, 58, 59, 60, 61, 62, 63, 64, 65], []⟩,
  ⟨some 53, .mov (.t 1), none, [52, 54, 56, 57, 58, 59, 60, 61, 62, 63, 64, 65], []⟩,
  ⟨some 54, .mov (.t 11), none, [52, 53, 56, 57, 58, 59, 60, 61, 62, 63, 64, 65], []⟩,
  ⟨some 55, .bin .add (.t 53) (.t 54), none, [52, 56, 57, 58, 59, 60, 61, 62, 63, 64, 65], [1, 2]⟩,
  ⟨some 56, .mov (.t 7), none, [52, 53, 54, 55, 57, 58, 59, 62, 63, 64], []⟩,
  ⟨some 57, .mov (.t 1), none, [52, 53, 54, 55, 56, 58, 62, 63, 64], []⟩,
  ⟨some 58, .mov (.t 11), none, [52, 53, 54, 55, 56, 57, 62, 63, 64], []⟩,
  ⟨some 59, .bin .add (.t 57) (.t 58), none, [52, 53, 54, 55, 56, 62, 63, 64], [5, 6]⟩,
  ⟨some 60, .iad 1 (.t 56) (.t 59), none, [52, 53, 54, 55, 62, 63, 64], [4, 5, 6, 7]⟩,
  ⟨some 61, .load false 1 (.t 60), none, [52, 53, 54, 55, 62, 63, 64], [4, 5, 6, 7, 8]⟩,
  ⟨some 62, .mov (.t 11), none, [52, 53, 54, 55, 56, 57, 58, 59, 60, 61], []⟩,
  ⟨some 63, .iada 1 4 (.t 5) (.t 62), none, [52, 53, 54, 55, 56, 57, 58, 59, 60, 61], [10]⟩,
  ⟨some 64, .load false 1 (.t 63), none, [52, 53, 54, 55, 56, 57, 58, 59, 60, 61], [10, 11]⟩,
  ⟨some 65, .bin .xor (.t 61) (.t 64), none, [52, 53, 54, 55], [4, 5, 6, 7, 8, 9, 10, 11, 12]⟩,
  ⟨some 66, .iad 1 (.t 52) (.t 55), none, [], [0, 1, 2, 3, 4, 5, 6, 7, 8, 9, 10, 11, 12, 13]⟩,
  ⟨none, .store none 1 (.t 66) (.t 65), none, [], [0, 1, 2, 3, 4, 5, 6, 7, 8, 9, 10, 11, 12, 13, 14]⟩] true)
 (.region [⟨some 67, .mov (.t 10), none, [], []⟩,
  ⟨some 68, .mov (.t 67), none, [], []⟩,
  ⟨some 69, .mov (.t 11), some (68, false), [], []⟩,
  ⟨some 70, .iada 1 4 (.t 5) (.t 69), some (68, false), [], []⟩,
  ⟨some 71, .load false 1 (.t 70), some (68, false), [], []⟩,
  ⟨some 72, .bin .neq (.t 71) (.c (.int .u8 0)), some (68, false), [], []⟩,
  ⟨some 73, .pick (.t 68) (.c (.bool true)) (.t 72), none, [], []⟩,
  ⟨some 10, .mov (.t 73), none, [], []⟩] false)))
 (.region [⟨some 50, .mov (.t 11), none, [], []⟩,
  ⟨some 51, .bin .add (.t 50) (.c (.int .i64 1)), none, [], []⟩,
  ⟨some 11, .mov (.t 51), none, [], []⟩] false)))))))
 (.seq (.region [⟨some 75, .mov (.t 7), none, [], []⟩,
  ⟨some 76, .call false 9 [(.t 75)], none, [], []⟩,
  ⟨some 74, .mov (.t 76), none, [], []⟩,
  ⟨some 77, .ext (.t 74) 0, none, [], []⟩,
  ⟨some 78, .ext (.t 74) 1, none, [], []⟩,
  ⟨some 12, .mov (.t 77), none, [], []⟩,
  ⟨some 13, .mov (.t 78), none, [], []⟩] false)
 (.seq (.region [⟨some 79, .mov (.t 13), none, [], []⟩,
  ⟨some 80, .bin .eql (.t 79) (.c (.int .i64 0)), none, [], []⟩,
  ⟨some 81, .mov (.t 10), none, [], []⟩,
  ⟨some 82, .un .not (.t 81), none, [], []⟩,
  ⟨some 83, .eqb false (.t 80) (.t 82), none, [], []⟩,
  ⟨some 84, .mov (.t 83), none, [], []⟩,
  ⟨some 85, .mov (.t 13), some (84, true), [], []⟩,
  ⟨some 86, .bin .eql (.t 85) (.c (.int .i64 0)), some (84, true), [], []⟩,
  ⟨some 87, .mov (.t 86), some (84, true), [], []⟩,
  ⟨some 88, .mov (.t 13), some (87, false), [], []⟩,
  ⟨some 89, .bin .eql (.t 88) (.c (.int .i64 4)), some (87, false), [], []⟩,
  ⟨some 90, .mov (.t 89), some (87, false), [], []⟩,
  ⟨some 91, .mov (.t 12), some (90, true), [], []⟩,
  ⟨some 92, .len (.t 91), some (90, true), [], []⟩,
  ⟨some 93, .bin .eql (.t 92) (.c (.int .i64 0)), some (90, true), [], []⟩,
  ⟨some 94, .pick (.t 90) (.t 93) (.c (.bool false)), some (87, false), [], []⟩,
  ⟨some 95, .pick (.t 87) (.c (.bool true)) (.t 94), some (84, true), [], []⟩,
  ⟨some 96, .pick (.t 84) (.t 95) (.c (.bool false)), none, [], []⟩,
  ⟨some 97, .mov (.t 96), none, [], []⟩,
  ⟨some 98, .call false 11 [], some (97, true), [], []⟩,
  ⟨some 99, .pick (.t 97) (.t 98) (.c (.bool false)), none, [], []⟩,
  ⟨some 6, .mov (.t 99), none, [], []⟩] false)
 .ret))))))))))
def i3 : F := ⟨3, 100, j3, [.t 6]⟩
theorem b3 : i3.body = j3 := rfl
theorem q3 : i3.res = [.t 6] := rfl
theorem c3 : chkF Try.prog Try.f3 i3 = true := by kernel_rfl
theorem s3 {m : Model} {E : Nat → Model} (hE : ∀ f, Sound Try.prog f (E f)) (hm : ∀ args r, m args = some r → ∃ N, i3.ev E N args = some r) : Sound Try.prog 3 m := sound_of i3 Try.func3 rfl c3 hE hm
/-- bellwether/bellwetherlaw07.WireExact -/
def j4 : C := (.seq (.region [⟨some 2, .box (.t 0), none, [], []⟩,
  ⟨some 4, .mov (.c (.bool false)), none, [], []⟩] false)
 (.seq (.seq (.region [⟨some 13, .load true 16 (.t 2), none, [], []⟩,
  ⟨some 14, .call false 12 [(.t 13)], none, [], []⟩,
  ⟨some 15, .mov (.t 14), none, [], []⟩,
  ⟨some 16, .mov (.t 1), some (15, false), [], []⟩,
  ⟨some 17, .len (.t 16), some (15, false), [], []⟩,
  ⟨some 18, .bin .gtr (.t 17) (.c (.int .i64 200)), some (15, false), [], []⟩,
  ⟨some 19, .pick (.t 15) (.c (.bool true)) (.t 18), none, [], []⟩] false)
 (.cond (.t 19) (.seq (.region [⟨some 4, .mov (.c (.bool true)), none, [], []⟩] false)
 .ret) .skip))
 (.seq (.region [⟨some 20, .load true 16 (.t 2), none, [], []⟩,
  ⟨some 21, .call false 13 [(.t 20)], none, [], []⟩,
  ⟨some 22, .mov (.t 1), none, [], []⟩,
  ⟨some 23, .call false 14 [(.t 22)], none, [], []⟩,
  ⟨some 5, .alloc [.int .i64 0, .int .i64 0, .int .i64 0, .int .i64 0, .int .i64 0, .int .i64 0, .int .i64 0, .int .i64 0, .int .i64 0, .int .i64 0, .int .i64 0, .int .i64 0, .int .i64 0, .int .i64 0, .row [], .row []], none, [], []⟩,
  ⟨none, .store none 16 (.t 5) (.t 21), none, [], []⟩,
  ⟨some 6, .mov (.t 23), none, [], []⟩] false)
 (.seq (.region [⟨some 25, .load true 16 (.t 5), none, [], []⟩,
  ⟨some 26, .call false 15 [(.t 25)], none, [], []⟩,
  ⟨some 24, .mov (.t 26), none, [], []⟩,
  ⟨some 27, .ext (.t 24) 0, none, [], []⟩,
  ⟨some 28, .ext (.t 24) 1, none, [], []⟩,
  ⟨some 7, .mov (.t 27), none, [], []⟩,
  ⟨some 8, .mov (.t 28), none, [], []⟩] false)
 (.seq (.region [⟨some 30, .mov (.t 6), none, [], []⟩,
  ⟨some 31, .call false 16 [(.t 30)], none, [], []⟩,
  ⟨some 29, .mov (.t 31), none, [], []⟩,
  ⟨some 32, .ext (.t 29) 0, none, [], []⟩,
  ⟨some 33, .ext (.t 29) 1, none, [], []⟩,
  ⟨some 9, .alloc [.int .i64 0, .int .i64 0, .int .i64 0, .int .i64 0, .int .i64 0, .int .i64 0, .int .i64 0, .int .i64 0, .int .i64 0, .int .i64 0, .int .i64 0, .int .i64 0, .int .i64 0, .int .i64 0, .row [], .row []], none, [], []⟩,
  ⟨none, .store none 16 (.t 9) (.t 32), none, [], []⟩,
  ⟨some 10, .mov (.t 33), none, [], []⟩] false)
 (.seq (.region [⟨some 35, .mov (.t 1), none, [], []⟩,
  ⟨some 36, .call false 17 [(.t 35)], none, [], []⟩,
  ⟨some 34, .mov (.t 36), none, [], []⟩,
  ⟨some 37, .ext (.t 34) 0, none, [], []⟩,
  ⟨some 38, .ext (.t 34) 1, none, [], []⟩,
  ⟨some 11, .alloc [.int .i64 0, .int .i64 0, .int .i64 0, .int .i64 0, .int .i64 0, .int .i64 0, .int .i64 0, .int .i64 0, .int .i64 0, .int .i64 0, .int .i64 0, .int .i64 0, .int .i64 0, .int .i64 0, .row [], .row []], none, [], []⟩,
  ⟨none, .store none 16 (.t 11) (.t 37), none, [], []⟩,
  ⟨some 12, .mov (.t 38), none, [], []⟩] false)
 (.seq (.seq (.region [⟨some 39, .mov (.t 10), none, [], []⟩,
  ⟨some 40, .mov (.t 12), none, [], []⟩,
  ⟨some 41, .bin .neq (.t 39) (.t 40), none, [], []⟩,
  ⟨some 42, .mov (.t 41), none, [], []⟩,
  ⟨some 43, .load true 16 (.t 9), some (42, false), [], []⟩,
  ⟨some 44, .load true 16 (.t 11), some (42, false), [], []⟩,
  ⟨some 45, .call false 18 [(.t 43), (.t 44)], some (42, false), [], []⟩,
  ⟨some 46, .un .not (.t 45), some (42, false), [], []⟩,
  ⟨some 47, .pick (.t 42) (.c (.bool true)) (.t 46), none, [], []⟩,
  ⟨some 48, .mov (.t 47), none, [], []⟩,
  ⟨some 49, .load true 16 (.t 5), some (48, false), [], []⟩,
  ⟨some 50, .load true 16 (.t 2), some (48, false), [], []⟩,
  ⟨some 51, .call false 18 [(.t 49), (.t 50)], some (48, false), [], []⟩,
  ⟨some 52, .un .not (.t 51), some (48, false), [], []⟩,
  ⟨some 53, .pick (.t 48) (.c (.bool true)) (.t 52), none, [], []⟩,
  ⟨some 54, .mov (.t 53), none, [], []⟩,
  ⟨some 55, .mov (.t 6), some (54, false), [], []⟩,
  ⟨some 56, .mov (.t 1), some (54, false), [], []⟩,
  ⟨some 57, .call false 10 [(.t 55), (.t 56)], some (54, false), [], []⟩,
  ⟨some 58, .un .not (.t 57), some (54, false), [], []⟩,
  ⟨some 59, .pick (.t 54) (.c (.bool true)) (.t 58), none, [], []⟩] false)
 (.cond (.t 59) (.seq (.region [⟨some 4, .mov (.c (.bool false)), none, [], []⟩] false)
 .ret) .skip))
 (.seq (.seq (.region [⟨some 60, .load true 16 (.t 2), none, [], []⟩,
  ⟨some 61, .call false 19 [(.t 60)], none, [], []⟩,
  ⟨some 62, .un .not (.t 61), none, [], []⟩] false)
 (.cond (.t 62) (.seq (.region [⟨some 63, .mov (.t 8), none, [], []⟩,
  ⟨some 64, .bin .eql (.t 63) (.c (.int .i64 5)), none, [], []⟩,
  ⟨some 65, .mov (.t 64), none, [], []⟩,
  ⟨some 66, .mov (.t 7), some (65, true), [], []⟩,
  ⟨some 67, .len (.t 66), some (65, true), [], []⟩,
  ⟨some 68, .bin .eql (.t 67) (.c (.int .i64 0)), some (65, true), [], []⟩,
  ⟨some 69, .pick (.t 65) (.t 68) (.c (.bool false)), none, [], []⟩,
  ⟨some 70, .mov (.t 69), none, [], []⟩,
  ⟨some 71, .call false 20 [], some (70, true), [], []⟩,
  ⟨some 72, .pick (.t 70) (.t 71) (.c (.bool false)), none, [], []⟩,
  ⟨some 4, .mov (.t 72), none, [], []⟩] false)
 .ret) .skip))
 (.seq (.region [⟨some 73, .mov (.t 8), none, [], []⟩,
  ⟨some 74, .bin .eql (.t 73) (.c (.int .i64 0)), none, [], []⟩,
  ⟨some 75, .mov (.t 74), none, [], []⟩,
  ⟨some 76, .mov (.t 7), some (75, true), [], []⟩,
  ⟨some 77, .load true 16 (.t 2), some (75, true), [], []⟩,
  ⟨some 78, .call false 21 [(.t 77)], some (75, true), [], []⟩,
  ⟨some 79, .call false 10 [(.t 76), (.t 78)], some (75, true), [], []⟩,
  ⟨some 80, .pick (.t 75) (.t 79) (.c (.bool false)), none, [], []⟩,
  ⟨some 81, .mov (.t 80), none, [], []⟩,
  ⟨some 82, .call false 20 [], some (81, true), [], []⟩,
  ⟨some 83, .pick (.t 81) (.t 82) (.c (.bool false)), none, [], []⟩,
  ⟨some 4, .mov (.t 83), none, [], []⟩] false)
 .ret)))))))))
def i4 : F := ⟨2, 84, j4, [.t 4]⟩
theorem b4 : i4.body = j4 := rfl
theorem q4 : i4.res = [.t 4] := rfl
theorem c4 : chkF Try.prog Try.f4 i4 = true := by kernel_rfl
theorem s4 {m : Model} {E : Nat → Model} (hE : ∀ f, Sound Try.prog f (E f)) (hm : ∀ args r, m args = some r → ∃ N, i4.ev E N args = some r) : Sound Try.prog 4 m := sound_of i4 Try.func4 rfl c4 hE hm
/-- bellwether/bellwetherlaw07.WireBack -/
def j5 : C := (.seq (.region [⟨some 4, .box (.t 0), none, [], []⟩,
  ⟨some 5, .box (.t 1), none, [], []⟩,
  ⟨some 7, .box (.t 3), none, [], []⟩,
  ⟨some 8, .mov (.c (.bool false)), none, [], []⟩] false)
 (.seq (.seq (.region [⟨some 19, .load true 16 (.t 4), none, [], []⟩,
  ⟨some 20, .call false 12 [(.t 19)], none, [], []⟩,
  ⟨some 21, .mov (.t 20), none, [], []⟩,
  ⟨some 22, .load true 16 (.t 5), some (21, false), [], []⟩,
  ⟨some 23, .call false 12 [(.t 22)], some (21, false), [], []⟩,
  ⟨some 24, .pick (.t 21) (.c (.bool true)) (.t 23), none, [], []⟩] false)
 (.cond (.t 24) (.seq (.region [⟨some 8, .mov (.c (.bool true)), none, [], []⟩] false)
 .ret) .skip))
 (.seq (.region [⟨some 26, .load true 16 (.t 4), none, [], []⟩,
  ⟨some 27, .call true 15 [(.t 26)], none, [], []⟩,
  ⟨some 25, .mov (.t 27), none, [], []⟩,
  ⟨some 28, .ext (.t 25) 0, none, [], []⟩,
  ⟨some 29, .ext (.t 25) 1, none, [], []⟩,
  ⟨some 9, .mov (.t 28), none, [], []⟩,
  ⟨some 10, .mov (.t 29), none, [], []⟩] false)
 (.seq (.region [⟨some 31, .load true 16 (.t 5), none, [], []⟩,
  ⟨some 32, .call false 15 [(.t 31)], none, [], []⟩,
  ⟨some 30, .mov (.t 32), none, [], []⟩,
  ⟨some 33, .ext (.t 30) 0, none, [], []⟩,
  ⟨some 34, .ext (.t 30) 1, none, [], []⟩,
  ⟨some 11, .mov (.t 33), none, [], []⟩,
  ⟨some 12, .mov (.t 34), none, [], []⟩] false)
 (.seq (.seq (.region [⟨some 35, .mov (.t 10), none, [], []⟩,
  ⟨some 36, .bin .neq (.t 35) (.c (.int .i64 0)), none, [], []⟩,
  ⟨some 37, .mov (.t 36), none, [], []⟩,
  ⟨some 38, .mov (.t 12), some (37, false), [], []⟩,
  ⟨some 39, .bin .neq (.t 38) (.c (.int .i64 0)), some (37, false), [], []⟩,
  ⟨some 40, .pick (.t 37) (.c (.bool true)) (.t 39), none, [], []⟩] false)
 (.cond (.t 40) (.seq (.region [⟨some 41, .mov (.t 10), none, [], []⟩,
  ⟨some 42, .bin .eql (.t 41) (.c (.int .i64 0)), none, [], []⟩,
  ⟨some 43, .mov (.t 42), none, [], []⟩,
  ⟨some 44, .mov (.t 9), some (43, false), [], []⟩,
  ⟨some 45, .len (.t 44), some (43, false), [], []⟩,
  ⟨some 46, .bin .eql (.t 45) (.c (.int .i64 0)), some (43, false), [], []⟩,
  ⟨some 47, .pick (.t 43) (.c (.bool true)) (.t 46), none, [], []⟩,
  ⟨some 48, .mov (.t 47), none, [], []⟩,
  ⟨some 49, .mov (.t 12), some (48, true), [], []⟩,
  ⟨some 50, .bin .eql (.t 49) (.c (.int .i64 0)), some (48, true), [], []⟩,
  ⟨some 51, .mov (.t 50), some (48, true), [], []⟩,
  ⟨some 52, .mov (.t 11), some (51, false), [], []⟩,
  ⟨some 53, .len (.t 52), some (51, false), [], []⟩,
  ⟨some 54, .bin .eql (.t 53) (.c (.int .i64 0)), some (51, false), [], []⟩,
  ⟨some 55, .pick (.t 51) (.c (.bool true)) (.t 54), some (48, true), [], []⟩,
  ⟨some 56, .pick (.t 48) (.t 55) (.c (.bool false)), none, [], []⟩,
  ⟨some 57, .mov (.t 56), none, [], []⟩,
  ⟨some 58, .call false 20 [], some (57, true), [], []⟩,
  ⟨some 59, .pick (.t 57) (.t 58) (.c (.bool false)), none, [], []⟩,
  ⟨some 8, .mov (.t 59), none, [], []⟩] false)
 .ret) .skip))
 (.seq (.region [⟨some 61, .mov (.t 9), none, [], []⟩,
  ⟨some 62, .call false 16 [(.t 61)], none, [], []⟩,
  ⟨some 60, .mov (.t 62), none, [], []⟩,
  ⟨some 63, .ext (.t 60) 0, none, [], []⟩,
  ⟨some 64, .ext (.t 60) 1, none, [], []⟩,
  ⟨some 13, .alloc [.int .i64 0, .int .i64 0, .int .i64 0, .int .i64 0, .int .i64 0, .int .i64 0, .int .i64 0, .int .i64 0, .int .i64 0, .int .i64 0, .int .i64 0, .int .i64 0, .int .i64 0, .int .i64 0, .row [], .row []], none, [], []⟩,
  ⟨none, .store none 16 (.t 13) (.t 63), none, [], []⟩,
  ⟨some 14, .mov (.t 64), none, [], []⟩] false)
 (.seq (.seq (.region [⟨some 65, .mov (.t 14), none, [], []⟩,
  ⟨some 66, .bin .neq (.t 65) (.c (.int .i64 0)), none, [], [0]⟩,
  ⟨some 67, .mov (.t 66), none, [], [0, 1]⟩,
  ⟨some 68, .load true 16 (.t 13), some (67, false), [69], [0, 1, 2]⟩,
  ⟨some 69, .load true 16 (.t 4), some (67, false), [68], [0, 1, 2]⟩,
  ⟨some 70, .call false 18 [(.t 68), (.t 69)], some (67, false), [], [0, 1, 2, 3, 4]⟩,
  ⟨some 71, .un .not (.t 70), some (67, false), [], [0, 1, 2, 3, 4, 5]⟩,
  ⟨some 72, .pick (.t 67) (.c (.bool true)) (.t 71), none, [], [0, 1, 2, 3, 4, 5, 6]⟩,
  ⟨some 73, .mov (.t 72), none, [], [0, 1, 2, 3, 4, 5, 6, 7]⟩,
  ⟨some 74, .mov (.t 9), some (73, false), [75, 77, 78], [0, 1, 2, 3, 4, 5, 6, 7, 8]⟩,
  ⟨some 75, .mov (.t 11), some (73, false), [74, 77, 78], [0, 1, 2, 3, 4, 5, 6, 7, 8]⟩,
  ⟨some 76, .call false 10 [(.t 74), (.t 75)], some (73, false), [77, 78], [0, 1, 2, 3, 4, 5, 6, 7, 8, 9, 10]⟩,
  ⟨some 77, .load true 16 (.t 4), some (73, false), [74, 75, 76, 78], [0, 1, 2, 3, 4, 5, 6, 7, 8]⟩,
  ⟨some 78, .load true 16 (.t 5), some (73, false), [74, 75, 76, 77], [0, 1, 2, 3, 4, 5, 6, 7, 8]⟩,
  ⟨some 79, .call false 18 [(.t 77), (.t 78)], some (73, false), [], [0, 1, 2, 3, 4, 5, 6, 7, 8, 9, 10, 11, 12, 13]⟩,
  ⟨some 80, .eqb true (.t 76) (.t 79), some (73, false), [], [0, 1, 2, 3, 4, 5, 6, 7, 8, 9, 10, 11, 12, 13, 14]⟩,
  ⟨some 81, .pick (.t 73) (.c (.bool true)) (.t 80), none, [], [0, 1, 2, 3, 4, 5, 6, 7, 8, 9, 10, 11, 12, 13, 14, 15]⟩,
  ⟨some 82, .mov (.t 81), none, [], [0, 1, 2, 3, 4, 5, 6, 7, 8, 9, 10, 11, 12, 13, 14, 15, 16]⟩,
  ⟨some 83, .mov (.t 9), some (82, false), [], [0, 1, 2, 3, 4, 5, 6, 7, 8, 9, 10, 11, 12, 13, 14, 15, 16, 17]⟩,
  ⟨some 84, .len (.t 83), some (82, false), [], [0, 1, 2, 3, 4, 5, 6, 7, 8, 9, 10, 11, 12, 13, 14, 15, 16, 17, 18]⟩,
  ⟨some 85, .bin .lss (.t 84) (.c (.int .i64 48)), some (82, false), [], [0, 1, 2, 3, 4, 5, 6, 7, 8, 9, 10, 11, 12, 13, 14, 15, 16, 17, 18, 19]⟩,
  ⟨some 86, .pick (.t 82) (.c (.bool true)) (.t 85), none, [], [0, 1, 2, 3, 4, 5, 6, 7, 8, 9, 10, 11, 12, 13, 14, 15, 16, 17, 18, 19, 20]⟩,
  ⟨some 87, .mov (.t 86), none, [], [0, 1, 2, 3, 4, 5, 6, 7, 8, 9, 10, 11, 12, 13, 14, 15, 16, 17, 18, 19, 20, 21]⟩,
  ⟨some 88, .mov (.t 9), some (87, false), [], [0, 1, 2, 3, 4, 5, 6, 7, 8, 9, 10, 11, 12, 13, 14, 15, 16, 17, 18, 19, 20, 21, 22]⟩,
  ⟨some 89, .len (.t 88), some (87, false), [], [0, 1, 2, 3, 4, 5, 6, 7, 8, 9, 10, 11, 12, 13, 14, 15, 16, 17, 18, 19, 20, 21, 22, 23]⟩,
  ⟨some 90, .bin .gtr (.t 89) (.c (.int .i64 80)), some (87, false), [], [0, 1, 2, 3, 4, 5, 6, 7, 8, 9, 10, 11, 12, 13, 14, 15, 16, 17, 18, 19, 20, 21, 22, 23, 24]⟩,
  ⟨some 91, .pick (.t 87) (.c (.bool true)) (.t 90), none, [], [0, 1, 2, 3, 4, 5, 6, 7, 8, 9, 10, 11, 12, 13, 14, 15, 16, 17, 18, 19, 20, 21, 22, 23, 24, 25]⟩] true)
 (.cond (.t 91) (.seq (.region [⟨some 8, .mov (.c (.bool false)), none, [], []⟩] false)
 .ret) .skip))
 (.seq (.region [⟨some 92, .mov (.t 2), none, [], []⟩,
  ⟨some 93, .conv .u64 (.t 92), none, [], []⟩,
  ⟨some 94, .mov (.t 9), none, [], []⟩,
  ⟨some 95, .len (.t 94), none, [], []⟩,
  ⟨some 96, .bin .sub (.t 95) (.c (.int .i64 3)), none, [], []⟩,
  ⟨some 97, .conv .u64 (.t 96), none, [], []⟩,
  ⟨some 98, .bin .rem (.t 93) (.t 97), none, [], []⟩,
  ⟨some 99, .conv .i64 (.t 98), none, [], []⟩,
  ⟨some 2, .mov (.t 99), none, [], []⟩] false)
 (.seq (.region [⟨some 15, .mov (.c (.bool false)), none, [], []⟩] false)
 (.seq (.seq (.region [⟨some 16, .mov (.c (.int .i64 0)), none, [], []⟩] false)
 (.block 0 (.loop (.keep [2, 7, 9, 15, 16] (.seq (.seq (.region [⟨some 100, .mov (.t 16), none, [], []⟩,
  ⟨some 101, .bin .lss (.t 100) (.c (.int .i64 4)), none, [], []⟩] false)
 (.cond (.t 101) .skip (.exit 0)))
 (.seq (.block 1 (.seq (.region [⟨some 104, .mov (.t 9), none, [105, 106, 107, 108, 109, 110, 111, 112, 113, 114, 115, 116, 117], []⟩,
  ⟨some 105, .mov (.t 2), none, [104, 106, 108, 109, 110, 111, 112, 113, 114, 115, 116, 117], []⟩,
  ⟨some 106, .mov (.t 16), none, [104, 105, 108, 109, 110, 111, 112, 113, 114, 115, 116, 117], []⟩,
  ⟨some 107, .bin .add (.t 105) (.t 106), none, [104, 108, 109, 110, 111, 112, 113, 114, 115, 116, 117], [1, 2]⟩,
  ⟨some 108, .mov (.t 9), none, [104, 105, 106, 107, 109, 110, 111, 114, 115, 116], []⟩,
  ⟨some 109, .mov (.t 2), none, [104, 105, 106, 107, 108, 110, 114, 115, 116], []⟩,
  ⟨some 110, .mov (.t 16), none, [104, 105, 106, 107, 108, 109, 114, 115, 116], []⟩,
  ⟨some 111, .bin .add (.t 109) (.t 110), none, [104, 105, 106, 107, 108, 114, 115, 116], [5, 6]⟩,
  ⟨some 112, .iad 1 (.t 108) (.t 111), none, [104, 105, 106, 107, 114, 115, 116], [4, 5, 6, 7]⟩,
  ⟨some 113, .load false 1 (.t 112), none, [104, 105, 106, 107, 114, 115, 116], [4, 5, 6, 7, 8]⟩,
  ⟨some 114, .mov (.t 16), none, [104, 105, 106, 107, 108, 109, 110, 111, 112, 113], []⟩,
  ⟨some 115, .iada 1 4 (.t 7) (.t 114), none, [104, 105, 106, 107, 108, 109, 110, 111, 112, 113], [10]⟩,
  ⟨some 116, .load false 1 (.t 115), none, [104, 105, 106, 107, 108, 109, 110, 111, 112, 113], [10, 11]⟩,
  ⟨some 117, .bin .xor (.t 113) (.t 116), none, [104, 105, 106, 107], [4, 5, 6, 7, 8, 9, 10, 11, 12]⟩,
  ⟨some 118, .iad 1 (.t 104) (.t 107), none, [], [0, 1, 2, 3, 4, 5, 6, 7, 8, 9, 10, 11, 12, 13]⟩,
  ⟨none, .store none 1 (.t 118) (.t 117), none, [], [0, 1, 2, 3, 4, 5, 6, 7, 8, 9, 10, 11, 12, 13, 14]⟩] true)
 (.region [⟨some 119, .mov (.t 15), none, [], []⟩,
  ⟨some 120, .mov (.t 119), none, [], []⟩,
  ⟨some 121, .mov (.t 16), some (120, false), [], []⟩,
  ⟨some 122, .iada 1 4 (.t 7) (.t 121), some (120, false), [], []⟩,
  ⟨some 123, .load false 1 (.t 122), some (120, false), [], []⟩,
  ⟨some 124, .bin .neq (.t 123) (.c (.int .u8 0)), some (120, false), [], []⟩,
  ⟨some 125, .pick (.t 120) (.c (.bool true)) (.t 124), none, [], []⟩,
  ⟨some 15, .mov (.t 125), none, [], []⟩] false)))
 (.region [⟨some 102, .mov (.t 16), none, [], []⟩,
  ⟨some 103, .bin .add (.t 102) (.c (.int .i64 1)), none, [], []⟩,
  ⟨some 16, .mov (.t 103), none, [], []⟩] false)))))))
 (.seq (.region [⟨some 127, .mov (.t 9), none, [], []⟩,
  ⟨some 128, .call false 16 [(.t 127)], none, [], []⟩,
  ⟨some 126, .mov (.t 128), none, [], []⟩,
  ⟨some 129, .ext (.t 126) 0, none, [], []⟩,
  ⟨some 130, .ext (.t 126) 1, none, [], []⟩,
  ⟨some 17, .alloc [.int .i64 0, .int .i64 0, .int .i64 0, .int .i64 0, .int .i64 0, .int .i64 0, .int .i64 0, .int .i64 0, .int .i64 0, .int .i64 0, .int .i64 0, .int .i64 0, .int .i64 0, .int .i64 0, .row [], .row []], none, [], []⟩,
  ⟨none, .store none 16 (.t 17) (.t 129), none, [], []⟩,
  ⟨some 18, .mov (.t 130), none, [], []⟩] false)
 (.seq (.region [⟨some 131, .mov (.t 18), none, [], []⟩,
  ⟨some 132, .bin .eql (.t 131) (.c (.int .i64 0)), none, [], []⟩,
  ⟨some 133, .mov (.t 15), none, [], []⟩,
  ⟨some 134, .un .not (.t 133), none, [], []⟩,
  ⟨some 135, .eqb false (.t 132) (.t 134), none, [], []⟩,
  ⟨some 136, .mov (.t 135), none, [], []⟩,
  ⟨some 137, .mov (.t 18), some (136, true), [], []⟩,
  ⟨some 138, .bin .eql (.t 137) (.c (.int .i64 0)), some (136, true), [], []⟩,
  ⟨some 139, .mov (.t 138), some (136, true), [], []⟩,
  ⟨some 140, .mov (.t 18), some (139, false), [], []⟩,
  ⟨some 141, .bin .eql (.t 140) (.c (.int .i64 4)), some (139, false), [], []⟩,
  ⟨some 142, .mov (.t 141), some (139, false), [], []⟩,
  ⟨some 143, .load true 16 (.t 17), some (142, true), [], []⟩,
  ⟨some 144, .build [.int .i64 0, .int .i64 0, .int .i64 0, .int .i64 0, .int .i64 0, .int .i64 0, .int .i64 0, .int .i64 0, .int .i64 0, .int .i64 0, .int .i64 0, .int .i64 0, .int .i64 0, .int .i64 0, .row [], .row []] [], some (142, true), [], []⟩,
  ⟨some 145, .call false 18 [(.t 143), (.t 144)], some (142, true), [], []⟩,
  ⟨some 146, .pick (.t 142) (.t 145) (.c (.bool false)), some (139, false), [], []⟩,
  ⟨some 147, .pick (.t 139) (.c (.bool true)) (.t 146), some (136, true), [], []⟩,
  ⟨some 148, .pick (.t 136) (.t 147) (.c (.bool false)), none, [], []⟩,
  ⟨some 149, .mov (.t 148), none, [], []⟩,
  ⟨some 150, .call false 20 [], some (149, true), [], []⟩,
  ⟨some 151, .pick (.t 149) (.t 150) (.c (.bool false)), none, [], []⟩,
  ⟨some 8, .mov (.t 151), none, [], []⟩] false)
 .ret))))))))))))
def i5 : F := ⟨4, 152, j5, [.t 8]⟩
theorem b5 : i5.body = j5 := rfl
theorem q5 : i5.res = [.t 8] := rfl
theorem c5 : chkF Try.prog Try.f5 i5 = true := by kernel_rfl
theorem s5 {m : Model} {E : Nat → Model} (hE : ∀ f, Sound Try.prog f (E f)) (hm : ∀ args r, m args = some r → ∃ N, i5.ev E N args = some r) : Sound Try.prog 5 m := sound_of i5 Try.func5 rfl c5 hE hm
/-- bellwether/bellwetherlaw07.WireReads -/
def j6 : C := (.seq (.region [⟨some 2, .mov (.c (.bool false)), none, [], []⟩] false)
 (.seq (.seq (.region [⟨some 7, .mov (.t 0), none, [], []⟩,
  ⟨some 8, .len (.t 7), none, [], []⟩,
  ⟨some 9, .bin .gtr (.t 8) (.c (.int .i64 200)), none, [], []⟩] false)
 (.cond (.t 9) (.seq (.region [⟨some 2, .mov (.c (.bool true)), none, [], []⟩] false)
 .ret) .skip))
 (.seq (.region [⟨some 11, .mov (.t 0), none, [], []⟩,
  ⟨some 12, .call false 16 [(.t 11)], none, [], []⟩,
  ⟨some 10, .mov (.t 12), none, [], []⟩,
  ⟨some 13, .ext (.t 10) 0, none, [], []⟩,
  ⟨some 14, .ext (.t 10) 1, none, [], []⟩,
  ⟨some 3, .alloc [.int .i64 0, .int .i64 0, .int .i64 0, .int .i64 0, .int .i64 0, .int .i64 0, .int .i64 0, .int .i64 0, .int .i64 0, .int .i64 0, .int .i64 0, .int .i64 0, .int .i64 0, .int .i64 0, .row [], .row []], none, [], []⟩,
  ⟨none, .store none 16 (.t 3) (.t 13), none, [], []⟩,
  ⟨some 4, .mov (.t 14), none, [], []⟩] false)
 (.seq (.seq (.region [⟨some 15, .mov (.t 4), none, [], []⟩,
  ⟨some 16, .bin .neq (.t 15) (.c (.int .i64 0)), none, [], []⟩] false)
 (.cond (.t 16) (.seq (.region [⟨some 17, .mov (.t 4), none, [], []⟩,
  ⟨some 18, .bin .eql (.t 17) (.c (.int .i64 2)), none, [], []⟩,
  ⟨some 19, .mov (.t 18), none, [], []⟩,
  ⟨some 20, .mov (.t 4), some (19, false), [], []⟩,
  ⟨some 21, .bin .eql (.t 20) (.c (.int .i64 4)), some (19, false), [], []⟩,
  ⟨some 22, .pick (.t 19) (.c (.bool true)) (.t 21), none, [], []⟩,
  ⟨some 23, .mov (.t 22), none, [], []⟩,
  ⟨some 24, .mov (.t 4), some (23, false), [], []⟩,
  ⟨some 25, .bin .eql (.t 24) (.c (.int .i64 3)), some (23, false), [], []⟩,
  ⟨some 26, .pick (.t 23) (.c (.bool true)) (.t 25), none, [], []⟩,
  ⟨some 27, .mov (.t 26), none, [], []⟩,
  ⟨some 28, .mov (.t 4), some (27, false), [], []⟩,
  ⟨some 29, .bin .eql (.t 28) (.c (.int .i64 5)), some (27, false), [], []⟩,
  ⟨some 30, .pick (.t 27) (.c (.bool true)) (.t 29), none, [], []⟩,
  ⟨some 31, .mov (.t 30), none, [], []⟩,
  ⟨some 32, .load true 16 (.t 3), some (31, true), [], []⟩,
  ⟨some 33, .build [.int .i64 0, .int .i64 0, .int .i64 0, .int .i64 0, .int .i64 0, .int .i64 0, .int .i64 0, .int .i64 0, .int .i64 0, .int .i64 0, .int .i64 0, .int .i64 0, .int .i64 0, .int .i64 0, .row [], .row []] [], some (31, true), [], []⟩,
  ⟨some 34, .call false 18 [(.t 32), (.t 33)], some (31, true), [], []⟩,
  ⟨some 35, .pick (.t 31) (.t 34) (.c (.bool false)), none, [], []⟩,
  ⟨some 36, .mov (.t 35), none, [], []⟩,
  ⟨some 37, .call false 20 [], some (36, true), [], []⟩,
  ⟨some 38, .pick (.t 36) (.t 37) (.c (.bool false)), none, [], []⟩,
  ⟨some 2, .mov (.t 38), none, [], []⟩] false)
 .ret) .skip))
 (.seq (.region [⟨some 40, .load true 16 (.t 3), none, [], []⟩,
  ⟨some 41, .call false 15 [(.t 40)], none, [], []⟩,
  ⟨some 39, .mov (.t 41), none, [], []⟩,
  ⟨some 42, .ext (.t 39) 0, none, [], []⟩,
  ⟨some 43, .ext (.t 39) 1, none, [], []⟩,
  ⟨some 5, .mov (.t 42), none, [], []⟩,
  ⟨some 6, .mov (.t 43), none, [], []⟩] false)
 (.seq (.region [⟨some 44, .mov (.t 6), none, [], []⟩,
  ⟨some 45, .bin .eql (.t 44) (.c (.int .i64 0)), none, [], []⟩,
  ⟨some 46, .mov (.t 45), none, [], []⟩,
  ⟨some 47, .mov (.t 0), some (46, true), [], []⟩,
  ⟨some 48, .mov (.t 5), some (46, true), [], []⟩,
  ⟨some 49, .call false 10 [(.t 47), (.t 48)], some (46, true), [], []⟩,
  ⟨some 50, .pick (.t 46) (.t 49) (.c (.bool false)), none, [], []⟩,
  ⟨some 51, .mov (.t 50), none, [], []⟩,
  ⟨some 52, .call false 20 [], some (51, true), [], []⟩,
  ⟨some 53, .pick (.t 51) (.t 52) (.c (.bool false)), none, [], []⟩,
  ⟨some 2, .mov (.t 53), none, [], []⟩] false)
 .ret))))))
def i6 : F := ⟨1, 54, j6, [.t 2]⟩
theorem b6 : i6.body = j6 := rfl
theorem q6 : i6.res = [.t 2] := rfl
theorem c6 : chkF Try.prog Try.f6 i6 = true := by kernel_rfl
theorem s6 {m : Model} {E : Nat → Model} (hE : ∀ f, Sound Try.prog f (E f)) (hm : ∀ args r, m args = some r → ∃ N, i6.ev E N args = some r) : Sound Try.prog 6 m := sound_of i6 Try.func6 rfl c6 hE hm
/-- bellwether/bellwetherlaw07.WireShort -/
def j7 : C := (.seq (.region [⟨some 10, .mov (.c (.bool false)), none, [], []⟩] false)
 (.seq (.region [⟨some 26, .mov (.t 0), none, [], []⟩,
  ⟨some 27, .mov (.t 1), none, [], []⟩,
  ⟨some 28, .mov (.t 2), none, [], []⟩,
  ⟨some 29, .call false 22 [(.t 26), (.t 27), (.t 28)], none, [], []⟩,
  ⟨some 11, .alloc [.int .i64 0, .int .i64 0, .int .i64 0, .int .i64 0, .int .i64 0, .int .i64 0, .int .i64 0, .int .i64 0, .int .i64 0, .int .i64 0, .int .i64 0, .int .i64 0, .int .i64 0, .int .i64 0, .row [], .row []], none, [], []⟩,
  ⟨none, .store none 16 (.t 11) (.t 29), none, [], []⟩] false)
 (.seq (.region [⟨some 31, .load true 16 (.t 11), none, [], []⟩,
  ⟨some 32, .call false 15 [(.t 31)], none, [], []⟩,
  ⟨some 30, .mov (.t 32), none, [], []⟩,
  ⟨some 33, .ext (.t 30) 0, none, [], []⟩,
  ⟨some 34, .ext (.t 30) 1, none, [], []⟩,
  ⟨some 12, .mov (.t 33), none, [], []⟩,
  ⟨some 13, .mov (.t 34), none, [], []⟩] false)
 (.seq (.region [⟨some 36, .mov (.t 12), none, [], []⟩,
  ⟨some 37, .call false 9 [(.t 36)], none, [], []⟩,
  ⟨some 35, .mov (.t 37), none, [], []⟩,
  ⟨some 38, .ext (.t 35) 0, none, [], []⟩,
  ⟨some 39, .ext (.t 35) 1, none, [], []⟩,
  ⟨some 14, .mov (.t 38), none, [], []⟩,
  ⟨some 15, .mov (.t 39), none, [], []⟩] false)
 (.seq (.seq (.region [⟨some 40, .mov (.t 13), none, [], []⟩,
  ⟨some 41, .bin .neq (.t 40) (.c (.int .i64 0)), none, [], []⟩,
  ⟨some 42, .mov (.t 41), none, [], []⟩,
  ⟨some 43, .mov (.t 15), some (42, false), [], []⟩,
  ⟨some 44, .bin .neq (.t 43) (.c (.int .i64 0)), some (42, false), [], []⟩,
  ⟨some 45, .pick (.t 42) (.c (.bool true)) (.t 44), none, [], []⟩,
  ⟨some 46, .mov (.t 45), none, [], []⟩,
  ⟨some 47, .mov (.t 14), some (46, false), [], []⟩,
  ⟨some 48, .len (.t 47), some (46, false), [], []⟩,
  ⟨some 49, .bin .lss (.t 48) (.c (.int .i64 44)), some (46, false), [], []⟩,
  ⟨some 50, .pick (.t 46) (.c (.bool true)) (.t 49), none, [], []⟩] false)
 (.cond (.t 50) (.seq (.region [⟨some 10, .mov (.c (.bool false)), none, [], []⟩] false)
 .ret) .skip))
 (.seq (.region [⟨some 52, .mov (.t 14), none, [], []⟩,
  ⟨some 53, .mov (.t 3), none, [], []⟩,
  ⟨some 54, .conv .u64 (.t 53), none, [], []⟩,
  ⟨some 55, .mov (.t 14), none, [], []⟩,
  ⟨some 56, .len (.t 55), none, [], []⟩,
  ⟨some 57, .conv .u64 (.t 56), none, [], []⟩,
  ⟨some 58, .bin .rem (.t 54) (.t 57), none, [], []⟩,
  ⟨some 59, .conv .i64 (.t 58), none, [], []⟩,
  ⟨some 60, .cut 1 (.t 52) none (some (.t 59)), none, [], []⟩,
  ⟨some 61, .call false 8 [(.t 60)], none, [], []⟩,
  ⟨some 62, .call false 16 [(.t 61)], none, [], []⟩,
  ⟨some 51, .mov (.t 62), none, [], []⟩,
  ⟨some 63, .ext (.t 51) 0, none, [], []⟩,
  ⟨some 64, .ext (.t 51) 1, none, [], []⟩,
  ⟨some 16, .alloc [.int .i64 0, .int .i64 0, .int .i64 0, .int .i64 0, .int .i64 0, .int .i64 0, .int .i64 0, .int .i64 0, .int .i64 0, .int .i64 0, .int .i64 0, .int .i64 0, .int .i64 0, .int .i64 0, .row [], .row []], none, [], []⟩,
  ⟨none, .store none 16 (.t 16) (.t 63), none, [], []⟩,
  ⟨some 17, .mov (.t 64), none, [], []⟩] false)
 (.seq (.region [⟨some 66, .mov (.t 14), none, [], []⟩,
  ⟨some 67, .call true 14 [(.t 66)], none, [], []⟩,
  ⟨some 68, .mov (.t 4), none, [], []⟩,
  ⟨some 69, .conv .u8 (.t 68), none, [], []⟩,
  ⟨some 70, .bsl 5 1 1 [.int .u8 0] [(0, (.t 69))], none, [], []⟩,
  ⟨some 71, .app 5 1 1 (.t 67) (.t 70), none, [], []⟩,
  ⟨some 72, .call false 8 [(.t 71)], none, [], []⟩,
  ⟨some 73, .call false 16 [(.t 72)], none, [], []⟩,
  ⟨some 65, .mov (.t 73), none, [], []⟩,
  ⟨some 74, .ext (.t 65) 0, none, [], []⟩,
  ⟨some 75, .ext (.t 65) 1, none, [], []⟩,
  ⟨some 18, .alloc [.int .i64 0, .int .i64 0, .int .i64 0, .int .i64 0, .int .i64 0, .int .i64 0, .int .i64 0, .int .i64 0, .int .i64 0, .int .i64 0, .int .i64 0, .int .i64 0, .int .i64 0, .int .i64 0, .row [], .row []], none, [], []⟩,
  ⟨none, .store none 16 (.t 18) (.t 74), none, [], []⟩,
  ⟨some 19, .mov (.t 75), none, [], []⟩] false)
 (.seq (.region [⟨some 77, .mov (.t 14), none, [], []⟩,
  ⟨some 78, .call false 23 [(.t 77), (.c (.int .i64 0)), (.c (.int .i64 1))], none, [], []⟩,
  ⟨some 76, .mov (.t 78), none, [], []⟩,
  ⟨some 79, .ext (.t 76) 0, none, [], []⟩,
  ⟨some 80, .ext (.t 76) 1, none, [], []⟩,
  ⟨some 81, .ext (.t 76) 2, none, [], []⟩,
  ⟨some 20, .mov (.t 79), none, [], []⟩,
  ⟨some 21, .mov (.t 80), none, [], []⟩,
  ⟨some 22, .mov (.t 81), none, [], []⟩] false)
 (.seq (.region [⟨some 83, .mov (.t 14), none, [], []⟩,
  ⟨some 84, .call false 23 [(.t 83), (.c (.int .i64 20)), (.c (.int .i64 4))], none, [], []⟩,
  ⟨some 82, .mov (.t 84), none, [], []⟩,
  ⟨some 85, .ext (.t 82) 0, none, [], []⟩,
  ⟨some 86, .ext (.t 82) 1, none, [], []⟩,
  ⟨some 87, .ext (.t 82) 2, none, [], []⟩,
  ⟨some 23, .mov (.t 85), none, [], []⟩,
  ⟨some 24, .mov (.t 86), none, [], []⟩,
  ⟨some 25, .mov (.t 87), none, [], []⟩] false)
 (.seq (.region [⟨some 88, .mov (.t 17), none, [], []⟩,
  ⟨some 89, .bin .eql (.t 88) (.c (.int .i64 3)), none, [], []⟩,
  ⟨some 90, .mov (.t 89), none, [], []⟩,
  ⟨some 91, .mov (.t 19), some (90, true), [], []⟩,
  ⟨some 92, .bin .eql (.t 91) (.c (.int .i64 3)), some (90, true), [], []⟩,
  ⟨some 93, .pick (.t 90) (.t 92) (.c (.bool false)), none, [], []⟩,
  ⟨some 94, .mov (.t 93), none, [], []⟩,
  ⟨some 95, .mov (.t 22), some (94, true), [], []⟩,
  ⟨some 96, .bin .eql (.t 95) (.c (.int .i64 0)), some (94, true), [], []⟩,
  ⟨some 97, .pick (.t 94) (.t 96) (.c (.bool false)), none, [], []⟩,
  ⟨some 98, .mov (.t 97), none, [], []⟩,
  ⟨some 99, .mov (.t 20), some (98, true), [], []⟩,
  ⟨some 100, .fad 0 (.t 11), some (98, true), [], []⟩,
  ⟨some 101, .load false 1 (.t 100), some (98, true), [], []⟩,
  ⟨some 102, .bin .eql (.t 99) (.t 101), some (98, true), [], []⟩,
  ⟨some 103, .pick (.t 98) (.t 102) (.c (.bool false)), none, [], []⟩,
  ⟨some 104, .mov (.t 103), none, [], []⟩,
  ⟨some 105, .mov (.t 25), some (104, true), [], []⟩,
  ⟨some 106, .bin .eql (.t 105) (.c (.int .i64 0)), some (104, true), [], []⟩,
  ⟨some 107, .pick (.t 104) (.t 106) (.c (.bool false)), none, [], []⟩,
  ⟨some 108, .mov (.t 107), none, [], []⟩,
  ⟨some 109, .mov (.t 23), some (108, true), [], []⟩,
  ⟨some 110, .fad 7 (.t 11), some (108, true), [], []⟩,
  ⟨some 111, .load false 1 (.t 110), some (108, true), [], []⟩,
  ⟨some 112, .bin .eql (.t 109) (.t 111), some (108, true), [], []⟩,
  ⟨some 113, .pick (.t 108) (.t 112) (.c (.bool false)), none, [], []⟩,
  ⟨some 114, .mov (.t 113), none, [], []⟩,
  ⟨some 115, .call false 20 [], some (114, true), [], []⟩,
  ⟨some 116, .pick (.t 114) (.t 115) (.c (.bool false)), none, [], []⟩,
  ⟨some 10, .mov (.t 116), none, [], []⟩] false)
 .ret))))))))))
def i7 : F := ⟨5, 117, j7, [.t 10]⟩
theorem b7 : i7.body = j7 := rfl
theorem q7 : i7.res = [.t 10] := rfl
theorem c7 : chkF Try.prog Try.f7 i7 = true := by kernel_rfl
theorem s7 {m : Model} {E : Nat → Model} (hE : ∀ f, Sound Try.prog f (E f)) (hm : ∀ args r, m args = some r → ∃ N, i7.ev E N args = some r) : Sound Try.prog 7 m := sound_of i7 Try.func7 rfl c7 hE hm
/-- bellwether/crc.Seal -/
def j8 : C := (.seq (.region [⟨some 2, .nilsl 5 1 0, none, [], []⟩] false)
 (.seq (.region [⟨some 3, .mov (.t 0), none, [], []⟩,
  ⟨some 4, .call true 24 [(.t 3)], none, [], []⟩,
  ⟨some 5, .mov (.t 0), none, [], []⟩,
  ⟨some 6, .call false 26 [(.t 5)], none, [], []⟩,
  ⟨some 7, .call false 25 [(.t 6)], none, [], []⟩,
  ⟨some 8, .app 5 1 1 (.t 4) (.t 7), none, [], []⟩,
  ⟨some 2, .mov (.t 8), none, [], []⟩] false)
 .ret))
def i8 : F := ⟨1, 9, j8, [.t 2]⟩
theorem b8 : i8.body = j8 := rfl
theorem q8 : i8.res = [.t 2] := rfl
theorem c8 : chkF Try.prog Try.f8 i8 = true := by kernel_rfl
theorem s8 {m : Model} {E : Nat → Model} (hE : ∀ f, Sound Try.prog f (E f)) (hm : ∀ args r, m args = some r → ∃ N, i8.ev E N args = some r) : Sound Try.prog 8 m := sound_of i8 Try.func8 rfl c8 hE hm
/-- bellwether/crc.Open -/
def j9 : C := (.seq (.region [⟨some 2, .nilsl 5 1 0, none, [], []⟩,
  ⟨some 3, .mov (.c (.int .i64 0)), none, [], []⟩] false)
 (.seq (.region [⟨some 5, .mov (.t 0), none, [], []⟩,
  ⟨some 6, .len (.t 5), none, [], []⟩,
  ⟨some 7, .bin .sub (.t 6) (.c (.int .i64 4)), none, [], []⟩,
  ⟨some 4, .mov (.t 7), none, [], []⟩] false)
 (.seq (.seq (.region [⟨some 8, .mov (.t 4), none, [], []⟩,
  ⟨some 9, .bin .lss (.t 8) (.c (.int .i64 0)), none, [], []⟩] false)
 (.cond (.t 9) (.seq (.region [⟨some 2, .nilsl 5 1 1, none, [], []⟩,
  ⟨some 3, .mov (.c (.int .i64 2)), none, [], []⟩] false)
 .ret) .skip))
 (.seq (.seq (.region [⟨some 10, .mov (.t 0), none, [11, 13, 14, 15, 16, 17], []⟩,
  ⟨some 11, .mov (.t 4), none, [10, 13, 14, 15, 16, 17], []⟩,
  ⟨some 12, .cut 1 (.t 10) (some (.t 11)) none, none, [13, 14, 15, 16, 17], [0, 1]⟩,
  ⟨some 13, .mov (.t 0), none, [10, 11, 12, 14], []⟩,
  ⟨some 14, .mov (.t 4), none, [10, 11, 12, 13], []⟩,
  ⟨some 15, .cut 1 (.t 13) none (some (.t 14)), none, [10, 11, 12], [3, 4]⟩,
  ⟨some 16, .call false 26 [(.t 15)], none, [10, 11, 12], [3, 4, 5]⟩,
  ⟨some 17, .call false 25 [(.t 16)], none, [10, 11, 12], [3, 4, 5, 6]⟩,
  ⟨some 18, .call false 27 [(.t 12), (.t 17)], none, [], [0, 1, 2, 3, 4, 5, 6, 7]⟩,
  ⟨some 19, .un .not (.t 18), none, [], [0, 1, 2, 3, 4, 5, 6, 7, 8]⟩] true)
 (.cond (.t 19) (.seq (.region [⟨some 2, .nilsl 5 1 2, none, [], []⟩,
  ⟨some 3, .mov (.c (.int .i64 4)), none, [], []⟩] false)
 .ret) .skip))
 (.seq (.region [⟨some 20, .mov (.t 0), none, [], []⟩,
  ⟨some 21, .mov (.t 4), none, [], []⟩,
  ⟨some 22, .cut 1 (.t 20) none (some (.t 21)), none, [], []⟩,
  ⟨some 23, .call true 24 [(.t 22)], none, [], []⟩,
  ⟨some 2, .mov (.t 23), none, [], []⟩,
  ⟨some 3, .mov (.c (.int .i64 0)), none, [], []⟩] false)
 .ret)))))
def i9 : F := ⟨1, 24, j9, [.t 2, .t 3]⟩
theorem b9 : i9.body = j9 := rfl
theorem q9 : i9.res = [.t 2, .t 3] := rfl
theorem c9 : chkF Try.prog Try.f9 i9 = true := by kernel_rfl
theorem s9 {m : Model} {E : Nat → Model} (hE : ∀ f, Sound Try.prog f (E f)) (hm : ∀ args r, m args = some r → ∃ N, i9.ev E N args = some r) : Sound Try.prog 9 m := sound_of i9 Try.func9 rfl c9 hE hm
/-- bellwether/bellwetherkeep.Bytes -/
def j10 : C := (.seq (.region [⟨some 4, .mov (.c (.bool false)), none, [], []⟩] false)
 (.seq (.seq (.region [⟨some 6, .mov (.t 0), none, [], []⟩,
  ⟨some 7, .len (.t 6), none, [], []⟩,
  ⟨some 8, .mov (.t 1), none, [], []⟩,
  ⟨some 9, .len (.t 8), none, [], []⟩,
  ⟨some 10, .bin .neq (.t 7) (.t 9), none, [], []⟩] false)
 (.cond (.t 10) (.seq (.region [⟨some 4, .mov (.c (.bool false)), none, [], []⟩] false)
 .ret) .skip))
 (.seq (.seq (.region [⟨some 5, .mov (.c (.int .i64 0)), none, [], []⟩] false)
 (.block 0 (.loop (.keep [0, 1, 5] (.seq (.seq (.region [⟨some 11, .mov (.t 5), none, [], []⟩,
  ⟨some 12, .mov (.t 0), none, [], []⟩,
  ⟨some 13, .len (.t 12), none, [], []⟩,
  ⟨some 14, .bin .lss (.t 11) (.t 13), none, [], []⟩] false)
 (.cond (.t 14) .skip (.exit 0)))
 (.seq (.block 1 (.seq (.region [⟨some 17, .mov (.t 0), none, [18, 21, 22, 23, 24], []⟩,
  ⟨some 18, .mov (.t 5), none, [17, 21, 22, 23, 24], []⟩,
  ⟨some 19, .iad 1 (.t 17) (.t 18), none, [21, 22, 23, 24], [0, 1]⟩,
  ⟨some 20, .load false 1 (.t 19), none, [21, 22, 23, 24], [0, 1, 2]⟩,
  ⟨some 21, .mov (.t 1), none, [17, 18, 19, 20, 22], []⟩,
  ⟨some 22, .mov (.t 5), none, [17, 18, 19, 20, 21], []⟩,
  ⟨some 23, .iad 1 (.t 21) (.t 22), none, [17, 18, 19, 20], [4, 5]⟩,
  ⟨some 24, .load false 1 (.t 23), none, [17, 18, 19, 20], [4, 5, 6]⟩,
  ⟨some 25, .bin .neq (.t 20) (.t 24), none, [], [0, 1, 2, 3, 4, 5, 6, 7]⟩] true)
 (.cond (.t 25) (.seq (.region [⟨some 4, .mov (.c (.bool false)), none, [], []⟩] false)
 .ret) .skip)))
 (.region [⟨some 15, .mov (.t 5), none, [], []⟩,
  ⟨some 16, .bin .add (.t 15) (.c (.int .i64 1)), none, [], []⟩,
  ⟨some 5, .mov (.t 16), none, [], []⟩] false)))))))
 (.seq (.region [⟨some 4, .mov (.c (.bool true)), none, [], []⟩] false)
 .ret))))
def i10 : F := ⟨2, 26, j10, [.t 4]⟩
theorem b10 : i10.body = j10 := rfl
theorem q10 : i10.res = [.t 4] := rfl
theorem c10 : chkF Try.prog Try.f10 i10 = true := by kernel_rfl
theorem s10 {m : Model} {E : Nat → Model} (hE : ∀ f, Sound Try.prog f (E f)) (hm : ∀ args r, m args = some r → ∃ N, i10.ev E N args = some r) : Sound Try.prog 10 m := sound_of i10 Try.func10 rfl c10 hE hm
/-- bellwether/bellwetherlaw05.wakes -/
def j11 : C := (.seq (.region [⟨some 0, .mov (.c (.bool false)), none, [], []⟩] false)
 (.seq (.region [⟨some 6, .bsl 5 1 2 [.int .u8 0] [(0, (.c (.int .u8 1))), (1, (.c (.int .u8 2)))], none, [], []⟩,
  ⟨some 7, .call false 8 [(.t 6)], none, [], []⟩,
  ⟨some 8, .call false 9 [(.t 7)], none, [], []⟩,
  ⟨some 5, .mov (.t 8), none, [], []⟩,
  ⟨some 9, .ext (.t 5) 0, none, [], []⟩,
  ⟨some 10, .ext (.t 5) 1, none, [], []⟩,
  ⟨some 1, .mov (.t 9), none, [], []⟩,
  ⟨some 2, .mov (.t 10), none, [], []⟩] false)
 (.seq (.region [⟨some 12, .bsl 5 1 3 [.int .u8 0] [(0, (.c (.int .u8 1))), (1, (.c (.int .u8 2))), (2, (.c (.int .u8 3)))], none, [], []⟩,
  ⟨some 13, .call false 9 [(.t 12)], none, [], []⟩,
  ⟨some 11, .mov (.t 13), none, [], []⟩,
  ⟨some 14, .ext (.t 11) 0, none, [], []⟩,
  ⟨some 15, .ext (.t 11) 1, none, [], []⟩,
  ⟨some 3, .mov (.t 14), none, [], []⟩,
  ⟨some 4, .mov (.t 15), none, [], []⟩] false)
 (.seq (.region [⟨some 16, .bsl 5 1 9 [.int .u8 0] [(0, (.c (.int .u8 49))), (1, (.c (.int .u8 50))), (2, (.c (.int .u8 51))), (3, (.c (.int .u8 52))), (4, (.c (.int .u8 53))), (5, (.c (.int .u8 54))), (6, (.c (.int .u8 55))), (7, (.c (.int .u8 56))), (8, (.c (.int .u8 57)))], none, [], []⟩,
  ⟨some 17, .cvb (.t 16), none, [], []⟩,
  ⟨some 18, .call false 26 [(.t 17)], none, [], []⟩,
  ⟨some 19, .bin .eql (.t 18) (.c (.int .i64 3421780262)), none, [], []⟩,
  ⟨some 20, .mov (.t 19), none, [], []⟩,
  ⟨some 21, .mov (.t 2), some (20, true), [], []⟩,
  ⟨some 22, .bin .eql (.t 21) (.c (.int .i64 0)), some (20, true), [], []⟩,
  ⟨some 23, .pick (.t 20) (.t 22) (.c (.bool false)), none, [], []⟩,
  ⟨some 24, .mov (.t 23), none, [], []⟩,
  ⟨some 25, .mov (.t 1), some (24, true), [], []⟩,
  ⟨some 26, .bsl 5 1 2 [.int .u8 0] [(0, (.c (.int .u8 1))), (1, (.c (.int .u8 2)))], some (24, true), [], []⟩,
  ⟨some 27, .call false 10 [(.t 25), (.t 26)], some (24, true), [], []⟩,
  ⟨some 28, .pick (.t 24) (.t 27) (.c (.bool false)), none, [], []⟩,
  ⟨some 29, .mov (.t 28), none, [], []⟩,
  ⟨some 30, .mov (.t 4), some (29, true), [], []⟩,
  ⟨some 31, .bin .eql (.t 30) (.c (.int .i64 2)), some (29, true), [], []⟩,
  ⟨some 32, .pick (.t 29) (.t 31) (.c (.bool false)), none, [], []⟩,
  ⟨some 0, .mov (.t 32), none, [], []⟩] false)
 .ret))))
def i11 : F := ⟨0, 33, j11, [.t 0]⟩
theorem b11 : i11.body = j11 := rfl
theorem q11 : i11.res = [.t 0] := rfl
theorem c11 : chkF Try.prog Try.f11 i11 = true := by kernel_rfl
theorem s11 {m : Model} {E : Nat → Model} (hE : ∀ f, Sound Try.prog f (E f)) (hm : ∀ args r, m args = some r → ∃ N, i11.ev E N args = some r) : Sound Try.prog 11 m := sound_of i11 Try.func11 rfl c11 hE hm
/-- bellwether/bellwetherlaw06.Heavy -/
def j12 : C := (.seq (.region [⟨some 1, .box (.t 0), none, [], []⟩,
  ⟨some 2, .mov (.c (.bool false)), none, [], []⟩] false)
 (.seq (.region [⟨some 3, .fad 14 (.t 1), none, [], []⟩,
  ⟨some 4, .load false 1 (.t 3), none, [], []⟩,
  ⟨some 5, .len (.t 4), none, [], []⟩,
  ⟨some 6, .bin .gtr (.t 5) (.c (.int .i64 30)), none, [], []⟩,
  ⟨some 7, .mov (.t 6), none, [], []⟩,
  ⟨some 8, .fad 15 (.t 1), some (7, false), [], []⟩,
  ⟨some 9, .load false 1 (.t 8), some (7, false), [], []⟩,
  ⟨some 10, .len (.t 9), some (7, false), [], []⟩,
  ⟨some 11, .bin .gtr (.t 10) (.c (.int .i64 30)), some (7, false), [], []⟩,
  ⟨some 12, .pick (.t 7) (.c (.bool true)) (.t 11), none, [], []⟩,
  ⟨some 2, .mov (.t 12), none, [], []⟩] false)
 .ret))
def i12 : F := ⟨1, 13, j12, [.t 2]⟩
theorem b12 : i12.body = j12 := rfl
theorem q12 : i12.res = [.t 2] := rfl
theorem c12 : chkF Try.prog Try.f12 i12 = true := by kernel_rfl
theorem s12 {m : Model} {E : Nat → Model} (hE : ∀ f, Sound Try.prog f (E f)) (hm : ∀ args r, m args = some r → ∃ N, i12.ev E N args = some r) : Sound Try.prog 12 m := sound_of i12 Try.func12 rfl c12 hE hm
/-- bellwether/bellwetherkeep.TwinMsg -/
def j13 : C := (.seq (.region [⟨some 1, .box (.t 0), none, [], []⟩,
  ⟨some 2, .alloc [.int .i64 0, .int .i64 0, .int .i64 0, .int .i64 0, .int .i64 0, .int .i64 0, .int .i64 0, .int .i64 0, .int .i64 0, .int .i64 0, .int .i64 0, .int .i64 0, .int .i64 0, .int .i64 0, .row [], .row []], none, [], []⟩] false)
 (.seq (.region [⟨some 3, .fad 14 (.t 1), none, [6, 7], []⟩,
  ⟨some 4, .load false 1 (.t 3), none, [6, 7], [0]⟩,
  ⟨some 5, .call true 28 [(.t 4)], none, [6, 7], [0, 1]⟩,
  ⟨some 6, .fad 15 (.t 1), none, [3, 4, 5], []⟩,
  ⟨some 7, .load false 1 (.t 6), none, [3, 4, 5], [3]⟩,
  ⟨some 8, .call true 28 [(.t 7)], none, [9], [0, 1, 2, 3, 4]⟩,
  ⟨some 9, .fad 14 (.t 1), none, [8], [0, 1, 2, 3, 4]⟩,
  ⟨none, .store none 1 (.t 9) (.t 5), none, [], [0, 1, 2, 3, 4, 5, 6]⟩,
  ⟨some 10, .fad 15 (.t 1), none, [], [0, 1, 2, 3, 4, 5, 6, 7]⟩,
  ⟨none, .store none 1 (.t 10) (.t 8), none, [], [0, 1, 2, 3, 4, 5, 6, 7, 8]⟩] true)
 (.seq (.region [⟨some 11, .load true 16 (.t 1), none, [], []⟩,
  ⟨none, .store none 16 (.t 2) (.t 11), none, [], []⟩] false)
 .ret)))
def i13 : F := ⟨1, 12, j13, [.c 2 16 true]⟩
theorem b13 : i13.body = j13 := rfl
theorem q13 : i13.res = [.c 2 16 true] := rfl
theorem c13 : chkF Try.prog Try.f13 i13 = true := by kernel_rfl
theorem s13 {m : Model} {E : Nat → Model} (hE : ∀ f, Sound Try.prog f (E f)) (hm : ∀ args r, m args = some r → ∃ N, i13.ev E N args = some r) : Sound Try.prog 13 m := sound_of i13 Try.func13 rfl c13 hE hm
/-- bellwether/bellwetherkeep.Twin -/
def j14 : C := (.seq (.region [⟨some 2, .nilsl 5 1 0, none, [], []⟩] false)
 (.seq (.region [⟨some 3, .nilsl 5 1 0, none, [], []⟩] false)
 (.seq (.region [⟨some 4, .mov (.t 3), none, [], []⟩,
  ⟨some 5, .mov (.t 0), none, [], []⟩,
  ⟨some 6, .app 5 1 1 (.t 4) (.t 5), none, [], []⟩,
  ⟨some 2, .mov (.t 6), none, [], []⟩] false)
 .ret)))
def i14 : F := ⟨1, 7, j14, [.t 2]⟩
theorem b14 : i14.body = j14 := rfl
theorem q14 : i14.res = [.t 2] := rfl
theorem c14 : chkF Try.prog Try.f14 i14 = true := by kernel_rfl
theorem s14 {m : Model} {E : Nat → Model} (hE : ∀ f, Sound Try.prog f (E f)) (hm : ∀ args r, m args = some r → ∃ N, i14.ev E N args = some r) : Sound Try.prog 14 m := sound_of i14 Try.func14 rfl c14 hE hm
/-- bellwether/wire.Encode -/
def j15 : C := (.seq (.region [⟨some 1, .box (.t 0), none, [], []⟩,
  ⟨some 2, .nilsl 5 1 0, none, [], []⟩,
  ⟨some 3, .mov (.c (.int .i64 0)), none, [], []⟩] false)
 (.seq (.region [⟨some 13, .load true 16 (.t 1), none, [], []⟩,
  ⟨some 14, .call true 29 [(.t 13)], none, [], []⟩,
  ⟨some 4, .mov (.t 14), none, [], []⟩] false)
 (.seq (.seq (.region [⟨some 15, .mov (.t 4), none, [], []⟩,
  ⟨some 16, .bin .neq (.t 15) (.c (.int .i64 0)), none, [], []⟩] false)
 (.cond (.t 16) (.seq (.region [⟨some 17, .mov (.t 4), none, [], []⟩,
  ⟨some 2, .nilsl 5 1 1, none, [], []⟩,
  ⟨some 3, .mov (.t 17), none, [], []⟩] false)
 .ret) .skip))
 (.seq (.region [⟨some 5, .nilsl 5 1 0, none, [], []⟩] false)
 (.seq (.region [⟨some 18, .load true 16 (.t 1), none, [], []⟩,
  ⟨some 19, .call false 30 [(.t 18)], none, [], []⟩,
  ⟨some 6, .mov (.t 19), none, [], []⟩] false)
 (.seq (.seq (.region [⟨some 20, .call false 31 [], none, [], []⟩,
  ⟨some 21, .len (.t 20), none, [], []⟩,
  ⟨some 22, .mov (.c (.int .i64 0)), none, [], []⟩] false)
 (.block 0 (.loop (.keep [1, 5, 6, 20, 21, 22] (.seq (.region [⟨some 23, .bin .lss (.t 22) (.t 21), none, [], []⟩] false)
 (.seq (.cond (.t 23) .skip (.exit 0))
 (.seq (.block 1 (.seq (.region [⟨some 24, .mov (.t 22), none, [], []⟩,
  ⟨some 25, .iad 1 (.t 20) (.t 22), none, [], []⟩,
  ⟨some 26, .load false 1 (.t 25), none, [], []⟩,
  ⟨some 7, .mov (.t 24), none, [], []⟩,
  ⟨some 8, .mov (.t 26), none, [], []⟩] false)
 (.region [⟨some 27, .mov (.t 5), none, [], []⟩,
  ⟨some 28, .mov (.t 8), none, [], []⟩,
  ⟨some 29, .mov (.t 6), none, [], []⟩,
  ⟨some 30, .mov (.t 7), none, [], []⟩,
  ⟨some 31, .iad 1 (.t 29) (.t 30), none, [], []⟩,
  ⟨some 32, .load false 1 (.t 31), none, [], []⟩,
  ⟨some 33, .callo 32 [(.t 27), (.t 28), (.t 32)], none, [], []⟩,
  ⟨some 5, .mov (.t 33), none, [], []⟩] false)))
 (.region [⟨some 34, .bin .add (.t 22) (.c (.int .i64 1)), none, [], []⟩,
  ⟨some 22, .mov (.t 34), none, [], []⟩] false))))))))
 (.seq (.seq (.region [⟨some 35, .fad 14 (.t 1), none, [], []⟩,
  ⟨some 36, .load false 1 (.t 35), none, [], []⟩,
  ⟨some 37, .fad 15 (.t 1), none, [], []⟩,
  ⟨some 38, .load false 1 (.t 37), none, [], []⟩,
  ⟨some 39, .bsl 32 1 2 [.row []] [(0, (.t 36)), (1, (.t 38))], none, [], []⟩,
  ⟨some 40, .len (.t 39), none, [], []⟩,
  ⟨some 41, .mov (.c (.int .i64 0)), none, [], []⟩] false)
 (.block 2 (.loop (.keep [5, 39, 40, 41] (.seq (.region [⟨some 42, .bin .lss (.t 41) (.t 40), none, [], []⟩] false)
 (.seq (.cond (.t 42) .skip (.exit 2))
 (.seq (.block 3 (.seq (.region [⟨some 43, .iad 1 (.t 39) (.t 41), none, [], []⟩,
  ⟨some 44, .load false 1 (.t 43), none, [], []⟩,
  ⟨some 10, .mov (.t 44), none, [], []⟩] false)
 (.seq (.region [⟨some 45, .mov (.t 5), none, [], []⟩,
  ⟨some 46, .mov (.t 10), none, [], []⟩,
  ⟨some 47, .len (.t 46), none, [], []⟩,
  ⟨some 48, .callo 32 [(.t 45), (.c (.int .i64 1)), (.t 47)], none, [], []⟩,
  ⟨some 5, .mov (.t 48), none, [], []⟩] false)
 (.seq (.region [⟨some 49, .mov (.t 10), none, [], []⟩,
  ⟨some 50, .len (.t 49), none, [], []⟩,
  ⟨some 51, .mov (.c (.int .i64 0)), none, [], []⟩] false)
 (.block 4 (.loop (.keep [5, 39, 40, 41, 49, 50, 51] (.seq (.region [⟨some 52, .bin .lss (.t 51) (.t 50), none, [], []⟩] false)
 (.seq (.cond (.t 52) .skip (.exit 4))
 (.seq (.block 5 (.seq (.region [⟨some 53, .iad 1 (.t 49) (.t 51), none, [], []⟩,
  ⟨some 54, .load false 1 (.t 53), none, [], []⟩,
  ⟨some 12, .mov (.t 54), none, [], []⟩] false)
 (.region [⟨some 55, .mov (.t 5), none, [], []⟩,
  ⟨some 56, .mov (.t 12), none, [], []⟩,
  ⟨some 57, .callo 32 [(.t 55), (.c (.int .i64 1)), (.t 56)], none, [], []⟩,
  ⟨some 5, .mov (.t 57), none, [], []⟩] false)))
 (.region [⟨some 58, .bin .add (.t 51) (.c (.int .i64 1)), none, [], []⟩,
  ⟨some 51, .mov (.t 58), none, [], []⟩] false)))))))))))
 (.region [⟨some 59, .bin .add (.t 41) (.c (.int .i64 1)), none, [], []⟩,
  ⟨some 41, .mov (.t 59), none, [], []⟩] false))))))))
 (.seq (.region [⟨some 60, .mov (.t 5), none, [], []⟩,
  ⟨some 61, .call true 8 [(.t 60)], none, [], []⟩,
  ⟨some 2, .mov (.t 61), none, [], []⟩,
  ⟨some 3, .mov (.c (.int .i64 0)), none, [], []⟩] false)
 .ret))))))))
def i15 : F := ⟨1, 62, j15, [.t 2, .t 3]⟩
theorem b15 : i15.body = j15 := rfl
theorem q15 : i15.res = [.t 2, .t 3] := rfl
theorem c15 : chkF Try.prog Try.f15 i15 = true := by kernel_rfl
theorem s15 {m : Model} {E : Nat → Model} (hE : ∀ f, Sound Try.prog f (E f)) (hm : ∀ args r, m args = some r → ∃ N, i15.ev E N args = some r) : Sound Try.prog 15 m := sound_of i15 Try.func15 rfl c15 hE hm
/-- bellwether/wire.Decode -/
def j16 : C := (.seq (.region [⟨some 2, .alloc [.int .i64 0, .int .i64 0, .int .i64 0, .int .i64 0, .int .i64 0, .int .i64 0, .int .i64 0, .int .i64 0, .int .i64 0, .int .i64 0, .int .i64 0, .int .i64 0, .int .i64 0, .int .i64 0, .row [], .row []], none, [], []⟩,
  ⟨some 3, .mov (.c (.int .i64 0)), none, [], []⟩] false)
 (.seq (.seq (.region [⟨some 8, .mov (.t 0), none, [], []⟩,
  ⟨some 9, .len (.t 8), none, [], []⟩,
  ⟨some 10, .bin .gtr (.t 9) (.c (.int .i64 80)), none, [], []⟩] false)
 (.cond (.t 10) (.seq (.region [⟨some 11, .build [.int .i64 0, .int .i64 0, .int .i64 0, .int .i64 0, .int .i64 0, .int .i64 0, .int .i64 0, .int .i64 0, .int .i64 0, .int .i64 0, .int .i64 0, .int .i64 0, .int .i64 0, .int .i64 0, .row [], .row []] [], none, [], []⟩,
  ⟨none, .store none 16 (.t 2) (.t 11), none, [], []⟩,
  ⟨some 3, .mov (.c (.int .i64 2)), none, [], []⟩] false)
 .ret) .skip))
 (.seq (.region [⟨some 13, .mov (.t 0), none, [], []⟩,
  ⟨some 14, .call true 9 [(.t 13)], none, [], []⟩,
  ⟨some 12, .mov (.t 14), none, [], []⟩,
  ⟨some 15, .ext (.t 12) 0, none, [], []⟩,
  ⟨some 16, .ext (.t 12) 1, none, [], []⟩,
  ⟨some 4, .mov (.t 15), none, [], []⟩,
  ⟨some 5, .mov (.t 16), none, [], []⟩] false)
 (.seq (.seq (.region [⟨some 17, .mov (.t 5), none, [], []⟩,
  ⟨some 18, .bin .neq (.t 17) (.c (.int .i64 0)), none, [], []⟩] false)
 (.cond (.t 18) (.seq (.region [⟨some 19, .build [.int .i64 0, .int .i64 0, .int .i64 0, .int .i64 0, .int .i64 0, .int .i64 0, .int .i64 0, .int .i64 0, .int .i64 0, .int .i64 0, .int .i64 0, .int .i64 0, .int .i64 0, .int .i64 0, .row [], .row []] [], none, [], []⟩,
  ⟨some 20, .mov (.t 5), none, [], []⟩,
  ⟨none, .store none 16 (.t 2) (.t 19), none, [], []⟩,
  ⟨some 3, .mov (.t 20), none, [], []⟩] false)
 .ret) .skip))
 (.seq (.region [⟨some 22, .mov (.t 4), none, [], []⟩,
  ⟨some 23, .call true 33 [(.t 22)], none, [], []⟩,
  ⟨some 21, .mov (.t 23), none, [], []⟩,
  ⟨some 24, .ext (.t 21) 0, none, [], []⟩,
  ⟨some 25, .ext (.t 21) 1, none, [], []⟩,
  ⟨some 6, .alloc [.int .i64 0, .int .i64 0, .int .i64 0, .int .i64 0, .int .i64 0, .int .i64 0, .int .i64 0, .int .i64 0, .int .i64 0, .int .i64 0, .int .i64 0, .int .i64 0, .int .i64 0, .int .i64 0, .row [], .row []], none, [], []⟩,
  ⟨none, .store none 16 (.t 6) (.t 24), none, [], []⟩,
  ⟨some 7, .mov (.t 25), none, [], []⟩] false)
 (.seq (.seq (.region [⟨some 26, .mov (.t 7), none, [], []⟩,
  ⟨some 27, .un .not (.t 26), none, [], []⟩] false)
 (.cond (.t 27) (.seq (.region [⟨some 28, .build [.int .i64 0, .int .i64 0, .int .i64 0, .int .i64 0, .int .i64 0, .int .i64 0, .int .i64 0, .int .i64 0, .int .i64 0, .int .i64 0, .int .i64 0, .int .i64 0, .int .i64 0, .int .i64 0, .row [], .row []] [], none, [], []⟩,
  ⟨none, .store none 16 (.t 2) (.t 28), none, [], []⟩,
  ⟨some 3, .mov (.c (.int .i64 3)), none, [], []⟩] false)
 .ret) .skip))
 (.seq (.region [⟨some 29, .load true 16 (.t 6), none, [], []⟩,
  ⟨some 30, .call true 29 [(.t 29)], none, [], []⟩,
  ⟨some 5, .mov (.t 30), none, [], []⟩] false)
 (.seq (.seq (.region [⟨some 31, .mov (.t 5), none, [], []⟩,
  ⟨some 32, .bin .neq (.t 31) (.c (.int .i64 0)), none, [], []⟩] false)
 (.cond (.t 32) (.seq (.region [⟨some 33, .build [.int .i64 0, .int .i64 0, .int .i64 0, .int .i64 0, .int .i64 0, .int .i64 0, .int .i64 0, .int .i64 0, .int .i64 0, .int .i64 0, .int .i64 0, .int .i64 0, .int .i64 0, .int .i64 0, .row [], .row []] [], none, [], []⟩,
  ⟨some 34, .mov (.t 5), none, [], []⟩,
  ⟨none, .store none 16 (.t 2) (.t 33), none, [], []⟩,
  ⟨some 3, .mov (.t 34), none, [], []⟩] false)
 .ret) .skip))
 (.seq (.region [⟨some 35, .load true 16 (.t 6), none, [], []⟩,
  ⟨none, .store none 16 (.t 2) (.t 35), none, [], []⟩,
  ⟨some 3, .mov (.c (.int .i64 0)), none, [], []⟩] false)
 .ret)))))))))
def i16 : F := ⟨1, 36, j16, [.c 2 16 true, .t 3]⟩
theorem b16 : i16.body = j16 := rfl
theorem q16 : i16.res = [.c 2 16 true, .t 3] := rfl
theorem c16 : chkF Try.prog Try.f16 i16 = true := by kernel_rfl
theorem s16 {m : Model} {E : Nat → Model} (hE : ∀ f, Sound Try.prog f (E f)) (hm : ∀ args r, m args = some r → ∃ N, i16.ev E N args = some r) : Sound Try.prog 16 m := sound_of i16 Try.func16 rfl c16 hE hm
/-- bellwether/bellwetherref01.Decode -/
def j17 : C := (.seq (.region [⟨some 2, .alloc [.int .i64 0, .int .i64 0, .int .i64 0, .int .i64 0, .int .i64 0, .int .i64 0, .int .i64 0, .int .i64 0, .int .i64 0, .int .i64 0, .int .i64 0, .int .i64 0, .int .i64 0, .int .i64 0, .row [], .row []], none, [], []⟩,
  ⟨some 3, .mov (.c (.int .i64 0)), none, [], []⟩] false)
 (.seq (.region [⟨some 11, .build [.int .i64 0, .int .i64 0, .int .i64 0, .int .i64 0, .int .i64 0, .int .i64 0, .int .i64 0, .int .i64 0, .int .i64 0, .int .i64 0, .int .i64 0, .int .i64 0, .int .i64 0, .int .i64 0, .row [], .row []] [], none, [], []⟩,
  ⟨some 4, .alloc [.int .i64 0, .int .i64 0, .int .i64 0, .int .i64 0, .int .i64 0, .int .i64 0, .int .i64 0, .int .i64 0, .int .i64 0, .int .i64 0, .int .i64 0, .int .i64 0, .int .i64 0, .int .i64 0, .row [], .row []], none, [], []⟩,
  ⟨none, .store none 16 (.t 4) (.t 11), none, [], []⟩] false)
 (.seq (.seq (.region [⟨some 12, .mov (.t 0), none, [], []⟩,
  ⟨some 13, .len (.t 12), none, [], []⟩,
  ⟨some 14, .bin .gtr (.t 13) (.c (.int .i64 80)), none, [], []⟩] false)
 (.cond (.t 14) (.seq (.region [⟨some 15, .load true 16 (.t 4), none, [], []⟩,
  ⟨none, .store none 16 (.t 2) (.t 15), none, [], []⟩,
  ⟨some 3, .mov (.c (.int .i64 2)), none, [], []⟩] false)
 .ret) .skip))
 (.seq (.region [⟨some 17, .mov (.t 0), none, [], []⟩,
  ⟨some 18, .call false 34 [(.t 17)], none, [], []⟩,
  ⟨some 16, .mov (.t 18), none, [], []⟩,
  ⟨some 19, .ext (.t 16) 0, none, [], []⟩,
  ⟨some 20, .ext (.t 16) 1, none, [], []⟩,
  ⟨some 5, .mov (.t 19), none, [], []⟩,
  ⟨some 6, .mov (.t 20), none, [], []⟩] false)
 (.seq (.seq (.region [⟨some 21, .mov (.t 6), none, [], []⟩,
  ⟨some 22, .bin .neq (.t 21) (.c (.int .i64 0)), none, [], []⟩] false)
 (.cond (.t 22) (.seq (.region [⟨some 23, .load true 16 (.t 4), none, [], []⟩,
  ⟨some 24, .mov (.t 6), none, [], []⟩,
  ⟨none, .store none 16 (.t 2) (.t 23), none, [], []⟩,
  ⟨some 3, .mov (.t 24), none, [], []⟩] false)
 .ret) .skip))
 (.seq (.seq (.region [⟨some 25, .mov (.t 5), none, [], []⟩,
  ⟨some 26, .len (.t 25), none, [], []⟩,
  ⟨some 27, .bin .lss (.t 26) (.c (.int .i64 42)), none, [], []⟩] false)
 (.cond (.t 27) (.seq (.region [⟨some 28, .load true 16 (.t 4), none, [], []⟩,
  ⟨none, .store none 16 (.t 2) (.t 28), none, [], []⟩,
  ⟨some 3, .mov (.c (.int .i64 3)), none, [], []⟩] false)
 .ret) .skip))
 (.seq (.region [⟨some 29, .mov (.t 5), none, [7, 33, 34, 35, 36, 37, 38, 39, 40, 41, 42, 43, 44, 45, 46, 47, 48, 49, 50, 51, 52], []⟩,
  ⟨some 30, .iad 1 (.t 29) (.c (.int .i64 0)), none, [7, 33, 34, 35, 36, 37, 38, 39, 40, 41, 42, 43, 44, 45, 46, 47, 48, 49, 50, 51, 52], [0]⟩,
  ⟨some 31, .load false 1 (.t 30), none, [7, 33, 34, 35, 36, 37, 38, 39, 40, 41, 42, 43, 44, 45, 46, 47, 48, 49, 50, 51, 52], [0, 1]⟩,
  ⟨some 32, .conv .i64 (.t 31), none, [7, 33, 34, 35, 36, 37, 38, 39, 40, 41, 42, 43, 44, 45, 46, 47, 48, 49, 50, 51, 52], [0, 1, 2]⟩,
  ⟨some 33, .mov (.t 5), none, [7, 29, 30, 31, 32, 37, 38, 39, 40, 41, 42, 43, 44, 45, 46, 47, 48, 49, 50, 51, 52], []⟩,
  ⟨some 34, .iad 1 (.t 33) (.c (.int .i64 1)), none, [7, 29, 30, 31, 32, 37, 38, 39, 40, 41, 42, 43, 44, 45, 46, 47, 48, 49, 50, 51, 52], [4]⟩,
  ⟨some 35, .load false 1 (.t 34), none, [7, 29, 30, 31, 32, 37, 38, 39, 40, 41, 42, 43, 44, 45, 46, 47, 48, 49, 50, 51, 52], [4, 5]⟩,
  ⟨some 36, .conv .i64 (.t 35), none, [7, 29, 30, 31, 32, 37, 38, 39, 40, 41, 42, 43, 44, 45, 46, 47, 48, 49, 50, 51, 52], [4, 5, 6]⟩,
  ⟨some 37, .mov (.t 5), none, [7, 29, 30, 31, 32, 33, 34, 35, 36, 41, 42, 43, 44, 45, 46, 47, 48, 49, 50, 51, 52], []⟩,
  ⟨some 38, .iad 1 (.t 37) (.c (.int .i64 2)), none, [7, 29, 30, 31, 32, 33, 34, 35, 36, 41, 42, 43, 44, 45, 46, 47, 48, 49, 50, 51, 52], [8]⟩,
  ⟨some 39, .load false 1 (.t 38), none, [7, 29, 30, 31, 32, 33, 34, 35, 36, 41, 42, 43, 44, 45, 46, 47, 48, 49, 50, 51, 52], [8, 9]⟩,
  ⟨some 40, .conv .i64 (.t 39), none, [7, 29, 30, 31, 32, 33, 34, 35, 36, 41, 42, 43, 44, 45, 46, 47, 48, 49, 50, 51, 52], [8, 9, 10]⟩,
  ⟨some 41, .mov (.t 5), none, [7, 29, 30, 31, 32, 33, 34, 35, 36, 37, 38, 39, 40, 45, 46, 47, 48, 49, 50, 51, 52], []⟩,
  ⟨some 42, .iad 1 (.t 41) (.c (.int .i64 3)), none, [7, 29, 30, 31, 32, 33, 34, 35, 36, 37, 38, 39, 40, 45, 46, 47, 48, 49, 50, 51, 52], [12]⟩,
  ⟨some 43, .load false 1 (.t 42), none, [7, 29, 30, 31, 32, 33, 34, 35, 36, 37, 38, 39, 40, 45, 46, 47, 48, 49, 50, 51, 52], [12, 13]⟩,
  ⟨some 44, .conv .i64 (.t 43), none, [7, 29, 30, 31, 32, 33, 34, 35, 36, 37, 38, 39, 40, 45, 46, 47, 48, 49, 50, 51, 52], [12, 13, 14]⟩,
  ⟨some 45, .mov (.t 5), none, [7, 29, 30, 31, 32, 33, 34, 35, 36, 37, 38, 39, 40, 41, 42, 43, 44, 49, 50, 51, 52], []⟩,
  ⟨some 46, .iad 1 (.t 45) (.c (.int .i64 32)), none, [7, 29, 30, 31, 32, 33, 34, 35, 36, 37, 38, 39, 40, 41, 42, 43, 44, 49, 50, 51, 52], [16]⟩,
  ⟨some 47, .load false 1 (.t 46), none, [7, 29, 30, 31, 32, 33, 34, 35, 36, 37, 38, 39, 40, 41, 42, 43, 44, 49, 50, 51, 52], [16, 17]⟩,
  ⟨some 48, .conv .i64 (.t 47), none, [7, 29, 30, 31, 32, 33, 34, 35, 36, 37, 38, 39, 40, 41, 42, 43, 44, 49, 50, 51, 52], [16, 17, 18]⟩,
  ⟨some 49, .mov (.t 5), none, [7, 29, 30, 31, 32, 33, 34, 35, 36, 37, 38, 39, 40, 41, 42, 43, 44, 45, 46, 47, 48], []⟩,
  ⟨some 50, .iad 1 (.t 49) (.c (.int .i64 41)), none, [7, 29, 30, 31, 32, 33, 34, 35, 36, 37, 38, 39, 40, 41, 42, 43, 44, 45, 46, 47, 48], [20]⟩,
  ⟨some 51, .load false 1 (.t 50), none, [7, 29, 30, 31, 32, 33, 34, 35, 36, 37, 38, 39, 40, 41, 42, 43, 44, 45, 46, 47, 48], [20, 21]⟩,
  ⟨some 52, .conv .i64 (.t 51), none, [7, 29, 30, 31, 32, 33, 34, 35, 36, 37, 38, 39, 40, 41, 42, 43, 44, 45, 46, 47, 48], [20, 21, 22]⟩,
  ⟨some 53, .build [.int .i64 0, .int .i64 0, .int .i64 0, .int .i64 0, .int .i64 0, .int .i64 0, .int .i64 0, .int .i64 0, .int .i64 0, .int .i64 0, .int .i64 0, .int .i64 0, .int .i64 0, .int .i64 0, .row [], .row []] [(0, 1, (.t 32)), (1, 1, (.t 36)), (3, 1, (.t 40)), (5, 1, (.t 44)), (10, 1, (.t 48)), (13, 1, (.t 52))], none, [7], [0, 1, 2, 3, 4, 5, 6, 7, 8, 9, 10, 11, 12, 13, 14, 15, 16, 17, 18, 19, 20, 21, 22, 23]⟩,
  ⟨some 7, .alloc [.int .i64 0, .int .i64 0, .int .i64 0, .int .i64 0, .int .i64 0, .int .i64 0, .int .i64 0, .int .i64 0, .int .i64 0, .int .i64 0, .int .i64 0, .int .i64 0, .int .i64 0, .int .i64 0, .row [], .row []], none, [29, 30, 31, 32, 33, 34, 35, 36, 37, 38, 39, 40, 41, 42, 43, 44, 45, 46, 47, 48, 49, 50, 51, 52, 53], []⟩,
  ⟨none, .store none 16 (.t 7) (.t 53), none, [], [0, 1, 2, 3, 4, 5, 6, 7, 8, 9, 10, 11, 12, 13, 14, 15, 16, 17, 18, 19, 20, 21, 22, 23, 24, 25]⟩] true)
 (.seq (.region [⟨some 55, .mov (.t 5), none, [], []⟩,
  ⟨some 56, .cut 1 (.t 55) (some (.c (.int .i64 12))) (some (.c (.int .i64 20))), none, [], []⟩,
  ⟨some 57, .call false 35 [(.t 56)], none, [], []⟩,
  ⟨some 54, .mov (.t 57), none, [], []⟩,
  ⟨some 58, .ext (.t 54) 0, none, [], []⟩,
  ⟨some 59, .ext (.t 54) 1, none, [], []⟩,
  ⟨some 8, .mov (.t 58), none, [], []⟩,
  ⟨some 9, .mov (.t 59), none, [], []⟩] false)
 (.seq (.region [⟨some 60, .mov (.t 8), none, [], []⟩,
  ⟨some 61, .fad 6 (.t 7), none, [], []⟩,
  ⟨none, .store none 1 (.t 61) (.t 60), none, [], []⟩] false)
 (.seq (.region [⟨some 63, .mov (.t 5), none, [], []⟩,
  ⟨some 64, .cut 1 (.t 63) (some (.c (.int .i64 4))) (some (.c (.int .i64 8))), none, [], []⟩,
  ⟨some 65, .call false 35 [(.t 64)], none, [], []⟩,
  ⟨some 62, .mov (.t 65), none, [], []⟩,
  ⟨some 66, .ext (.t 62) 0, none, [], []⟩,
  ⟨some 67, .ext (.t 62) 1, none, [], []⟩,
  ⟨some 68, .fad 2 (.t 7), none, [], []⟩,
  ⟨none, .store none 1 (.t 68) (.t 66), none, [], []⟩] false)
 (.seq (.region [⟨some 70, .mov (.t 5), none, [], []⟩,
  ⟨some 71, .cut 1 (.t 70) (some (.c (.int .i64 8))) (some (.c (.int .i64 12))), none, [], []⟩,
  ⟨some 72, .call false 35 [(.t 71)], none, [], []⟩,
  ⟨some 69, .mov (.t 72), none, [], []⟩,
  ⟨some 73, .ext (.t 69) 0, none, [], []⟩,
  ⟨some 74, .ext (.t 69) 1, none, [], []⟩,
  ⟨some 75, .fad 4 (.t 7), none, [], []⟩,
  ⟨none, .store none 1 (.t 75) (.t 73), none, [], []⟩] false)
 (.seq (.region [⟨some 77, .mov (.t 5), none, [], []⟩,
  ⟨some 78, .cut 1 (.t 77) (some (.c (.int .i64 20))) (some (.c (.int .i64 24))), none, [], []⟩,
  ⟨some 79, .call false 35 [(.t 78)], none, [], []⟩,
  ⟨some 76, .mov (.t 79), none, [], []⟩,
  ⟨some 80, .ext (.t 76) 0, none, [], []⟩,
  ⟨some 81, .ext (.t 76) 1, none, [], []⟩,
  ⟨some 82, .fad 7 (.t 7), none, [], []⟩,
  ⟨none, .store none 1 (.t 82) (.t 80), none, [], []⟩] false)
 (.seq (.region [⟨some 84, .mov (.t 5), none, [], []⟩,
  ⟨some 85, .cut 1 (.t 84) (some (.c (.int .i64 24))) (some (.c (.int .i64 28))), none, [], []⟩,
  ⟨some 86, .call false 35 [(.t 85)], none, [], []⟩,
  ⟨some 83, .mov (.t 86), none, [], []⟩,
  ⟨some 87, .ext (.t 83) 0, none, [], []⟩,
  ⟨some 88, .ext (.t 83) 1, none, [], []⟩,
  ⟨some 89, .fad 8 (.t 7), none, [], []⟩,
  ⟨none, .store none 1 (.t 89) (.t 87), none, [], []⟩] false)
 (.seq (.region [⟨some 91, .mov (.t 5), none, [], []⟩,
  ⟨some 92, .cut 1 (.t 91) (some (.c (.int .i64 28))) (some (.c (.int .i64 32))), none, [], []⟩,
  ⟨some 93, .call false 35 [(.t 92)], none, [], []⟩,
  ⟨some 90, .mov (.t 93), none, [], []⟩,
  ⟨some 94, .ext (.t 90) 0, none, [], []⟩,
  ⟨some 95, .ext (.t 90) 1, none, [], []⟩,
  ⟨some 96, .fad 9 (.t 7), none, [], []⟩,
  ⟨none, .store none 1 (.t 96) (.t 94), none, [], []⟩] false)
 (.seq (.region [⟨some 98, .mov (.t 5), none, [], []⟩,
  ⟨some 99, .cut 1 (.t 98) (some (.c (.int .i64 33))) (some (.c (.int .i64 37))), none, [], []⟩,
  ⟨some 100, .call false 35 [(.t 99)], none, [], []⟩,
  ⟨some 97, .mov (.t 100), none, [], []⟩,
  ⟨some 101, .ext (.t 97) 0, none, [], []⟩,
  ⟨some 102, .ext (.t 97) 1, none, [], []⟩,
  ⟨some 103, .fad 11 (.t 7), none, [], []⟩,
  ⟨none, .store none 1 (.t 103) (.t 101), none, [], []⟩] false)
 (.seq (.region [⟨some 105, .mov (.t 5), none, [], []⟩,
  ⟨some 106, .cut 1 (.t 105) (some (.c (.int .i64 37))) (some (.c (.int .i64 41))), none, [], []⟩,
  ⟨some 107, .call false 35 [(.t 106)], none, [], []⟩,
  ⟨some 104, .mov (.t 107), none, [], []⟩,
  ⟨some 108, .ext (.t 104) 0, none, [], []⟩,
  ⟨some 109, .ext (.t 104) 1, none, [], []⟩,
  ⟨some 110, .fad 12 (.t 7), none, [], []⟩,
  ⟨none, .store none 1 (.t 110) (.t 108), none, [], []⟩] false)
 (.seq (.region [⟨some 10, .mov (.c (.int .i64 42)), none, [], []⟩] false)
 (.seq (.region [⟨some 112, .mov (.t 5), none, [], []⟩,
  ⟨some 113, .mov (.t 10), none, [], []⟩,
  ⟨some 114, .call false 36 [(.t 112), (.t 113)], none, [], []⟩,
  ⟨some 111, .mov (.t 114), none, [], []⟩,
  ⟨some 115, .ext (.t 111) 0, none, [], []⟩,
  ⟨some 116, .ext (.t 111) 1, none, [], []⟩,
  ⟨some 117, .fad 14 (.t 7), none, [], []⟩,
  ⟨none, .store none 1 (.t 117) (.t 115), none, [], []⟩,
  ⟨some 10, .mov (.t 116), none, [], []⟩] false)
 (.seq (.region [⟨some 119, .mov (.t 5), none, [], []⟩,
  ⟨some 120, .mov (.t 10), none, [], []⟩,
  ⟨some 121, .call false 36 [(.t 119), (.t 120)], none, [], []⟩,
  ⟨some 118, .mov (.t 121), none, [], []⟩,
  ⟨some 122, .ext (.t 118) 0, none, [], []⟩,
  ⟨some 123, .ext (.t 118) 1, none, [], []⟩,
  ⟨some 124, .fad 15 (.t 7), none, [], []⟩,
  ⟨none, .store none 1 (.t 124) (.t 122), none, [], []⟩,
  ⟨some 10, .mov (.t 123), none, [], []⟩] false)
 (.seq (.seq (.region [⟨some 125, .mov (.t 9), none, [], []⟩,
  ⟨some 126, .un .not (.t 125), none, [], []⟩,
  ⟨some 127, .mov (.t 126), none, [], []⟩,
  ⟨some 128, .mov (.t 10), some (127, false), [], []⟩,
  ⟨some 129, .mov (.t 5), some (127, false), [], []⟩,
  ⟨some 130, .len (.t 129), some (127, false), [], []⟩,
  ⟨some 131, .bin .neq (.t 128) (.t 130), some (127, false), [], []⟩,
  ⟨some 132, .pick (.t 127) (.c (.bool true)) (.t 131), none, [], []⟩] false)
 (.cond (.t 132) (.seq (.region [⟨some 133, .load true 16 (.t 4), none, [], []⟩,
  ⟨none, .store none 16 (.t 2) (.t 133), none, [], []⟩,
  ⟨some 3, .mov (.c (.int .i64 3)), none, [], []⟩] false)
 .ret) .skip))
 (.seq (.seq (.region [⟨some 134, .load true 16 (.t 7), none, [], []⟩,
  ⟨some 135, .call false 19 [(.t 134)], none, [], []⟩,
  ⟨some 136, .un .not (.t 135), none, [], []⟩] false)
 (.cond (.t 136) (.seq (.region [⟨some 137, .load true 16 (.t 4), none, [], []⟩,
  ⟨none, .store none 16 (.t 2) (.t 137), none, [], []⟩,
  ⟨some 3, .mov (.c (.int .i64 5)), none, [], []⟩] false)
 .ret) .skip))
 (.seq (.region [⟨some 138, .load true 16 (.t 7), none, [], []⟩,
  ⟨none, .store none 16 (.t 2) (.t 138), none, [], []⟩,
  ⟨some 3, .mov (.c (.int .i64 0)), none, [], []⟩] false)
 .ret))))))))))))))))))))))
def i17 : F := ⟨1, 139, j17, [.c 2 16 true, .t 3]⟩
theorem b17 : i17.body = j17 := rfl
theorem q17 : i17.res = [.c 2 16 true, .t 3] := rfl
theorem c17 : chkF Try.prog Try.f17 i17 = true := by kernel_rfl
theorem s17 {m : Model} {E : Nat → Model} (hE : ∀ f, Sound Try.prog f (E f)) (hm : ∀ args r, m args = some r → ∃ N, i17.ev E N args = some r) : Sound Try.prog 17 m := sound_of i17 Try.func17 rfl c17 hE hm
/-- bellwether/bellwetherkeep.Msg -/
def j18 : C := (.seq (.region [⟨some 2, .box (.t 0), none, [], []⟩,
  ⟨some 3, .box (.t 1), none, [], []⟩,
  ⟨some 4, .mov (.c (.bool false)), none, [], []⟩] false)
 (.seq (.region [⟨some 5, .fad 0 (.t 2), none, [], []⟩,
  ⟨some 6, .load false 1 (.t 5), none, [], []⟩,
  ⟨some 7, .fad 0 (.t 3), none, [], []⟩,
  ⟨some 8, .load false 1 (.t 7), none, [], []⟩,
  ⟨some 9, .bin .eql (.t 6) (.t 8), none, [], []⟩,
  ⟨some 10, .mov (.t 9), none, [], []⟩,
  ⟨some 11, .fad 1 (.t 2), some (10, true), [], []⟩,
  ⟨some 12, .load false 1 (.t 11), some (10, true), [], []⟩,
  ⟨some 13, .fad 1 (.t 3), some (10, true), [], []⟩,
  ⟨some 14, .load false 1 (.t 13), some (10, true), [], []⟩,
  ⟨some 15, .bin .eql (.t 12) (.t 14), some (10, true), [], []⟩,
  ⟨some 16, .pick (.t 10) (.t 15) (.c (.bool false)), none, [], []⟩,
  ⟨some 17, .mov (.t 16), none, [], []⟩,
  ⟨some 18, .fad 2 (.t 2), some (17, true), [], []⟩,
  ⟨some 19, .load false 1 (.t 18), some (17, true), [], []⟩,
  ⟨some 20, .fad 2 (.t 3), some (17, true), [], []⟩,
  ⟨some 21, .load false 1 (.t 20), some (17, true), [], []⟩,
  ⟨some 22, .bin .eql (.t 19) (.t 21), some (17, true), [], []⟩,
  ⟨some 23, .pick (.t 17) (.t 22) (.c (.bool false)), none, [], []⟩,
  ⟨some 24, .mov (.t 23), none, [], []⟩,
  ⟨some 25, .fad 3 (.t 2), some (24, true), [], []⟩,
  ⟨some 26, .load false 1 (.t 25), some (24, true), [], []⟩,
  ⟨some 27, .fad 3 (.t 3), some (24, true), [], []⟩,
  ⟨some 28, .load false 1 (.t 27), some (24, true), [], []⟩,
  ⟨some 29, .bin .eql (.t 26) (.t 28), some (24, true), [], []⟩,
  ⟨some 30, .pick (.t 24) (.t 29) (.c (.bool false)), none, [], []⟩,
  ⟨some 31, .mov (.t 30), none, [], []⟩,
  ⟨some 32, .fad 4 (.t 2), some (31, true), [], []⟩,
  ⟨some 33, .load false 1 (.t 32), some (31, true), [], []⟩,
  ⟨some 34, .fad 4 (.t 3), some (31, true), [], []⟩,
  ⟨some 35, .load false 1 (.t 34), some (31, true), [], []⟩,
  ⟨some 36, .bin .eql (.t 33) (.t 35), some (31, true), [], []⟩,
  ⟨some 37, .pick (.t 31) (.t 36) (.c (.bool false)), none, [], []⟩,
  ⟨some 38, .mov (.t 37), none, [], []⟩,
  ⟨some 39, .fad 5 (.t 2), some (38, true), [], []⟩,
  ⟨some 40, .load false 1 (.t 39), some (38, true), [], []⟩,
  ⟨some 41, .fad 5 (.t 3), some (38, true), [], []⟩,
  ⟨some 42, .load false 1 (.t 41), some (38, true), [], []⟩,
  ⟨some 43, .bin .eql (.t 40) (.t 42), some (38, true), [], []⟩,
  ⟨some 44, .pick (.t 38) (.t 43) (.c (.bool false)), none, [], []⟩,
  ⟨some 45, .mov (.t 44), none, [], []⟩,
  ⟨some 46, .fad 6 (.t 2), some (45, true), [], []⟩,
  ⟨some 47, .load false 1 (.t 46), some (45, true), [], []⟩,
  ⟨some 48, .fad 6 (.t 3), some (45, true), [], []⟩,
  ⟨some 49, .load false 1 (.t 48), some (45, true), [], []⟩,
  ⟨some 50, .bin .eql (.t 47) (.t 49), some (45, true), [], []⟩,
  ⟨some 51, .pick (.t 45) (.t 50) (.c (.bool false)), none, [], []⟩,
  ⟨some 52, .mov (.t 51), none, [], []⟩,
  ⟨some 53, .fad 7 (.t 2), some (52, true), [], []⟩,
  ⟨some 54, .load false 1 (.t 53), some (52, true), [], []⟩,
  ⟨some 55, .fad 7 (.t 3), some (52, true), [], []⟩,
  ⟨some 56, .load false 1 (.t 55), some (52, true), [], []⟩,
  ⟨some 57, .bin .eql (.t 54) (.t 56), some (52, true), [], []⟩,
  ⟨some 58, .pick (.t 52) (.t 57) (.c (.bool false)), none, [], []⟩,
  ⟨some 59, .mov (.t 58), none, [], []⟩,
  ⟨some 60, .fad 8 (.t 2), some (59, true), [], []⟩,
  ⟨some 61, .load false 1 (.t 60), some (59, true), [], []⟩,
  ⟨some 62, .fad 8 (.t 3), some (59, true), [], []⟩,
  ⟨some 63, .load false 1 (.t 62), some (59, true), [], []⟩,
  ⟨some 64, .bin .eql (.t 61) (.t 63), some (59, true), [], []⟩,
  ⟨some 65, .pick (.t 59) (.t 64) (.c (.bool false)), none, [], []⟩,
  ⟨some 66, .mov (.t 65), none, [], []⟩,
  ⟨some 67, .fad 9 (.t 2), some (66, true), [], []⟩,
  ⟨some 68, .load false 1 (.t 67), some (66, true), [], []⟩,
  ⟨some 69, .fad 9 (.t 3), some (66, true), [], []⟩,
  ⟨some 70, .load false 1 (.t 69), some (66, true), [], []⟩,
  ⟨some 71, .bin .eql (.t 68) (.t 70), some (66, true), [], []⟩,
  ⟨some 72, .pick (.t 66) (.t 71) (.c (.bool false)), none, [], []⟩,
  ⟨some 73, .mov (.t 72), none, [], []⟩,
  ⟨some 74, .fad 10 (.t 2), some (73, true), [], []⟩,
  ⟨some 75, .load false 1 (.t 74), some (73, true), [], []⟩,
  ⟨some 76, .fad 10 (.t 3), some (73, true), [], []⟩,
  ⟨some 77, .load false 1 (.t 76), some (73, true), [], []⟩,
  ⟨some 78, .bin .eql (.t 75) (.t 77), some (73, true), [], []⟩,
  ⟨some 79, .pick (.t 73) (.t 78) (.c (.bool false)), none, [], []⟩,
  ⟨some 80, .mov (.t 79), none, [], []⟩,
  ⟨some 81, .fad 11 (.t 2), some (80, true), [], []⟩,
  ⟨some 82, .load false 1 (.t 81), some (80, true), [], []⟩,
  ⟨some 83, .fad 11 (.t 3), some (80, true), [], []⟩,
  ⟨some 84, .load false 1 (.t 83), some (80, true), [], []⟩,
  ⟨some 85, .bin .eql (.t 82) (.t 84), some (80, true), [], []⟩,
  ⟨some 86, .pick (.t 80) (.t 85) (.c (.bool false)), none, [], []⟩,
  ⟨some 87, .mov (.t 86), none, [], []⟩,
  ⟨some 88, .fad 12 (.t 2), some (87, true), [], []⟩,
  ⟨some 89, .load false 1 (.t 88), some (87, true), [], []⟩,
  ⟨some 90, .fad 12 (.t 3), some (87, true), [], []⟩,
  ⟨some 91, .load false 1 (.t 90), some (87, true), [], []⟩,
  ⟨some 92, .bin .eql (.t 89) (.t 91), some (87, true), [], []⟩,
  ⟨some 93, .pick (.t 87) (.t 92) (.c (.bool false)), none, [], []⟩,
  ⟨some 94, .mov (.t 93), none, [], []⟩,
  ⟨some 95, .fad 13 (.t 2), some (94, true), [], []⟩,
  ⟨some 96, .load false 1 (.t 95), some (94, true), [], []⟩,
  ⟨some 97, .fad 13 (.t 3), some (94, true), [], []⟩,
  ⟨some 98, .load false 1 (.t 97), some (94, true), [], []⟩,
  ⟨some 99, .bin .eql (.t 96) (.t 98), some (94, true), [], []⟩,
  ⟨some 100, .pick (.t 94) (.t 99) (.c (.bool false)), none, [], []⟩,
  ⟨some 101, .mov (.t 100), none, [], []⟩,
  ⟨some 102, .fad 14 (.t 2), some (101, true), [], []⟩,
  ⟨some 103, .load false 1 (.t 102), some (101, true), [], []⟩,
  ⟨some 104, .fad 14 (.t 3), some (101, true), [], []⟩,
  ⟨some 105, .load false 1 (.t 104), some (101, true), [], []⟩,
  ⟨some 106, .call false 37 [(.t 103), (.t 105)], some (101, true), [], []⟩,
  ⟨some 107, .pick (.t 101) (.t 106) (.c (.bool false)), none, [], []⟩,
  ⟨some 108, .mov (.t 107), none, [], []⟩,
  ⟨some 109, .fad 15 (.t 2), some (108, true), [], []⟩,
  ⟨some 110, .load false 1 (.t 109), some (108, true), [], []⟩,
  ⟨some 111, .fad 15 (.t 3), some (108, true), [], []⟩,
  ⟨some 112, .load false 1 (.t 111), some (108, true), [], []⟩,
  ⟨some 113, .call false 37 [(.t 110), (.t 112)], some (108, true), [], []⟩,
  ⟨some 114, .pick (.t 108) (.t 113) (.c (.bool false)), none, [], []⟩,
  ⟨some 4, .mov (.t 114), none, [], []⟩] false)
 .ret))
def i18 : F := ⟨2, 115, j18, [.t 4]⟩
theorem b18 : i18.body = j18 := rfl
theorem q18 : i18.res = [.t 4] := rfl
theorem c18 : chkF Try.prog Try.f18 i18 = true := by kernel_rfl
theorem s18 {m : Model} {E : Nat → Model} (hE : ∀ f, Sound Try.prog f (E f)) (hm : ∀ args r, m args = some r → ∃ N, i18.ev E N args = some r) : Sound Try.prog 18 m := sound_of i18 Try.func18 rfl c18 hE hm
/-- bellwether/bellwetherref01.Msg -/
def j19 : C := (.seq (.region [⟨some 1, .box (.t 0), none, [], []⟩,
  ⟨some 2, .mov (.c (.bool false)), none, [], []⟩] false)
 (.seq (.seq (.region [⟨some 5, .fad 0 (.t 1), none, [], []⟩,
  ⟨some 6, .load false 1 (.t 5), none, [], []⟩,
  ⟨some 7, .call false 38 [(.t 6), (.c (.int .i64 1)), (.c (.int .i64 13))], none, [], []⟩,
  ⟨some 8, .un .not (.t 7), none, [], []⟩,
  ⟨some 9, .mov (.t 8), none, [], []⟩,
  ⟨some 10, .fad 1 (.t 1), some (9, false), [], []⟩,
  ⟨some 11, .load false 1 (.t 10), some (9, false), [], []⟩,
  ⟨some 12, .call false 39 [(.t 11)], some (9, false), [], []⟩,
  ⟨some 13, .un .not (.t 12), some (9, false), [], []⟩,
  ⟨some 14, .pick (.t 9) (.c (.bool true)) (.t 13), none, [], []⟩,
  ⟨some 15, .mov (.t 14), none, [], []⟩,
  ⟨some 16, .fad 3 (.t 1), some (15, false), [], []⟩,
  ⟨some 17, .load false 1 (.t 16), some (15, false), [], []⟩,
  ⟨some 18, .call false 39 [(.t 17)], some (15, false), [], []⟩,
  ⟨some 19, .un .not (.t 18), some (15, false), [], []⟩,
  ⟨some 20, .pick (.t 15) (.c (.bool true)) (.t 19), none, [], []⟩,
  ⟨some 21, .mov (.t 20), none, [], []⟩,
  ⟨some 22, .fad 1 (.t 1), some (21, false), [], []⟩,
  ⟨some 23, .load false 1 (.t 22), some (21, false), [], []⟩,
  ⟨some 24, .fad 3 (.t 1), some (21, false), [], []⟩,
  ⟨some 25, .load false 1 (.t 24), some (21, false), [], []⟩,
  ⟨some 26, .bin .eql (.t 23) (.t 25), some (21, false), [], []⟩,
  ⟨some 27, .pick (.t 21) (.c (.bool true)) (.t 26), none, [], []⟩,
  ⟨some 28, .mov (.t 27), none, [], []⟩,
  ⟨some 29, .fad 2 (.t 1), some (28, false), [], []⟩,
  ⟨some 30, .load false 1 (.t 29), some (28, false), [], []⟩,
  ⟨some 31, .call false 40 [(.t 30)], some (28, false), [], []⟩,
  ⟨some 32, .un .not (.t 31), some (28, false), [], []⟩,
  ⟨some 33, .pick (.t 28) (.c (.bool true)) (.t 32), none, [], []⟩] false)
 (.cond (.t 33) (.seq (.region [⟨some 2, .mov (.c (.bool false)), none, [], []⟩] false)
 .ret) .skip))
 (.seq (.region [⟨some 34, .fad 0 (.t 1), none, [], []⟩,
  ⟨some 35, .load false 1 (.t 34), none, [], []⟩,
  ⟨some 36, .fad 1 (.t 1), none, [], []⟩,
  ⟨some 37, .load false 1 (.t 36), none, [], []⟩,
  ⟨some 38, .fad 2 (.t 1), none, [], []⟩,
  ⟨some 39, .load false 1 (.t 38), none, [], []⟩,
  ⟨some 40, .fad 3 (.t 1), none, [], []⟩,
  ⟨some 41, .load false 1 (.t 40), none, [], []⟩,
  ⟨some 42, .fad 4 (.t 1), none, [], []⟩,
  ⟨some 43, .load false 1 (.t 42), none, [], []⟩,
  ⟨some 44, .fad 5 (.t 1), none, [], []⟩,
  ⟨some 45, .load false 1 (.t 44), none, [], []⟩,
  ⟨some 46, .build [.int .i64 0, .int .i64 0, .int .i64 0, .int .i64 0, .int .i64 0, .int .i64 0, .int .i64 0, .int .i64 0, .int .i64 0, .int .i64 0, .int .i64 0, .int .i64 0, .int .i64 0, .int .i64 0, .row [], .row []] [(0, 1, (.t 35)), (1, 1, (.t 37)), (2, 1, (.t 39)), (3, 1, (.t 41)), (4, 1, (.t 43)), (5, 1, (.t 45))], none, [], []⟩,
  ⟨some 3, .alloc [.int .i64 0, .int .i64 0, .int .i64 0, .int .i64 0, .int .i64 0, .int .i64 0, .int .i64 0, .int .i64 0, .int .i64 0, .int .i64 0, .int .i64 0, .int .i64 0, .int .i64 0, .int .i64 0, .row [], .row []], none, [], []⟩,
  ⟨none, .store none 16 (.t 3) (.t 46), none, [], []⟩] false)
 (.seq (.seq (.region [⟨some 47, .fad 0 (.t 1), none, [], []⟩,
  ⟨some 48, .load false 1 (.t 47), none, [], []⟩,
  ⟨some 49, .bin .eql (.t 48) (.c (.int .i64 1)), none, [], []⟩] false)
 (.cond (.t 49) (.region [⟨some 50, .fad 4 (.t 3), none, [], []⟩,
  ⟨none, .store none 1 (.t 50) (.c (.int .i64 0)), none, [], []⟩,
  ⟨some 51, .fad 5 (.t 3), none, [], []⟩,
  ⟨none, .store none 1 (.t 51) (.c (.int .i64 0)), none, [], []⟩] false) (.seq (.region [⟨some 52, .fad 4 (.t 1), none, [], []⟩,
  ⟨some 53, .load false 1 (.t 52), none, [], []⟩,
  ⟨some 54, .call false 40 [(.t 53)], none, [], []⟩,
  ⟨some 55, .un .not (.t 54), none, [], []⟩,
  ⟨some 56, .mov (.t 55), none, [], []⟩,
  ⟨some 57, .fad 5 (.t 1), some (56, false), [], []⟩,
  ⟨some 58, .load false 1 (.t 57), some (56, false), [], []⟩,
  ⟨some 59, .call false 41 [(.t 58)], some (56, false), [], []⟩,
  ⟨some 60, .un .not (.t 59), some (56, false), [], []⟩,
  ⟨some 61, .pick (.t 56) (.c (.bool true)) (.t 60), none, [], []⟩] false)
 (.cond (.t 61) (.seq (.region [⟨some 2, .mov (.c (.bool false)), none, [], []⟩] false)
 .ret) .skip))))
 (.seq (.region [⟨some 4, .mov (.c (.bool true)), none, [], []⟩] false)
 (.seq (.seq (.region [⟨some 62, .fad 0 (.t 1), none, [], []⟩,
  ⟨some 63, .load false 1 (.t 62), none, [], []⟩] false)
 (.block 0 (.seq (.region [⟨some 65, .bin .eql (.t 63) (.c (.int .i64 2)), none, [], []⟩,
  ⟨some 64, .mov (.t 65), none, [], []⟩] false)
 (.cond (.t 64) (.seq (.region [⟨some 66, .fad 6 (.t 1), none, [], []⟩,
  ⟨some 67, .load false 1 (.t 66), none, [], []⟩,
  ⟨some 68, .call false 38 [(.t 67), (.c (.int .i64 0)), (.c (.int .i64 1073741824))], none, [], []⟩,
  ⟨some 4, .mov (.t 68), none, [], []⟩] false)
 (.region [⟨some 69, .fad 6 (.t 1), none, [], []⟩,
  ⟨some 70, .load false 1 (.t 69), none, [], []⟩,
  ⟨some 71, .fad 6 (.t 3), none, [], []⟩,
  ⟨none, .store none 1 (.t 71) (.t 70), none, [], []⟩] false)) (.seq (.region [⟨some 73, .bin .eql (.t 63) (.c (.int .i64 3)), none, [], []⟩,
  ⟨some 72, .mov (.t 73), none, [], []⟩] false)
 (.cond (.t 72) (.seq (.region [⟨some 74, .fad 6 (.t 1), none, [], []⟩,
  ⟨some 75, .load false 1 (.t 74), none, [], [0]⟩,
  ⟨some 76, .call false 38 [(.t 75), (.c (.int .i64 0)), (.c (.int .i64 1073741824))], none, [], [0, 1]⟩,
  ⟨some 77, .mov (.t 76), none, [], [0, 1, 2]⟩,
  ⟨some 78, .fad 7 (.t 1), some (77, true), [], [0, 1, 2, 3]⟩,
  ⟨some 79, .load false 1 (.t 78), some (77, true), [], [0, 1, 2, 3, 4]⟩,
  ⟨some 80, .call false 40 [(.t 79)], some (77, true), [], [0, 1, 2, 3, 4, 5]⟩,
  ⟨some 81, .pick (.t 77) (.t 80) (.c (.bool false)), none, [], [0, 1, 2, 3, 4, 5, 6]⟩,
  ⟨some 82, .mov (.t 81), none, [], [0, 1, 2, 3, 4, 5, 6, 7]⟩,
  ⟨some 83, .fad 8 (.t 1), some (82, true), [], [0, 1, 2, 3, 4, 5, 6, 7, 8]⟩,
  ⟨some 84, .load false 1 (.t 83), some (82, true), [], [0, 1, 2, 3, 4, 5, 6, 7, 8, 9]⟩,
  ⟨some 85, .call false 38 [(.t 84), (.c (.int .i64 0)), (.c (.int .i64 1073741824))], some (82, true), [], [0, 1, 2, 3, 4, 5, 6, 7, 8, 9, 10]⟩,
  ⟨some 86, .pick (.t 82) (.t 85) (.c (.bool false)), none, [], [0, 1, 2, 3, 4, 5, 6, 7, 8, 9, 10, 11]⟩,
  ⟨some 87, .mov (.t 86), none, [], [0, 1, 2, 3, 4, 5, 6, 7, 8, 9, 10, 11, 12]⟩,
  ⟨some 88, .fad 14 (.t 1), some (87, true), [], [0, 1, 2, 3, 4, 5, 6, 7, 8, 9, 10, 11, 12, 13]⟩,
  ⟨some 89, .load false 1 (.t 88), some (87, true), [], [0, 1, 2, 3, 4, 5, 6, 7, 8, 9, 10, 11, 12, 13, 14]⟩,
  ⟨some 90, .len (.t 89), some (87, true), [], [0, 1, 2, 3, 4, 5, 6, 7, 8, 9, 10, 11, 12, 13, 14, 15]⟩,
  ⟨some 91, .bin .gtr (.t 90) (.c (.int .i64 0)), some (87, true), [], [0, 1, 2, 3, 4, 5, 6, 7, 8, 9, 10, 11, 12, 13, 14, 15, 16]⟩,
  ⟨some 92, .pick (.t 87) (.t 91) (.c (.bool false)), none, [], [0, 1, 2, 3, 4, 5, 6, 7, 8, 9, 10, 11, 12, 13, 14, 15, 16, 17]⟩,
  ⟨some 93, .mov (.t 92), none, [], [0, 1, 2, 3, 4, 5, 6, 7, 8, 9, 10, 11, 12, 13, 14, 15, 16, 17, 18]⟩,
  ⟨some 94, .fad 14 (.t 1), some (93, true), [], [0, 1, 2, 3, 4, 5, 6, 7, 8, 9, 10, 11, 12, 13, 14, 15, 16, 17, 18, 19]⟩,
  ⟨some 95, .load false 1 (.t 94), some (93, true), [], [0, 1, 2, 3, 4, 5, 6, 7, 8, 9, 10, 11, 12, 13, 14, 15, 16, 17, 18, 19, 20]⟩,
  ⟨some 96, .call false 42 [(.t 95)], some (93, true), [], [0, 1, 2, 3, 4, 5, 6, 7, 8, 9, 10, 11, 12, 13, 14, 15, 16, 17, 18, 19, 20, 21]⟩,
  ⟨some 97, .pick (.t 93) (.t 96) (.c (.bool false)), none, [], [0, 1, 2, 3, 4, 5, 6, 7, 8, 9, 10, 11, 12, 13, 14, 15, 16, 17, 18, 19, 20, 21, 22]⟩,
  ⟨some 98, .mov (.t 97), none, [], [0, 1, 2, 3, 4, 5, 6, 7, 8, 9, 10, 11, 12, 13, 14, 15, 16, 17, 18, 19, 20, 21, 22, 23]⟩,
  ⟨some 99, .fad 14 (.t 1), some (98, true), [], [0, 1, 2, 3, 4, 5, 6, 7, 8, 9, 10, 11, 12, 13, 14, 15, 16, 17, 18, 19, 20, 21, 22, 23, 24]⟩,
  ⟨some 100, .load false 1 (.t 99), some (98, true), [], [0, 1, 2, 3, 4, 5, 6, 7, 8, 9, 10, 11, 12, 13, 14, 15, 16, 17, 18, 19, 20, 21, 22, 23, 24, 25]⟩,
  ⟨some 101, .call false 43 [(.t 100)], some (98, true), [], [0, 1, 2, 3, 4, 5, 6, 7, 8, 9, 10, 11, 12, 13, 14, 15, 16, 17, 18, 19, 20, 21, 22, 23, 24, 25, 26]⟩,
  ⟨some 102, .pick (.t 98) (.t 101) (.c (.bool false)), none, [], [0, 1, 2, 3, 4, 5, 6, 7, 8, 9, 10, 11, 12, 13, 14, 15, 16, 17, 18, 19, 20, 21, 22, 23, 24, 25, 26, 27]⟩,
  ⟨some 103, .mov (.t 102), none, [], [0, 1, 2, 3, 4, 5, 6, 7, 8, 9, 10, 11, 12, 13, 14, 15, 16, 17, 18, 19, 20, 21, 22, 23, 24, 25, 26, 27, 28]⟩,
  ⟨some 104, .fad 14 (.t 1), some (103, true), [108, 109], [0, 1, 2, 3, 4, 5, 6, 7, 8, 9, 10, 11, 12, 13, 14, 15, 16, 17, 18, 19, 20, 21, 22, 23, 24, 25, 26, 27, 28, 29]⟩,
  ⟨some 105, .load false 1 (.t 104), some (103, true), [108, 109], [0, 1, 2, 3, 4, 5, 6, 7, 8, 9, 10, 11, 12, 13, 14, 15, 16, 17, 18, 19, 20, 21, 22, 23, 24, 25, 26, 27, 28, 29, 30]⟩,
  ⟨some 106, .iad 1 (.t 105) (.c (.int .i64 0)), some (103, true), [108, 109], [0, 1, 2, 3, 4, 5, 6, 7, 8, 9, 10, 11, 12, 13, 14, 15, 16, 17, 18, 19, 20, 21, 22, 23, 24, 25, 26, 27, 28, 29, 30, 31]⟩,
  ⟨some 107, .load false 1 (.t 106), some (103, true), [108, 109], [0, 1, 2, 3, 4, 5, 6, 7, 8, 9, 10, 11, 12, 13, 14, 15, 16, 17, 18, 19, 20, 21, 22, 23, 24, 25, 26, 27, 28, 29, 30, 31, 32]⟩,
  ⟨some 108, .fad 1 (.t 1), some (103, true), [104, 105, 106, 107], [0, 1, 2, 3, 4, 5, 6, 7, 8, 9, 10, 11, 12, 13, 14, 15, 16, 17, 18, 19, 20, 21, 22, 23, 24, 25, 26, 27, 28, 29]⟩,
  ⟨some 109, .load false 1 (.t 108), some (103, true), [104, 105, 106, 107], [0, 1, 2, 3, 4, 5, 6, 7, 8, 9, 10, 11, 12, 13, 14, 15, 16, 17, 18, 19, 20, 21, 22, 23, 24, 25, 26, 27, 28, 29, 34]⟩,
  ⟨some 110, .bin .eql (.t 107) (.t 109), some (103, true), [], [0, 1, 2, 3, 4, 5, 6, 7, 8, 9, 10, 11, 12, 13, 14, 15, 16, 17, 18, 19, 20, 21, 22, 23, 24, 25, 26, 27, 28, 29, 30, 31, 32, 33, 34, 35]⟩,
  ⟨some 111, .pick (.t 103) (.t 110) (.c (.bool false)), none, [], [0, 1, 2, 3, 4, 5, 6, 7, 8, 9, 10, 11, 12, 13, 14, 15, 16, 17, 18, 19, 20, 21, 22, 23, 24, 25, 26, 27, 28, 29, 30, 31, 32, 33, 34, 35, 36]⟩,
  ⟨some 4, .mov (.t 111), none, [], [0, 1, 2, 3, 4, 5, 6, 7, 8, 9, 10, 11, 12, 13, 14, 15, 16, 17, 18, 19, 20, 21, 22, 23, 24, 25, 26, 27, 28, 29, 30, 31, 32, 33, 34, 35, 36, 37]⟩] true)
 (.region [⟨some 112, .fad 6 (.t 1), none, [114, 115, 116, 117, 118, 119], []⟩,
  ⟨some 113, .load false 1 (.t 112), none, [114, 115, 116, 117, 118, 119], [0]⟩,
  ⟨some 114, .fad 7 (.t 1), none, [3, 112, 113, 116, 117, 118, 119, 120], []⟩,
  ⟨some 115, .load false 1 (.t 114), none, [3, 112, 113, 116, 117, 118, 119, 120], [2]⟩,
  ⟨some 116, .fad 8 (.t 1), none, [3, 112, 113, 114, 115, 118, 119, 120, 121], []⟩,
  ⟨some 117, .load false 1 (.t 116), none, [3, 112, 113, 114, 115, 118, 119, 120, 121], [4]⟩,
  ⟨some 118, .fad 14 (.t 1), none, [3, 112, 113, 114, 115, 116, 117, 120, 121, 122], []⟩,
  ⟨some 119, .load false 1 (.t 118), none, [3, 112, 113, 114, 115, 116, 117, 120, 121, 122], [6]⟩,
  ⟨some 120, .fad 6 (.t 3), none, [114, 115, 116, 117, 118, 119], [0, 1]⟩,
  ⟨none, .store (some 3) 1 (.t 120) (.t 113), none, [114, 115, 116, 117, 118, 119], [0, 1, 8]⟩,
  ⟨some 121, .fad 7 (.t 3), none, [116, 117, 118, 119], [0, 1, 2, 3, 8, 9]⟩,
  ⟨none, .store (some 3) 1 (.t 121) (.t 115), none, [116, 117, 118, 119], [0, 1, 2, 3, 8, 9, 10]⟩,
  ⟨some 122, .fad 8 (.t 3), none, [118, 119], [0, 1, 2, 3, 4, 5, 8, 9, 10, 11]⟩,
  ⟨none, .store (some 3) 1 (.t 122) (.t 117), none, [118, 119], [0, 1, 2, 3, 4, 5, 8, 9, 10, 11, 12]⟩,
  ⟨some 123, .fad 14 (.t 3), none, [], [0, 1, 2, 3, 4, 5, 6, 7, 8, 9, 10, 11, 12, 13]⟩,
  ⟨none, .store none 1 (.t 123) (.t 119), none, [], [0, 1, 2, 3, 4, 5, 6, 7, 8, 9, 10, 11, 12, 13, 14]⟩] true)) (.seq (.region [⟨some 125, .bin .eql (.t 63) (.c (.int .i64 4)), none, [], []⟩,
  ⟨some 124, .mov (.t 125), none, [], []⟩] false)
 (.cond (.t 124) (.seq (.region [⟨some 126, .fad 10 (.t 1), none, [], []⟩,
  ⟨some 127, .load false 1 (.t 126), none, [], []⟩,
  ⟨some 128, .call false 39 [(.t 127)], none, [], []⟩,
  ⟨some 129, .mov (.t 128), none, [], []⟩,
  ⟨some 130, .fad 10 (.t 1), some (129, true), [], []⟩,
  ⟨some 131, .load false 1 (.t 130), some (129, true), [], []⟩,
  ⟨some 132, .fad 1 (.t 1), some (129, true), [], []⟩,
  ⟨some 133, .load false 1 (.t 132), some (129, true), [], []⟩,
  ⟨some 134, .bin .neq (.t 131) (.t 133), some (129, true), [], []⟩,
  ⟨some 135, .pick (.t 129) (.t 134) (.c (.bool false)), none, [], []⟩,
  ⟨some 136, .mov (.t 135), none, [], []⟩,
  ⟨some 137, .fad 10 (.t 1), some (136, true), [], []⟩,
  ⟨some 138, .load false 1 (.t 137), some (136, true), [], []⟩,
  ⟨some 139, .fad 3 (.t 1), some (136, true), [], []⟩,
  ⟨some 140, .load false 1 (.t 139), some (136, true), [], []⟩,
  ⟨some 141, .bin .neq (.t 138) (.t 140), some (136, true), [], []⟩,
  ⟨some 142, .pick (.t 136) (.t 141) (.c (.bool false)), none, [], []⟩,
  ⟨some 4, .mov (.t 142), none, [], []⟩] false)
 (.region [⟨some 143, .fad 10 (.t 1), none, [], []⟩,
  ⟨some 144, .load false 1 (.t 143), none, [], []⟩,
  ⟨some 145, .fad 10 (.t 3), none, [], []⟩,
  ⟨none, .store none 1 (.t 145) (.t 144), none, [], []⟩] false)) (.seq (.region [⟨some 147, .bin .eql (.t 63) (.c (.int .i64 7)), none, [], []⟩,
  ⟨some 146, .mov (.t 147), none, [], []⟩] false)
 (.cond (.t 146) (.seq (.region [⟨some 148, .fad 6 (.t 1), none, [], []⟩,
  ⟨some 149, .load false 1 (.t 148), none, [], []⟩,
  ⟨some 150, .call false 38 [(.t 149), (.c (.int .i64 1)), (.c (.int .i64 1073741824))], none, [], []⟩,
  ⟨some 151, .mov (.t 150), none, [], []⟩,
  ⟨some 152, .fad 7 (.t 1), some (151, true), [], []⟩,
  ⟨some 153, .load false 1 (.t 152), some (151, true), [], []⟩,
  ⟨some 154, .call false 40 [(.t 153)], some (151, true), [], []⟩,
  ⟨some 155, .pick (.t 151) (.t 154) (.c (.bool false)), none, [], []⟩,
  ⟨some 156, .mov (.t 155), none, [], []⟩,
  ⟨some 157, .fad 9 (.t 1), some (156, true), [], []⟩,
  ⟨some 158, .load false 1 (.t 157), some (156, true), [], []⟩,
  ⟨some 159, .call false 44 [(.t 158)], some (156, true), [], []⟩,
  ⟨some 160, .pick (.t 156) (.t 159) (.c (.bool false)), none, [], []⟩,
  ⟨some 4, .mov (.t 160), none, [], []⟩] false)
 (.region [⟨some 161, .fad 6 (.t 1), none, [163, 164, 165, 166], []⟩,
  ⟨some 162, .load false 1 (.t 161), none, [163, 164, 165, 166], [0]⟩,
  ⟨some 163, .fad 7 (.t 1), none, [3, 161, 162, 165, 166, 167], []⟩,
  ⟨some 164, .load false 1 (.t 163), none, [3, 161, 162, 165, 166, 167], [2]⟩,
  ⟨some 165, .fad 9 (.t 1), none, [3, 161, 162, 163, 164, 167, 168], []⟩,
  ⟨some 166, .load false 1 (.t 165), none, [3, 161, 162, 163, 164, 167, 168], [4]⟩,
  ⟨some 167, .fad 6 (.t 3), none, [163, 164, 165, 166], [0, 1]⟩,
  ⟨none, .store (some 3) 1 (.t 167) (.t 162), none, [163, 164, 165, 166], [0, 1, 6]⟩,
  ⟨some 168, .fad 7 (.t 3), none, [165, 166], [0, 1, 2, 3, 6, 7]⟩,
  ⟨none, .store (some 3) 1 (.t 168) (.t 164), none, [165, 166], [0, 1, 2, 3, 6, 7, 8]⟩,
  ⟨some 169, .fad 9 (.t 3), none, [], [0, 1, 2, 3, 4, 5, 6, 7, 8, 9]⟩,
  ⟨none, .store none 1 (.t 169) (.t 166), none, [], [0, 1, 2, 3, 4, 5, 6, 7, 8, 9, 10]⟩] true)) (.seq (.region [⟨some 171, .bin .eql (.t 63) (.c (.int .i64 8)), none, [], []⟩,
  ⟨some 170, .mov (.t 171), none, [], []⟩] false)
 (.cond (.t 170) (.seq (.region [⟨some 172, .fad 6 (.t 1), none, [], []⟩,
  ⟨some 173, .load false 1 (.t 172), none, [], []⟩,
  ⟨some 174, .call false 38 [(.t 173), (.c (.int .i64 1)), (.c (.int .i64 1073741824))], none, [], []⟩,
  ⟨some 175, .mov (.t 174), none, [], []⟩,
  ⟨some 176, .fad 7 (.t 1), some (175, true), [], []⟩,
  ⟨some 177, .load false 1 (.t 176), some (175, true), [], []⟩,
  ⟨some 178, .call false 40 [(.t 177)], some (175, true), [], []⟩,
  ⟨some 179, .pick (.t 175) (.t 178) (.c (.bool false)), none, [], []⟩,
  ⟨some 4, .mov (.t 179), none, [], []⟩] false)
 (.region [⟨some 180, .fad 6 (.t 1), none, [182, 183], []⟩,
  ⟨some 181, .load false 1 (.t 180), none, [182, 183], [0]⟩,
  ⟨some 182, .fad 7 (.t 1), none, [3, 180, 181, 184], []⟩,
  ⟨some 183, .load false 1 (.t 182), none, [3, 180, 181, 184], [2]⟩,
  ⟨some 184, .fad 6 (.t 3), none, [182, 183], [0, 1]⟩,
  ⟨none, .store (some 3) 1 (.t 184) (.t 181), none, [182, 183], [0, 1, 4]⟩,
  ⟨some 185, .fad 7 (.t 3), none, [], [0, 1, 2, 3, 4, 5]⟩,
  ⟨none, .store none 1 (.t 185) (.t 183), none, [], [0, 1, 2, 3, 4, 5, 6]⟩] true)) (.seq (.region [⟨some 187, .bin .eql (.t 63) (.c (.int .i64 9)), none, [], []⟩,
  ⟨some 186, .mov (.t 187), none, [], []⟩] false)
 (.cond (.t 186) (.seq (.region [⟨some 188, .fad 6 (.t 1), none, [], []⟩,
  ⟨some 189, .load false 1 (.t 188), none, [], []⟩,
  ⟨some 190, .call false 38 [(.t 189), (.c (.int .i64 1)), (.c (.int .i64 1073741824))], none, [], []⟩,
  ⟨some 191, .mov (.t 190), none, [], []⟩,
  ⟨some 192, .fad 7 (.t 1), some (191, true), [], []⟩,
  ⟨some 193, .load false 1 (.t 192), some (191, true), [], []⟩,
  ⟨some 194, .call false 40 [(.t 193)], some (191, true), [], []⟩,
  ⟨some 195, .pick (.t 191) (.t 194) (.c (.bool false)), none, [], []⟩,
  ⟨some 196, .mov (.t 195), none, [], []⟩,
  ⟨some 197, .fad 8 (.t 1), some (196, true), [], []⟩,
  ⟨some 198, .load false 1 (.t 197), some (196, true), [], []⟩,
  ⟨some 199, .fad 7 (.t 1), some (196, true), [], []⟩,
  ⟨some 200, .load false 1 (.t 199), some (196, true), [], []⟩,
  ⟨some 201, .call false 38 [(.t 198), (.t 200), (.c (.int .i64 1073741824))], some (196, true), [], []⟩,
  ⟨some 202, .pick (.t 196) (.t 201) (.c (.bool false)), none, [], []⟩,
  ⟨some 4, .mov (.t 202), none, [], []⟩] false)
 (.region [⟨some 203, .fad 6 (.t 1), none, [205, 206, 207, 208], []⟩,
  ⟨some 204, .load false 1 (.t 203), none, [205, 206, 207, 208], [0]⟩,
  ⟨some 205, .fad 7 (.t 1), none, [3, 203, 204, 207, 208, 209], []⟩,
  ⟨some 206, .load false 1 (.t 205), none, [3, 203, 204, 207, 208, 209], [2]⟩,
  ⟨some 207, .fad 8 (.t 1), none, [3, 203, 204, 205, 206, 209, 210], []⟩,
  ⟨some 208, .load false 1 (.t 207), none, [3, 203, 204, 205, 206, 209, 210], [4]⟩,
  ⟨some 209, .fad 6 (.t 3), none, [205, 206, 207, 208], [0, 1]⟩,
  ⟨none, .store (some 3) 1 (.t 209) (.t 204), none, [205, 206, 207, 208], [0, 1, 6]⟩,
  ⟨some 210, .fad 7 (.t 3), none, [207, 208], [0, 1, 2, 3, 6, 7]⟩,
  ⟨none, .store (some 3) 1 (.t 210) (.t 206), none, [207, 208], [0, 1, 2, 3, 6, 7, 8]⟩,
  ⟨some 211, .fad 8 (.t 3), none, [], [0, 1, 2, 3, 4, 5, 6, 7, 8, 9]⟩,
  ⟨none, .store none 1 (.t 211) (.t 208), none, [], [0, 1, 2, 3, 4, 5, 6, 7, 8, 9, 10]⟩] true)) (.seq (.region [⟨some 213, .bin .eql (.t 63) (.c (.int .i64 10)), none, [], []⟩,
  ⟨some 212, .mov (.t 213), none, [], []⟩] false)
 (.cond (.t 212) (.seq (.region [⟨some 214, .fad 10 (.t 1), none, [], []⟩,
  ⟨some 215, .load false 1 (.t 214), none, [], []⟩,
  ⟨some 216, .call false 39 [(.t 215)], none, [], []⟩,
  ⟨some 217, .mov (.t 216), none, [], []⟩,
  ⟨some 218, .fad 11 (.t 1), some (217, true), [], []⟩,
  ⟨some 219, .load false 1 (.t 218), some (217, true), [], []⟩,
  ⟨some 220, .call false 40 [(.t 219)], some (217, true), [], []⟩,
  ⟨some 221, .pick (.t 217) (.t 220) (.c (.bool false)), none, [], []⟩,
  ⟨some 222, .mov (.t 221), none, [], []⟩,
  ⟨some 223, .fad 12 (.t 1), some (222, true), [], []⟩,
  ⟨some 224, .load false 1 (.t 223), some (222, true), [], []⟩,
  ⟨some 225, .call false 40 [(.t 224)], some (222, true), [], []⟩,
  ⟨some 226, .pick (.t 222) (.t 225) (.c (.bool false)), none, [], []⟩,
  ⟨some 227, .mov (.t 226), none, [], []⟩,
  ⟨some 228, .fad 9 (.t 1), some (227, true), [], []⟩,
  ⟨some 229, .load false 1 (.t 228), some (227, true), [], []⟩,
  ⟨some 230, .call false 44 [(.t 229)], some (227, true), [], []⟩,
  ⟨some 231, .pick (.t 227) (.t 230) (.c (.bool false)), none, [], []⟩,
  ⟨some 232, .mov (.t 231), none, [], []⟩,
  ⟨some 233, .fad 13 (.t 1), some (232, true), [], []⟩,
  ⟨some 234, .load false 1 (.t 233), some (232, true), [], []⟩,
  ⟨some 235, .call false 38 [(.t 234), (.c (.int .i64 0)), (.c (.int .i64 16))], some (232, true), [], []⟩,
  ⟨some 236, .pick (.t 232) (.t 235) (.c (.bool false)), none, [], []⟩,
  ⟨some 4, .mov (.t 236), none, [], []⟩] false)
 (.region [⟨some 237, .fad 10 (.t 1), none, [239, 240, 241, 242, 243, 244, 245, 246], []⟩,
  ⟨some 238, .load false 1 (.t 237), none, [239, 240, 241, 242, 243, 244, 245, 246], [0]⟩,
  ⟨some 239, .fad 11 (.t 1), none, [3, 237, 238, 241, 242, 243, 244, 245, 246, 247], []⟩,
  ⟨some 240, .load false 1 (.t 239), none, [3, 237, 238, 241, 242, 243, 244, 245, 246, 247], [2]⟩,
  ⟨some 241, .fad 12 (.t 1), none, [3, 237, 238, 239, 240, 243, 244, 245, 246, 247, 248], []⟩,
  ⟨some 242, .load false 1 (.t 241), none, [3, 237, 238, 239, 240, 243, 244, 245, 246, 247, 248], [4]⟩,
  ⟨some 243, .fad 9 (.t 1), none, [3, 237, 238, 239, 240, 241, 242, 245, 246, 247, 248, 249], []⟩,
  ⟨some 244, .load false 1 (.t 243), none, [3, 237, 238, 239, 240, 241, 242, 245, 246, 247, 248, 249], [6]⟩,
  ⟨some 245, .fad 13 (.t 1), none, [3, 237, 238, 239, 240, 241, 242, 243, 244, 247, 248, 249, 250], []⟩,
  ⟨some 246, .load false 1 (.t 245), none, [3, 237, 238, 239, 240, 241, 242, 243, 244, 247, 248, 249, 250], [8]⟩,
  ⟨some 247, .fad 10 (.t 3), none, [239, 240, 241, 242, 243, 244, 245, 246], [0, 1]⟩,
  ⟨none, .store (some 3) 1 (.t 247) (.t 238), none, [239, 240, 241, 242, 243, 244, 245, 246], [0, 1, 10]⟩,
  ⟨some 248, .fad 11 (.t 3), none, [241, 242, 243, 244, 245, 246], [0, 1, 2, 3, 10, 11]⟩,
  ⟨none, .store (some 3) 1 (.t 248) (.t 240), none, [241, 242, 243, 244, 245, 246], [0, 1, 2, 3, 10, 11, 12]⟩,
  ⟨some 249, .fad 12 (.t 3), none, [243, 244, 245, 246], [0, 1, 2, 3, 4, 5, 10, 11, 12, 13]⟩,
  ⟨none, .store (some 3) 1 (.t 249) (.t 242), none, [243, 244, 245, 246], [0, 1, 2, 3, 4, 5, 10, 11, 12, 13, 14]⟩,
  ⟨some 250, .fad 9 (.t 3), none, [245, 246], [0, 1, 2, 3, 4, 5, 6, 7, 10, 11, 12, 13, 14, 15]⟩,
  ⟨none, .store (some 3) 1 (.t 250) (.t 244), none, [245, 246], [0, 1, 2, 3, 4, 5, 6, 7, 10, 11, 12, 13, 14, 15, 16]⟩,
  ⟨some 251, .fad 13 (.t 3), none, [], [0, 1, 2, 3, 4, 5, 6, 7, 8, 9, 10, 11, 12, 13, 14, 15, 16, 17]⟩,
  ⟨none, .store none 1 (.t 251) (.t 246), none, [], [0, 1, 2, 3, 4, 5, 6, 7, 8, 9, 10, 11, 12, 13, 14, 15, 16, 17, 18]⟩] true)) (.seq (.region [⟨some 253, .bin .eql (.t 63) (.c (.int .i64 11)), none, [], []⟩,
  ⟨some 252, .mov (.t 253), none, [], []⟩] false)
 (.cond (.t 252) (.seq (.region [⟨some 254, .fad 10 (.t 1), none, [], []⟩,
  ⟨some 255, .load false 1 (.t 254), none, [], [0]⟩,
  ⟨some 256, .call false 39 [(.t 255)], none, [], [0, 1]⟩,
  ⟨some 257, .mov (.t 256), none, [], [0, 1, 2]⟩,
  ⟨some 258, .fad 11 (.t 1), some (257, true), [], [0, 1, 2, 3]⟩,
  ⟨some 259, .load false 1 (.t 258), some (257, true), [], [0, 1, 2, 3, 4]⟩,
  ⟨some 260, .call false 40 [(.t 259)], some (257, true), [], [0, 1, 2, 3, 4, 5]⟩,
  ⟨some 261, .pick (.t 257) (.t 260) (.c (.bool false)), none, [], [0, 1, 2, 3, 4, 5, 6]⟩,
  ⟨some 262, .mov (.t 261), none, [], [0, 1, 2, 3, 4, 5, 6, 7]⟩,
  ⟨some 263, .fad 12 (.t 1), some (262, true), [], [0, 1, 2, 3, 4, 5, 6, 7, 8]⟩,
  ⟨some 264, .load false 1 (.t 263), some (262, true), [], [0, 1, 2, 3, 4, 5, 6, 7, 8, 9]⟩,
  ⟨some 265, .call false 38 [(.t 264), (.c (.int .i64 1)), (.c (.int .i64 40))], some (262, true), [], [0, 1, 2, 3, 4, 5, 6, 7, 8, 9, 10]⟩,
  ⟨some 266, .pick (.t 262) (.t 265) (.c (.bool false)), none, [], [0, 1, 2, 3, 4, 5, 6, 7, 8, 9, 10, 11]⟩,
  ⟨some 267, .mov (.t 266), none, [], [0, 1, 2, 3, 4, 5, 6, 7, 8, 9, 10, 11, 12]⟩,
  ⟨some 268, .fad 9 (.t 1), some (267, true), [], [0, 1, 2, 3, 4, 5, 6, 7, 8, 9, 10, 11, 12, 13]⟩,
  ⟨some 269, .load false 1 (.t 268), some (267, true), [], [0, 1, 2, 3, 4, 5, 6, 7, 8, 9, 10, 11, 12, 13, 14]⟩,
  ⟨some 270, .call false 44 [(.t 269)], some (267, true), [], [0, 1, 2, 3, 4, 5, 6, 7, 8, 9, 10, 11, 12, 13, 14, 15]⟩,
  ⟨some 271, .pick (.t 267) (.t 270) (.c (.bool false)), none, [], [0, 1, 2, 3, 4, 5, 6, 7, 8, 9, 10, 11, 12, 13, 14, 15, 16]⟩,
  ⟨some 272, .mov (.t 271), none, [], [0, 1, 2, 3, 4, 5, 6, 7, 8, 9, 10, 11, 12, 13, 14, 15, 16, 17]⟩,
  ⟨some 273, .fad 13 (.t 1), some (272, true), [], [0, 1, 2, 3, 4, 5, 6, 7, 8, 9, 10, 11, 12, 13, 14, 15, 16, 17, 18]⟩,
  ⟨some 274, .load false 1 (.t 273), some (272, true), [], [0, 1, 2, 3, 4, 5, 6, 7, 8, 9, 10, 11, 12, 13, 14, 15, 16, 17, 18, 19]⟩,
  ⟨some 275, .call false 38 [(.t 274), (.c (.int .i64 0)), (.c (.int .i64 16))], some (272, true), [], [0, 1, 2, 3, 4, 5, 6, 7, 8, 9, 10, 11, 12, 13, 14, 15, 16, 17, 18, 19, 20]⟩,
  ⟨some 276, .pick (.t 272) (.t 275) (.c (.bool false)), none, [], [0, 1, 2, 3, 4, 5, 6, 7, 8, 9, 10, 11, 12, 13, 14, 15, 16, 17, 18, 19, 20, 21]⟩,
  ⟨some 277, .mov (.t 276), none, [], [0, 1, 2, 3, 4, 5, 6, 7, 8, 9, 10, 11, 12, 13, 14, 15, 16, 17, 18, 19, 20, 21, 22]⟩,
  ⟨some 278, .fad 14 (.t 1), some (277, true), [], [0, 1, 2, 3, 4, 5, 6, 7, 8, 9, 10, 11, 12, 13, 14, 15, 16, 17, 18, 19, 20, 21, 22, 23]⟩,
  ⟨some 279, .load false 1 (.t 278), some (277, true), [], [0, 1, 2, 3, 4, 5, 6, 7, 8, 9, 10, 11, 12, 13, 14, 15, 16, 17, 18, 19, 20, 21, 22, 23, 24]⟩,
  ⟨some 280, .call false 42 [(.t 279)], some (277, true), [], [0, 1, 2, 3, 4, 5, 6, 7, 8, 9, 10, 11, 12, 13, 14, 15, 16, 17, 18, 19, 20, 21, 22, 23, 24, 25]⟩,
  ⟨some 281, .pick (.t 277) (.t 280) (.c (.bool false)), none, [], [0, 1, 2, 3, 4, 5, 6, 7, 8, 9, 10, 11, 12, 13, 14, 15, 16, 17, 18, 19, 20, 21, 22, 23, 24, 25, 26]⟩,
  ⟨some 282, .mov (.t 281), none, [], [0, 1, 2, 3, 4, 5, 6, 7, 8, 9, 10, 11, 12, 13, 14, 15, 16, 17, 18, 19, 20, 21, 22, 23, 24, 25, 26, 27]⟩,
  ⟨some 283, .fad 15 (.t 1), some (282, true), [], [0, 1, 2, 3, 4, 5, 6, 7, 8, 9, 10, 11, 12, 13, 14, 15, 16, 17, 18, 19, 20, 21, 22, 23, 24, 25, 26, 27, 28]⟩,
  ⟨some 284, .load false 1 (.t 283), some (282, true), [], [0, 1, 2, 3, 4, 5, 6, 7, 8, 9, 10, 11, 12, 13, 14, 15, 16, 17, 18, 19, 20, 21, 22, 23, 24, 25, 26, 27, 28, 29]⟩,
  ⟨some 285, .call false 42 [(.t 284)], some (282, true), [], [0, 1, 2, 3, 4, 5, 6, 7, 8, 9, 10, 11, 12, 13, 14, 15, 16, 17, 18, 19, 20, 21, 22, 23, 24, 25, 26, 27, 28, 29, 30]⟩,
  ⟨some 286, .pick (.t 282) (.t 285) (.c (.bool false)), none, [], [0, 1, 2, 3, 4, 5, 6, 7, 8, 9, 10, 11, 12, 13, 14, 15, 16, 17, 18, 19, 20, 21, 22, 23, 24, 25, 26, 27, 28, 29, 30, 31]⟩,
  ⟨some 287, .mov (.t 286), none, [], [0, 1, 2, 3, 4, 5, 6, 7, 8, 9, 10, 11, 12, 13, 14, 15, 16, 17, 18, 19, 20, 21, 22, 23, 24, 25, 26, 27, 28, 29, 30, 31, 32]⟩,
  ⟨some 288, .fad 14 (.t 1), some (287, true), [291, 292], [0, 1, 2, 3, 4, 5, 6, 7, 8, 9, 10, 11, 12, 13, 14, 15, 16, 17, 18, 19, 20, 21, 22, 23, 24, 25, 26, 27, 28, 29, 30, 31, 32, 33]⟩,
  ⟨some 289, .load false 1 (.t 288), some (287, true), [291, 292], [0, 1, 2, 3, 4, 5, 6, 7, 8, 9, 10, 11, 12, 13, 14, 15, 16, 17, 18, 19, 20, 21, 22, 23, 24, 25, 26, 27, 28, 29, 30, 31, 32, 33, 34]⟩,
  ⟨some 290, .call true 28 [(.t 289)], some (287, true), [291, 292], [0, 1, 2, 3, 4, 5, 6, 7, 8, 9, 10, 11, 12, 13, 14, 15, 16, 17, 18, 19, 20, 21, 22, 23, 24, 25, 26, 27, 28, 29, 30, 31, 32, 33, 34, 35]⟩,
  ⟨some 291, .fad 15 (.t 1), some (287, true), [288, 289, 290], [0, 1, 2, 3, 4, 5, 6, 7, 8, 9, 10, 11, 12, 13, 14, 15, 16, 17, 18, 19, 20, 21, 22, 23, 24, 25, 26, 27, 28, 29, 30, 31, 32, 33]⟩,
  ⟨some 292, .load false 1 (.t 291), some (287, true), [288, 289, 290], [0, 1, 2, 3, 4, 5, 6, 7, 8, 9, 10, 11, 12, 13, 14, 15, 16, 17, 18, 19, 20, 21, 22, 23, 24, 25, 26, 27, 28, 29, 30, 31, 32, 33, 37]⟩,
  ⟨some 293, .app 3 1 8 (.t 290) (.t 292), some (287, true), [], [0, 1, 2, 3, 4, 5, 6, 7, 8, 9, 10, 11, 12, 13, 14, 15, 16, 17, 18, 19, 20, 21, 22, 23, 24, 25, 26, 27, 28, 29, 30, 31, 32, 33, 34, 35, 36, 37, 38]⟩,
  ⟨some 294, .call false 43 [(.t 293)], some (287, true), [], [0, 1, 2, 3, 4, 5, 6, 7, 8, 9, 10, 11, 12, 13, 14, 15, 16, 17, 18, 19, 20, 21, 22, 23, 24, 25, 26, 27, 28, 29, 30, 31, 32, 33, 34, 35, 36, 37, 38, 39]⟩,
  ⟨some 295, .pick (.t 287) (.t 294) (.c (.bool false)), none, [], [0, 1, 2, 3, 4, 5, 6, 7, 8, 9, 10, 11, 12, 13, 14, 15, 16, 17, 18, 19, 20, 21, 22, 23, 24, 25, 26, 27, 28, 29, 30, 31, 32, 33, 34, 35, 36, 37, 38, 39, 40]⟩,
  ⟨some 4, .mov (.t 295), none, [], [0, 1, 2, 3, 4, 5, 6, 7, 8, 9, 10, 11, 12, 13, 14, 15, 16, 17, 18, 19, 20, 21, 22, 23, 24, 25, 26, 27, 28, 29, 30, 31, 32, 33, 34, 35, 36, 37, 38, 39, 40, 41]⟩] true)
 (.region [⟨some 296, .fad 10 (.t 1), none, [298, 299, 300, 301, 302, 303, 304, 305, 306, 307, 308, 309], []⟩,
  ⟨some 297, .load false 1 (.t 296), none, [298, 299, 300, 301, 302, 303, 304, 305, 306, 307, 308, 309], [0]⟩,
  ⟨some 298, .fad 11 (.t 1), none, [3, 296, 297, 300, 301, 302, 303, 304, 305, 306, 307, 308, 309, 310], []⟩,
  ⟨some 299, .load false 1 (.t 298), none, [3, 296, 297, 300, 301, 302, 303, 304, 305, 306, 307, 308, 309, 310], [2]⟩,
  ⟨some 300, .fad 12 (.t 1), none, [3, 296, 297, 298, 299, 302, 303, 304, 305, 306, 307, 308, 309, 310, 311], []⟩,
  ⟨some 301, .load false 1 (.t 300), none, [3, 296, 297, 298, 299, 302, 303, 304, 305, 306, 307, 308, 309, 310, 311], [4]⟩,
  ⟨some 302, .fad 9 (.t 1), none, [3, 296, 297, 298, 299, 300, 301, 304, 305, 306, 307, 308, 309, 310, 311, 312], []⟩,
  ⟨some 303, .load false 1 (.t 302), none, [3, 296, 297, 298, 299, 300, 301, 304, 305, 306, 307, 308, 309, 310, 311, 312], [6]⟩,
  ⟨some 304, .fad 13 (.t 1), none, [3, 296, 297, 298, 299, 300, 301, 302, 303, 306, 307, 308, 309, 310, 311, 312, 313], []⟩,
  ⟨some 305, .load false 1 (.t 304), none, [3, 296, 297, 298, 299, 300, 301, 302, 303, 306, 307, 308, 309, 310, 311, 312, 313], [8]⟩,
  ⟨some 306, .fad 14 (.t 1), none, [3, 296, 297, 298, 299, 300, 301, 302, 303, 304, 305, 308, 309, 310, 311, 312, 313, 314], []⟩,
  ⟨some 307, .load false 1 (.t 306), none, [3, 296, 297, 298, 299, 300, 301, 302, 303, 304, 305, 308, 309, 310, 311, 312, 313, 314], [10]⟩,
  ⟨some 308, .fad 15 (.t 1), none, [3, 296, 297, 298, 299, 300, 301, 302, 303, 304, 305, 306, 307, 310, 311, 312, 313, 314, 315], []⟩,
  ⟨some 309, .load false 1 (.t 308), none, [3, 296, 297, 298, 299, 300, 301, 302, 303, 304, 305, 306, 307, 310, 311, 312, 313, 314, 315], [12]⟩,
  ⟨some 310, .fad 10 (.t 3), none, [298, 299, 300, 301, 302, 303, 304, 305, 306, 307, 308, 309], [0, 1]⟩,
  ⟨none, .store (some 3) 1 (.t 310) (.t 297), none, [298, 299, 300, 301, 302, 303, 304, 305, 306, 307, 308, 309], [0, 1, 14]⟩,
  ⟨some 311, .fad 11 (.t 3), none, [300, 301, 302, 303, 304, 305, 306, 307, 308, 309], [0, 1, 2, 3, 14, 15]⟩,
  ⟨none, .store (some 3) 1 (.t 311) (.t 299), none, [300, 301, 302, 303, 304, 305, 306, 307, 308, 309], [0, 1, 2, 3, 14, 15, 16]⟩,
  ⟨some 312, .fad 12 (.t 3), none, [302, 303, 304, 305, 306, 307, 308, 309], [0, 1, 2, 3, 4, 5, 14, 15, 16, 17]⟩,
  ⟨none, .store (some 3) 1 (.t 312) (.t 301), none, [302, 303, 304, 305, 306, 307, 308, 309], [0, 1, 2, 3, 4, 5, 14, 15, 16, 17, 18]⟩,
  ⟨some 313, .fad 9 (.t 3), none, [304, 305, 306, 307, 308, 309], [0, 1, 2, 3, 4, 5, 6, 7, 14, 15, 16, 17, 18, 19]⟩,
  ⟨none, .store (some 3) 1 (.t 313) (.t 303), none, [304, 305, 306, 307, 308, 309], [0, 1, 2, 3, 4, 5, 6, 7, 14, 15, 16, 17, 18, 19, 20]⟩,
  ⟨some 314, .fad 13 (.t 3), none, [306, 307, 308, 309], [0, 1, 2, 3, 4, 5, 6, 7, 8, 9, 14, 15, 16, 17, 18, 19, 20, 21]⟩,
  ⟨none, .store (some 3) 1 (.t 314) (.t 305), none, [306, 307, 308, 309], [0, 1, 2, 3, 4, 5, 6, 7, 8, 9, 14, 15, 16, 17, 18, 19, 20, 21, 22]⟩,
  ⟨some 315, .fad 14 (.t 3), none, [308, 309], [0, 1, 2, 3, 4, 5, 6, 7, 8, 9, 10, 11, 14, 15, 16, 17, 18, 19, 20, 21, 22, 23]⟩,
  ⟨none, .store (some 3) 1 (.t 315) (.t 307), none, [308, 309], [0, 1, 2, 3, 4, 5, 6, 7, 8, 9, 10, 11, 14, 15, 16, 17, 18, 19, 20, 21, 22, 23, 24]⟩,
  ⟨some 316, .fad 15 (.t 3), none, [], [0, 1, 2, 3, 4, 5, 6, 7, 8, 9, 10, 11, 12, 13, 14, 15, 16, 17, 18, 19, 20, 21, 22, 23, 24, 25]⟩,
  ⟨none, .store none 1 (.t 316) (.t 309), none, [], [0, 1, 2, 3, 4, 5, 6, 7, 8, 9, 10, 11, 12, 13, 14, 15, 16, 17, 18, 19, 20, 21, 22, 23, 24, 25, 26]⟩] true)) (.seq (.region [⟨some 318, .bin .eql (.t 63) (.c (.int .i64 12)), none, [], []⟩,
  ⟨some 317, .mov (.t 318), none, [], []⟩] false)
 (.cond (.t 317) (.seq (.region [⟨some 319, .fad 12 (.t 1), none, [], []⟩,
  ⟨some 320, .load false 1 (.t 319), none, [], []⟩,
  ⟨some 321, .call false 38 [(.t 320), (.c (.int .i64 1)), (.c (.int .i64 40))], none, [], []⟩,
  ⟨some 322, .mov (.t 321), none, [], []⟩,
  ⟨some 323, .fad 9 (.t 1), some (322, true), [], []⟩,
  ⟨some 324, .load false 1 (.t 323), some (322, true), [], []⟩,
  ⟨some 325, .call false 39 [(.t 324)], some (322, true), [], []⟩,
  ⟨some 326, .pick (.t 322) (.t 325) (.c (.bool false)), none, [], []⟩,
  ⟨some 4, .mov (.t 326), none, [], []⟩] false)
 (.region [⟨some 327, .fad 12 (.t 1), none, [329, 330], []⟩,
  ⟨some 328, .load false 1 (.t 327), none, [329, 330], [0]⟩,
  ⟨some 329, .fad 9 (.t 1), none, [3, 327, 328, 331], []⟩,
  ⟨some 330, .load false 1 (.t 329), none, [3, 327, 328, 331], [2]⟩,
  ⟨some 331, .fad 12 (.t 3), none, [329, 330], [0, 1]⟩,
  ⟨none, .store (some 3) 1 (.t 331) (.t 328), none, [329, 330], [0, 1, 4]⟩,
  ⟨some 332, .fad 9 (.t 3), none, [], [0, 1, 2, 3, 4, 5]⟩,
  ⟨none, .store none 1 (.t 332) (.t 330), none, [], [0, 1, 2, 3, 4, 5, 6]⟩] true)) (.seq (.region [⟨some 334, .bin .eql (.t 63) (.c (.int .i64 13)), none, [], []⟩,
  ⟨some 333, .mov (.t 334), none, [], []⟩] false)
 (.cond (.t 333) (.seq (.region [⟨some 335, .fad 12 (.t 1), none, [], []⟩,
  ⟨some 336, .load false 1 (.t 335), none, [], []⟩,
  ⟨some 337, .call false 38 [(.t 336), (.c (.int .i64 1)), (.c (.int .i64 40))], none, [], []⟩,
  ⟨some 4, .mov (.t 337), none, [], []⟩] false)
 (.region [⟨some 338, .fad 12 (.t 1), none, [], []⟩,
  ⟨some 339, .load false 1 (.t 338), none, [], []⟩,
  ⟨some 340, .fad 12 (.t 3), none, [], []⟩,
  ⟨none, .store none 1 (.t 340) (.t 339), none, [], []⟩] false)) .skip))))))))))))))))))))))
 (.seq (.region [⟨some 341, .mov (.t 4), none, [], []⟩,
  ⟨some 342, .mov (.t 341), none, [], []⟩,
  ⟨some 343, .load true 16 (.t 3), some (342, true), [], []⟩,
  ⟨some 344, .load true 16 (.t 1), some (342, true), [], []⟩,
  ⟨some 345, .call false 18 [(.t 343), (.t 344)], some (342, true), [], []⟩,
  ⟨some 346, .pick (.t 342) (.t 345) (.c (.bool false)), none, [], []⟩,
  ⟨some 2, .mov (.t 346), none, [], []⟩] false)
 .ret)))))))
def i19 : F := ⟨1, 347, j19, [.t 2]⟩
theorem b19 : i19.body = j19 := rfl
theorem q19 : i19.res = [.t 2] := rfl
theorem c19 : chkF Try.prog Try.f19 i19 = true := by kernel_rfl
theorem s19 {m : Model} {E : Nat → Model} (hE : ∀ f, Sound Try.prog f (E f)) (hm : ∀ args r, m args = some r → ∃ N, i19.ev E N args = some r) : Sound Try.prog 19 m := sound_of i19 Try.func19 rfl c19 hE hm
/-- bellwether/bellwetherlaw07.wakes -/
def j20 : C := (.seq (.region [⟨some 0, .mov (.c (.bool false)), none, [], []⟩] false)
 (.seq (.region [⟨some 8, .build [.int .i64 0, .int .i64 0, .int .i64 0, .int .i64 0, .int .i64 0, .int .i64 0, .int .i64 0, .int .i64 0, .int .i64 0, .int .i64 0, .int .i64 0, .int .i64 0, .int .i64 0, .int .i64 0, .row [], .row []] [(0, 1, (.c (.int .i64 1))), (1, 1, (.c (.int .i64 0))), (2, 1, (.c (.int .i64 1))), (3, 1, (.c (.int .i64 1)))], none, [], []⟩,
  ⟨some 1, .alloc [.int .i64 0, .int .i64 0, .int .i64 0, .int .i64 0, .int .i64 0, .int .i64 0, .int .i64 0, .int .i64 0, .int .i64 0, .int .i64 0, .int .i64 0, .int .i64 0, .int .i64 0, .int .i64 0, .row [], .row []], none, [], []⟩,
  ⟨none, .store none 16 (.t 1) (.t 8), none, [], []⟩] false)
 (.seq (.region [⟨some 10, .load true 16 (.t 1), none, [], []⟩,
  ⟨some 11, .call false 15 [(.t 10)], none, [], []⟩,
  ⟨some 9, .mov (.t 11), none, [], []⟩,
  ⟨some 12, .ext (.t 9) 0, none, [], []⟩,
  ⟨some 13, .ext (.t 9) 1, none, [], []⟩,
  ⟨some 2, .mov (.t 12), none, [], []⟩,
  ⟨some 3, .mov (.t 13), none, [], []⟩] false)
 (.seq (.region [⟨some 15, .mov (.t 2), none, [], []⟩,
  ⟨some 16, .call false 16 [(.t 15)], none, [], []⟩,
  ⟨some 14, .mov (.t 16), none, [], []⟩,
  ⟨some 17, .ext (.t 14) 0, none, [], []⟩,
  ⟨some 18, .ext (.t 14) 1, none, [], []⟩,
  ⟨some 4, .alloc [.int .i64 0, .int .i64 0, .int .i64 0, .int .i64 0, .int .i64 0, .int .i64 0, .int .i64 0, .int .i64 0, .int .i64 0, .int .i64 0, .int .i64 0, .int .i64 0, .int .i64 0, .int .i64 0, .row [], .row []], none, [], []⟩,
  ⟨none, .store none 16 (.t 4) (.t 17), none, [], []⟩,
  ⟨some 5, .mov (.t 18), none, [], []⟩] false)
 (.seq (.region [⟨some 20, .call false 16 [(.c (.row []))], none, [], []⟩,
  ⟨some 19, .mov (.t 20), none, [], []⟩,
  ⟨some 21, .ext (.t 19) 0, none, [], []⟩,
  ⟨some 22, .ext (.t 19) 1, none, [], []⟩,
  ⟨some 6, .alloc [.int .i64 0, .int .i64 0, .int .i64 0, .int .i64 0, .int .i64 0, .int .i64 0, .int .i64 0, .int .i64 0, .int .i64 0, .int .i64 0, .int .i64 0, .int .i64 0, .int .i64 0, .int .i64 0, .row [], .row []], none, [], []⟩,
  ⟨none, .store none 16 (.t 6) (.t 21), none, [], []⟩,
  ⟨some 7, .mov (.t 22), none, [], []⟩] false)
 (.seq (.region [⟨some 23, .mov (.t 3), none, [], []⟩,
  ⟨some 24, .bin .eql (.t 23) (.c (.int .i64 0)), none, [], []⟩,
  ⟨some 25, .mov (.t 24), none, [], []⟩,
  ⟨some 26, .mov (.t 2), some (25, true), [], []⟩,
  ⟨some 27, .len (.t 26), some (25, true), [], []⟩,
  ⟨some 28, .bin .eql (.t 27) (.c (.int .i64 48)), some (25, true), [], []⟩,
  ⟨some 29, .pick (.t 25) (.t 28) (.c (.bool false)), none, [], []⟩,
  ⟨some 30, .mov (.t 29), none, [], []⟩,
  ⟨some 31, .mov (.t 5), some (30, true), [], []⟩,
  ⟨some 32, .bin .eql (.t 31) (.c (.int .i64 0)), some (30, true), [], []⟩,
  ⟨some 33, .pick (.t 30) (.t 32) (.c (.bool false)), none, [], []⟩,
  ⟨some 34, .mov (.t 33), none, [], []⟩,
  ⟨some 35, .load true 16 (.t 1), some (34, true), [], []⟩,
  ⟨some 36, .load true 16 (.t 4), some (34, true), [], []⟩,
  ⟨some 37, .call false 18 [(.t 35), (.t 36)], some (34, true), [], []⟩,
  ⟨some 38, .pick (.t 34) (.t 37) (.c (.bool false)), none, [], []⟩,
  ⟨some 39, .mov (.t 38), none, [], []⟩,
  ⟨some 40, .mov (.t 7), some (39, true), [], []⟩,
  ⟨some 41, .bin .eql (.t 40) (.c (.int .i64 2)), some (39, true), [], []⟩,
  ⟨some 42, .pick (.t 39) (.t 41) (.c (.bool false)), none, [], []⟩,
  ⟨some 0, .mov (.t 42), none, [], []⟩] false)
 .ret))))))
def i20 : F := ⟨0, 43, j20, [.t 0]⟩
theorem b20 : i20.body = j20 := rfl
theorem q20 : i20.res = [.t 0] := rfl
theorem c20 : chkF Try.prog Try.f20 i20 = true := by kernel_rfl
theorem s20 {m : Model} {E : Nat → Model} (hE : ∀ f, Sound Try.prog f (E f)) (hm : ∀ args r, m args = some r → ∃ N, i20.ev E N args = some r) : Sound Try.prog 20 m := sound_of i20 Try.func20 rfl c20 hE hm
/-- bellwether/bellwetherref01.Encode -/
def j21 : C := (.seq (.region [⟨some 1, .box (.t 0), none, [], []⟩,
  ⟨some 2, .mov (.c (.row [])), none, [], []⟩] false)
 (.seq (.region [⟨some 4, .fad 0 (.t 1), none, [], []⟩,
  ⟨some 5, .load false 1 (.t 4), none, [], []⟩,
  ⟨some 6, .conv .u8 (.t 5), none, [], []⟩,
  ⟨some 7, .fad 1 (.t 1), none, [], []⟩,
  ⟨some 8, .load false 1 (.t 7), none, [], []⟩,
  ⟨some 9, .conv .u8 (.t 8), none, [], []⟩,
  ⟨some 10, .fad 3 (.t 1), none, [], []⟩,
  ⟨some 11, .load false 1 (.t 10), none, [], []⟩,
  ⟨some 12, .conv .u8 (.t 11), none, [], []⟩,
  ⟨some 13, .fad 5 (.t 1), none, [], []⟩,
  ⟨some 14, .load false 1 (.t 13), none, [], []⟩,
  ⟨some 15, .conv .u8 (.t 14), none, [], []⟩,
  ⟨some 16, .bsl 5 1 4 [.int .u8 0] [(0, (.t 6)), (1, (.t 9)), (2, (.t 12)), (3, (.t 15))], none, [], []⟩,
  ⟨some 3, .mov (.t 16), none, [], []⟩] false)
 (.seq (.region [⟨some 17, .mov (.t 3), none, [], []⟩,
  ⟨some 18, .fad 2 (.t 1), none, [], []⟩,
  ⟨some 19, .load false 1 (.t 18), none, [], []⟩,
  ⟨some 20, .call false 45 [(.c (.int .i64 4)), (.t 19)], none, [], []⟩,
  ⟨some 21, .app 5 1 1 (.t 17) (.t 20), none, [], []⟩,
  ⟨some 3, .mov (.t 21), none, [], []⟩] false)
 (.seq (.region [⟨some 22, .mov (.t 3), none, [], []⟩,
  ⟨some 23, .fad 4 (.t 1), none, [], []⟩,
  ⟨some 24, .load false 1 (.t 23), none, [], []⟩,
  ⟨some 25, .call false 45 [(.c (.int .i64 4)), (.t 24)], none, [], []⟩,
  ⟨some 26, .app 5 1 1 (.t 22) (.t 25), none, [], []⟩,
  ⟨some 3, .mov (.t 26), none, [], []⟩] false)
 (.seq (.region [⟨some 27, .mov (.t 3), none, [], []⟩,
  ⟨some 28, .fad 6 (.t 1), none, [], []⟩,
  ⟨some 29, .load false 1 (.t 28), none, [], []⟩,
  ⟨some 30, .call false 45 [(.c (.int .i64 8)), (.t 29)], none, [], []⟩,
  ⟨some 31, .app 5 1 1 (.t 27) (.t 30), none, [], []⟩,
  ⟨some 3, .mov (.t 31), none, [], []⟩] false)
 (.seq (.region [⟨some 32, .mov (.t 3), none, [], []⟩,
  ⟨some 33, .fad 7 (.t 1), none, [], []⟩,
  ⟨some 34, .load false 1 (.t 33), none, [], []⟩,
  ⟨some 35, .call false 45 [(.c (.int .i64 4)), (.t 34)], none, [], []⟩,
  ⟨some 36, .app 5 1 1 (.t 32) (.t 35), none, [], []⟩,
  ⟨some 3, .mov (.t 36), none, [], []⟩] false)
 (.seq (.region [⟨some 37, .mov (.t 3), none, [], []⟩,
  ⟨some 38, .fad 8 (.t 1), none, [], []⟩,
  ⟨some 39, .load false 1 (.t 38), none, [], []⟩,
  ⟨some 40, .call false 45 [(.c (.int .i64 4)), (.t 39)], none, [], []⟩,
  ⟨some 41, .app 5 1 1 (.t 37) (.t 40), none, [], []⟩,
  ⟨some 3, .mov (.t 41), none, [], []⟩] false)
 (.seq (.region [⟨some 42, .mov (.t 3), none, [], []⟩,
  ⟨some 43, .fad 9 (.t 1), none, [], []⟩,
  ⟨some 44, .load false 1 (.t 43), none, [], []⟩,
  ⟨some 45, .call false 45 [(.c (.int .i64 4)), (.t 44)], none, [], []⟩,
  ⟨some 46, .app 5 1 1 (.t 42) (.t 45), none, [], []⟩,
  ⟨some 3, .mov (.t 46), none, [], []⟩] false)
 (.seq (.region [⟨some 47, .mov (.t 3), none, [], []⟩,
  ⟨some 48, .fad 10 (.t 1), none, [], []⟩,
  ⟨some 49, .load false 1 (.t 48), none, [], []⟩,
  ⟨some 50, .conv .u8 (.t 49), none, [], []⟩,
  ⟨some 51, .bsl 5 1 1 [.int .u8 0] [(0, (.t 50))], none, [], []⟩,
  ⟨some 52, .app 5 1 1 (.t 47) (.t 51), none, [], []⟩,
  ⟨some 3, .mov (.t 52), none, [], []⟩] false)
 (.seq (.region [⟨some 53, .mov (.t 3), none, [], []⟩,
  ⟨some 54, .fad 11 (.t 1), none, [], []⟩,
  ⟨some 55, .load false 1 (.t 54), none, [], []⟩,
  ⟨some 56, .call false 45 [(.c (.int .i64 4)), (.t 55)], none, [], []⟩,
  ⟨some 57, .app 5 1 1 (.t 53) (.t 56), none, [], []⟩,
  ⟨some 3, .mov (.t 57), none, [], []⟩] false)
 (.seq (.region [⟨some 58, .mov (.t 3), none, [], []⟩,
  ⟨some 59, .fad 12 (.t 1), none, [], []⟩,
  ⟨some 60, .load false 1 (.t 59), none, [], []⟩,
  ⟨some 61, .call false 45 [(.c (.int .i64 4)), (.t 60)], none, [], []⟩,
  ⟨some 62, .app 5 1 1 (.t 58) (.t 61), none, [], []⟩,
  ⟨some 3, .mov (.t 62), none, [], []⟩] false)
 (.seq (.region [⟨some 63, .mov (.t 3), none, [], []⟩,
  ⟨some 64, .fad 13 (.t 1), none, [], []⟩,
  ⟨some 65, .load false 1 (.t 64), none, [], []⟩,
  ⟨some 66, .conv .u8 (.t 65), none, [], []⟩,
  ⟨some 67, .bsl 5 1 1 [.int .u8 0] [(0, (.t 66))], none, [], []⟩,
  ⟨some 68, .app 5 1 1 (.t 63) (.t 67), none, [], []⟩,
  ⟨some 3, .mov (.t 68), none, [], []⟩] false)
 (.seq (.region [⟨some 69, .mov (.t 3), none, [], []⟩,
  ⟨some 70, .fad 14 (.t 1), none, [], []⟩,
  ⟨some 71, .load false 1 (.t 70), none, [], []⟩,
  ⟨some 72, .call false 46 [(.t 71)], none, [], []⟩,
  ⟨some 73, .app 5 1 1 (.t 69) (.t 72), none, [], []⟩,
  ⟨some 3, .mov (.t 73), none, [], []⟩] false)
 (.seq (.region [⟨some 74, .mov (.t 3), none, [], []⟩,
  ⟨some 75, .fad 15 (.t 1), none, [], []⟩,
  ⟨some 76, .load false 1 (.t 75), none, [], []⟩,
  ⟨some 77, .call false 46 [(.t 76)], none, [], []⟩,
  ⟨some 78, .app 5 1 1 (.t 74) (.t 77), none, [], []⟩,
  ⟨some 79, .call false 47 [(.t 78)], none, [], []⟩,
  ⟨some 2, .mov (.t 79), none, [], []⟩] false)
 .ret))))))))))))))
def i21 : F := ⟨1, 80, j21, [.t 2]⟩
theorem b21 : i21.body = j21 := rfl
theorem q21 : i21.res = [.t 2] := rfl
theorem c21 : chkF Try.prog Try.f21 i21 = true := by kernel_rfl
theorem s21 {m : Model} {E : Nat → Model} (hE : ∀ f, Sound Try.prog f (E f)) (hm : ∀ args r, m args = some r → ∃ N, i21.ev E N args = some r) : Sound Try.prog 21 m := sound_of i21 Try.func21 rfl c21 hE hm
/-- bellwether/bellwetherlaw06.Good -/
def j22 : C := (.seq (.region [⟨some 6, .alloc [.int .i64 0, .int .i64 0, .int .i64 0, .int .i64 0, .int .i64 0, .int .i64 0, .int .i64 0, .int .i64 0, .int .i64 0, .int .i64 0, .int .i64 0, .int .i64 0, .int .i64 0, .int .i64 0, .row [], .row []], none, [], []⟩] false)
 (.seq (.region [⟨some 8, .mov (.t 1), none, [], []⟩,
  ⟨some 9, .conv .u64 (.t 8), none, [], []⟩,
  ⟨some 10, .bin .rem (.t 9) (.c (.int .u64 1000)), none, [], []⟩,
  ⟨some 11, .conv .i64 (.t 10), none, [], []⟩,
  ⟨some 12, .mov (.t 2), none, [], []⟩,
  ⟨some 13, .conv .u64 (.t 12), none, [], []⟩,
  ⟨some 14, .bin .rem (.t 13) (.c (.int .u64 1000)), none, [], []⟩,
  ⟨some 15, .conv .i64 (.t 14), none, [], []⟩,
  ⟨some 1, .mov (.t 11), none, [], []⟩,
  ⟨some 2, .mov (.t 15), none, [], []⟩] false)
 (.seq (.region [⟨some 16, .mov (.t 0), none, [], []⟩,
  ⟨some 17, .conv .u64 (.t 16), none, [], []⟩,
  ⟨some 18, .bin .rem (.t 17) (.c (.int .u64 13)), none, [], []⟩,
  ⟨some 19, .conv .i64 (.t 18), none, [], []⟩,
  ⟨some 20, .bin .add (.c (.int .i64 1)) (.t 19), none, [], []⟩,
  ⟨some 21, .mov (.t 1), none, [], []⟩,
  ⟨some 22, .bin .rem (.t 21) (.c (.int .i64 8)), none, [], []⟩,
  ⟨some 23, .mov (.t 2), none, [], []⟩,
  ⟨some 24, .bin .add (.c (.int .i64 1)) (.t 23), none, [], []⟩,
  ⟨some 25, .mov (.t 1), none, [], []⟩,
  ⟨some 26, .bin .add (.t 25) (.c (.int .i64 1)), none, [], []⟩,
  ⟨some 27, .bin .rem (.t 26) (.c (.int .i64 8)), none, [], []⟩,
  ⟨some 28, .mov (.t 1), none, [], []⟩,
  ⟨some 29, .bin .add (.c (.int .i64 1)) (.t 28), none, [], []⟩,
  ⟨some 30, .mov (.t 1), none, [], []⟩,
  ⟨some 31, .bin .rem (.t 30) (.c (.int .i64 4)), none, [], []⟩,
  ⟨some 32, .build [.int .i64 0, .int .i64 0, .int .i64 0, .int .i64 0, .int .i64 0, .int .i64 0, .int .i64 0, .int .i64 0, .int .i64 0, .int .i64 0, .int .i64 0, .int .i64 0, .int .i64 0, .int .i64 0, .row [], .row []] [(0, 1, (.t 20)), (1, 1, (.t 22)), (2, 1, (.t 24)), (3, 1, (.t 27)), (4, 1, (.t 29)), (5, 1, (.t 31))], none, [], []⟩,
  ⟨some 7, .alloc [.int .i64 0, .int .i64 0, .int .i64 0, .int .i64 0, .int .i64 0, .int .i64 0, .int .i64 0, .int .i64 0, .int .i64 0, .int .i64 0, .int .i64 0, .int .i64 0, .int .i64 0, .int .i64 0, .row [], .row []], none, [], []⟩,
  ⟨none, .store none 16 (.t 7) (.t 32), none, [], []⟩] false)
 (.seq (.seq (.region [⟨some 33, .fad 0 (.t 7), none, [], []⟩,
  ⟨some 34, .load false 1 (.t 33), none, [], []⟩] false)
 (.block 0 (.seq (.region [⟨some 36, .bin .eql (.t 34) (.c (.int .i64 1)), none, [], []⟩,
  ⟨some 35, .mov (.t 36), none, [], []⟩] false)
 (.cond (.t 35) (.region [⟨some 37, .fad 4 (.t 7), none, [], []⟩,
  ⟨none, .store none 1 (.t 37) (.c (.int .i64 0)), none, [], []⟩,
  ⟨some 38, .fad 5 (.t 7), none, [], []⟩,
  ⟨none, .store none 1 (.t 38) (.c (.int .i64 0)), none, [], []⟩] false) (.seq (.region [⟨some 40, .bin .eql (.t 34) (.c (.int .i64 2)), none, [], []⟩,
  ⟨some 39, .mov (.t 40), none, [], []⟩] false)
 (.cond (.t 39) (.region [⟨some 41, .mov (.t 2), none, [], []⟩,
  ⟨some 42, .fad 6 (.t 7), none, [], []⟩,
  ⟨none, .store none 1 (.t 42) (.t 41), none, [], []⟩] false) (.seq (.region [⟨some 44, .bin .eql (.t 34) (.c (.int .i64 3)), none, [], []⟩,
  ⟨some 43, .mov (.t 44), none, [], []⟩] false)
 (.cond (.t 43) (.region [⟨some 45, .mov (.t 2), none, [], []⟩,
  ⟨some 46, .mov (.t 1), none, [], []⟩,
  ⟨some 47, .bin .add (.c (.int .i64 1)) (.t 46), none, [], []⟩,
  ⟨some 48, .mov (.t 2), none, [], []⟩,
  ⟨some 49, .mov (.t 1), none, [], []⟩,
  ⟨some 50, .bin .rem (.t 49) (.c (.int .i64 8)), none, [], []⟩,
  ⟨some 51, .mov (.t 1), none, [], []⟩,
  ⟨some 52, .bin .add (.t 51) (.c (.int .i64 3)), none, [], []⟩,
  ⟨some 53, .bin .rem (.t 52) (.c (.int .i64 8)), none, [], []⟩,
  ⟨some 54, .bsl 3 1 2 [.int .i64 0] [(0, (.t 50)), (1, (.t 53))], none, [], []⟩,
  ⟨some 55, .fad 6 (.t 7), none, [], []⟩,
  ⟨none, .store none 1 (.t 55) (.t 45), none, [], []⟩,
  ⟨some 56, .fad 7 (.t 7), none, [], []⟩,
  ⟨none, .store none 1 (.t 56) (.t 47), none, [], []⟩,
  ⟨some 57, .fad 8 (.t 7), none, [], []⟩,
  ⟨none, .store none 1 (.t 57) (.t 48), none, [], []⟩,
  ⟨some 58, .fad 14 (.t 7), none, [], []⟩,
  ⟨none, .store none 1 (.t 58) (.t 54), none, [], []⟩] false) (.seq (.region [⟨some 60, .bin .eql (.t 34) (.c (.int .i64 4)), none, [], []⟩,
  ⟨some 59, .mov (.t 60), none, [], []⟩] false)
 (.cond (.t 59) (.region [⟨some 61, .mov (.t 1), none, [], []⟩,
  ⟨some 62, .bin .add (.t 61) (.c (.int .i64 2)), none, [], []⟩,
  ⟨some 63, .bin .rem (.t 62) (.c (.int .i64 8)), none, [], []⟩,
  ⟨some 64, .fad 10 (.t 7), none, [], []⟩,
  ⟨none, .store none 1 (.t 64) (.t 63), none, [], []⟩] false) (.seq (.region [⟨some 66, .bin .eql (.t 34) (.c (.int .i64 7)), none, [], []⟩,
  ⟨some 65, .mov (.t 66), none, [], []⟩] false)
 (.cond (.t 65) (.region [⟨some 67, .mov (.t 2), none, [], []⟩,
  ⟨some 68, .bin .add (.c (.int .i64 1)) (.t 67), none, [], []⟩,
  ⟨some 69, .mov (.t 1), none, [], []⟩,
  ⟨some 70, .bin .add (.c (.int .i64 1)) (.t 69), none, [], []⟩,
  ⟨some 71, .mov (.t 2), none, [], []⟩,
  ⟨some 72, .fad 6 (.t 7), none, [], []⟩,
  ⟨none, .store none 1 (.t 72) (.t 68), none, [], []⟩,
  ⟨some 73, .fad 7 (.t 7), none, [], []⟩,
  ⟨none, .store none 1 (.t 73) (.t 70), none, [], []⟩,
  ⟨some 74, .fad 9 (.t 7), none, [], []⟩,
  ⟨none, .store none 1 (.t 74) (.t 71), none, [], []⟩] false) (.seq (.region [⟨some 76, .bin .eql (.t 34) (.c (.int .i64 8)), none, [], []⟩,
  ⟨some 75, .mov (.t 76), none, [], []⟩] false)
 (.cond (.t 75) (.region [⟨some 77, .mov (.t 2), none, [], []⟩,
  ⟨some 78, .bin .add (.c (.int .i64 1)) (.t 77), none, [], []⟩,
  ⟨some 79, .mov (.t 1), none, [], []⟩,
  ⟨some 80, .bin .add (.c (.int .i64 1)) (.t 79), none, [], []⟩,
  ⟨some 81, .fad 6 (.t 7), none, [], []⟩,
  ⟨none, .store none 1 (.t 81) (.t 78), none, [], []⟩,
  ⟨some 82, .fad 7 (.t 7), none, [], []⟩,
  ⟨none, .store none 1 (.t 82) (.t 80), none, [], []⟩] false) (.seq (.region [⟨some 84, .bin .eql (.t 34) (.c (.int .i64 9)), none, [], []⟩,
  ⟨some 83, .mov (.t 84), none, [], []⟩] false)
 (.cond (.t 83) (.region [⟨some 85, .mov (.t 2), none, [], []⟩,
  ⟨some 86, .bin .add (.c (.int .i64 1)) (.t 85), none, [], []⟩,
  ⟨some 87, .mov (.t 1), none, [], []⟩,
  ⟨some 88, .bin .add (.c (.int .i64 1)) (.t 87), none, [], []⟩,
  ⟨some 89, .mov (.t 1), none, [], []⟩,
  ⟨some 90, .bin .add (.c (.int .i64 1)) (.t 89), none, [], []⟩,
  ⟨some 91, .mov (.t 2), none, [], []⟩,
  ⟨some 92, .bin .add (.t 90) (.t 91), none, [], []⟩,
  ⟨some 93, .fad 6 (.t 7), none, [], []⟩,
  ⟨none, .store none 1 (.t 93) (.t 86), none, [], []⟩,
  ⟨some 94, .fad 7 (.t 7), none, [], []⟩,
  ⟨none, .store none 1 (.t 94) (.t 88), none, [], []⟩,
  ⟨some 95, .fad 8 (.t 7), none, [], []⟩,
  ⟨none, .store none 1 (.t 95) (.t 92), none, [], []⟩] false) (.seq (.region [⟨some 97, .bin .eql (.t 34) (.c (.int .i64 10)), none, [], []⟩,
  ⟨some 96, .mov (.t 97), none, [], []⟩] false)
 (.cond (.t 96) (.region [⟨some 98, .mov (.t 1), none, [], []⟩,
  ⟨some 99, .bin .rem (.t 98) (.c (.int .i64 8)), none, [], []⟩,
  ⟨some 100, .mov (.t 2), none, [], []⟩,
  ⟨some 101, .bin .add (.c (.int .i64 1)) (.t 100), none, [], []⟩,
  ⟨some 102, .mov (.t 1), none, [], []⟩,
  ⟨some 103, .bin .add (.c (.int .i64 1)) (.t 102), none, [], []⟩,
  ⟨some 104, .mov (.t 2), none, [], []⟩,
  ⟨some 105, .mov (.t 2), none, [], []⟩,
  ⟨some 106, .bin .rem (.t 105) (.c (.int .i64 17)), none, [], []⟩,
  ⟨some 107, .fad 10 (.t 7), none, [], []⟩,
  ⟨none, .store none 1 (.t 107) (.t 99), none, [], []⟩,
  ⟨some 108, .fad 11 (.t 7), none, [], []⟩,
  ⟨none, .store none 1 (.t 108) (.t 101), none, [], []⟩,
  ⟨some 109, .fad 12 (.t 7), none, [], []⟩,
  ⟨none, .store none 1 (.t 109) (.t 103), none, [], []⟩,
  ⟨some 110, .fad 9 (.t 7), none, [], []⟩,
  ⟨none, .store none 1 (.t 110) (.t 104), none, [], []⟩,
  ⟨some 111, .fad 13 (.t 7), none, [], []⟩,
  ⟨none, .store none 1 (.t 111) (.t 106), none, [], []⟩] false) (.seq (.region [⟨some 113, .bin .eql (.t 34) (.c (.int .i64 11)), none, [], []⟩,
  ⟨some 112, .mov (.t 113), none, [], []⟩] false)
 (.cond (.t 112) (.region [⟨some 114, .mov (.t 1), none, [], []⟩,
  ⟨some 115, .bin .rem (.t 114) (.c (.int .i64 8)), none, [], []⟩,
  ⟨some 116, .mov (.t 2), none, [], []⟩,
  ⟨some 117, .bin .add (.c (.int .i64 1)) (.t 116), none, [], []⟩,
  ⟨some 118, .mov (.t 1), none, [], []⟩,
  ⟨some 119, .bin .rem (.t 118) (.c (.int .i64 40)), none, [], []⟩,
  ⟨some 120, .bin .add (.c (.int .i64 1)) (.t 119), none, [], []⟩,
  ⟨some 121, .mov (.t 2), none, [], []⟩,
  ⟨some 122, .mov (.t 2), none, [], []⟩,
  ⟨some 123, .bin .rem (.t 122) (.c (.int .i64 17)), none, [], []⟩,
  ⟨some 124, .mov (.t 1), none, [], []⟩,
  ⟨some 125, .bin .rem (.t 124) (.c (.int .i64 8)), none, [], []⟩,
  ⟨some 126, .bsl 3 1 1 [.int .i64 0] [(0, (.t 125))], none, [], []⟩,
  ⟨some 127, .mov (.t 1), none, [], []⟩,
  ⟨some 128, .bin .add (.t 127) (.c (.int .i64 1)), none, [], []⟩,
  ⟨some 129, .bin .rem (.t 128) (.c (.int .i64 8)), none, [], []⟩,
  ⟨some 130, .mov (.t 1), none, [], []⟩,
  ⟨some 131, .bin .add (.t 130) (.c (.int .i64 5)), none, [], []⟩,
  ⟨some 132, .bin .rem (.t 131) (.c (.int .i64 8)), none, [], []⟩,
  ⟨some 133, .bsl 3 1 2 [.int .i64 0] [(0, (.t 129)), (1, (.t 132))], none, [], []⟩,
  ⟨some 134, .fad 10 (.t 7), none, [], []⟩,
  ⟨none, .store none 1 (.t 134) (.t 115), none, [], []⟩,
  ⟨some 135, .fad 11 (.t 7), none, [], []⟩,
  ⟨none, .store none 1 (.t 135) (.t 117), none, [], []⟩,
  ⟨some 136, .fad 12 (.t 7), none, [], []⟩,
  ⟨none, .store none 1 (.t 136) (.t 120), none, [], []⟩,
  ⟨some 137, .fad 9 (.t 7), none, [], []⟩,
  ⟨none, .store none 1 (.t 137) (.t 121), none, [], []⟩,
  ⟨some 138, .fad 13 (.t 7), none, [], []⟩,
  ⟨none, .store none 1 (.t 138) (.t 123), none, [], []⟩,
  ⟨some 139, .fad 14 (.t 7), none, [], []⟩,
  ⟨none, .store none 1 (.t 139) (.t 126), none, [], []⟩,
  ⟨some 140, .fad 15 (.t 7), none, [], []⟩,
  ⟨none, .store none 1 (.t 140) (.t 133), none, [], []⟩] false) (.seq (.region [⟨some 142, .bin .eql (.t 34) (.c (.int .i64 12)), none, [], []⟩,
  ⟨some 141, .mov (.t 142), none, [], []⟩] false)
 (.cond (.t 141) (.region [⟨some 143, .mov (.t 1), none, [], []⟩,
  ⟨some 144, .bin .rem (.t 143) (.c (.int .i64 40)), none, [], []⟩,
  ⟨some 145, .bin .add (.c (.int .i64 1)) (.t 144), none, [], []⟩,
  ⟨some 146, .mov (.t 2), none, [], []⟩,
  ⟨some 147, .bin .rem (.t 146) (.c (.int .i64 8)), none, [], []⟩,
  ⟨some 148, .fad 12 (.t 7), none, [], []⟩,
  ⟨none, .store none 1 (.t 148) (.t 145), none, [], []⟩,
  ⟨some 149, .fad 9 (.t 7), none, [], []⟩,
  ⟨none, .store none 1 (.t 149) (.t 147), none, [], []⟩] false) (.seq (.region [⟨some 151, .bin .eql (.t 34) (.c (.int .i64 13)), none, [], []⟩,
  ⟨some 150, .mov (.t 151), none, [], []⟩] false)
 (.cond (.t 150) (.region [⟨some 152, .mov (.t 1), none, [], []⟩,
  ⟨some 153, .bin .rem (.t 152) (.c (.int .i64 40)), none, [], []⟩,
  ⟨some 154, .bin .add (.c (.int .i64 1)) (.t 153), none, [], []⟩,
  ⟨some 155, .fad 12 (.t 7), none, [], []⟩,
  ⟨none, .store none 1 (.t 155) (.t 154), none, [], []⟩] false) .skip))))))))))))))))))))))))
 (.seq (.region [⟨some 156, .load true 16 (.t 7), none, [], []⟩,
  ⟨none, .store none 16 (.t 6) (.t 156), none, [], []⟩] false)
 .ret)))))
def i22 : F := ⟨3, 157, j22, [.c 6 16 true]⟩
theorem b22 : i22.body = j22 := rfl
theorem q22 : i22.res = [.c 6 16 true] := rfl
theorem c22 : chkF Try.prog Try.f22 i22 = true := by kernel_rfl
theorem s22 {m : Model} {E : Nat → Model} (hE : ∀ f, Sound Try.prog f (E f)) (hm : ∀ args r, m args = some r → ∃ N, i22.ev E N args = some r) : Sound Try.prog 22 m := sound_of i22 Try.func22 rfl c22 hE hm
/-- bellwether/codec.Get -/
def j23 : C := (.seq (.region [⟨some 6, .mov (.c (.int .i64 0)), none, [], []⟩,
  ⟨some 7, .mov (.c (.int .i64 0)), none, [], []⟩,
  ⟨some 8, .mov (.c (.int .i64 0)), none, [], []⟩] false)
 (.seq (.block 0 (.seq (.region [⟨some 13, .mov (.t 2), none, [], []⟩,
  ⟨some 14, .call false 48 [(.t 13)], none, [], []⟩,
  ⟨some 15, .un .not (.t 14), none, [], []⟩,
  ⟨some 12, .mov (.t 15), none, [], []⟩] false)
 (.cond (.t 12) (.seq (.region [⟨some 6, .mov (.c (.int .i64 0)), none, [], []⟩,
  ⟨some 7, .mov (.c (.int .i64 0)), none, [], []⟩,
  ⟨some 8, .mov (.c (.int .i64 1)), none, [], []⟩] false)
 .ret) (.seq (.region [⟨some 17, .mov (.t 0), none, [], []⟩,
  ⟨some 18, .mov (.t 1), none, [], []⟩,
  ⟨some 19, .mov (.t 2), none, [], []⟩,
  ⟨some 20, .call false 49 [(.t 17), (.t 18), (.t 19)], none, [], []⟩,
  ⟨some 21, .un .not (.t 20), none, [], []⟩,
  ⟨some 16, .mov (.t 21), none, [], []⟩] false)
 (.cond (.t 16) (.seq (.region [⟨some 6, .mov (.c (.int .i64 0)), none, [], []⟩,
  ⟨some 7, .mov (.c (.int .i64 0)), none, [], []⟩,
  ⟨some 8, .mov (.c (.int .i64 2)), none, [], []⟩] false)
 .ret) .skip)))))
 (.seq (.region [⟨some 9, .mov (.c (.int .u64 0)), none, [], []⟩] false)
 (.seq (.seq (.region [⟨some 22, .mov (.t 0), none, [], []⟩,
  ⟨some 23, .mov (.t 1), none, [], []⟩,
  ⟨some 24, .mov (.t 1), none, [], []⟩,
  ⟨some 25, .mov (.t 2), none, [], []⟩,
  ⟨some 26, .bin .add (.t 24) (.t 25), none, [], []⟩,
  ⟨some 27, .cut 1 (.t 22) (some (.t 23)) (some (.t 26)), none, [], []⟩,
  ⟨some 28, .len (.t 27), none, [], []⟩,
  ⟨some 29, .mov (.c (.int .i64 0)), none, [], []⟩] false)
 (.block 1 (.loop (.keep [1, 2, 9, 27, 28, 29] (.seq (.region [⟨some 30, .bin .lss (.t 29) (.t 28), none, [], []⟩] false)
 (.seq (.cond (.t 30) .skip (.exit 1))
 (.seq (.block 2 (.seq (.region [⟨some 31, .iad 1 (.t 27) (.t 29), none, [], []⟩,
  ⟨some 32, .load false 1 (.t 31), none, [], []⟩,
  ⟨some 11, .mov (.t 32), none, [], []⟩] false)
 (.region [⟨some 33, .mov (.t 9), none, [], []⟩,
  ⟨some 34, .bin .shl (.t 33) (.c (.int .u64 8)), none, [], []⟩,
  ⟨some 35, .mov (.t 11), none, [], []⟩,
  ⟨some 36, .conv .u64 (.t 35), none, [], []⟩,
  ⟨some 37, .bin .or (.t 34) (.t 36), none, [], []⟩,
  ⟨some 9, .mov (.t 37), none, [], []⟩] false)))
 (.region [⟨some 38, .bin .add (.t 29) (.c (.int .i64 1)), none, [], []⟩,
  ⟨some 29, .mov (.t 38), none, [], []⟩] false))))))))
 (.seq (.seq (.region [⟨some 39, .mov (.t 9), none, [], []⟩,
  ⟨some 40, .bin .geq (.t 39) (.c (.int .u64 4611686018427387904)), none, [], []⟩] false)
 (.cond (.t 40) (.seq (.region [⟨some 6, .mov (.c (.int .i64 0)), none, [], []⟩,
  ⟨some 7, .mov (.c (.int .i64 0)), none, [], []⟩,
  ⟨some 8, .mov (.c (.int .i64 1)), none, [], []⟩] false)
 .ret) .skip))
 (.seq (.region [⟨some 41, .mov (.t 9), none, [], []⟩,
  ⟨some 42, .conv .i64 (.t 41), none, [], []⟩,
  ⟨some 43, .mov (.t 1), none, [], []⟩,
  ⟨some 44, .mov (.t 2), none, [], []⟩,
  ⟨some 45, .bin .add (.t 43) (.t 44), none, [], []⟩,
  ⟨some 6, .mov (.t 42), none, [], []⟩,
  ⟨some 7, .mov (.t 45), none, [], []⟩,
  ⟨some 8, .mov (.c (.int .i64 0)), none, [], []⟩] false)
 .ret))))))
def i23 : F := ⟨3, 46, j23, [.t 6, .t 7, .t 8]⟩
theorem b23 : i23.body = j23 := rfl
theorem q23 : i23.res = [.t 6, .t 7, .t 8] := rfl
theorem c23 : chkF Try.prog Try.f23 i23 = true := by kernel_rfl
theorem s23 {m : Model} {E : Nat → Model} (hE : ∀ f, Sound Try.prog f (E f)) (hm : ∀ args r, m args = some r → ∃ N, i23.ev E N args = some r) : Sound Try.prog 23 m := sound_of i23 Try.func23 rfl c23 hE hm
/-- slices.Clone   byte byte  -/
def j24 : C := (.seq (.region [⟨some 2, .nilsl 5 1 0, none, [], []⟩] false)
 (.seq (.seq (.region [⟨some 3, .mov (.t 0), none, [], []⟩,
  ⟨some 4, .isnil false (.t 3), none, [], []⟩] false)
 (.cond (.t 4) (.seq (.region [⟨some 2, .nilsl 5 1 1, none, [], []⟩] false)
 .ret) .skip))
 (.seq (.region [⟨some 5, .bsl 5 1 0 [.int .u8 0] [], none, [], []⟩,
  ⟨some 6, .mov (.t 0), none, [], []⟩,
  ⟨some 7, .app 5 1 1 (.t 5) (.t 6), none, [], []⟩,
  ⟨some 2, .mov (.t 7), none, [], []⟩] false)
 .ret)))
def i24 : F := ⟨1, 8, j24, [.t 2]⟩
theorem b24 : i24.body = j24 := rfl
theorem q24 : i24.res = [.t 2] := rfl
theorem c24 : chkF Try.prog Try.f24 i24 = true := by kernel_rfl
theorem s24 {m : Model} {E : Nat → Model} (hE : ∀ f, Sound Try.prog f (E f)) (hm : ∀ args r, m args = some r → ∃ N, i24.ev E N args = some r) : Sound Try.prog 24 m := sound_of i24 Try.func24 rfl c24 hE hm
theorem x24 : Sound Try.prog 24 (cloneM 5 1 1) := by
  refine clone_ok (r := fun _ => (.undef, [])) (s24 (E := fun _ _ => none) (fun f => Sound.no) fun args r h => ?_) (sound_nil (fun m hm => s24 (E := fun _ _ => none) (fun f => Sound.no) hm) fun A c => ⟨0, ?_⟩)
  · split at h
    · rename_i y ys
      split at h
      · rename_i hc
        cases h
        refine ⟨0, ?_⟩
        rw [F_ev rfl]
        simp only [j24, b24, q24, qq, ww, List.append_nil, List.all_nil, List.all_cons, true_or, or_true, false_or, or_false, List.contains_nil, List.isEmpty_nil, List.take_length, List.getElem?_cons_zero, List.getElem?_cons_succ, List.set_cons_zero, List.set_cons_succ, List.replicate, Option.isNone_none, List.map_append, List.length_append, List.all_nil, List.contains_cons, Nat.reduceBEq, List.map_cons, List.map_nil, List.cons_append, List.nil_append, Option.getD_some, Option.getD_none, Option.map_some, Option.map_none, Option.bind_some, Nat.reduceAdd, Nat.reduceMul, Nat.reduceDiv, Nat.reduceEqDiff, Nat.reduceLeDiff, Nat.reduceLT, Int.reduceEq, Int.reduceNe, Int.reduceLT, Int.reduceLE, Int.reduceAdd, Int.reduceSub, Int.reduceMul, Int.reduceNeg, Int.reduceToNat, Int.reducePow, Nat.reducePow, not_false_eq_true, not_true_eq_false, reduceCtorEq, reduceIte, if_true, if_false, Bool.true_eq_false, Bool.false_eq_true, List.length_cons, List.length_nil, and_self, true_and, and_true, List.drop_zero, List.take_succ_cons, List.take_zero, List.drop_succ_cons, List.replicate, fillR, evE, V.pur1, asRow, List.map_append]
        rw [if_pos ⟨hc.1, by simpa using hc.2⟩]
        simp only [j24, b24, q24, qq, ww, List.append_nil, List.all_nil, List.all_cons, true_or, or_true, false_or, or_false, List.contains_nil, List.isEmpty_nil, List.take_length, List.getElem?_cons_zero, List.getElem?_cons_succ, List.set_cons_zero, List.set_cons_succ, List.replicate, Option.isNone_none, List.map_append, List.length_append, List.all_nil, List.contains_cons, Nat.reduceBEq, List.map_cons, List.map_nil, List.cons_append, List.nil_append, Option.getD_some, Option.getD_none, Option.map_some, Option.map_none, Option.bind_some, Nat.reduceAdd, Nat.reduceMul, Nat.reduceDiv, Nat.reduceEqDiff, Nat.reduceLeDiff, Nat.reduceLT, Int.reduceEq, Int.reduceNe, Int.reduceLT, Int.reduceLE, Int.reduceAdd, Int.reduceSub, Int.reduceMul, Int.reduceNeg, Int.reduceToNat, Int.reducePow, Nat.reducePow, not_false_eq_true, not_true_eq_false, reduceCtorEq, reduceIte, if_true, if_false, Bool.true_eq_false, Bool.false_eq_true, List.length_cons, List.length_nil, and_self, true_and, and_true, List.drop_zero, List.take_succ_cons, List.take_zero, List.drop_succ_cons, S.kill, V.kill, Blk.kill, hand, handSs, handS, handVs, handV, List.contains_nil]
        try simp
      · cases h
    · cases h
  · cases A
    · rw [F_ev rfl]
      simp only [j24, b24, q24, qq, ww, List.append_nil, List.all_nil, List.all_cons, true_or, or_true, false_or, or_false, List.contains_nil, List.isEmpty_nil, List.take_length, List.getElem?_cons_zero, List.getElem?_cons_succ, List.set_cons_zero, List.set_cons_succ, List.replicate, Option.isNone_none, List.map_append, List.length_append, List.all_nil, List.contains_cons, Nat.reduceBEq, List.map_cons, List.map_nil, List.cons_append, List.nil_append, Option.getD_some, Option.getD_none, Option.map_some, Option.map_none, Option.bind_some, Nat.reduceAdd, Nat.reduceMul, Nat.reduceDiv, Nat.reduceEqDiff, Nat.reduceLeDiff, Nat.reduceLT, Int.reduceEq, Int.reduceNe, Int.reduceLT, Int.reduceLE, Int.reduceAdd, Int.reduceSub, Int.reduceMul, Int.reduceNeg, Int.reduceToNat, Int.reducePow, Nat.reducePow, not_false_eq_true, not_true_eq_false, reduceCtorEq, reduceIte, if_true, if_false, Bool.true_eq_false, Bool.false_eq_true, List.length_cons, List.length_nil, and_self, true_and, and_true, List.drop_zero, List.take_succ_cons, List.take_zero, List.drop_succ_cons, hand, handSs, handS, handVs, handV, List.contains_nil, Bool.not_false]
      try simp
    · rw [F_ev rfl]
      simp only [j24, b24, q24, qq, ww, List.append_nil, List.all_nil, List.all_cons, true_or, or_true, false_or, or_false, List.contains_nil, List.isEmpty_nil, List.take_length, List.getElem?_cons_zero, List.getElem?_cons_succ, List.set_cons_zero, List.set_cons_succ, List.replicate, Option.isNone_none, List.map_append, List.length_append, List.all_nil, List.contains_cons, Nat.reduceBEq, List.map_cons, List.map_nil, List.cons_append, List.nil_append, Option.getD_some, Option.getD_none, Option.map_some, Option.map_none, Option.bind_some, Nat.reduceAdd, Nat.reduceMul, Nat.reduceDiv, Nat.reduceEqDiff, Nat.reduceLeDiff, Nat.reduceLT, Int.reduceEq, Int.reduceNe, Int.reduceLT, Int.reduceLE, Int.reduceAdd, Int.reduceSub, Int.reduceMul, Int.reduceNeg, Int.reduceToNat, Int.reducePow, Nat.reducePow, not_false_eq_true, not_true_eq_false, reduceCtorEq, reduceIte, if_true, if_false, Bool.true_eq_false, Bool.false_eq_true, List.length_cons, List.length_nil, and_self, true_and, and_true, List.drop_zero, List.take_succ_cons, List.take_zero, List.drop_succ_cons, List.replicate, fillR, evE, V.pur1, asRow]
      try (rw [if_pos (by simp)]; simp only [j24, b24, q24, qq, ww, List.append_nil, List.all_nil, List.all_cons, true_or, or_true, false_or, or_false, List.contains_nil, List.isEmpty_nil, List.take_length, List.getElem?_cons_zero, List.getElem?_cons_succ, List.set_cons_zero, List.set_cons_succ, List.replicate, Option.isNone_none, List.map_append, List.length_append, List.all_nil, List.contains_cons, Nat.reduceBEq, List.map_cons, List.map_nil, List.cons_append, List.nil_append, Option.getD_some, Option.getD_none, Option.map_some, Option.map_none, Option.bind_some, Nat.reduceAdd, Nat.reduceMul, Nat.reduceDiv, Nat.reduceEqDiff, Nat.reduceLeDiff, Nat.reduceLT, Int.reduceEq, Int.reduceNe, Int.reduceLT, Int.reduceLE, Int.reduceAdd, Int.reduceSub, Int.reduceMul, Int.reduceNeg, Int.reduceToNat, Int.reducePow, Nat.reducePow, not_false_eq_true, not_true_eq_false, reduceCtorEq, reduceIte, if_true, if_false, Bool.true_eq_false, Bool.false_eq_true, List.length_cons, List.length_nil, and_self, true_and, and_true, List.drop_zero, List.take_succ_cons, List.take_zero, List.drop_succ_cons, S.kill, V.kill, Blk.kill, hand, handSs, handS, handVs, handV, List.contains_nil])
      try simp
/-- bellwether/crc.tail -/
def j25 : C := (.seq (.region [⟨some 2, .nilsl 5 1 0, none, [], []⟩] false)
 (.seq (.region [⟨some 5, .mks 5 1 1 [.int .u8 0] (.c (.int .i64 4)) (.c (.int .i64 4)), none, [], []⟩,
  ⟨some 3, .mov (.t 5), none, [], []⟩] false)
 (.seq (.seq (.region [⟨some 6, .mov (.t 3), none, [], []⟩,
  ⟨some 7, .len (.t 6), none, [], []⟩,
  ⟨some 8, .mov (.c (.int .i64 0)), none, [], []⟩] false)
 (.block 0 (.loop (.keep [0, 3, 7, 8] (.seq (.region [⟨some 9, .bin .lss (.t 8) (.t 7), none, [], []⟩] false)
 (.seq (.cond (.t 9) .skip (.exit 0))
 (.seq (.block 1 (.seq (.region [⟨some 10, .mov (.t 8), none, [], []⟩,
  ⟨some 4, .mov (.t 10), none, [], []⟩] false)
 (.region [⟨some 11, .mov (.t 3), none, [], []⟩,
  ⟨some 12, .mov (.t 4), none, [], []⟩,
  ⟨some 13, .mov (.t 0), none, [], []⟩,
  ⟨some 14, .mov (.t 4), none, [], []⟩,
  ⟨some 15, .bin .mul (.c (.int .i64 8)) (.t 14), none, [], []⟩,
  ⟨some 16, .bin .shr (.t 13) (.t 15), none, [], []⟩,
  ⟨some 17, .conv .u8 (.t 16), none, [], []⟩,
  ⟨some 18, .iad 1 (.t 11) (.t 12), none, [], []⟩,
  ⟨none, .store none 1 (.t 18) (.t 17), none, [], []⟩] false)))
 (.region [⟨some 19, .bin .add (.t 8) (.c (.int .i64 1)), none, [], []⟩,
  ⟨some 8, .mov (.t 19), none, [], []⟩] false))))))))
 (.seq (.region [⟨some 20, .mov (.t 3), none, [], []⟩,
  ⟨some 2, .mov (.t 20), none, [], []⟩] false)
 .ret))))
def i25 : F := ⟨1, 21, j25, [.t 2]⟩
theorem b25 : i25.body = j25 := rfl
theorem q25 : i25.res = [.t 2] := rfl
theorem c25 : chkF Try.prog Try.f25 i25 = true := by kernel_rfl
theorem s25 {m : Model} {E : Nat → Model} (hE : ∀ f, Sound Try.prog f (E f)) (hm : ∀ args r, m args = some r → ∃ N, i25.ev E N args = some r) : Sound Try.prog 25 m := sound_of i25 Try.func25 rfl c25 hE hm
/-- bellwether/crc.Sum -/
def j26 : C := (.seq (.region [⟨some 2, .mov (.c (.int .i64 0)), none, [], []⟩] false)
 (.seq (.region [⟨some 3, .mov (.c (.int .u32 4294967295)), none, [], []⟩] false)
 (.seq (.seq (.region [⟨some 7, .mov (.t 0), none, [], []⟩,
  ⟨some 8, .len (.t 7), none, [], []⟩,
  ⟨some 9, .mov (.c (.int .i64 0)), none, [], []⟩] false)
 (.block 0 (.loop (.keep [3, 7, 8, 9] (.seq (.region [⟨some 10, .bin .lss (.t 9) (.t 8), none, [], []⟩] false)
 (.seq (.cond (.t 10) .skip (.exit 0))
 (.seq (.block 1 (.seq (.region [⟨some 11, .iad 1 (.t 7) (.t 9), none, [], []⟩,
  ⟨some 12, .load false 1 (.t 11), none, [], []⟩,
  ⟨some 5, .mov (.t 12), none, [], []⟩] false)
 (.seq (.region [⟨some 13, .mov (.t 3), none, [], []⟩,
  ⟨some 14, .mov (.t 5), none, [], []⟩,
  ⟨some 15, .conv .u32 (.t 14), none, [], []⟩,
  ⟨some 16, .bin .xor (.t 13) (.t 15), none, [], []⟩,
  ⟨some 3, .mov (.t 16), none, [], []⟩] false)
 (.seq (.region [⟨some 17, .mov (.c (.int .i64 0)), none, [], []⟩] false)
 (.block 2 (.loop (.keep [3, 7, 8, 9, 17] (.seq (.region [⟨some 18, .bin .lss (.t 17) (.c (.int .i64 8)), none, [], []⟩] false)
 (.seq (.cond (.t 18) .skip (.exit 2))
 (.seq (.block 3 (.seq (.region [⟨some 19, .mov (.t 3), none, [], []⟩,
  ⟨some 20, .bin .and (.t 19) (.c (.int .u32 1)), none, [], []⟩,
  ⟨some 6, .mov (.t 20), none, [], []⟩] false)
 (.seq (.region [⟨some 21, .mov (.t 3), none, [], []⟩,
  ⟨some 22, .bin .shr (.t 21) (.c (.int .u64 1)), none, [], []⟩,
  ⟨some 3, .mov (.t 22), none, [], []⟩] false)
 (.seq (.region [⟨some 23, .mov (.t 6), none, [], []⟩,
  ⟨some 24, .bin .eql (.t 23) (.c (.int .u32 1)), none, [], []⟩] false)
 (.cond (.t 24) (.region [⟨some 25, .mov (.t 3), none, [], []⟩,
  ⟨some 26, .bin .xor (.t 25) (.c (.int .u32 3988292384)), none, [], []⟩,
  ⟨some 3, .mov (.t 26), none, [], []⟩] false) .skip)))))
 (.region [⟨some 27, .bin .add (.t 17) (.c (.int .i64 1)), none, [], []⟩,
  ⟨some 17, .mov (.t 27), none, [], []⟩] false)))))))))))
 (.region [⟨some 28, .bin .add (.t 9) (.c (.int .i64 1)), none, [], []⟩,
  ⟨some 9, .mov (.t 28), none, [], []⟩] false))))))))
 (.seq (.region [⟨some 29, .mov (.t 3), none, [], []⟩,
  ⟨some 30, .un .xor (.t 29), none, [], []⟩,
  ⟨some 31, .conv .i64 (.t 30), none, [], []⟩,
  ⟨some 2, .mov (.t 31), none, [], []⟩] false)
 .ret))))
def i26 : F := ⟨1, 32, j26, [.t 2]⟩
theorem b26 : i26.body = j26 := rfl
theorem q26 : i26.res = [.t 2] := rfl
theorem c26 : chkF Try.prog Try.f26 i26 = true := by kernel_rfl
theorem s26 {m : Model} {E : Nat → Model} (hE : ∀ f, Sound Try.prog f (E f)) (hm : ∀ args r, m args = some r → ∃ N, i26.ev E N args = some r) : Sound Try.prog 26 m := sound_of i26 Try.func26 rfl c26 hE hm
/-- slices.Equal   byte byte  -/
def j27 : C := (.seq (.region [⟨some 4, .mov (.c (.bool false)), none, [], []⟩] false)
 (.seq (.seq (.region [⟨some 6, .mov (.t 0), none, [], []⟩,
  ⟨some 7, .len (.t 6), none, [], []⟩,
  ⟨some 8, .mov (.t 1), none, [], []⟩,
  ⟨some 9, .len (.t 8), none, [], []⟩,
  ⟨some 10, .bin .neq (.t 7) (.t 9), none, [], []⟩] false)
 (.cond (.t 10) (.seq (.region [⟨some 4, .mov (.c (.bool false)), none, [], []⟩] false)
 .ret) .skip))
 (.seq (.seq (.region [⟨some 11, .mov (.t 0), none, [], []⟩,
  ⟨some 12, .len (.t 11), none, [], []⟩,
  ⟨some 13, .mov (.c (.int .i64 0)), none, [], []⟩] false)
 (.block 0 (.loop (.keep [0, 1, 12, 13] (.seq (.region [⟨some 14, .bin .lss (.t 13) (.t 12), none, [], []⟩] false)
 (.seq (.cond (.t 14) .skip (.exit 0))
 (.seq (.block 1 (.seq (.region [⟨some 15, .mov (.t 13), none, [], []⟩,
  ⟨some 5, .mov (.t 15), none, [], []⟩] false)
 (.seq (.region [⟨some 16, .mov (.t 0), none, [17, 20, 21, 22, 23], []⟩,
  ⟨some 17, .mov (.t 5), none, [16, 20, 21, 22, 23], []⟩,
  ⟨some 18, .iad 1 (.t 16) (.t 17), none, [20, 21, 22, 23], [0, 1]⟩,
  ⟨some 19, .load false 1 (.t 18), none, [20, 21, 22, 23], [0, 1, 2]⟩,
  ⟨some 20, .mov (.t 1), none, [16, 17, 18, 19, 21], []⟩,
  ⟨some 21, .mov (.t 5), none, [16, 17, 18, 19, 20], []⟩,
  ⟨some 22, .iad 1 (.t 20) (.t 21), none, [16, 17, 18, 19], [4, 5]⟩,
  ⟨some 23, .load false 1 (.t 22), none, [16, 17, 18, 19], [4, 5, 6]⟩,
  ⟨some 24, .bin .neq (.t 19) (.t 23), none, [], [0, 1, 2, 3, 4, 5, 6, 7]⟩] true)
 (.cond (.t 24) (.seq (.region [⟨some 4, .mov (.c (.bool false)), none, [], []⟩] false)
 .ret) .skip))))
 (.region [⟨some 25, .bin .add (.t 13) (.c (.int .i64 1)), none, [], []⟩,
  ⟨some 13, .mov (.t 25), none, [], []⟩] false))))))))
 (.seq (.region [⟨some 4, .mov (.c (.bool true)), none, [], []⟩] false)
 .ret))))
def i27 : F := ⟨2, 26, j27, [.t 4]⟩
theorem b27 : i27.body = j27 := rfl
theorem q27 : i27.res = [.t 4] := rfl
theorem c27 : chkF Try.prog Try.f27 i27 = true := by kernel_rfl
theorem s27 {m : Model} {E : Nat → Model} (hE : ∀ f, Sound Try.prog f (E f)) (hm : ∀ args r, m args = some r → ∃ N, i27.ev E N args = some r) : Sound Try.prog 27 m := sound_of i27 Try.func27 rfl c27 hE hm
/-- bellwether/bellwetherkeep.TwinInts -/
def j28 : C := (.seq (.region [⟨some 2, .nilsl 3 1 0, none, [], []⟩] false)
 (.seq (.region [⟨some 3, .nilsl 3 1 0, none, [], []⟩] false)
 (.seq (.region [⟨some 4, .mov (.t 3), none, [], []⟩,
  ⟨some 5, .mov (.t 0), none, [], []⟩,
  ⟨some 6, .app 3 1 8 (.t 4) (.t 5), none, [], []⟩,
  ⟨some 2, .mov (.t 6), none, [], []⟩] false)
 .ret)))
def i28 : F := ⟨1, 7, j28, [.t 2]⟩
theorem b28 : i28.body = j28 := rfl
theorem q28 : i28.res = [.t 2] := rfl
theorem c28 : chkF Try.prog Try.f28 i28 = true := by kernel_rfl
theorem s28 {m : Model} {E : Nat → Model} (hE : ∀ f, Sound Try.prog f (E f)) (hm : ∀ args r, m args = some r → ∃ N, i28.ev E N args = some r) : Sound Try.prog 28 m := sound_of i28 Try.func28 rfl c28 hE hm
/-- bellwether/msg.Check -/
def j29 : C := (.seq (.region [⟨some 1, .box (.t 0), none, [], []⟩,
  ⟨some 2, .mov (.c (.int .i64 0)), none, [], []⟩] false)
 (.seq (.region [⟨some 8, .load true 16 (.t 1), none, [], []⟩,
  ⟨some 9, .call false 50 [(.t 8)], none, [], []⟩,
  ⟨some 7, .mov (.t 9), none, [], []⟩,
  ⟨some 10, .ext (.t 7) 0, none, [], []⟩,
  ⟨some 11, .ext (.t 7) 1, none, [], []⟩,
  ⟨some 3, .alloc [.int .i64 0, .int .i64 0, .int .i64 0, .int .i64 0, .int .i64 0, .int .i64 0, .int .i64 0, .int .i64 0, .int .i64 0, .int .i64 0, .int .i64 0, .int .i64 0, .int .i64 0, .int .i64 0, .row [], .row []], none, [], []⟩,
  ⟨none, .store none 16 (.t 3) (.t 10), none, [], []⟩,
  ⟨some 4, .mov (.t 11), none, [], []⟩] false)
 (.seq (.region [⟨some 12, .load true 16 (.t 1), none, [], []⟩,
  ⟨some 13, .call false 51 [(.t 12)], none, [], []⟩,
  ⟨some 5, .mov (.t 13), none, [], []⟩] false)
 (.seq (.seq (.region [⟨some 14, .fad 0 (.t 1), none, [], []⟩,
  ⟨some 15, .load false 1 (.t 14), none, [], []⟩,
  ⟨some 16, .bin .eql (.t 15) (.c (.int .i64 1)), none, [], []⟩] false)
 (.cond (.t 16) (.region [⟨some 17, .mov (.t 5), none, [], []⟩,
  ⟨some 18, .mov (.t 17), none, [], []⟩,
  ⟨some 19, .fad 4 (.t 1), some (18, true), [], []⟩,
  ⟨some 20, .load false 1 (.t 19), some (18, true), [], []⟩,
  ⟨some 21, .bin .eql (.t 20) (.c (.int .i64 0)), some (18, true), [], []⟩,
  ⟨some 22, .pick (.t 18) (.t 21) (.c (.bool false)), none, [], []⟩,
  ⟨some 23, .mov (.t 22), none, [], []⟩,
  ⟨some 24, .fad 5 (.t 1), some (23, true), [], []⟩,
  ⟨some 25, .load false 1 (.t 24), some (23, true), [], []⟩,
  ⟨some 26, .bin .eql (.t 25) (.c (.int .i64 0)), some (23, true), [], []⟩,
  ⟨some 27, .pick (.t 23) (.t 26) (.c (.bool false)), none, [], []⟩,
  ⟨some 5, .mov (.t 27), none, [], []⟩] false) (.region [⟨some 28, .mov (.t 5), none, [], []⟩,
  ⟨some 29, .mov (.t 28), none, [], []⟩,
  ⟨some 30, .fad 4 (.t 1), some (29, true), [], []⟩,
  ⟨some 31, .load false 1 (.t 30), some (29, true), [], []⟩,
  ⟨some 32, .call false 52 [(.t 31)], some (29, true), [], []⟩,
  ⟨some 33, .pick (.t 29) (.t 32) (.c (.bool false)), none, [], []⟩,
  ⟨some 34, .mov (.t 33), none, [], []⟩,
  ⟨some 35, .fad 5 (.t 1), some (34, true), [], []⟩,
  ⟨some 36, .load false 1 (.t 35), some (34, true), [], []⟩,
  ⟨some 37, .call false 53 [(.t 36), (.c (.int .i64 0)), (.c (.int .i64 3))], some (34, true), [], []⟩,
  ⟨some 38, .pick (.t 34) (.t 37) (.c (.bool false)), none, [], []⟩,
  ⟨some 5, .mov (.t 38), none, [], []⟩] false)))
 (.seq (.region [⟨some 39, .fad 6 (.t 3), none, [], []⟩,
  ⟨some 40, .load false 1 (.t 39), none, [], []⟩,
  ⟨some 41, .bin .neq (.t 40) (.c (.int .i64 0)), none, [], []⟩,
  ⟨some 42, .mov (.t 41), none, [], []⟩,
  ⟨some 43, .fad 7 (.t 3), some (42, false), [], []⟩,
  ⟨some 44, .load false 1 (.t 43), some (42, false), [], []⟩,
  ⟨some 45, .bin .neq (.t 44) (.c (.int .i64 0)), some (42, false), [], []⟩,
  ⟨some 46, .pick (.t 42) (.c (.bool true)) (.t 45), none, [], []⟩,
  ⟨some 47, .mov (.t 46), none, [], []⟩,
  ⟨some 48, .fad 8 (.t 3), some (47, false), [], []⟩,
  ⟨some 49, .load false 1 (.t 48), some (47, false), [], []⟩,
  ⟨some 50, .bin .neq (.t 49) (.c (.int .i64 0)), some (47, false), [], []⟩,
  ⟨some 51, .pick (.t 47) (.c (.bool true)) (.t 50), none, [], []⟩,
  ⟨some 52, .mov (.t 51), none, [], []⟩,
  ⟨some 53, .fad 9 (.t 3), some (52, false), [], []⟩,
  ⟨some 54, .load false 1 (.t 53), some (52, false), [], []⟩,
  ⟨some 55, .bin .neq (.t 54) (.c (.int .i64 0)), some (52, false), [], []⟩,
  ⟨some 56, .pick (.t 52) (.c (.bool true)) (.t 55), none, [], []⟩,
  ⟨some 57, .mov (.t 56), none, [], []⟩,
  ⟨some 58, .fad 10 (.t 3), some (57, false), [], []⟩,
  ⟨some 59, .load false 1 (.t 58), some (57, false), [], []⟩,
  ⟨some 60, .bin .neq (.t 59) (.c (.int .i64 0)), some (57, false), [], []⟩,
  ⟨some 61, .pick (.t 57) (.c (.bool true)) (.t 60), none, [], []⟩,
  ⟨some 62, .mov (.t 61), none, [], []⟩,
  ⟨some 63, .fad 11 (.t 3), some (62, false), [], []⟩,
  ⟨some 64, .load false 1 (.t 63), some (62, false), [], []⟩,
  ⟨some 65, .bin .neq (.t 64) (.c (.int .i64 0)), some (62, false), [], []⟩,
  ⟨some 66, .pick (.t 62) (.c (.bool true)) (.t 65), none, [], []⟩,
  ⟨some 67, .mov (.t 66), none, [], []⟩,
  ⟨some 68, .fad 12 (.t 3), some (67, false), [], []⟩,
  ⟨some 69, .load false 1 (.t 68), some (67, false), [], []⟩,
  ⟨some 70, .bin .neq (.t 69) (.c (.int .i64 0)), some (67, false), [], []⟩,
  ⟨some 71, .pick (.t 67) (.c (.bool true)) (.t 70), none, [], []⟩,
  ⟨some 72, .mov (.t 71), none, [], []⟩,
  ⟨some 73, .fad 13 (.t 3), some (72, false), [], []⟩,
  ⟨some 74, .load false 1 (.t 73), some (72, false), [], []⟩,
  ⟨some 75, .bin .neq (.t 74) (.c (.int .i64 0)), some (72, false), [], []⟩,
  ⟨some 76, .pick (.t 72) (.c (.bool true)) (.t 75), none, [], []⟩,
  ⟨some 6, .mov (.t 76), none, [], []⟩] false)
 (.seq (.seq (.region [⟨some 77, .mov (.t 4), none, [], []⟩,
  ⟨some 78, .un .not (.t 77), none, [], []⟩,
  ⟨some 79, .mov (.t 78), none, [], []⟩,
  ⟨some 80, .mov (.t 5), some (79, false), [], []⟩,
  ⟨some 81, .un .not (.t 80), some (79, false), [], []⟩,
  ⟨some 82, .pick (.t 79) (.c (.bool true)) (.t 81), none, [], []⟩,
  ⟨some 83, .mov (.t 82), none, [], []⟩,
  ⟨some 84, .mov (.t 6), some (83, false), [], []⟩,
  ⟨some 85, .pick (.t 83) (.c (.bool true)) (.t 84), none, [], []⟩,
  ⟨some 86, .mov (.t 85), none, [], []⟩,
  ⟨some 87, .fad 14 (.t 3), some (86, false), [], []⟩,
  ⟨some 88, .load false 1 (.t 87), some (86, false), [], []⟩,
  ⟨some 89, .len (.t 88), some (86, false), [], []⟩,
  ⟨some 90, .bin .gtr (.t 89) (.c (.int .i64 0)), some (86, false), [], []⟩,
  ⟨some 91, .pick (.t 86) (.c (.bool true)) (.t 90), none, [], []⟩,
  ⟨some 92, .mov (.t 91), none, [], []⟩,
  ⟨some 93, .fad 15 (.t 3), some (92, false), [], []⟩,
  ⟨some 94, .load false 1 (.t 93), some (92, false), [], []⟩,
  ⟨some 95, .len (.t 94), some (92, false), [], []⟩,
  ⟨some 96, .bin .gtr (.t 95) (.c (.int .i64 0)), some (92, false), [], []⟩,
  ⟨some 97, .pick (.t 92) (.c (.bool true)) (.t 96), none, [], []⟩] false)
 (.cond (.t 97) (.seq (.region [⟨some 2, .mov (.c (.int .i64 5)), none, [], []⟩] false)
 .ret) .skip))
 (.seq (.region [⟨some 2, .mov (.c (.int .i64 0)), none, [], []⟩] false)
 .ret)))))))
def i29 : F := ⟨1, 98, j29, [.t 2]⟩
theorem b29 : i29.body = j29 := rfl
theorem q29 : i29.res = [.t 2] := rfl
theorem c29 : chkF Try.prog Try.f29 i29 = true := by kernel_rfl
theorem s29 {m : Model} {E : Nat → Model} (hE : ∀ f, Sound Try.prog f (E f)) (hm : ∀ args r, m args = some r → ∃ N, i29.ev E N args = some r) : Sound Try.prog 29 m := sound_of i29 Try.func29 rfl c29 hE hm
/-- bellwether/wire.numbers -/
def j30 : C := (.seq (.region [⟨some 1, .box (.t 0), none, [], []⟩,
  ⟨some 2, .mov (.c (.row [])), none, [], []⟩] false)
 (.seq (.region [⟨some 3, .fad 0 (.t 1), none, [], []⟩,
  ⟨some 4, .load false 1 (.t 3), none, [], []⟩,
  ⟨some 5, .fad 1 (.t 1), none, [], []⟩,
  ⟨some 6, .load false 1 (.t 5), none, [], []⟩,
  ⟨some 7, .fad 3 (.t 1), none, [], []⟩,
  ⟨some 8, .load false 1 (.t 7), none, [], []⟩,
  ⟨some 9, .fad 5 (.t 1), none, [], []⟩,
  ⟨some 10, .load false 1 (.t 9), none, [], []⟩,
  ⟨some 11, .fad 2 (.t 1), none, [], []⟩,
  ⟨some 12, .load false 1 (.t 11), none, [], []⟩,
  ⟨some 13, .fad 4 (.t 1), none, [], []⟩,
  ⟨some 14, .load false 1 (.t 13), none, [], []⟩,
  ⟨some 15, .fad 6 (.t 1), none, [], []⟩,
  ⟨some 16, .load false 1 (.t 15), none, [], []⟩,
  ⟨some 17, .fad 7 (.t 1), none, [], []⟩,
  ⟨some 18, .load false 1 (.t 17), none, [], []⟩,
  ⟨some 19, .fad 8 (.t 1), none, [], []⟩,
  ⟨some 20, .load false 1 (.t 19), none, [], []⟩,
  ⟨some 21, .fad 9 (.t 1), none, [], []⟩,
  ⟨some 22, .load false 1 (.t 21), none, [], []⟩,
  ⟨some 23, .fad 10 (.t 1), none, [], []⟩,
  ⟨some 24, .load false 1 (.t 23), none, [], []⟩,
  ⟨some 25, .fad 11 (.t 1), none, [], []⟩,
  ⟨some 26, .load false 1 (.t 25), none, [], []⟩,
  ⟨some 27, .fad 12 (.t 1), none, [], []⟩,
  ⟨some 28, .load false 1 (.t 27), none, [], []⟩,
  ⟨some 29, .fad 13 (.t 1), none, [], []⟩,
  ⟨some 30, .load false 1 (.t 29), none, [], []⟩,
  ⟨some 31, .bsl 3 1 14 [.int .i64 0] [(0, (.t 4)), (1, (.t 6)), (2, (.t 8)), (3, (.t 10)), (4, (.t 12)), (5, (.t 14)), (6, (.t 16)), (7, (.t 18)), (8, (.t 20)), (9, (.t 22)), (10, (.t 24)), (11, (.t 26)), (12, (.t 28)), (13, (.t 30))], none, [], []⟩,
  ⟨some 2, .mov (.t 31), none, [], []⟩] false)
 .ret))
def i30 : F := ⟨1, 32, j30, [.t 2]⟩
theorem b30 : i30.body = j30 := rfl
theorem q30 : i30.res = [.t 2] := rfl
theorem c30 : chkF Try.prog Try.f30 i30 = true := by kernel_rfl
theorem s30 {m : Model} {E : Nat → Model} (hE : ∀ f, Sound Try.prog f (E f)) (hm : ∀ args r, m args = some r → ∃ N, i30.ev E N args = some r) : Sound Try.prog 30 m := sound_of i30 Try.func30 rfl c30 hE hm
/-- bellwether/wire.sizes -/
def j31 : C := (.seq (.region [⟨some 0, .mov (.c (.row [])), none, [], []⟩] false)
 (.seq (.region [⟨some 1, .bsl 3 1 14 [.int .i64 0] [(0, (.c (.int .i64 1))), (1, (.c (.int .i64 1))), (2, (.c (.int .i64 1))), (3, (.c (.int .i64 1))), (4, (.c (.int .i64 4))), (5, (.c (.int .i64 4))), (6, (.c (.int .i64 8))), (7, (.c (.int .i64 4))), (8, (.c (.int .i64 4))), (9, (.c (.int .i64 4))), (10, (.c (.int .i64 1))), (11, (.c (.int .i64 4))), (12, (.c (.int .i64 4))), (13, (.c (.int .i64 1)))], none, [], []⟩,
  ⟨some 0, .mov (.t 1), none, [], []⟩] false)
 .ret))
def i31 : F := ⟨0, 2, j31, [.t 0]⟩
theorem b31 : i31.body = j31 := rfl
theorem q31 : i31.res = [.t 0] := rfl
theorem c31 : chkF Try.prog Try.f31 i31 = true := by kernel_rfl
theorem s31 {m : Model} {E : Nat → Model} (hE : ∀ f, Sound Try.prog f (E f)) (hm : ∀ args r, m args = some r → ∃ N, i31.ev E N args = some r) : Sound Try.prog 31 m := sound_of i31 Try.func31 rfl c31 hE hm
/-- bellwether/wire.put -/
def j32 : C := (.seq (.region [⟨some 6, .nilsl 5 1 0, none, [], []⟩] false)
 (.seq (.seq (.region [⟨some 7, .mov (.t 1), none, [], []⟩] false)
 (.block 0 (.seq (.block 3 (.seq (.block 2 (.seq (.block 1 (.seq (.seq (.seq (.region [⟨some 9, .bin .eql (.t 7) (.c (.int .i64 8)), none, [], []⟩,
  ⟨some 8, .mov (.t 9), none, [], []⟩] false)
 (.cond (.t 8) (.exit 1) .skip))
 (.seq (.region [⟨some 11, .bin .eql (.t 7) (.c (.int .i64 4)), none, [], []⟩,
  ⟨some 10, .mov (.t 11), none, [], []⟩] false)
 (.cond (.t 10) (.exit 2) .skip)))
 (.exit 3)))
 (.region [⟨some 12, .mov (.t 0), none, [], []⟩,
  ⟨some 13, .mov (.t 2), none, [], []⟩,
  ⟨some 14, .bin .shr (.t 13) (.c (.int .u64 56)), none, [], []⟩,
  ⟨some 15, .conv .u8 (.t 14), none, [], []⟩,
  ⟨some 16, .mov (.t 2), none, [], []⟩,
  ⟨some 17, .bin .shr (.t 16) (.c (.int .u64 48)), none, [], []⟩,
  ⟨some 18, .conv .u8 (.t 17), none, [], []⟩,
  ⟨some 19, .mov (.t 2), none, [], []⟩,
  ⟨some 20, .bin .shr (.t 19) (.c (.int .u64 40)), none, [], []⟩,
  ⟨some 21, .conv .u8 (.t 20), none, [], []⟩,
  ⟨some 22, .mov (.t 2), none, [], []⟩,
  ⟨some 23, .bin .shr (.t 22) (.c (.int .u64 32)), none, [], []⟩,
  ⟨some 24, .conv .u8 (.t 23), none, [], []⟩,
  ⟨some 25, .bsl 5 1 4 [.int .u8 0] [(0, (.t 15)), (1, (.t 18)), (2, (.t 21)), (3, (.t 24))], none, [], []⟩,
  ⟨some 26, .app 5 1 1 (.t 12) (.t 25), none, [], []⟩,
  ⟨some 0, .mov (.t 26), none, [], []⟩] false)))
 (.region [⟨some 27, .mov (.t 0), none, [], []⟩,
  ⟨some 28, .mov (.t 2), none, [], []⟩,
  ⟨some 29, .bin .shr (.t 28) (.c (.int .u64 24)), none, [], []⟩,
  ⟨some 30, .conv .u8 (.t 29), none, [], []⟩,
  ⟨some 31, .mov (.t 2), none, [], []⟩,
  ⟨some 32, .bin .shr (.t 31) (.c (.int .u64 16)), none, [], []⟩,
  ⟨some 33, .conv .u8 (.t 32), none, [], []⟩,
  ⟨some 34, .mov (.t 2), none, [], []⟩,
  ⟨some 35, .bin .shr (.t 34) (.c (.int .u64 8)), none, [], []⟩,
  ⟨some 36, .conv .u8 (.t 35), none, [], []⟩,
  ⟨some 37, .bsl 5 1 3 [.int .u8 0] [(0, (.t 30)), (1, (.t 33)), (2, (.t 36))], none, [], []⟩,
  ⟨some 38, .app 5 1 1 (.t 27) (.t 37), none, [], []⟩,
  ⟨some 0, .mov (.t 38), none, [], []⟩] false)))
 (.seq (.region [⟨some 39, .mov (.t 0), none, [], []⟩,
  ⟨some 40, .mov (.t 2), none, [], []⟩,
  ⟨some 41, .conv .u8 (.t 40), none, [], []⟩,
  ⟨some 42, .bsl 5 1 1 [.int .u8 0] [(0, (.t 41))], none, [], []⟩,
  ⟨some 43, .app 5 1 1 (.t 39) (.t 42), none, [], []⟩,
  ⟨some 0, .mov (.t 43), none, [], []⟩] false)
 (.exit 0)))))
 (.seq (.region [⟨some 44, .mov (.t 0), none, [], []⟩,
  ⟨some 6, .mov (.t 44), none, [], []⟩] false)
 .ret)))
def i32 : F := ⟨3, 45, j32, [.t 6]⟩
theorem b32 : i32.body = j32 := rfl
theorem q32 : i32.res = [.t 6] := rfl
theorem c32 : chkF Try.prog Try.f32 i32 = true := by kernel_rfl
theorem s32 {m : Model} {E : Nat → Model} (hE : ∀ f, Sound Try.prog f (E f)) (hm : ∀ args r, m args = some r → ∃ N, i32.ev E N args = some r) : Sound Try.prog 32 m := sound_of i32 Try.func32 rfl c32 hE hm
/-- bellwether/wire.read -/
def j33 : C := (.seq (.region [⟨some 2, .alloc [.int .i64 0, .int .i64 0, .int .i64 0, .int .i64 0, .int .i64 0, .int .i64 0, .int .i64 0, .int .i64 0, .int .i64 0, .int .i64 0, .int .i64 0, .int .i64 0, .int .i64 0, .int .i64 0, .row [], .row []], none, [], []⟩,
  ⟨some 3, .mov (.c (.bool false)), none, [], []⟩] false)
 (.seq (.region [⟨some 4, .nilsl 3 1 0, none, [], []⟩] false)
 (.seq (.region [⟨some 5, .mov (.c (.int .i64 0)), none, [], []⟩] false)
 (.seq (.seq (.region [⟨some 14, .call false 31 [], none, [], []⟩,
  ⟨some 15, .len (.t 14), none, [], []⟩,
  ⟨some 16, .mov (.c (.int .i64 0)), none, [], []⟩] false)
 (.block 0 (.loop (.keep [0, 2, 4, 5, 14, 15, 16] (.seq (.region [⟨some 17, .bin .lss (.t 16) (.t 15), none, [], []⟩] false)
 (.seq (.cond (.t 17) .skip (.exit 0))
 (.seq (.block 1 (.seq (.region [⟨some 18, .iad 1 (.t 14) (.t 16), none, [], []⟩,
  ⟨some 19, .load false 1 (.t 18), none, [], []⟩,
  ⟨some 7, .mov (.t 19), none, [], []⟩] false)
 (.seq (.region [⟨some 21, .mov (.t 0), none, [], []⟩,
  ⟨some 22, .mov (.t 5), none, [], []⟩,
  ⟨some 23, .mov (.t 7), none, [], []⟩,
  ⟨some 24, .call true 23 [(.t 21), (.t 22), (.t 23)], none, [], []⟩,
  ⟨some 20, .mov (.t 24), none, [], []⟩,
  ⟨some 25, .ext (.t 20) 0, none, [], []⟩,
  ⟨some 26, .ext (.t 20) 1, none, [], []⟩,
  ⟨some 27, .ext (.t 20) 2, none, [], []⟩,
  ⟨some 8, .mov (.t 25), none, [], []⟩,
  ⟨some 9, .mov (.t 26), none, [], []⟩,
  ⟨some 10, .mov (.t 27), none, [], []⟩] false)
 (.seq (.seq (.region [⟨some 28, .mov (.t 10), none, [], []⟩,
  ⟨some 29, .bin .neq (.t 28) (.c (.int .i64 0)), none, [], []⟩] false)
 (.cond (.t 29) (.seq (.region [⟨some 30, .build [.int .i64 0, .int .i64 0, .int .i64 0, .int .i64 0, .int .i64 0, .int .i64 0, .int .i64 0, .int .i64 0, .int .i64 0, .int .i64 0, .int .i64 0, .int .i64 0, .int .i64 0, .int .i64 0, .row [], .row []] [], none, [], []⟩,
  ⟨none, .store none 16 (.t 2) (.t 30), none, [], []⟩,
  ⟨some 3, .mov (.c (.bool false)), none, [], []⟩] false)
 .ret) .skip))
 (.region [⟨some 31, .mov (.t 4), none, [], []⟩,
  ⟨some 32, .mov (.t 8), none, [], []⟩,
  ⟨some 33, .bsl 3 1 1 [.int .i64 0] [(0, (.t 32))], none, [], []⟩,
  ⟨some 34, .app 3 1 8 (.t 31) (.t 33), none, [], []⟩,
  ⟨some 35, .mov (.t 9), none, [], []⟩,
  ⟨some 4, .mov (.t 34), none, [], []⟩,
  ⟨some 5, .mov (.t 35), none, [], []⟩] false)))))
 (.region [⟨some 36, .bin .add (.t 16) (.c (.int .i64 1)), none, [], []⟩,
  ⟨some 16, .mov (.t 36), none, [], []⟩] false))))))))
 (.seq (.region [⟨some 38, .mov (.t 0), none, [], []⟩,
  ⟨some 39, .mov (.t 5), none, [], []⟩,
  ⟨some 40, .call true 54 [(.t 38), (.t 39)], none, [], []⟩,
  ⟨some 37, .mov (.t 40), none, [], []⟩,
  ⟨some 41, .ext (.t 37) 0, none, [], []⟩,
  ⟨some 42, .ext (.t 37) 1, none, [], []⟩,
  ⟨some 43, .ext (.t 37) 2, none, [], []⟩,
  ⟨some 11, .mov (.t 41), none, [], []⟩,
  ⟨some 5, .mov (.t 42), none, [], []⟩,
  ⟨some 12, .mov (.t 43), none, [], []⟩] false)
 (.seq (.seq (.region [⟨some 44, .mov (.t 12), none, [], []⟩,
  ⟨some 45, .bin .neq (.t 44) (.c (.int .i64 0)), none, [], []⟩] false)
 (.cond (.t 45) (.seq (.region [⟨some 46, .build [.int .i64 0, .int .i64 0, .int .i64 0, .int .i64 0, .int .i64 0, .int .i64 0, .int .i64 0, .int .i64 0, .int .i64 0, .int .i64 0, .int .i64 0, .int .i64 0, .int .i64 0, .int .i64 0, .row [], .row []] [], none, [], []⟩,
  ⟨none, .store none 16 (.t 2) (.t 46), none, [], []⟩,
  ⟨some 3, .mov (.c (.bool false)), none, [], []⟩] false)
 .ret) .skip))
 (.seq (.region [⟨some 48, .mov (.t 0), none, [], []⟩,
  ⟨some 49, .mov (.t 5), none, [], []⟩,
  ⟨some 50, .call true 54 [(.t 48), (.t 49)], none, [], []⟩,
  ⟨some 47, .mov (.t 50), none, [], []⟩,
  ⟨some 51, .ext (.t 47) 0, none, [], []⟩,
  ⟨some 52, .ext (.t 47) 1, none, [], []⟩,
  ⟨some 53, .ext (.t 47) 2, none, [], []⟩,
  ⟨some 13, .mov (.t 51), none, [], []⟩,
  ⟨some 5, .mov (.t 52), none, [], []⟩,
  ⟨some 12, .mov (.t 53), none, [], []⟩] false)
 (.seq (.seq (.region [⟨some 54, .mov (.t 12), none, [], []⟩,
  ⟨some 55, .bin .neq (.t 54) (.c (.int .i64 0)), none, [], []⟩,
  ⟨some 56, .mov (.t 55), none, [], []⟩,
  ⟨some 57, .mov (.t 5), some (56, false), [], []⟩,
  ⟨some 58, .mov (.t 0), some (56, false), [], []⟩,
  ⟨some 59, .len (.t 58), some (56, false), [], []⟩,
  ⟨some 60, .bin .neq (.t 57) (.t 59), some (56, false), [], []⟩,
  ⟨some 61, .pick (.t 56) (.c (.bool true)) (.t 60), none, [], []⟩] false)
 (.cond (.t 61) (.seq (.region [⟨some 62, .build [.int .i64 0, .int .i64 0, .int .i64 0, .int .i64 0, .int .i64 0, .int .i64 0, .int .i64 0, .int .i64 0, .int .i64 0, .int .i64 0, .int .i64 0, .int .i64 0, .int .i64 0, .int .i64 0, .row [], .row []] [], none, [], []⟩,
  ⟨none, .store none 16 (.t 2) (.t 62), none, [], []⟩,
  ⟨some 3, .mov (.c (.bool false)), none, [], []⟩] false)
 .ret) .skip))
 (.seq (.region [⟨some 63, .mov (.t 4), none, [], []⟩,
  ⟨some 64, .mov (.t 11), none, [], []⟩,
  ⟨some 65, .mov (.t 13), none, [], []⟩,
  ⟨some 66, .callo 55 [(.t 63), (.t 64), (.t 65)], none, [], []⟩,
  ⟨none, .store none 16 (.t 2) (.t 66), none, [], []⟩,
  ⟨some 3, .mov (.c (.bool true)), none, [], []⟩] false)
 .ret)))))))))
def i33 : F := ⟨1, 67, j33, [.c 2 16 true, .t 3]⟩
theorem b33 : i33.body = j33 := rfl
theorem q33 : i33.res = [.c 2 16 true, .t 3] := rfl
theorem c33 : chkF Try.prog Try.f33 i33 = true := by kernel_rfl
theorem s33 {m : Model} {E : Nat → Model} (hE : ∀ f, Sound Try.prog f (E f)) (hm : ∀ args r, m args = some r → ∃ N, i33.ev E N args = some r) : Sound Try.prog 33 m := sound_of i33 Try.func33 rfl c33 hE hm
/-- bellwether/bellwetherref01.Open -/
def j34 : C := (.seq (.region [⟨some 2, .mov (.c (.row [])), none, [], []⟩,
  ⟨some 3, .mov (.c (.int .i64 0)), none, [], []⟩] false)
 (.seq (.seq (.region [⟨some 5, .mov (.t 0), none, [], []⟩,
  ⟨some 6, .len (.t 5), none, [], []⟩,
  ⟨some 7, .bin .lss (.t 6) (.c (.int .i64 4)), none, [], []⟩] false)
 (.cond (.t 7) (.seq (.region [⟨some 2, .mov (.c (.row [])), none, [], []⟩,
  ⟨some 3, .mov (.c (.int .i64 2)), none, [], []⟩] false)
 .ret) .skip))
 (.seq (.region [⟨some 8, .mov (.t 0), none, [], []⟩,
  ⟨some 9, .len (.t 8), none, [], []⟩,
  ⟨some 10, .bin .sub (.t 9) (.c (.int .i64 4)), none, [], []⟩,
  ⟨some 4, .mov (.t 10), none, [], []⟩] false)
 (.seq (.seq (.region [⟨some 11, .mov (.t 0), none, [], []⟩,
  ⟨some 12, .mov (.t 4), none, [], []⟩,
  ⟨some 13, .cut 1 (.t 11) none (some (.t 12)), none, [], []⟩,
  ⟨some 14, .call false 47 [(.t 13)], none, [], []⟩,
  ⟨some 15, .mov (.t 0), none, [], []⟩,
  ⟨some 16, .call false 10 [(.t 14), (.t 15)], none, [], []⟩,
  ⟨some 17, .un .not (.t 16), none, [], []⟩] false)
 (.cond (.t 17) (.seq (.region [⟨some 2, .mov (.c (.row [])), none, [], []⟩,
  ⟨some 3, .mov (.c (.int .i64 4)), none, [], []⟩] false)
 .ret) .skip))
 (.seq (.region [⟨some 18, .mov (.t 0), none, [], []⟩,
  ⟨some 19, .mov (.t 4), none, [], []⟩,
  ⟨some 20, .cut 1 (.t 18) none (some (.t 19)), none, [], []⟩,
  ⟨some 21, .call false 14 [(.t 20)], none, [], []⟩,
  ⟨some 2, .mov (.t 21), none, [], []⟩,
  ⟨some 3, .mov (.c (.int .i64 0)), none, [], []⟩] false)
 .ret)))))
def i34 : F := ⟨1, 22, j34, [.t 2, .t 3]⟩
theorem b34 : i34.body = j34 := rfl
theorem q34 : i34.res = [.t 2, .t 3] := rfl
theorem c34 : chkF Try.prog Try.f34 i34 = true := by kernel_rfl
theorem s34 {m : Model} {E : Nat → Model} (hE : ∀ f, Sound Try.prog f (E f)) (hm : ∀ args r, m args = some r → ∃ N, i34.ev E N args = some r) : Sound Try.prog 34 m := sound_of i34 Try.func34 rfl c34 hE hm
/-- bellwether/bellwetherref01.Number -/
def j35 : C := (.seq (.region [⟨some 2, .mov (.c (.int .i64 0)), none, [], []⟩,
  ⟨some 3, .mov (.c (.bool false)), none, [], []⟩] false)
 (.seq (.region [⟨some 4, .mov (.c (.int .i64 0)), none, [], []⟩] false)
 (.seq (.seq (.region [⟨some 5, .mov (.c (.int .i64 0)), none, [], []⟩] false)
 (.block 0 (.loop (.keep [0, 4, 5] (.seq (.seq (.region [⟨some 6, .mov (.t 5), none, [], []⟩,
  ⟨some 7, .mov (.t 0), none, [], []⟩,
  ⟨some 8, .len (.t 7), none, [], []⟩,
  ⟨some 9, .bin .lss (.t 6) (.t 8), none, [], []⟩] false)
 (.cond (.t 9) .skip (.exit 0)))
 (.seq (.block 1 (.seq (.seq (.region [⟨some 12, .mov (.t 4), none, [], []⟩,
  ⟨some 13, .bin .geq (.t 12) (.c (.int .i64 18014398509481984)), none, [], []⟩] false)
 (.cond (.t 13) (.seq (.region [⟨some 2, .mov (.c (.int .i64 0)), none, [], []⟩,
  ⟨some 3, .mov (.c (.bool false)), none, [], []⟩] false)
 .ret) .skip))
 (.region [⟨some 14, .mov (.t 4), none, [], []⟩,
  ⟨some 15, .bin .mul (.c (.int .i64 256)) (.t 14), none, [], []⟩,
  ⟨some 16, .mov (.t 0), none, [], []⟩,
  ⟨some 17, .mov (.t 5), none, [], []⟩,
  ⟨some 18, .iad 1 (.t 16) (.t 17), none, [], []⟩,
  ⟨some 19, .load false 1 (.t 18), none, [], []⟩,
  ⟨some 20, .conv .i64 (.t 19), none, [], []⟩,
  ⟨some 21, .bin .add (.t 15) (.t 20), none, [], []⟩,
  ⟨some 4, .mov (.t 21), none, [], []⟩] false)))
 (.region [⟨some 10, .mov (.t 5), none, [], []⟩,
  ⟨some 11, .bin .add (.t 10) (.c (.int .i64 1)), none, [], []⟩,
  ⟨some 5, .mov (.t 11), none, [], []⟩] false)))))))
 (.seq (.region [⟨some 22, .mov (.t 4), none, [], []⟩,
  ⟨some 2, .mov (.t 22), none, [], []⟩,
  ⟨some 3, .mov (.c (.bool true)), none, [], []⟩] false)
 .ret))))
def i35 : F := ⟨1, 23, j35, [.t 2, .t 3]⟩
theorem b35 : i35.body = j35 := rfl
theorem q35 : i35.res = [.t 2, .t 3] := rfl
theorem c35 : chkF Try.prog Try.f35 i35 = true := by kernel_rfl
theorem s35 {m : Model} {E : Nat → Model} (hE : ∀ f, Sound Try.prog f (E f)) (hm : ∀ args r, m args = some r → ∃ N, i35.ev E N args = some r) : Sound Try.prog 35 m := sound_of i35 Try.func35 rfl c35 hE hm
/-- bellwether/bellwetherref01.ints -/
def j36 : C := (.seq (.region [⟨some 4, .nilsl 3 1 0, none, [], []⟩,
  ⟨some 5, .mov (.c (.int .i64 0)), none, [], []⟩] false)
 (.seq (.seq (.region [⟨some 8, .mov (.t 1), none, [], []⟩,
  ⟨some 9, .bin .lss (.t 8) (.c (.int .i64 0)), none, [], []⟩,
  ⟨some 10, .mov (.t 9), none, [], []⟩,
  ⟨some 11, .mov (.t 1), some (10, false), [], []⟩,
  ⟨some 12, .mov (.t 0), some (10, false), [], []⟩,
  ⟨some 13, .len (.t 12), some (10, false), [], []⟩,
  ⟨some 14, .bin .geq (.t 11) (.t 13), some (10, false), [], []⟩,
  ⟨some 15, .pick (.t 10) (.c (.bool true)) (.t 14), none, [], []⟩,
  ⟨some 16, .mov (.t 15), none, [], []⟩,
  ⟨some 17, .mov (.t 0), some (16, false), [], []⟩,
  ⟨some 18, .mov (.t 1), some (16, false), [], []⟩,
  ⟨some 19, .bin .add (.t 18) (.c (.int .i64 1)), some (16, false), [], []⟩,
  ⟨some 20, .mov (.t 0), some (16, false), [], []⟩,
  ⟨some 21, .mov (.t 1), some (16, false), [], []⟩,
  ⟨some 22, .iad 1 (.t 20) (.t 21), some (16, false), [], []⟩,
  ⟨some 23, .load false 1 (.t 22), some (16, false), [], []⟩,
  ⟨some 24, .conv .i64 (.t 23), some (16, false), [], []⟩,
  ⟨some 25, .call false 56 [(.t 17), (.t 19), (.t 24)], some (16, false), [], []⟩,
  ⟨some 26, .un .not (.t 25), some (16, false), [], []⟩,
  ⟨some 27, .pick (.t 16) (.c (.bool true)) (.t 26), none, [], []⟩] false)
 (.cond (.t 27) (.seq (.region [⟨some 4, .nilsl 3 1 1, none, [], []⟩,
  ⟨some 5, .mov (.c (.int .i64 (-1))), none, [], []⟩] false)
 .ret) .skip))
 (.seq (.region [⟨some 6, .nilsl 3 1 0, none, [], []⟩] false)
 (.seq (.seq (.region [⟨some 7, .mov (.c (.int .i64 0)), none, [], []⟩] false)
 (.block 0 (.loop (.keep [0, 1, 6, 7] (.seq (.seq (.region [⟨some 28, .mov (.t 7), none, [], []⟩,
  ⟨some 29, .mov (.t 0), none, [], []⟩,
  ⟨some 30, .mov (.t 1), none, [], []⟩,
  ⟨some 31, .iad 1 (.t 29) (.t 30), none, [], []⟩,
  ⟨some 32, .load false 1 (.t 31), none, [], []⟩,
  ⟨some 33, .conv .i64 (.t 32), none, [], []⟩,
  ⟨some 34, .bin .lss (.t 28) (.t 33), none, [], []⟩] false)
 (.cond (.t 34) .skip (.exit 0)))
 (.seq (.block 1 (.region [⟨some 37, .mov (.t 6), none, [], []⟩,
  ⟨some 38, .mov (.t 0), none, [], []⟩,
  ⟨some 39, .mov (.t 1), none, [], []⟩,
  ⟨some 40, .bin .add (.t 39) (.c (.int .i64 1)), none, [], []⟩,
  ⟨some 41, .mov (.t 7), none, [], []⟩,
  ⟨some 42, .bin .add (.t 40) (.t 41), none, [], []⟩,
  ⟨some 43, .iad 1 (.t 38) (.t 42), none, [], []⟩,
  ⟨some 44, .load false 1 (.t 43), none, [], []⟩,
  ⟨some 45, .conv .i64 (.t 44), none, [], []⟩,
  ⟨some 46, .bsl 3 1 1 [.int .i64 0] [(0, (.t 45))], none, [], []⟩,
  ⟨some 47, .app 3 1 8 (.t 37) (.t 46), none, [], []⟩,
  ⟨some 6, .mov (.t 47), none, [], []⟩] false))
 (.region [⟨some 35, .mov (.t 7), none, [], []⟩,
  ⟨some 36, .bin .add (.t 35) (.c (.int .i64 1)), none, [], []⟩,
  ⟨some 7, .mov (.t 36), none, [], []⟩] false)))))))
 (.seq (.region [⟨some 48, .mov (.t 6), none, [49, 50, 51, 52, 53, 54, 55, 56], []⟩,
  ⟨some 49, .mov (.t 1), none, [4, 48, 51, 52, 53, 54, 55], []⟩,
  ⟨some 50, .bin .add (.t 49) (.c (.int .i64 1)), none, [4, 48, 51, 52, 53, 54, 55], [1]⟩,
  ⟨some 51, .mov (.t 0), none, [4, 48, 49, 50, 52], []⟩,
  ⟨some 52, .mov (.t 1), none, [4, 48, 49, 50, 51], []⟩,
  ⟨some 53, .iad 1 (.t 51) (.t 52), none, [4, 48, 49, 50], [3, 4]⟩,
  ⟨some 54, .load false 1 (.t 53), none, [4, 48, 49, 50], [3, 4, 5]⟩,
  ⟨some 55, .conv .i64 (.t 54), none, [4, 48, 49, 50], [3, 4, 5, 6]⟩,
  ⟨some 56, .bin .add (.t 50) (.t 55), none, [4, 48], [1, 2, 3, 4, 5, 6, 7]⟩,
  ⟨some 4, .mov (.t 48), none, [49, 50, 51, 52, 53, 54, 55, 56], [0]⟩,
  ⟨some 5, .mov (.t 56), none, [], [0, 1, 2, 3, 4, 5, 6, 7, 8, 9]⟩] true)
 .ret)))))
def i36 : F := ⟨2, 57, j36, [.t 4, .t 5]⟩
theorem b36 : i36.body = j36 := rfl
theorem q36 : i36.res = [.t 4, .t 5] := rfl
theorem c36 : chkF Try.prog Try.f36 i36 = true := by kernel_rfl
theorem s36 {m : Model} {E : Nat → Model} (hE : ∀ f, Sound Try.prog f (E f)) (hm : ∀ args r, m args = some r → ∃ N, i36.ev E N args = some r) : Sound Try.prog 36 m := sound_of i36 Try.func36 rfl c36 hE hm
/-- bellwether/bellwetherkeep.Ints -/
def j37 : C := (.seq (.region [⟨some 4, .mov (.c (.bool false)), none, [], []⟩] false)
 (.seq (.seq (.region [⟨some 6, .mov (.t 0), none, [], []⟩,
  ⟨some 7, .len (.t 6), none, [], []⟩,
  ⟨some 8, .mov (.t 1), none, [], []⟩,
  ⟨some 9, .len (.t 8), none, [], []⟩,
  ⟨some 10, .bin .neq (.t 7) (.t 9), none, [], []⟩] false)
 (.cond (.t 10) (.seq (.region [⟨some 4, .mov (.c (.bool false)), none, [], []⟩] false)
 .ret) .skip))
 (.seq (.seq (.region [⟨some 5, .mov (.c (.int .i64 0)), none, [], []⟩] false)
 (.block 0 (.loop (.keep [0, 1, 5] (.seq (.seq (.region [⟨some 11, .mov (.t 5), none, [], []⟩,
  ⟨some 12, .mov (.t 0), none, [], []⟩,
  ⟨some 13, .len (.t 12), none, [], []⟩,
  ⟨some 14, .bin .lss (.t 11) (.t 13), none, [], []⟩] false)
 (.cond (.t 14) .skip (.exit 0)))
 (.seq (.block 1 (.seq (.region [⟨some 17, .mov (.t 0), none, [18, 21, 22, 23, 24], []⟩,
  ⟨some 18, .mov (.t 5), none, [17, 21, 22, 23, 24], []⟩,
  ⟨some 19, .iad 1 (.t 17) (.t 18), none, [21, 22, 23, 24], [0, 1]⟩,
  ⟨some 20, .load false 1 (.t 19), none, [21, 22, 23, 24], [0, 1, 2]⟩,
  ⟨some 21, .mov (.t 1), none, [17, 18, 19, 20, 22], []⟩,
  ⟨some 22, .mov (.t 5), none, [17, 18, 19, 20, 21], []⟩,
  ⟨some 23, .iad 1 (.t 21) (.t 22), none, [17, 18, 19, 20], [4, 5]⟩,
  ⟨some 24, .load false 1 (.t 23), none, [17, 18, 19, 20], [4, 5, 6]⟩,
  ⟨some 25, .bin .neq (.t 20) (.t 24), none, [], [0, 1, 2, 3, 4, 5, 6, 7]⟩] true)
 (.cond (.t 25) (.seq (.region [⟨some 4, .mov (.c (.bool false)), none, [], []⟩] false)
 .ret) .skip)))
 (.region [⟨some 15, .mov (.t 5), none, [], []⟩,
  ⟨some 16, .bin .add (.t 15) (.c (.int .i64 1)), none, [], []⟩,
  ⟨some 5, .mov (.t 16), none, [], []⟩] false)))))))
 (.seq (.region [⟨some 4, .mov (.c (.bool true)), none, [], []⟩] false)
 .ret))))
def i37 : F := ⟨2, 26, j37, [.t 4]⟩
theorem b37 : i37.body = j37 := rfl
theorem q37 : i37.res = [.t 4] := rfl
theorem c37 : chkF Try.prog Try.f37 i37 = true := by kernel_rfl
theorem s37 {m : Model} {E : Nat → Model} (hE : ∀ f, Sound Try.prog f (E f)) (hm : ∀ args r, m args = some r → ∃ N, i37.ev E N args = some r) : Sound Try.prog 37 m := sound_of i37 Try.func37 rfl c37 hE hm
/-- bellwether/bellwetherref01.In -/
def j38 : C := (.seq (.region [⟨some 6, .mov (.c (.bool false)), none, [], []⟩] false)
 (.seq (.region [⟨some 7, .mov (.t 0), none, [], []⟩,
  ⟨some 8, .mov (.t 1), none, [], []⟩,
  ⟨some 9, .bin .geq (.t 7) (.t 8), none, [], []⟩,
  ⟨some 10, .mov (.t 9), none, [], []⟩,
  ⟨some 11, .mov (.t 0), some (10, true), [], []⟩,
  ⟨some 12, .mov (.t 2), some (10, true), [], []⟩,
  ⟨some 13, .bin .leq (.t 11) (.t 12), some (10, true), [], []⟩,
  ⟨some 14, .pick (.t 10) (.t 13) (.c (.bool false)), none, [], []⟩,
  ⟨some 6, .mov (.t 14), none, [], []⟩] false)
 .ret))
def i38 : F := ⟨3, 15, j38, [.t 6]⟩
theorem b38 : i38.body = j38 := rfl
theorem q38 : i38.res = [.t 6] := rfl
theorem c38 : chkF Try.prog Try.f38 i38 = true := by kernel_rfl
theorem s38 {m : Model} {E : Nat → Model} (hE : ∀ f, Sound Try.prog f (E f)) (hm : ∀ args r, m args = some r → ∃ N, i38.ev E N args = some r) : Sound Try.prog 38 m := sound_of i38 Try.func38 rfl c38 hE hm
/-- bellwether/bellwetherref01.IsNode -/
def j39 : C := (.seq (.region [⟨some 2, .mov (.c (.bool false)), none, [], []⟩] false)
 (.seq (.region [⟨some 3, .mov (.t 0), none, [], []⟩,
  ⟨some 4, .call false 38 [(.t 3), (.c (.int .i64 0)), (.c (.int .i64 7))], none, [], []⟩,
  ⟨some 2, .mov (.t 4), none, [], []⟩] false)
 .ret))
def i39 : F := ⟨1, 5, j39, [.t 2]⟩
theorem b39 : i39.body = j39 := rfl
theorem q39 : i39.res = [.t 2] := rfl
theorem c39 : chkF Try.prog Try.f39 i39 = true := by kernel_rfl
theorem s39 {m : Model} {E : Nat → Model} (hE : ∀ f, Sound Try.prog f (E f)) (hm : ∀ args r, m args = some r → ∃ N, i39.ev E N args = some r) : Sound Try.prog 39 m := sound_of i39 Try.func39 rfl c39 hE hm
/-- bellwether/bellwetherref01.count -/
def j40 : C := (.seq (.region [⟨some 2, .mov (.c (.bool false)), none, [], []⟩] false)
 (.seq (.region [⟨some 3, .mov (.t 0), none, [], []⟩,
  ⟨some 4, .call false 38 [(.t 3), (.c (.int .i64 1)), (.c (.int .i64 1073741824))], none, [], []⟩,
  ⟨some 2, .mov (.t 4), none, [], []⟩] false)
 .ret))
def i40 : F := ⟨1, 5, j40, [.t 2]⟩
theorem b40 : i40.body = j40 := rfl
theorem q40 : i40.res = [.t 2] := rfl
theorem c40 : chkF Try.prog Try.f40 i40 = true := by kernel_rfl
theorem s40 {m : Model} {E : Nat → Model} (hE : ∀ f, Sound Try.prog f (E f)) (hm : ∀ args r, m args = some r → ∃ N, i40.ev E N args = some r) : Sound Try.prog 40 m := sound_of i40 Try.func40 rfl c40 hE hm
/-- bellwether/bellwetherref01.IsTopic -/
def j41 : C := (.seq (.region [⟨some 2, .mov (.c (.bool false)), none, [], []⟩] false)
 (.seq (.region [⟨some 3, .mov (.t 0), none, [], []⟩,
  ⟨some 4, .call false 38 [(.t 3), (.c (.int .i64 0)), (.c (.int .i64 3))], none, [], []⟩,
  ⟨some 2, .mov (.t 4), none, [], []⟩] false)
 .ret))
def i41 : F := ⟨1, 5, j41, [.t 2]⟩
theorem b41 : i41.body = j41 := rfl
theorem q41 : i41.res = [.t 2] := rfl
theorem c41 : chkF Try.prog Try.f41 i41 = true := by kernel_rfl
theorem s41 {m : Model} {E : Nat → Model} (hE : ∀ f, Sound Try.prog f (E f)) (hm : ∀ args r, m args = some r → ∃ N, i41.ev E N args = some r) : Sound Try.prog 41 m := sound_of i41 Try.func41 rfl c41 hE hm
/-- bellwether/bellwetherref01.nodes -/
def j42 : C := (.seq (.region [⟨some 2, .mov (.c (.bool false)), none, [], []⟩] false)
 (.seq (.seq (.region [⟨some 3, .mov (.c (.int .i64 0)), none, [], []⟩] false)
 (.block 0 (.loop (.keep [0, 3] (.seq (.seq (.region [⟨some 4, .mov (.t 3), none, [], []⟩,
  ⟨some 5, .mov (.t 0), none, [], []⟩,
  ⟨some 6, .len (.t 5), none, [], []⟩,
  ⟨some 7, .bin .lss (.t 4) (.t 6), none, [], []⟩] false)
 (.cond (.t 7) .skip (.exit 0)))
 (.seq (.block 1 (.seq (.region [⟨some 10, .mov (.t 0), none, [], []⟩,
  ⟨some 11, .mov (.t 3), none, [], []⟩,
  ⟨some 12, .iad 1 (.t 10) (.t 11), none, [], []⟩,
  ⟨some 13, .load false 1 (.t 12), none, [], []⟩,
  ⟨some 14, .call false 39 [(.t 13)], none, [], []⟩,
  ⟨some 15, .un .not (.t 14), none, [], []⟩] false)
 (.cond (.t 15) (.seq (.region [⟨some 2, .mov (.c (.bool false)), none, [], []⟩] false)
 .ret) .skip)))
 (.region [⟨some 8, .mov (.t 3), none, [], []⟩,
  ⟨some 9, .bin .add (.t 8) (.c (.int .i64 1)), none, [], []⟩,
  ⟨some 3, .mov (.t 9), none, [], []⟩] false)))))))
 (.seq (.region [⟨some 16, .mov (.t 0), none, [], []⟩,
  ⟨some 17, .len (.t 16), none, [], []⟩,
  ⟨some 18, .bin .leq (.t 17) (.c (.int .i64 8)), none, [], []⟩,
  ⟨some 2, .mov (.t 18), none, [], []⟩] false)
 .ret)))
def i42 : F := ⟨1, 19, j42, [.t 2]⟩
theorem b42 : i42.body = j42 := rfl
theorem q42 : i42.res = [.t 2] := rfl
theorem c42 : chkF Try.prog Try.f42 i42 = true := by kernel_rfl
theorem s42 {m : Model} {E : Nat → Model} (hE : ∀ f, Sound Try.prog f (E f)) (hm : ∀ args r, m args = some r → ∃ N, i42.ev E N args = some r) : Sound Try.prog 42 m := sound_of i42 Try.func42 rfl c42 hE hm
/-- bellwether/bellwetherref01.Unlike -/
def j43 : C := (.seq (.region [⟨some 2, .mov (.c (.bool false)), none, [], []⟩] false)
 (.seq (.seq (.region [⟨some 3, .mov (.c (.int .i64 0)), none, [], []⟩] false)
 (.block 0 (.loop (.keep [0, 3] (.seq (.seq (.region [⟨some 5, .mov (.t 3), none, [], []⟩,
  ⟨some 6, .mov (.t 0), none, [], []⟩,
  ⟨some 7, .len (.t 6), none, [], []⟩,
  ⟨some 8, .bin .lss (.t 5) (.t 7), none, [], []⟩] false)
 (.cond (.t 8) .skip (.exit 0)))
 (.seq (.block 1 (.seq (.region [⟨some 4, .mov (.c (.int .i64 0)), none, [], []⟩] false)
 (.block 2 (.loop (.keep [0, 3, 4] (.seq (.seq (.region [⟨some 11, .mov (.t 4), none, [], []⟩,
  ⟨some 12, .mov (.t 3), none, [], []⟩,
  ⟨some 13, .bin .lss (.t 11) (.t 12), none, [], []⟩] false)
 (.cond (.t 13) .skip (.exit 2)))
 (.seq (.block 3 (.seq (.region [⟨some 16, .mov (.t 0), none, [17, 20, 21, 22, 23], []⟩,
  ⟨some 17, .mov (.t 4), none, [16, 20, 21, 22, 23], []⟩,
  ⟨some 18, .iad 1 (.t 16) (.t 17), none, [20, 21, 22, 23], [0, 1]⟩,
  ⟨some 19, .load false 1 (.t 18), none, [20, 21, 22, 23], [0, 1, 2]⟩,
  ⟨some 20, .mov (.t 0), none, [16, 17, 18, 19, 21], []⟩,
  ⟨some 21, .mov (.t 3), none, [16, 17, 18, 19, 20], []⟩,
  ⟨some 22, .iad 1 (.t 20) (.t 21), none, [16, 17, 18, 19], [4, 5]⟩,
  ⟨some 23, .load false 1 (.t 22), none, [16, 17, 18, 19], [4, 5, 6]⟩,
  ⟨some 24, .bin .eql (.t 19) (.t 23), none, [], [0, 1, 2, 3, 4, 5, 6, 7]⟩] true)
 (.cond (.t 24) (.seq (.region [⟨some 2, .mov (.c (.bool false)), none, [], []⟩] false)
 .ret) .skip)))
 (.region [⟨some 14, .mov (.t 4), none, [], []⟩,
  ⟨some 15, .bin .add (.t 14) (.c (.int .i64 1)), none, [], []⟩,
  ⟨some 4, .mov (.t 15), none, [], []⟩] false))))))))
 (.region [⟨some 9, .mov (.t 3), none, [], []⟩,
  ⟨some 10, .bin .add (.t 9) (.c (.int .i64 1)), none, [], []⟩,
  ⟨some 3, .mov (.t 10), none, [], []⟩] false)))))))
 (.seq (.region [⟨some 2, .mov (.c (.bool true)), none, [], []⟩] false)
 .ret)))
def i43 : F := ⟨1, 25, j43, [.t 2]⟩
theorem b43 : i43.body = j43 := rfl
theorem q43 : i43.res = [.t 2] := rfl
theorem c43 : chkF Try.prog Try.f43 i43 = true := by kernel_rfl
theorem s43 {m : Model} {E : Nat → Model} (hE : ∀ f, Sound Try.prog f (E f)) (hm : ∀ args r, m args = some r → ∃ N, i43.ev E N args = some r) : Sound Try.prog 43 m := sound_of i43 Try.func43 rfl c43 hE hm
/-- bellwether/bellwetherref01.Value -/
def j44 : C := (.seq (.region [⟨some 2, .mov (.c (.bool false)), none, [], []⟩] false)
 (.seq (.region [⟨some 3, .mov (.t 0), none, [], []⟩,
  ⟨some 4, .call false 38 [(.t 3), (.c (.int .i64 0)), (.c (.int .i64 2147483647))], none, [], []⟩,
  ⟨some 2, .mov (.t 4), none, [], []⟩] false)
 .ret))
def i44 : F := ⟨1, 5, j44, [.t 2]⟩
theorem b44 : i44.body = j44 := rfl
theorem q44 : i44.res = [.t 2] := rfl
theorem c44 : chkF Try.prog Try.f44 i44 = true := by kernel_rfl
theorem s44 {m : Model} {E : Nat → Model} (hE : ∀ f, Sound Try.prog f (E f)) (hm : ∀ args r, m args = some r → ∃ N, i44.ev E N args = some r) : Sound Try.prog 44 m := sound_of i44 Try.func44 rfl c44 hE hm
/-- bellwether/bellwetherref01.Bytes -/
def j45 : C := (.seq (.region [⟨some 4, .nilsl 5 1 0, none, [], []⟩] false)
 (.seq (.region [⟨some 7, .mov (.t 0), none, [], []⟩,
  ⟨some 8, .mks 5 1 1 [.int .u8 0] (.t 7) (.t 7), none, [], []⟩,
  ⟨some 5, .mov (.t 8), none, [], []⟩] false)
 (.seq (.seq (.region [⟨some 9, .mov (.t 0), none, [], []⟩,
  ⟨some 10, .bin .sub (.t 9) (.c (.int .i64 1)), none, [], []⟩,
  ⟨some 6, .mov (.t 10), none, [], []⟩] false)
 (.block 0 (.loop (.keep [1, 5, 6] (.seq (.seq (.region [⟨some 11, .mov (.t 6), none, [], []⟩,
  ⟨some 12, .bin .geq (.t 11) (.c (.int .i64 0)), none, [], []⟩] false)
 (.cond (.t 12) .skip (.exit 0)))
 (.seq (.block 1 (.seq (.region [⟨some 15, .mov (.t 5), none, [], []⟩,
  ⟨some 16, .mov (.t 6), none, [], []⟩,
  ⟨some 17, .mov (.t 1), none, [], []⟩,
  ⟨some 18, .bin .rem (.t 17) (.c (.int .i64 256)), none, [], []⟩,
  ⟨some 19, .conv .u8 (.t 18), none, [], []⟩,
  ⟨some 20, .iad 1 (.t 15) (.t 16), none, [], []⟩,
  ⟨none, .store none 1 (.t 20) (.t 19), none, [], []⟩] false)
 (.region [⟨some 21, .mov (.t 1), none, [], []⟩,
  ⟨some 22, .bin .quo (.t 21) (.c (.int .i64 256)), none, [], []⟩,
  ⟨some 1, .mov (.t 22), none, [], []⟩] false)))
 (.region [⟨some 13, .mov (.t 6), none, [], []⟩,
  ⟨some 14, .bin .sub (.t 13) (.c (.int .i64 1)), none, [], []⟩,
  ⟨some 6, .mov (.t 14), none, [], []⟩] false)))))))
 (.seq (.region [⟨some 23, .mov (.t 5), none, [], []⟩,
  ⟨some 4, .mov (.t 23), none, [], []⟩] false)
 .ret))))
def i45 : F := ⟨2, 24, j45, [.t 4]⟩
theorem b45 : i45.body = j45 := rfl
theorem q45 : i45.res = [.t 4] := rfl
theorem c45 : chkF Try.prog Try.f45 i45 = true := by kernel_rfl
theorem s45 {m : Model} {E : Nat → Model} (hE : ∀ f, Sound Try.prog f (E f)) (hm : ∀ args r, m args = some r → ∃ N, i45.ev E N args = some r) : Sound Try.prog 45 m := sound_of i45 Try.func45 rfl c45 hE hm
/-- bellwether/bellwetherref01.list -/
def j46 : C := (.seq (.region [⟨some 2, .nilsl 5 1 0, none, [], []⟩] false)
 (.seq (.region [⟨some 5, .mov (.t 0), none, [], []⟩,
  ⟨some 6, .len (.t 5), none, [], []⟩,
  ⟨some 7, .conv .u8 (.t 6), none, [], []⟩,
  ⟨some 8, .bsl 5 1 1 [.int .u8 0] [(0, (.t 7))], none, [], []⟩,
  ⟨some 3, .mov (.t 8), none, [], []⟩] false)
 (.seq (.seq (.region [⟨some 4, .mov (.c (.int .i64 0)), none, [], []⟩] false)
 (.block 0 (.loop (.keep [0, 3, 4] (.seq (.seq (.region [⟨some 9, .mov (.t 4), none, [], []⟩,
  ⟨some 10, .mov (.t 0), none, [], []⟩,
  ⟨some 11, .len (.t 10), none, [], []⟩,
  ⟨some 12, .bin .lss (.t 9) (.t 11), none, [], []⟩] false)
 (.cond (.t 12) .skip (.exit 0)))
 (.seq (.block 1 (.region [⟨some 15, .mov (.t 3), none, [], []⟩,
  ⟨some 16, .mov (.t 0), none, [], []⟩,
  ⟨some 17, .mov (.t 4), none, [], []⟩,
  ⟨some 18, .iad 1 (.t 16) (.t 17), none, [], []⟩,
  ⟨some 19, .load false 1 (.t 18), none, [], []⟩,
  ⟨some 20, .conv .u8 (.t 19), none, [], []⟩,
  ⟨some 21, .bsl 5 1 1 [.int .u8 0] [(0, (.t 20))], none, [], []⟩,
  ⟨some 22, .app 5 1 1 (.t 15) (.t 21), none, [], []⟩,
  ⟨some 3, .mov (.t 22), none, [], []⟩] false))
 (.region [⟨some 13, .mov (.t 4), none, [], []⟩,
  ⟨some 14, .bin .add (.t 13) (.c (.int .i64 1)), none, [], []⟩,
  ⟨some 4, .mov (.t 14), none, [], []⟩] false)))))))
 (.seq (.region [⟨some 23, .mov (.t 3), none, [], []⟩,
  ⟨some 2, .mov (.t 23), none, [], []⟩] false)
 .ret))))
def i46 : F := ⟨1, 24, j46, [.t 2]⟩
theorem b46 : i46.body = j46 := rfl
theorem q46 : i46.res = [.t 2] := rfl
theorem c46 : chkF Try.prog Try.f46 i46 = true := by kernel_rfl
theorem s46 {m : Model} {E : Nat → Model} (hE : ∀ f, Sound Try.prog f (E f)) (hm : ∀ args r, m args = some r → ∃ N, i46.ev E N args = some r) : Sound Try.prog 46 m := sound_of i46 Try.func46 rfl c46 hE hm
/-- bellwether/bellwetherref01.Seal -/
def j47 : C := (.seq (.region [⟨some 2, .nilsl 5 1 0, none, [], []⟩] false)
 (.seq (.region [⟨some 6, .mov (.t 0), none, [], []⟩,
  ⟨some 7, .call false 57 [(.t 6)], none, [], []⟩,
  ⟨some 3, .mov (.t 7), none, [], []⟩] false)
 (.seq (.region [⟨some 8, .mov (.t 0), none, [], []⟩,
  ⟨some 9, .call true 14 [(.t 8)], none, [], []⟩,
  ⟨some 4, .mov (.t 9), none, [], []⟩] false)
 (.seq (.seq (.region [⟨some 5, .mov (.c (.int .i64 0)), none, [], []⟩] false)
 (.block 0 (.loop (.keep [3, 4, 5] (.seq (.seq (.region [⟨some 10, .mov (.t 5), none, [], []⟩,
  ⟨some 11, .bin .lss (.t 10) (.c (.int .i64 4)), none, [], []⟩] false)
 (.cond (.t 11) .skip (.exit 0)))
 (.seq (.block 1 (.seq (.region [⟨some 14, .mov (.t 4), none, [], []⟩,
  ⟨some 15, .mov (.t 3), none, [], []⟩,
  ⟨some 16, .bin .rem (.t 15) (.c (.int .i64 256)), none, [], []⟩,
  ⟨some 17, .conv .u8 (.t 16), none, [], []⟩,
  ⟨some 18, .bsl 5 1 1 [.int .u8 0] [(0, (.t 17))], none, [], []⟩,
  ⟨some 19, .app 5 1 1 (.t 14) (.t 18), none, [], []⟩,
  ⟨some 4, .mov (.t 19), none, [], []⟩] false)
 (.region [⟨some 20, .mov (.t 3), none, [], []⟩,
  ⟨some 21, .bin .quo (.t 20) (.c (.int .i64 256)), none, [], []⟩,
  ⟨some 3, .mov (.t 21), none, [], []⟩] false)))
 (.region [⟨some 12, .mov (.t 5), none, [], []⟩,
  ⟨some 13, .bin .add (.t 12) (.c (.int .i64 1)), none, [], []⟩,
  ⟨some 5, .mov (.t 13), none, [], []⟩] false)))))))
 (.seq (.region [⟨some 22, .mov (.t 4), none, [], []⟩,
  ⟨some 2, .mov (.t 22), none, [], []⟩] false)
 .ret)))))
def i47 : F := ⟨1, 23, j47, [.t 2]⟩
theorem b47 : i47.body = j47 := rfl
theorem q47 : i47.res = [.t 2] := rfl
theorem c47 : chkF Try.prog Try.f47 i47 = true := by kernel_rfl
theorem s47 {m : Model} {E : Nat → Model} (hE : ∀ f, Sound Try.prog f (E f)) (hm : ∀ args r, m args = some r → ∃ N, i47.ev E N args = some r) : Sound Try.prog 47 m := sound_of i47 Try.func47 rfl c47 hE hm
/-- bellwether/codec.right -/
def j48 : C := (.seq (.region [⟨some 2, .mov (.c (.bool false)), none, [], []⟩] false)
 (.seq (.region [⟨some 3, .mov (.t 0), none, [], []⟩,
  ⟨some 4, .bin .eql (.t 3) (.c (.int .i64 1)), none, [], []⟩,
  ⟨some 5, .mov (.t 4), none, [], []⟩,
  ⟨some 6, .mov (.t 0), some (5, false), [], []⟩,
  ⟨some 7, .bin .eql (.t 6) (.c (.int .i64 2)), some (5, false), [], []⟩,
  ⟨some 8, .pick (.t 5) (.c (.bool true)) (.t 7), none, [], []⟩,
  ⟨some 9, .mov (.t 8), none, [], []⟩,
  ⟨some 10, .mov (.t 0), some (9, false), [], []⟩,
  ⟨some 11, .bin .eql (.t 10) (.c (.int .i64 4)), some (9, false), [], []⟩,
  ⟨some 12, .pick (.t 9) (.c (.bool true)) (.t 11), none, [], []⟩,
  ⟨some 13, .mov (.t 12), none, [], []⟩,
  ⟨some 14, .mov (.t 0), some (13, false), [], []⟩,
  ⟨some 15, .bin .eql (.t 14) (.c (.int .i64 8)), some (13, false), [], []⟩,
  ⟨some 16, .pick (.t 13) (.c (.bool true)) (.t 15), none, [], []⟩,
  ⟨some 2, .mov (.t 16), none, [], []⟩] false)
 .ret))
def i48 : F := ⟨1, 17, j48, [.t 2]⟩
theorem b48 : i48.body = j48 := rfl
theorem q48 : i48.res = [.t 2] := rfl
theorem c48 : chkF Try.prog Try.f48 i48 = true := by kernel_rfl
theorem s48 {m : Model} {E : Nat → Model} (hE : ∀ f, Sound Try.prog f (E f)) (hm : ∀ args r, m args = some r → ∃ N, i48.ev E N args = some r) : Sound Try.prog 48 m := sound_of i48 Try.func48 rfl c48 hE hm
/-- bellwether/codec.within -/
def j49 : C := (.seq (.region [⟨some 6, .mov (.c (.bool false)), none, [], []⟩] false)
 (.seq (.region [⟨some 7, .mov (.t 1), none, [], []⟩,
  ⟨some 8, .bin .geq (.t 7) (.c (.int .i64 0)), none, [], []⟩,
  ⟨some 9, .mov (.t 8), none, [], []⟩,
  ⟨some 10, .mov (.t 1), some (9, true), [], []⟩,
  ⟨some 11, .mov (.t 0), some (9, true), [], []⟩,
  ⟨some 12, .len (.t 11), some (9, true), [], []⟩,
  ⟨some 13, .mov (.t 2), some (9, true), [], []⟩,
  ⟨some 14, .bin .sub (.t 12) (.t 13), some (9, true), [], []⟩,
  ⟨some 15, .bin .leq (.t 10) (.t 14), some (9, true), [], []⟩,
  ⟨some 16, .pick (.t 9) (.t 15) (.c (.bool false)), none, [], []⟩,
  ⟨some 6, .mov (.t 16), none, [], []⟩] false)
 .ret))
def i49 : F := ⟨3, 17, j49, [.t 6]⟩
theorem b49 : i49.body = j49 := rfl
theorem q49 : i49.res = [.t 6] := rfl
theorem c49 : chkF Try.prog Try.f49 i49 = true := by kernel_rfl
theorem s49 {m : Model} {E : Nat → Model} (hE : ∀ f, Sound Try.prog f (E f)) (hm : ∀ args r, m args = some r → ∃ N, i49.ev E N args = some r) : Sound Try.prog 49 m := sound_of i49 Try.func49 rfl c49 hE hm
/-- bellwether/msg.bare -/
def j50 : C := (.seq (.region [⟨some 1, .box (.t 0), none, [], []⟩,
  ⟨some 2, .alloc [.int .i64 0, .int .i64 0, .int .i64 0, .int .i64 0, .int .i64 0, .int .i64 0, .int .i64 0, .int .i64 0, .int .i64 0, .int .i64 0, .int .i64 0, .int .i64 0, .int .i64 0, .int .i64 0, .row [], .row []], none, [], []⟩,
  ⟨some 3, .mov (.c (.bool false)), none, [], []⟩] false)
 (.seq (.seq (.region [⟨some 4, .fad 0 (.t 1), none, [], []⟩,
  ⟨some 5, .load false 1 (.t 4), none, [], []⟩] false)
 (.block 0 (.seq (.seq (.region [⟨some 7, .bin .eql (.t 5) (.c (.int .i64 1)), none, [], []⟩,
  ⟨some 6, .mov (.t 7), none, [], []⟩] false)
 (.cond (.t 6) .skip (.seq (.region [⟨some 8, .bin .eql (.t 5) (.c (.int .i64 5)), none, [], []⟩,
  ⟨some 6, .mov (.t 8), none, [], []⟩] false)
 (.cond (.t 6) .skip (.region [⟨some 9, .bin .eql (.t 5) (.c (.int .i64 6)), none, [], []⟩,
  ⟨some 6, .mov (.t 9), none, [], []⟩] false)))))
 (.cond (.t 6) (.region [⟨some 3, .mov (.c (.bool true)), none, [], []⟩] false) (.seq (.region [⟨some 11, .bin .eql (.t 5) (.c (.int .i64 2)), none, [], []⟩,
  ⟨some 10, .mov (.t 11), none, [], []⟩] false)
 (.cond (.t 10) (.seq (.region [⟨some 12, .fad 6 (.t 1), none, [], []⟩,
  ⟨some 13, .load false 1 (.t 12), none, [], []⟩,
  ⟨some 14, .call false 53 [(.t 13), (.c (.int .i64 0)), (.c (.int .i64 1073741824))], none, [], []⟩,
  ⟨some 3, .mov (.t 14), none, [], []⟩] false)
 (.region [⟨some 15, .fad 6 (.t 1), none, [], []⟩,
  ⟨none, .store none 1 (.t 15) (.c (.int .i64 0)), none, [], []⟩] false)) (.seq (.region [⟨some 17, .bin .eql (.t 5) (.c (.int .i64 3)), none, [], []⟩,
  ⟨some 16, .mov (.t 17), none, [], []⟩] false)
 (.cond (.t 16) (.seq (.region [⟨some 18, .fad 6 (.t 1), none, [], []⟩,
  ⟨some 19, .load false 1 (.t 18), none, [], [0]⟩,
  ⟨some 20, .call false 53 [(.t 19), (.c (.int .i64 0)), (.c (.int .i64 1073741824))], none, [], [0, 1]⟩,
  ⟨some 21, .mov (.t 20), none, [], [0, 1, 2]⟩,
  ⟨some 22, .fad 7 (.t 1), some (21, true), [], [0, 1, 2, 3]⟩,
  ⟨some 23, .load false 1 (.t 22), some (21, true), [], [0, 1, 2, 3, 4]⟩,
  ⟨some 24, .call false 52 [(.t 23)], some (21, true), [], [0, 1, 2, 3, 4, 5]⟩,
  ⟨some 25, .pick (.t 21) (.t 24) (.c (.bool false)), none, [], [0, 1, 2, 3, 4, 5, 6]⟩,
  ⟨some 26, .mov (.t 25), none, [], [0, 1, 2, 3, 4, 5, 6, 7]⟩,
  ⟨some 27, .fad 8 (.t 1), some (26, true), [], [0, 1, 2, 3, 4, 5, 6, 7, 8]⟩,
  ⟨some 28, .load false 1 (.t 27), some (26, true), [], [0, 1, 2, 3, 4, 5, 6, 7, 8, 9]⟩,
  ⟨some 29, .call false 53 [(.t 28), (.c (.int .i64 0)), (.c (.int .i64 1073741824))], some (26, true), [], [0, 1, 2, 3, 4, 5, 6, 7, 8, 9, 10]⟩,
  ⟨some 30, .pick (.t 26) (.t 29) (.c (.bool false)), none, [], [0, 1, 2, 3, 4, 5, 6, 7, 8, 9, 10, 11]⟩,
  ⟨some 31, .mov (.t 30), none, [], [0, 1, 2, 3, 4, 5, 6, 7, 8, 9, 10, 11, 12]⟩,
  ⟨some 32, .fad 14 (.t 1), some (31, true), [], [0, 1, 2, 3, 4, 5, 6, 7, 8, 9, 10, 11, 12, 13]⟩,
  ⟨some 33, .load false 1 (.t 32), some (31, true), [], [0, 1, 2, 3, 4, 5, 6, 7, 8, 9, 10, 11, 12, 13, 14]⟩,
  ⟨some 34, .len (.t 33), some (31, true), [], [0, 1, 2, 3, 4, 5, 6, 7, 8, 9, 10, 11, 12, 13, 14, 15]⟩,
  ⟨some 35, .bin .gtr (.t 34) (.c (.int .i64 0)), some (31, true), [], [0, 1, 2, 3, 4, 5, 6, 7, 8, 9, 10, 11, 12, 13, 14, 15, 16]⟩,
  ⟨some 36, .pick (.t 31) (.t 35) (.c (.bool false)), none, [], [0, 1, 2, 3, 4, 5, 6, 7, 8, 9, 10, 11, 12, 13, 14, 15, 16, 17]⟩,
  ⟨some 37, .mov (.t 36), none, [], [0, 1, 2, 3, 4, 5, 6, 7, 8, 9, 10, 11, 12, 13, 14, 15, 16, 17, 18]⟩,
  ⟨some 38, .fad 14 (.t 1), some (37, true), [], [0, 1, 2, 3, 4, 5, 6, 7, 8, 9, 10, 11, 12, 13, 14, 15, 16, 17, 18, 19]⟩,
  ⟨some 39, .load false 1 (.t 38), some (37, true), [], [0, 1, 2, 3, 4, 5, 6, 7, 8, 9, 10, 11, 12, 13, 14, 15, 16, 17, 18, 19, 20]⟩,
  ⟨some 40, .call false 58 [(.t 39)], some (37, true), [], [0, 1, 2, 3, 4, 5, 6, 7, 8, 9, 10, 11, 12, 13, 14, 15, 16, 17, 18, 19, 20, 21]⟩,
  ⟨some 41, .pick (.t 37) (.t 40) (.c (.bool false)), none, [], [0, 1, 2, 3, 4, 5, 6, 7, 8, 9, 10, 11, 12, 13, 14, 15, 16, 17, 18, 19, 20, 21, 22]⟩,
  ⟨some 42, .mov (.t 41), none, [], [0, 1, 2, 3, 4, 5, 6, 7, 8, 9, 10, 11, 12, 13, 14, 15, 16, 17, 18, 19, 20, 21, 22, 23]⟩,
  ⟨some 43, .fad 14 (.t 1), some (42, true), [47, 48], [0, 1, 2, 3, 4, 5, 6, 7, 8, 9, 10, 11, 12, 13, 14, 15, 16, 17, 18, 19, 20, 21, 22, 23, 24]⟩,
  ⟨some 44, .load false 1 (.t 43), some (42, true), [47, 48], [0, 1, 2, 3, 4, 5, 6, 7, 8, 9, 10, 11, 12, 13, 14, 15, 16, 17, 18, 19, 20, 21, 22, 23, 24, 25]⟩,
  ⟨some 45, .iad 1 (.t 44) (.c (.int .i64 0)), some (42, true), [47, 48], [0, 1, 2, 3, 4, 5, 6, 7, 8, 9, 10, 11, 12, 13, 14, 15, 16, 17, 18, 19, 20, 21, 22, 23, 24, 25, 26]⟩,
  ⟨some 46, .load false 1 (.t 45), some (42, true), [47, 48], [0, 1, 2, 3, 4, 5, 6, 7, 8, 9, 10, 11, 12, 13, 14, 15, 16, 17, 18, 19, 20, 21, 22, 23, 24, 25, 26, 27]⟩,
  ⟨some 47, .fad 1 (.t 1), some (42, true), [43, 44, 45, 46], [0, 1, 2, 3, 4, 5, 6, 7, 8, 9, 10, 11, 12, 13, 14, 15, 16, 17, 18, 19, 20, 21, 22, 23, 24]⟩,
  ⟨some 48, .load false 1 (.t 47), some (42, true), [43, 44, 45, 46], [0, 1, 2, 3, 4, 5, 6, 7, 8, 9, 10, 11, 12, 13, 14, 15, 16, 17, 18, 19, 20, 21, 22, 23, 24, 29]⟩,
  ⟨some 49, .bin .eql (.t 46) (.t 48), some (42, true), [], [0, 1, 2, 3, 4, 5, 6, 7, 8, 9, 10, 11, 12, 13, 14, 15, 16, 17, 18, 19, 20, 21, 22, 23, 24, 25, 26, 27, 28, 29, 30]⟩,
  ⟨some 50, .pick (.t 42) (.t 49) (.c (.bool false)), none, [], [0, 1, 2, 3, 4, 5, 6, 7, 8, 9, 10, 11, 12, 13, 14, 15, 16, 17, 18, 19, 20, 21, 22, 23, 24, 25, 26, 27, 28, 29, 30, 31]⟩,
  ⟨some 3, .mov (.t 50), none, [], [0, 1, 2, 3, 4, 5, 6, 7, 8, 9, 10, 11, 12, 13, 14, 15, 16, 17, 18, 19, 20, 21, 22, 23, 24, 25, 26, 27, 28, 29, 30, 31, 32]⟩] true)
 (.region [⟨some 51, .fad 6 (.t 1), none, [], []⟩,
  ⟨none, .store none 1 (.t 51) (.c (.int .i64 0)), none, [], []⟩,
  ⟨some 52, .fad 7 (.t 1), none, [], []⟩,
  ⟨none, .store none 1 (.t 52) (.c (.int .i64 0)), none, [], []⟩,
  ⟨some 53, .fad 8 (.t 1), none, [], []⟩,
  ⟨none, .store none 1 (.t 53) (.c (.int .i64 0)), none, [], []⟩,
  ⟨some 54, .fad 14 (.t 1), none, [], []⟩,
  ⟨none, .store none 1 (.t 54) (.c (.row [])), none, [], []⟩] false)) (.seq (.region [⟨some 56, .bin .eql (.t 5) (.c (.int .i64 4)), none, [], []⟩,
  ⟨some 55, .mov (.t 56), none, [], []⟩] false)
 (.cond (.t 55) (.seq (.region [⟨some 57, .fad 10 (.t 1), none, [], []⟩,
  ⟨some 58, .load false 1 (.t 57), none, [], []⟩,
  ⟨some 59, .call false 59 [(.t 58)], none, [], []⟩,
  ⟨some 60, .mov (.t 59), none, [], []⟩,
  ⟨some 61, .fad 10 (.t 1), some (60, true), [], []⟩,
  ⟨some 62, .load false 1 (.t 61), some (60, true), [], []⟩,
  ⟨some 63, .fad 1 (.t 1), some (60, true), [], []⟩,
  ⟨some 64, .load false 1 (.t 63), some (60, true), [], []⟩,
  ⟨some 65, .bin .neq (.t 62) (.t 64), some (60, true), [], []⟩,
  ⟨some 66, .pick (.t 60) (.t 65) (.c (.bool false)), none, [], []⟩,
  ⟨some 67, .mov (.t 66), none, [], []⟩,
  ⟨some 68, .fad 10 (.t 1), some (67, true), [], []⟩,
  ⟨some 69, .load false 1 (.t 68), some (67, true), [], []⟩,
  ⟨some 70, .fad 3 (.t 1), some (67, true), [], []⟩,
  ⟨some 71, .load false 1 (.t 70), some (67, true), [], []⟩,
  ⟨some 72, .bin .neq (.t 69) (.t 71), some (67, true), [], []⟩,
  ⟨some 73, .pick (.t 67) (.t 72) (.c (.bool false)), none, [], []⟩,
  ⟨some 3, .mov (.t 73), none, [], []⟩] false)
 (.region [⟨some 74, .fad 10 (.t 1), none, [], []⟩,
  ⟨none, .store none 1 (.t 74) (.c (.int .i64 0)), none, [], []⟩] false)) (.seq (.region [⟨some 76, .bin .eql (.t 5) (.c (.int .i64 7)), none, [], []⟩,
  ⟨some 75, .mov (.t 76), none, [], []⟩] false)
 (.cond (.t 75) (.seq (.region [⟨some 77, .load true 16 (.t 1), none, [], []⟩,
  ⟨some 78, .call false 60 [(.t 77)], none, [], []⟩,
  ⟨some 79, .mov (.t 78), none, [], []⟩,
  ⟨some 80, .fad 9 (.t 1), some (79, true), [], []⟩,
  ⟨some 81, .load false 1 (.t 80), some (79, true), [], []⟩,
  ⟨some 82, .call false 61 [(.t 81)], some (79, true), [], []⟩,
  ⟨some 83, .pick (.t 79) (.t 82) (.c (.bool false)), none, [], []⟩,
  ⟨some 3, .mov (.t 83), none, [], []⟩] false)
 (.region [⟨some 84, .fad 6 (.t 1), none, [], []⟩,
  ⟨none, .store none 1 (.t 84) (.c (.int .i64 0)), none, [], []⟩,
  ⟨some 85, .fad 7 (.t 1), none, [], []⟩,
  ⟨none, .store none 1 (.t 85) (.c (.int .i64 0)), none, [], []⟩,
  ⟨some 86, .fad 9 (.t 1), none, [], []⟩,
  ⟨none, .store none 1 (.t 86) (.c (.int .i64 0)), none, [], []⟩] false)) (.seq (.region [⟨some 88, .bin .eql (.t 5) (.c (.int .i64 8)), none, [], []⟩,
  ⟨some 87, .mov (.t 88), none, [], []⟩] false)
 (.cond (.t 87) (.seq (.region [⟨some 89, .load true 16 (.t 1), none, [], []⟩,
  ⟨some 90, .call false 60 [(.t 89)], none, [], []⟩,
  ⟨some 3, .mov (.t 90), none, [], []⟩] false)
 (.region [⟨some 91, .fad 6 (.t 1), none, [], []⟩,
  ⟨none, .store none 1 (.t 91) (.c (.int .i64 0)), none, [], []⟩,
  ⟨some 92, .fad 7 (.t 1), none, [], []⟩,
  ⟨none, .store none 1 (.t 92) (.c (.int .i64 0)), none, [], []⟩] false)) (.seq (.region [⟨some 94, .bin .eql (.t 5) (.c (.int .i64 9)), none, [], []⟩,
  ⟨some 93, .mov (.t 94), none, [], []⟩] false)
 (.cond (.t 93) (.seq (.region [⟨some 95, .load true 16 (.t 1), none, [], []⟩,
  ⟨some 96, .call false 60 [(.t 95)], none, [], []⟩,
  ⟨some 97, .mov (.t 96), none, [], []⟩,
  ⟨some 98, .fad 8 (.t 1), some (97, true), [], []⟩,
  ⟨some 99, .load false 1 (.t 98), some (97, true), [], []⟩,
  ⟨some 100, .fad 7 (.t 1), some (97, true), [], []⟩,
  ⟨some 101, .load false 1 (.t 100), some (97, true), [], []⟩,
  ⟨some 102, .call false 53 [(.t 99), (.t 101), (.c (.int .i64 1073741824))], some (97, true), [], []⟩,
  ⟨some 103, .pick (.t 97) (.t 102) (.c (.bool false)), none, [], []⟩,
  ⟨some 3, .mov (.t 103), none, [], []⟩] false)
 (.region [⟨some 104, .fad 6 (.t 1), none, [], []⟩,
  ⟨none, .store none 1 (.t 104) (.c (.int .i64 0)), none, [], []⟩,
  ⟨some 105, .fad 7 (.t 1), none, [], []⟩,
  ⟨none, .store none 1 (.t 105) (.c (.int .i64 0)), none, [], []⟩,
  ⟨some 106, .fad 8 (.t 1), none, [], []⟩,
  ⟨none, .store none 1 (.t 106) (.c (.int .i64 0)), none, [], []⟩] false)) (.seq (.region [⟨some 108, .bin .eql (.t 5) (.c (.int .i64 10)), none, [], []⟩,
  ⟨some 107, .mov (.t 108), none, [], []⟩] false)
 (.cond (.t 107) (.seq (.region [⟨some 109, .load true 16 (.t 1), none, [], []⟩,
  ⟨some 110, .call false 62 [(.t 109)], none, [], []⟩,
  ⟨some 111, .mov (.t 110), none, [], []⟩,
  ⟨some 112, .fad 12 (.t 1), some (111, true), [], []⟩,
  ⟨some 113, .load false 1 (.t 112), some (111, true), [], []⟩,
  ⟨some 114, .call false 52 [(.t 113)], some (111, true), [], []⟩,
  ⟨some 115, .pick (.t 111) (.t 114) (.c (.bool false)), none, [], []⟩,
  ⟨some 3, .mov (.t 115), none, [], []⟩] false)
 (.region [⟨some 116, .fad 10 (.t 1), none, [], []⟩,
  ⟨none, .store none 1 (.t 116) (.c (.int .i64 0)), none, [], []⟩,
  ⟨some 117, .fad 11 (.t 1), none, [], []⟩,
  ⟨none, .store none 1 (.t 117) (.c (.int .i64 0)), none, [], []⟩,
  ⟨some 118, .fad 12 (.t 1), none, [], []⟩,
  ⟨none, .store none 1 (.t 118) (.c (.int .i64 0)), none, [], []⟩,
  ⟨some 119, .fad 9 (.t 1), none, [], []⟩,
  ⟨none, .store none 1 (.t 119) (.c (.int .i64 0)), none, [], []⟩,
  ⟨some 120, .fad 13 (.t 1), none, [], []⟩,
  ⟨none, .store none 1 (.t 120) (.c (.int .i64 0)), none, [], []⟩] false)) (.seq (.region [⟨some 122, .bin .eql (.t 5) (.c (.int .i64 11)), none, [], []⟩,
  ⟨some 121, .mov (.t 122), none, [], []⟩] false)
 (.cond (.t 121) (.seq (.region [⟨some 123, .load true 16 (.t 1), none, [], []⟩,
  ⟨some 124, .call false 62 [(.t 123)], none, [], []⟩,
  ⟨some 125, .mov (.t 124), none, [], []⟩,
  ⟨some 126, .fad 12 (.t 1), some (125, true), [], []⟩,
  ⟨some 127, .load false 1 (.t 126), some (125, true), [], []⟩,
  ⟨some 128, .call false 53 [(.t 127), (.c (.int .i64 1)), (.c (.int .i64 40))], some (125, true), [], []⟩,
  ⟨some 129, .pick (.t 125) (.t 128) (.c (.bool false)), none, [], []⟩,
  ⟨some 130, .mov (.t 129), none, [], []⟩,
  ⟨some 131, .fad 14 (.t 1), some (130, true), [], []⟩,
  ⟨some 132, .load false 1 (.t 131), some (130, true), [], []⟩,
  ⟨some 133, .call false 58 [(.t 132)], some (130, true), [], []⟩,
  ⟨some 134, .pick (.t 130) (.t 133) (.c (.bool false)), none, [], []⟩,
  ⟨some 135, .mov (.t 134), none, [], []⟩,
  ⟨some 136, .fad 15 (.t 1), some (135, true), [], []⟩,
  ⟨some 137, .load false 1 (.t 136), some (135, true), [], []⟩,
  ⟨some 138, .call false 58 [(.t 137)], some (135, true), [], []⟩,
  ⟨some 139, .pick (.t 135) (.t 138) (.c (.bool false)), none, [], []⟩,
  ⟨some 140, .mov (.t 139), none, [], []⟩,
  ⟨some 141, .fad 14 (.t 1), some (140, true), [], []⟩,
  ⟨some 142, .load false 1 (.t 141), some (140, true), [], []⟩,
  ⟨some 143, .fad 15 (.t 1), some (140, true), [], []⟩,
  ⟨some 144, .load false 1 (.t 143), some (140, true), [], []⟩,
  ⟨some 145, .bsl 32 1 2 [.row []] [(0, (.t 142)), (1, (.t 144))], some (140, true), [], []⟩,
  ⟨some 146, .call false 64 [(.t 145)], some (140, true), [], []⟩,
  ⟨some 147, .call false 63 [(.t 146)], some (140, true), [], []⟩,
  ⟨some 148, .pick (.t 140) (.t 147) (.c (.bool false)), none, [], []⟩,
  ⟨some 3, .mov (.t 148), none, [], []⟩] false)
 (.region [⟨some 149, .fad 10 (.t 1), none, [], []⟩,
  ⟨none, .store none 1 (.t 149) (.c (.int .i64 0)), none, [], []⟩,
  ⟨some 150, .fad 11 (.t 1), none, [], []⟩,
  ⟨none, .store none 1 (.t 150) (.c (.int .i64 0)), none, [], []⟩,
  ⟨some 151, .fad 12 (.t 1), none, [], []⟩,
  ⟨none, .store none 1 (.t 151) (.c (.int .i64 0)), none, [], []⟩,
  ⟨some 152, .fad 9 (.t 1), none, [], []⟩,
  ⟨none, .store none 1 (.t 152) (.c (.int .i64 0)), none, [], []⟩,
  ⟨some 153, .fad 13 (.t 1), none, [], []⟩,
  ⟨none, .store none 1 (.t 153) (.c (.int .i64 0)), none, [], []⟩,
  ⟨some 154, .fad 14 (.t 1), none, [], []⟩,
  ⟨none, .store none 1 (.t 154) (.c (.row [])), none, [], []⟩,
  ⟨some 155, .fad 15 (.t 1), none, [], []⟩,
  ⟨none, .store none 1 (.t 155) (.c (.row [])), none, [], []⟩] false)) (.seq (.region [⟨some 157, .bin .eql (.t 5) (.c (.int .i64 12)), none, [], []⟩,
  ⟨some 156, .mov (.t 157), none, [], []⟩] false)
 (.cond (.t 156) (.seq (.region [⟨some 158, .fad 12 (.t 1), none, [], []⟩,
  ⟨some 159, .load false 1 (.t 158), none, [], []⟩,
  ⟨some 160, .call false 53 [(.t 159), (.c (.int .i64 1)), (.c (.int .i64 40))], none, [], []⟩,
  ⟨some 161, .mov (.t 160), none, [], []⟩,
  ⟨some 162, .fad 9 (.t 1), some (161, true), [], []⟩,
  ⟨some 163, .load false 1 (.t 162), some (161, true), [], []⟩,
  ⟨some 164, .call false 59 [(.t 163)], some (161, true), [], []⟩,
  ⟨some 165, .pick (.t 161) (.t 164) (.c (.bool false)), none, [], []⟩,
  ⟨some 3, .mov (.t 165), none, [], []⟩] false)
 (.region [⟨some 166, .fad 12 (.t 1), none, [], []⟩,
  ⟨none, .store none 1 (.t 166) (.c (.int .i64 0)), none, [], []⟩,
  ⟨some 167, .fad 9 (.t 1), none, [], []⟩,
  ⟨none, .store none 1 (.t 167) (.c (.int .i64 0)), none, [], []⟩] false)) (.seq (.region [⟨some 169, .bin .eql (.t 5) (.c (.int .i64 13)), none, [], []⟩,
  ⟨some 168, .mov (.t 169), none, [], []⟩] false)
 (.cond (.t 168) (.seq (.region [⟨some 170, .fad 12 (.t 1), none, [], []⟩,
  ⟨some 171, .load false 1 (.t 170), none, [], []⟩,
  ⟨some 172, .call false 53 [(.t 171), (.c (.int .i64 1)), (.c (.int .i64 40))], none, [], []⟩,
  ⟨some 3, .mov (.t 172), none, [], []⟩] false)
 (.region [⟨some 173, .fad 12 (.t 1), none, [], []⟩,
  ⟨none, .store none 1 (.t 173) (.c (.int .i64 0)), none, [], []⟩] false)) .skip))))))))))))))))))))))))
 (.seq (.region [⟨some 174, .load true 16 (.t 1), none, [], []⟩,
  ⟨some 175, .mov (.t 3), none, [], []⟩,
  ⟨none, .store none 16 (.t 2) (.t 174), none, [], []⟩,
  ⟨some 3, .mov (.t 175), none, [], []⟩] false)
 .ret)))
def i50 : F := ⟨1, 176, j50, [.c 2 16 true, .t 3]⟩
theorem b50 : i50.body = j50 := rfl
theorem q50 : i50.res = [.c 2 16 true, .t 3] := rfl
theorem c50 : chkF Try.prog Try.f50 i50 = true := by kernel_rfl
theorem s50 {m : Model} {E : Nat → Model} (hE : ∀ f, Sound Try.prog f (E f)) (hm : ∀ args r, m args = some r → ∃ N, i50.ev E N args = some r) : Sound Try.prog 50 m := sound_of i50 Try.func50 rfl c50 hE hm
/-- bellwether/msg.ends -/
def j51 : C := (.seq (.region [⟨some 1, .box (.t 0), none, [], []⟩,
  ⟨some 2, .mov (.c (.bool false)), none, [], []⟩] false)
 (.seq (.region [⟨some 3, .fad 1 (.t 1), none, [], []⟩,
  ⟨some 4, .load false 1 (.t 3), none, [], []⟩,
  ⟨some 5, .call false 59 [(.t 4)], none, [], []⟩,
  ⟨some 6, .mov (.t 5), none, [], []⟩,
  ⟨some 7, .fad 3 (.t 1), some (6, true), [], []⟩,
  ⟨some 8, .load false 1 (.t 7), some (6, true), [], []⟩,
  ⟨some 9, .call false 59 [(.t 8)], some (6, true), [], []⟩,
  ⟨some 10, .pick (.t 6) (.t 9) (.c (.bool false)), none, [], []⟩,
  ⟨some 11, .mov (.t 10), none, [], []⟩,
  ⟨some 12, .fad 1 (.t 1), some (11, true), [], []⟩,
  ⟨some 13, .load false 1 (.t 12), some (11, true), [], []⟩,
  ⟨some 14, .fad 3 (.t 1), some (11, true), [], []⟩,
  ⟨some 15, .load false 1 (.t 14), some (11, true), [], []⟩,
  ⟨some 16, .bin .neq (.t 13) (.t 15), some (11, true), [], []⟩,
  ⟨some 17, .pick (.t 11) (.t 16) (.c (.bool false)), none, [], []⟩,
  ⟨some 18, .mov (.t 17), none, [], []⟩,
  ⟨some 19, .fad 2 (.t 1), some (18, true), [], []⟩,
  ⟨some 20, .load false 1 (.t 19), some (18, true), [], []⟩,
  ⟨some 21, .call false 52 [(.t 20)], some (18, true), [], []⟩,
  ⟨some 22, .pick (.t 18) (.t 21) (.c (.bool false)), none, [], []⟩,
  ⟨some 2, .mov (.t 22), none, [], []⟩] false)
 .ret))
def i51 : F := ⟨1, 23, j51, [.t 2]⟩
theorem b51 : i51.body = j51 := rfl
theorem q51 : i51.res = [.t 2] := rfl
theorem c51 : chkF Try.prog Try.f51 i51 = true := by kernel_rfl
theorem s51 {m : Model} {E : Nat → Model} (hE : ∀ f, Sound Try.prog f (E f)) (hm : ∀ args r, m args = some r → ∃ N, i51.ev E N args = some r) : Sound Try.prog 51 m := sound_of i51 Try.func51 rfl c51 hE hm
/-- bellwether/msg.Counted -/
def j52 : C := (.seq (.region [⟨some 2, .mov (.c (.bool false)), none, [], []⟩] false)
 (.seq (.region [⟨some 3, .mov (.t 0), none, [], []⟩,
  ⟨some 4, .call false 53 [(.t 3), (.c (.int .i64 1)), (.c (.int .i64 1073741824))], none, [], []⟩,
  ⟨some 2, .mov (.t 4), none, [], []⟩] false)
 .ret))
def i52 : F := ⟨1, 5, j52, [.t 2]⟩
theorem b52 : i52.body = j52 := rfl
theorem q52 : i52.res = [.t 2] := rfl
theorem c52 : chkF Try.prog Try.f52 i52 = true := by kernel_rfl
theorem s52 {m : Model} {E : Nat → Model} (hE : ∀ f, Sound Try.prog f (E f)) (hm : ∀ args r, m args = some r → ∃ N, i52.ev E N args = some r) : Sound Try.prog 52 m := sound_of i52 Try.func52 rfl c52 hE hm
/-- bellwether/msg.in -/
def j53 : C := (.seq (.region [⟨some 6, .mov (.c (.bool false)), none, [], []⟩] false)
 (.seq (.region [⟨some 7, .mov (.t 0), none, [], []⟩,
  ⟨some 8, .mov (.t 1), none, [], []⟩,
  ⟨some 9, .bin .geq (.t 7) (.t 8), none, [], []⟩,
  ⟨some 10, .mov (.t 9), none, [], []⟩,
  ⟨some 11, .mov (.t 0), some (10, true), [], []⟩,
  ⟨some 12, .mov (.t 2), some (10, true), [], []⟩,
  ⟨some 13, .bin .leq (.t 11) (.t 12), some (10, true), [], []⟩,
  ⟨some 14, .pick (.t 10) (.t 13) (.c (.bool false)), none, [], []⟩,
  ⟨some 6, .mov (.t 14), none, [], []⟩] false)
 .ret))
def i53 : F := ⟨3, 15, j53, [.t 6]⟩
theorem b53 : i53.body = j53 := rfl
theorem q53 : i53.res = [.t 6] := rfl
theorem c53 : chkF Try.prog Try.f53 i53 = true := by kernel_rfl
theorem s53 {m : Model} {E : Nat → Model} (hE : ∀ f, Sound Try.prog f (E f)) (hm : ∀ args r, m args = some r → ∃ N, i53.ev E N args = some r) : Sound Try.prog 53 m := sound_of i53 Try.func53 rfl c53 hE hm
/-- bellwether/codec.GetList -/
def j54 : C := (.seq (.region [⟨some 4, .nilsl 3 1 0, none, [], []⟩,
  ⟨some 5, .mov (.c (.int .i64 0)), none, [], []⟩,
  ⟨some 6, .mov (.c (.int .i64 0)), none, [], []⟩] false)
 (.seq (.seq (.region [⟨some 9, .mov (.t 0), none, [], []⟩,
  ⟨some 10, .mov (.t 1), none, [], []⟩,
  ⟨some 11, .call false 49 [(.t 9), (.t 10), (.c (.int .i64 1))], none, [], []⟩,
  ⟨some 12, .un .not (.t 11), none, [], []⟩,
  ⟨some 13, .mov (.t 12), none, [], []⟩,
  ⟨some 14, .mov (.t 0), some (13, false), [], []⟩,
  ⟨some 15, .mov (.t 1), some (13, false), [], []⟩,
  ⟨some 16, .bin .add (.t 15) (.c (.int .i64 1)), some (13, false), [], []⟩,
  ⟨some 17, .mov (.t 0), some (13, false), [], []⟩,
  ⟨some 18, .mov (.t 1), some (13, false), [], []⟩,
  ⟨some 19, .iad 1 (.t 17) (.t 18), some (13, false), [], []⟩,
  ⟨some 20, .load false 1 (.t 19), some (13, false), [], []⟩,
  ⟨some 21, .conv .i64 (.t 20), some (13, false), [], []⟩,
  ⟨some 22, .call false 49 [(.t 14), (.t 16), (.t 21)], some (13, false), [], []⟩,
  ⟨some 23, .un .not (.t 22), some (13, false), [], []⟩,
  ⟨some 24, .pick (.t 13) (.c (.bool true)) (.t 23), none, [], []⟩] false)
 (.cond (.t 24) (.seq (.region [⟨some 4, .nilsl 3 1 1, none, [], []⟩,
  ⟨some 5, .mov (.c (.int .i64 0)), none, [], []⟩,
  ⟨some 6, .mov (.c (.int .i64 2)), none, [], []⟩] false)
 .ret) .skip))
 (.seq (.region [⟨some 25, .mov (.t 1), none, [], []⟩,
  ⟨some 26, .bin .add (.t 25) (.c (.int .i64 1)), none, [], []⟩,
  ⟨some 27, .mov (.t 0), none, [], []⟩,
  ⟨some 28, .mov (.t 1), none, [], []⟩,
  ⟨some 29, .iad 1 (.t 27) (.t 28), none, [], []⟩,
  ⟨some 30, .load false 1 (.t 29), none, [], []⟩,
  ⟨some 31, .conv .i64 (.t 30), none, [], []⟩,
  ⟨some 32, .bin .add (.t 26) (.t 31), none, [], []⟩,
  ⟨some 5, .mov (.t 32), none, [], []⟩] false)
 (.seq (.seq (.region [⟨some 33, .mov (.t 0), none, [], []⟩,
  ⟨some 34, .mov (.t 1), none, [], []⟩,
  ⟨some 35, .bin .add (.t 34) (.c (.int .i64 1)), none, [], []⟩,
  ⟨some 36, .mov (.t 5), none, [], []⟩,
  ⟨some 37, .cut 1 (.t 33) (some (.t 35)) (some (.t 36)), none, [], []⟩,
  ⟨some 38, .len (.t 37), none, [], []⟩,
  ⟨some 39, .mov (.c (.int .i64 0)), none, [], []⟩] false)
 (.block 0 (.loop (.keep [4, 5, 37, 38, 39] (.seq (.region [⟨some 40, .bin .lss (.t 39) (.t 38), none, [], []⟩] false)
 (.seq (.cond (.t 40) .skip (.exit 0))
 (.seq (.block 1 (.seq (.region [⟨some 41, .iad 1 (.t 37) (.t 39), none, [], []⟩,
  ⟨some 42, .load false 1 (.t 41), none, [], []⟩,
  ⟨some 8, .mov (.t 42), none, [], []⟩] false)
 (.region [⟨some 43, .mov (.t 4), none, [], []⟩,
  ⟨some 44, .mov (.t 8), none, [], []⟩,
  ⟨some 45, .conv .i64 (.t 44), none, [], []⟩,
  ⟨some 46, .bsl 3 1 1 [.int .i64 0] [(0, (.t 45))], none, [], []⟩,
  ⟨some 47, .app 3 1 8 (.t 43) (.t 46), none, [], []⟩,
  ⟨some 4, .mov (.t 47), none, [], []⟩] false)))
 (.region [⟨some 48, .bin .add (.t 39) (.c (.int .i64 1)), none, [], []⟩,
  ⟨some 39, .mov (.t 48), none, [], []⟩] false))))))))
 (.seq (.region [⟨some 49, .mov (.t 4), none, [], []⟩,
  ⟨some 50, .mov (.t 5), none, [], []⟩,
  ⟨some 4, .mov (.t 49), none, [], []⟩,
  ⟨some 5, .mov (.t 50), none, [], []⟩,
  ⟨some 6, .mov (.c (.int .i64 0)), none, [], []⟩] false)
 .ret)))))
def i54 : F := ⟨2, 51, j54, [.t 4, .t 5, .t 6]⟩
theorem b54 : i54.body = j54 := rfl
theorem q54 : i54.res = [.t 4, .t 5, .t 6] := rfl
theorem c54 : chkF Try.prog Try.f54 i54 = true := by kernel_rfl
theorem s54 {m : Model} {E : Nat → Model} (hE : ∀ f, Sound Try.prog f (E f)) (hm : ∀ args r, m args = some r → ∃ N, i54.ev E N args = some r) : Sound Try.prog 54 m := sound_of i54 Try.func54 rfl c54 hE hm
/-- bellwether/wire.message -/
def j55 : C := (.seq (.region [⟨some 6, .alloc [.int .i64 0, .int .i64 0, .int .i64 0, .int .i64 0, .int .i64 0, .int .i64 0, .int .i64 0, .int .i64 0, .int .i64 0, .int .i64 0, .int .i64 0, .int .i64 0, .int .i64 0, .int .i64 0, .row [], .row []], none, [], []⟩] false)
 (.seq (.region [⟨some 7, .mov (.t 0), none, [10, 11, 12, 13, 14, 15, 16, 17, 18, 19, 20, 21, 22, 23, 24, 25, 26, 27, 28, 29, 30, 31, 32, 33, 34, 35, 36, 37, 38, 39, 40, 41, 42, 43, 44, 45, 46, 47, 48, 49, 50], []⟩,
  ⟨some 8, .iad 1 (.t 7) (.c (.int .i64 0)), none, [10, 11, 12, 13, 14, 15, 16, 17, 18, 19, 20, 21, 22, 23, 24, 25, 26, 27, 28, 29, 30, 31, 32, 33, 34, 35, 36, 37, 38, 39, 40, 41, 42, 43, 44, 45, 46, 47, 48, 49, 50], [0]⟩,
  ⟨some 9, .load false 1 (.t 8), none, [10, 11, 12, 13, 14, 15, 16, 17, 18, 19, 20, 21, 22, 23, 24, 25, 26, 27, 28, 29, 30, 31, 32, 33, 34, 35, 36, 37, 38, 39, 40, 41, 42, 43, 44, 45, 46, 47, 48, 49, 50], [0, 1]⟩,
  ⟨some 10, .mov (.t 0), none, [7, 8, 9, 13, 14, 15, 16, 17, 18, 19, 20, 21, 22, 23, 24, 25, 26, 27, 28, 29, 30, 31, 32, 33, 34, 35, 36, 37, 38, 39, 40, 41, 42, 43, 44, 45, 46, 47, 48, 49, 50], []⟩,
  ⟨some 11, .iad 1 (.t 10) (.c (.int .i64 1)), none, [7, 8, 9, 13, 14, 15, 16, 17, 18, 19, 20, 21, 22, 23, 24, 25, 26, 27, 28, 29, 30, 31, 32, 33, 34, 35, 36, 37, 38, 39, 40, 41, 42, 43, 44, 45, 46, 47, 48, 49, 50], [3]⟩,
  ⟨some 12, .load false 1 (.t 11), none, [7, 8, 9, 13, 14, 15, 16, 17, 18, 19, 20, 21, 22, 23, 24, 25, 26, 27, 28, 29, 30, 31, 32, 33, 34, 35, 36, 37, 38, 39, 40, 41, 42, 43, 44, 45, 46, 47, 48, 49, 50], [3, 4]⟩,
  ⟨some 13, .mov (.t 0), none, [7, 8, 9, 10, 11, 12, 16, 17, 18, 19, 20, 21, 22, 23, 24, 25, 26, 27, 28, 29, 30, 31, 32, 33, 34, 35, 36, 37, 38, 39, 40, 41, 42, 43, 44, 45, 46, 47, 48, 49, 50], []⟩,
  ⟨some 14, .iad 1 (.t 13) (.c (.int .i64 2)), none, [7, 8, 9, 10, 11, 12, 16, 17, 18, 19, 20, 21, 22, 23, 24, 25, 26, 27, 28, 29, 30, 31, 32, 33, 34, 35, 36, 37, 38, 39, 40, 41, 42, 43, 44, 45, 46, 47, 48, 49, 50], [6]⟩,
  ⟨some 15, .load false 1 (.t 14), none, [7, 8, 9, 10, 11, 12, 16, 17, 18, 19, 20, 21, 22, 23, 24, 25, 26, 27, 28, 29, 30, 31, 32, 33, 34, 35, 36, 37, 38, 39, 40, 41, 42, 43, 44, 45, 46, 47, 48, 49, 50], [6, 7]⟩,
  ⟨some 16, .mov (.t 0), none, [7, 8, 9, 10, 11, 12, 13, 14, 15, 19, 20, 21, 22, 23, 24, 25, 26, 27, 28, 29, 30, 31, 32, 33, 34, 35, 36, 37, 38, 39, 40, 41, 42, 43, 44, 45, 46, 47, 48, 49, 50], []⟩,
  ⟨some 17, .iad 1 (.t 16) (.c (.int .i64 3)), none, [7, 8, 9, 10, 11, 12, 13, 14, 15, 19, 20, 21, 22, 23, 24, 25, 26, 27, 28, 29, 30, 31, 32, 33, 34, 35, 36, 37, 38, 39, 40, 41, 42, 43, 44, 45, 46, 47, 48, 49, 50], [9]⟩,
  ⟨some 18, .load false 1 (.t 17), none, [7, 8, 9, 10, 11, 12, 13, 14, 15, 19, 20, 21, 22, 23, 24, 25, 26, 27, 28, 29, 30, 31, 32, 33, 34, 35, 36, 37, 38, 39, 40, 41, 42, 43, 44, 45, 46, 47, 48, 49, 50], [9, 10]⟩,
  ⟨some 19, .mov (.t 0), none, [7, 8, 9, 10, 11, 12, 13, 14, 15, 16, 17, 18, 22, 23, 24, 25, 26, 27, 28, 29, 30, 31, 32, 33, 34, 35, 36, 37, 38, 39, 40, 41, 42, 43, 44, 45, 46, 47, 48, 49, 50], []⟩,
  ⟨some 20, .iad 1 (.t 19) (.c (.int .i64 4)), none, [7, 8, 9, 10, 11, 12, 13, 14, 15, 16, 17, 18, 22, 23, 24, 25, 26, 27, 28, 29, 30, 31, 32, 33, 34, 35, 36, 37, 38, 39, 40, 41, 42, 43, 44, 45, 46, 47, 48, 49, 50], [12]⟩,
  ⟨some 21, .load false 1 (.t 20), none, [7, 8, 9, 10, 11, 12, 13, 14, 15, 16, 17, 18, 22, 23, 24, 25, 26, 27, 28, 29, 30, 31, 32, 33, 34, 35, 36, 37, 38, 39, 40, 41, 42, 43, 44, 45, 46, 47, 48, 49, 50], [12, 13]⟩,
  ⟨some 22, .mov (.t 0), none, [7, 8, 9, 10, 11, 12, 13, 14, 15, 16, 17, 18, 19, 20, 21, 25, 26, 27, 28, 29, 30, 31, 32, 33, 34, 35, 36, 37, 38, 39, 40, 41, 42, 43, 44, 45, 46, 47, 48, 49, 50], []⟩,
  ⟨some 23, .iad 1 (.t 22) (.c (.int .i64 5)), none, [7, 8, 9, 10, 11, 12, 13, 14, 15, 16, 17, 18, 19, 20, 21, 25, 26, 27, 28, 29, 30, 31, 32, 33, 34, 35, 36, 37, 38, 39, 40, 41, 42, 43, 44, 45, 46, 47, 48, 49, 50], [15]⟩,
  ⟨some 24, .load false 1 (.t 23), none, [7, 8, 9, 10, 11, 12, 13, 14, 15, 16, 17, 18, 19, 20, 21, 25, 26, 27, 28, 29, 30, 31, 32, 33, 34, 35, 36, 37, 38, 39, 40, 41, 42, 43, 44, 45, 46, 47, 48, 49, 50], [15, 16]⟩,
  ⟨some 25, .mov (.t 0), none, [7, 8, 9, 10, 11, 12, 13, 14, 15, 16, 17, 18, 19, 20, 21, 22, 23, 24, 28, 29, 30, 31, 32, 33, 34, 35, 36, 37, 38, 39, 40, 41, 42, 43, 44, 45, 46, 47, 48, 49, 50], []⟩,
  ⟨some 26, .iad 1 (.t 25) (.c (.int .i64 6)), none, [7, 8, 9, 10, 11, 12, 13, 14, 15, 16, 17, 18, 19, 20, 21, 22, 23, 24, 28, 29, 30, 31, 32, 33, 34, 35, 36, 37, 38, 39, 40, 41, 42, 43, 44, 45, 46, 47, 48, 49, 50], [18]⟩,
  ⟨some 27, .load false 1 (.t 26), none, [7, 8, 9, 10, 11, 12, 13, 14, 15, 16, 17, 18, 19, 20, 21, 22, 23, 24, 28, 29, 30, 31, 32, 33, 34, 35, 36, 37, 38, 39, 40, 41, 42, 43, 44, 45, 46, 47, 48, 49, 50], [18, 19]⟩,
  ⟨some 28, .mov (.t 0), none, [7, 8, 9, 10, 11, 12, 13, 14, 15, 16, 17, 18, 19, 20, 21, 22, 23, 24, 25, 26, 27, 31, 32, 33, 34, 35, 36, 37, 38, 39, 40, 41, 42, 43, 44, 45, 46, 47, 48, 49, 50], []⟩,
  ⟨some 29, .iad 1 (.t 28) (.c (.int .i64 7)), none, [7, 8, 9, 10, 11, 12, 13, 14, 15, 16, 17, 18, 19, 20, 21, 22, 23, 24, 25, 26, 27, 31, 32, 33, 34, 35, 36, 37, 38, 39, 40, 41, 42, 43, 44, 45, 46, 47, 48, 49, 50], [21]⟩,
  ⟨some 30, .load false 1 (.t 29), none, [7, 8, 9, 10, 11, 12, 13, 14, 15, 16, 17, 18, 19, 20, 21, 22, 23, 24, 25, 26, 27, 31, 32, 33, 34, 35, 36, 37, 38, 39, 40, 41, 42, 43, 44, 45, 46, 47, 48, 49, 50], [21, 22]⟩,
  ⟨some 31, .mov (.t 0), none, [7, 8, 9, 10, 11, 12, 13, 14, 15, 16, 17, 18, 19, 20, 21, 22, 23, 24, 25, 26, 27, 28, 29, 30, 34, 35, 36, 37, 38, 39, 40, 41, 42, 43, 44, 45, 46, 47, 48, 49, 50], []⟩,
  ⟨some 32, .iad 1 (.t 31) (.c (.int .i64 8)), none, [7, 8, 9, 10, 11, 12, 13, 14, 15, 16, 17, 18, 19, 20, 21, 22, 23, 24, 25, 26, 27, 28, 29, 30, 34, 35, 36, 37, 38, 39, 40, 41, 42, 43, 44, 45, 46, 47, 48, 49, 50], [24]⟩,
  ⟨some 33, .load false 1 (.t 32), none, [7, 8, 9, 10, 11, 12, 13, 14, 15, 16, 17, 18, 19, 20, 21, 22, 23, 24, 25, 26, 27, 28, 29, 30, 34, 35, 36, 37, 38, 39, 40, 41, 42, 43, 44, 45, 46, 47, 48, 49, 50], [24, 25]⟩,
  ⟨some 34, .mov (.t 0), none, [7, 8, 9, 10, 11, 12, 13, 14, 15, 16, 17, 18, 19, 20, 21, 22, 23, 24, 25, 26, 27, 28, 29, 30, 31, 32, 33, 37, 38, 39, 40, 41, 42, 43, 44, 45, 46, 47, 48, 49, 50], []⟩,
  ⟨some 35, .iad 1 (.t 34) (.c (.int .i64 9)), none, [7, 8, 9, 10, 11, 12, 13, 14, 15, 16, 17, 18, 19, 20, 21, 22, 23, 24, 25, 26, 27, 28, 29, 30, 31, 32, 33, 37, 38, 39, 40, 41, 42, 43, 44, 45, 46, 47, 48, 49, 50], [27]⟩,
  ⟨some 36, .load false 1 (.t 35), none, [7, 8, 9, 10, 11, 12, 13, 14, 15, 16, 17, 18, 19, 20, 21, 22, 23, 24, 25, 26, 27, 28, 29, 30, 31, 32, 33, 37, 38, 39, 40, 41, 42, 43, 44, 45, 46, 47, 48, 49, 50], [27, 28]⟩,
  ⟨some 37, .mov (.t 0), none, [7, 8, 9, 10, 11, 12, 13, 14, 15, 16, 17, 18, 19, 20, 21, 22, 23, 24, 25, 26, 27, 28, 29, 30, 31, 32, 33, 34, 35, 36, 40, 41, 42, 43, 44, 45, 46, 47, 48, 49, 50], []⟩,
  ⟨some 38, .iad 1 (.t 37) (.c (.int .i64 10)), none, [7, 8, 9, 10, 11, 12, 13, 14, 15, 16, 17, 18, 19, 20, 21, 22, 23, 24, 25, 26, 27, 28, 29, 30, 31, 32, 33, 34, 35, 36, 40, 41, 42, 43, 44, 45, 46, 47, 48, 49, 50], [30]⟩,
  ⟨some 39, .load false 1 (.t 38), none, [7, 8, 9, 10, 11, 12, 13, 14, 15, 16, 17, 18, 19, 20, 21, 22, 23, 24, 25, 26, 27, 28, 29, 30, 31, 32, 33, 34, 35, 36, 40, 41, 42, 43, 44, 45, 46, 47, 48, 49, 50], [30, 31]⟩,
  ⟨some 40, .mov (.t 0), none, [7, 8, 9, 10, 11, 12, 13, 14, 15, 16, 17, 18, 19, 20, 21, 22, 23, 24, 25, 26, 27, 28, 29, 30, 31, 32, 33, 34, 35, 36, 37, 38, 39, 43, 44, 45, 46, 47, 48, 49, 50], []⟩,
  ⟨some 41, .iad 1 (.t 40) (.c (.int .i64 11)), none, [7, 8, 9, 10, 11, 12, 13, 14, 15, 16, 17, 18, 19, 20, 21, 22, 23, 24, 25, 26, 27, 28, 29, 30, 31, 32, 33, 34, 35, 36, 37, 38, 39, 43, 44, 45, 46, 47, 48, 49, 50], [33]⟩,
  ⟨some 42, .load false 1 (.t 41), none, [7, 8, 9, 10, 11, 12, 13, 14, 15, 16, 17, 18, 19, 20, 21, 22, 23, 24, 25, 26, 27, 28, 29, 30, 31, 32, 33, 34, 35, 36, 37, 38, 39, 43, 44, 45, 46, 47, 48, 49, 50], [33, 34]⟩,
  ⟨some 43, .mov (.t 0), none, [7, 8, 9, 10, 11, 12, 13, 14, 15, 16, 17, 18, 19, 20, 21, 22, 23, 24, 25, 26, 27, 28, 29, 30, 31, 32, 33, 34, 35, 36, 37, 38, 39, 40, 41, 42, 46, 47, 48, 49, 50], []⟩,
  ⟨some 44, .iad 1 (.t 43) (.c (.int .i64 12)), none, [7, 8, 9, 10, 11, 12, 13, 14, 15, 16, 17, 18, 19, 20, 21, 22, 23, 24, 25, 26, 27, 28, 29, 30, 31, 32, 33, 34, 35, 36, 37, 38, 39, 40, 41, 42, 46, 47, 48, 49, 50], [36]⟩,
  ⟨some 45, .load false 1 (.t 44), none, [7, 8, 9, 10, 11, 12, 13, 14, 15, 16, 17, 18, 19, 20, 21, 22, 23, 24, 25, 26, 27, 28, 29, 30, 31, 32, 33, 34, 35, 36, 37, 38, 39, 40, 41, 42, 46, 47, 48, 49, 50], [36, 37]⟩,
  ⟨some 46, .mov (.t 0), none, [7, 8, 9, 10, 11, 12, 13, 14, 15, 16, 17, 18, 19, 20, 21, 22, 23, 24, 25, 26, 27, 28, 29, 30, 31, 32, 33, 34, 35, 36, 37, 38, 39, 40, 41, 42, 43, 44, 45, 49, 50], []⟩,
  ⟨some 47, .iad 1 (.t 46) (.c (.int .i64 13)), none, [7, 8, 9, 10, 11, 12, 13, 14, 15, 16, 17, 18, 19, 20, 21, 22, 23, 24, 25, 26, 27, 28, 29, 30, 31, 32, 33, 34, 35, 36, 37, 38, 39, 40, 41, 42, 43, 44, 45, 49, 50], [39]⟩,
  ⟨some 48, .load false 1 (.t 47), none, [7, 8, 9, 10, 11, 12, 13, 14, 15, 16, 17, 18, 19, 20, 21, 22, 23, 24, 25, 26, 27, 28, 29, 30, 31, 32, 33, 34, 35, 36, 37, 38, 39, 40, 41, 42, 43, 44, 45, 49, 50], [39, 40]⟩,
  ⟨some 49, .mov (.t 1), none, [7, 8, 9, 10, 11, 12, 13, 14, 15, 16, 17, 18, 19, 20, 21, 22, 23, 24, 25, 26, 27, 28, 29, 30, 31, 32, 33, 34, 35, 36, 37, 38, 39, 40, 41, 42, 43, 44, 45, 46, 47, 48, 50], []⟩,
  ⟨some 50, .mov (.t 2), none, [7, 8, 9, 10, 11, 12, 13, 14, 15, 16, 17, 18, 19, 20, 21, 22, 23, 24, 25, 26, 27, 28, 29, 30, 31, 32, 33, 34, 35, 36, 37, 38, 39, 40, 41, 42, 43, 44, 45, 46, 47, 48, 49], []⟩,
  ⟨some 51, .build [.int .i64 0, .int .i64 0, .int .i64 0, .int .i64 0, .int .i64 0, .int .i64 0, .int .i64 0, .int .i64 0, .int .i64 0, .int .i64 0, .int .i64 0, .int .i64 0, .int .i64 0, .int .i64 0, .row [], .row []] [(0, 1, (.t 9)), (1, 1, (.t 12)), (3, 1, (.t 15)), (5, 1, (.t 18)), (2, 1, (.t 21)), (4, 1, (.t 24)), (6, 1, (.t 27)), (7, 1, (.t 30)), (8, 1, (.t 33)), (9, 1, (.t 36)), (10, 1, (.t 39)), (11, 1, (.t 42)), (12, 1, (.t 45)), (13, 1, (.t 48)), (14, 1, (.t 49)), (15, 1, (.t 50))], none, [], [0, 1, 2, 3, 4, 5, 6, 7, 8, 9, 10, 11, 12, 13, 14, 15, 16, 17, 18, 19, 20, 21, 22, 23, 24, 25, 26, 27, 28, 29, 30, 31, 32, 33, 34, 35, 36, 37, 38, 39, 40, 41, 42, 43]⟩,
  ⟨none, .store none 16 (.t 6) (.t 51), none, [], [0, 1, 2, 3, 4, 5, 6, 7, 8, 9, 10, 11, 12, 13, 14, 15, 16, 17, 18, 19, 20, 21, 22, 23, 24, 25, 26, 27, 28, 29, 30, 31, 32, 33, 34, 35, 36, 37, 38, 39, 40, 41, 42, 43, 44]⟩] true)
 .ret))
def i55 : F := ⟨3, 52, j55, [.c 6 16 true]⟩
theorem b55 : i55.body = j55 := rfl
theorem q55 : i55.res = [.c 6 16 true] := rfl
theorem c55 : chkF Try.prog Try.f55 i55 = true := by kernel_rfl
theorem s55 {m : Model} {E : Nat → Model} (hE : ∀ f, Sound Try.prog f (E f)) (hm : ∀ args r, m args = some r → ∃ N, i55.ev E N args = some r) : Sound Try.prog 55 m := sound_of i55 Try.func55 rfl c55 hE hm
/-- bellwether/bellwetherref01.Here -/
def j56 : C := (.seq (.region [⟨some 6, .mov (.c (.bool false)), none, [], []⟩] false)
 (.seq (.region [⟨some 7, .mov (.t 1), none, [], []⟩,
  ⟨some 8, .mov (.t 0), none, [], []⟩,
  ⟨some 9, .len (.t 8), none, [], []⟩,
  ⟨some 10, .call false 38 [(.t 7), (.c (.int .i64 0)), (.t 9)], none, [], []⟩,
  ⟨some 11, .mov (.t 10), none, [], []⟩,
  ⟨some 12, .mov (.t 2), some (11, true), [], []⟩,
  ⟨some 13, .mov (.t 0), some (11, true), [], []⟩,
  ⟨some 14, .len (.t 13), some (11, true), [], []⟩,
  ⟨some 15, .mov (.t 1), some (11, true), [], []⟩,
  ⟨some 16, .bin .sub (.t 14) (.t 15), some (11, true), [], []⟩,
  ⟨some 17, .bin .leq (.t 12) (.t 16), some (11, true), [], []⟩,
  ⟨some 18, .pick (.t 11) (.t 17) (.c (.bool false)), none, [], []⟩,
  ⟨some 6, .mov (.t 18), none, [], []⟩] false)
 .ret))
def i56 : F := ⟨3, 19, j56, [.t 6]⟩
theorem b56 : i56.body = j56 := rfl
theorem q56 : i56.res = [.t 6] := rfl
theorem c56 : chkF Try.prog Try.f56 i56 = true := by kernel_rfl
theorem s56 {m : Model} {E : Nat → Model} (hE : ∀ f, Sound Try.prog f (E f)) (hm : ∀ args r, m args = some r → ∃ N, i56.ev E N args = some r) : Sound Try.prog 56 m := sound_of i56 Try.func56 rfl c56 hE hm
/-- bellwether/bellwetherref01.Crc -/
def j57 : C := (.seq (.region [⟨some 2, .mov (.c (.int .i64 0)), none, [], []⟩] false)
 (.seq (.region [⟨some 3, .mov (.c (.int .u32 4294967295)), none, [], []⟩] false)
 (.seq (.seq (.region [⟨some 4, .mov (.c (.int .i64 0)), none, [], []⟩] false)
 (.block 0 (.loop (.keep [0, 3, 4] (.seq (.seq (.region [⟨some 6, .mov (.t 4), none, [], []⟩,
  ⟨some 7, .mov (.t 0), none, [], []⟩,
  ⟨some 8, .len (.t 7), none, [], []⟩,
  ⟨some 9, .bin .lss (.t 6) (.t 8), none, [], []⟩] false)
 (.cond (.t 9) .skip (.exit 0)))
 (.seq (.block 1 (.seq (.region [⟨some 12, .mov (.t 3), none, [], []⟩,
  ⟨some 13, .mov (.t 0), none, [], []⟩,
  ⟨some 14, .mov (.t 4), none, [], []⟩,
  ⟨some 15, .iad 1 (.t 13) (.t 14), none, [], []⟩,
  ⟨some 16, .load false 1 (.t 15), none, [], []⟩,
  ⟨some 17, .conv .u32 (.t 16), none, [], []⟩,
  ⟨some 18, .bin .xor (.t 12) (.t 17), none, [], []⟩,
  ⟨some 3, .mov (.t 18), none, [], []⟩] false)
 (.seq (.region [⟨some 5, .mov (.c (.int .i64 0)), none, [], []⟩] false)
 (.block 2 (.loop (.keep [0, 3, 4, 5] (.seq (.seq (.region [⟨some 19, .mov (.t 5), none, [], []⟩,
  ⟨some 20, .bin .lss (.t 19) (.c (.int .i64 8)), none, [], []⟩] false)
 (.cond (.t 20) .skip (.exit 2)))
 (.seq (.block 3 (.seq (.region [⟨some 23, .mov (.t 3), none, [], []⟩,
  ⟨some 24, .bin .rem (.t 23) (.c (.int .u32 2)), none, [], []⟩,
  ⟨some 25, .bin .eql (.t 24) (.c (.int .u32 1)), none, [], []⟩] false)
 (.cond (.t 25) (.region [⟨some 26, .mov (.t 3), none, [], []⟩,
  ⟨some 27, .bin .quo (.t 26) (.c (.int .u32 2)), none, [], []⟩,
  ⟨some 28, .bin .xor (.t 27) (.c (.int .u32 3988292384)), none, [], []⟩,
  ⟨some 3, .mov (.t 28), none, [], []⟩] false) (.region [⟨some 29, .mov (.t 3), none, [], []⟩,
  ⟨some 30, .bin .quo (.t 29) (.c (.int .u32 2)), none, [], []⟩,
  ⟨some 3, .mov (.t 30), none, [], []⟩] false))))
 (.region [⟨some 21, .mov (.t 5), none, [], []⟩,
  ⟨some 22, .bin .add (.t 21) (.c (.int .i64 1)), none, [], []⟩,
  ⟨some 5, .mov (.t 22), none, [], []⟩] false)))))))))
 (.region [⟨some 10, .mov (.t 4), none, [], []⟩,
  ⟨some 11, .bin .add (.t 10) (.c (.int .i64 1)), none, [], []⟩,
  ⟨some 4, .mov (.t 11), none, [], []⟩] false)))))))
 (.seq (.region [⟨some 31, .mov (.t 3), none, [], []⟩,
  ⟨some 32, .un .xor (.t 31), none, [], []⟩,
  ⟨some 33, .conv .i64 (.t 32), none, [], []⟩,
  ⟨some 2, .mov (.t 33), none, [], []⟩] false)
 .ret))))
def i57 : F := ⟨1, 34, j57, [.t 2]⟩
theorem b57 : i57.body = j57 := rfl
theorem q57 : i57.res = [.t 2] := rfl
theorem c57 : chkF Try.prog Try.f57 i57 = true := by kernel_rfl
theorem s57 {m : Model} {E : Nat → Model} (hE : ∀ f, Sound Try.prog f (E f)) (hm : ∀ args r, m args = some r → ∃ N, i57.ev E N args = some r) : Sound Try.prog 57 m := sound_of i57 Try.func57 rfl c57 hE hm
/-- bellwether/msg.way -/
def j58 : C := (.seq (.region [⟨some 2, .mov (.c (.bool false)), none, [], []⟩] false)
 (.seq (.region [⟨some 3, .mov (.t 0), none, [], []⟩,
  ⟨some 4, .len (.t 3), none, [], []⟩,
  ⟨some 5, .bin .leq (.t 4) (.c (.int .i64 8)), none, [], []⟩,
  ⟨some 6, .mov (.t 5), none, [], []⟩,
  ⟨some 7, .mov (.t 0), some (6, true), [], []⟩,
  ⟨some 8, .call false 65 [(.t 7)], some (6, true), [], []⟩,
  ⟨some 9, .pick (.t 6) (.t 8) (.c (.bool false)), none, [], []⟩,
  ⟨some 10, .mov (.t 9), none, [], []⟩,
  ⟨some 11, .mov (.t 0), some (10, true), [], []⟩,
  ⟨some 12, .call false 63 [(.t 11)], some (10, true), [], []⟩,
  ⟨some 13, .pick (.t 10) (.t 12) (.c (.bool false)), none, [], []⟩,
  ⟨some 2, .mov (.t 13), none, [], []⟩] false)
 .ret))
def i58 : F := ⟨1, 14, j58, [.t 2]⟩
theorem b58 : i58.body = j58 := rfl
theorem q58 : i58.res = [.t 2] := rfl
theorem c58 : chkF Try.prog Try.f58 i58 = true := by kernel_rfl
theorem s58 {m : Model} {E : Nat → Model} (hE : ∀ f, Sound Try.prog f (E f)) (hm : ∀ args r, m args = some r → ∃ N, i58.ev E N args = some r) : Sound Try.prog 58 m := sound_of i58 Try.func58 rfl c58 hE hm
/-- bellwether/ring.Is -/
def j59 : C := (.seq (.region [⟨some 2, .mov (.c (.bool false)), none, [], []⟩] false)
 (.seq (.region [⟨some 3, .mov (.t 0), none, [], []⟩,
  ⟨some 4, .call false 66 [(.t 3), (.c (.int .i64 8))], none, [], []⟩,
  ⟨some 2, .mov (.t 4), none, [], []⟩] false)
 .ret))
def i59 : F := ⟨1, 5, j59, [.t 2]⟩
theorem b59 : i59.body = j59 := rfl
theorem q59 : i59.res = [.t 2] := rfl
theorem c59 : chkF Try.prog Try.f59 i59 = true := by kernel_rfl
theorem s59 {m : Model} {E : Nat → Model} (hE : ∀ f, Sound Try.prog f (E f)) (hm : ∀ args r, m args = some r → ∃ N, i59.ev E N args = some r) : Sound Try.prog 59 m := sound_of i59 Try.func59 rfl c59 hE hm
/-- bellwether/msg.place -/
def j60 : C := (.seq (.region [⟨some 1, .box (.t 0), none, [], []⟩,
  ⟨some 2, .mov (.c (.bool false)), none, [], []⟩] false)
 (.seq (.region [⟨some 3, .fad 6 (.t 1), none, [], []⟩,
  ⟨some 4, .load false 1 (.t 3), none, [], []⟩,
  ⟨some 5, .call false 53 [(.t 4), (.c (.int .i64 1)), (.c (.int .i64 1073741824))], none, [], []⟩,
  ⟨some 6, .mov (.t 5), none, [], []⟩,
  ⟨some 7, .fad 7 (.t 1), some (6, true), [], []⟩,
  ⟨some 8, .load false 1 (.t 7), some (6, true), [], []⟩,
  ⟨some 9, .call false 52 [(.t 8)], some (6, true), [], []⟩,
  ⟨some 10, .pick (.t 6) (.t 9) (.c (.bool false)), none, [], []⟩,
  ⟨some 2, .mov (.t 10), none, [], []⟩] false)
 .ret))
def i60 : F := ⟨1, 11, j60, [.t 2]⟩
theorem b60 : i60.body = j60 := rfl
theorem q60 : i60.res = [.t 2] := rfl
theorem c60 : chkF Try.prog Try.f60 i60 = true := by kernel_rfl
theorem s60 {m : Model} {E : Nat → Model} (hE : ∀ f, Sound Try.prog f (E f)) (hm : ∀ args r, m args = some r → ∃ N, i60.ev E N args = some r) : Sound Try.prog 60 m := sound_of i60 Try.func60 rfl c60 hE hm
/-- bellwether/msg.Value -/
def j61 : C := (.seq (.region [⟨some 2, .mov (.c (.bool false)), none, [], []⟩] false)
 (.seq (.region [⟨some 3, .mov (.t 0), none, [], []⟩,
  ⟨some 4, .call false 53 [(.t 3), (.c (.int .i64 0)), (.c (.int .i64 2147483647))], none, [], []⟩,
  ⟨some 2, .mov (.t 4), none, [], []⟩] false)
 .ret))
def i61 : F := ⟨1, 5, j61, [.t 2]⟩
theorem b61 : i61.body = j61 := rfl
theorem q61 : i61.res = [.t 2] := rfl
theorem c61 : chkF Try.prog Try.f61 i61 = true := by kernel_rfl
theorem s61 {m : Model} {E : Nat → Model} (hE : ∀ f, Sound Try.prog f (E f)) (hm : ∀ args r, m args = some r → ∃ N, i61.ev E N args = some r) : Sound Try.prog 61 m := sound_of i61 Try.func61 rfl c61 hE hm
/-- bellwether/msg.whose -/
def j62 : C := (.seq (.region [⟨some 1, .box (.t 0), none, [], []⟩,
  ⟨some 2, .mov (.c (.bool false)), none, [], []⟩] false)
 (.seq (.region [⟨some 3, .fad 10 (.t 1), none, [], []⟩,
  ⟨some 4, .load false 1 (.t 3), none, [], []⟩,
  ⟨some 5, .call false 59 [(.t 4)], none, [], []⟩,
  ⟨some 6, .mov (.t 5), none, [], []⟩,
  ⟨some 7, .fad 11 (.t 1), some (6, true), [], []⟩,
  ⟨some 8, .load false 1 (.t 7), some (6, true), [], []⟩,
  ⟨some 9, .call false 52 [(.t 8)], some (6, true), [], []⟩,
  ⟨some 10, .pick (.t 6) (.t 9) (.c (.bool false)), none, [], []⟩,
  ⟨some 11, .mov (.t 10), none, [], []⟩,
  ⟨some 12, .fad 9 (.t 1), some (11, true), [], []⟩,
  ⟨some 13, .load false 1 (.t 12), some (11, true), [], []⟩,
  ⟨some 14, .call false 61 [(.t 13)], some (11, true), [], []⟩,
  ⟨some 15, .pick (.t 11) (.t 14) (.c (.bool false)), none, [], []⟩,
  ⟨some 16, .mov (.t 15), none, [], []⟩,
  ⟨some 17, .fad 13 (.t 1), some (16, true), [], []⟩,
  ⟨some 18, .load false 1 (.t 17), some (16, true), [], []⟩,
  ⟨some 19, .call false 53 [(.t 18), (.c (.int .i64 0)), (.c (.int .i64 16))], some (16, true), [], []⟩,
  ⟨some 20, .pick (.t 16) (.t 19) (.c (.bool false)), none, [], []⟩,
  ⟨some 2, .mov (.t 20), none, [], []⟩] false)
 .ret))
def i62 : F := ⟨1, 21, j62, [.t 2]⟩
theorem b62 : i62.body = j62 := rfl
theorem q62 : i62.res = [.t 2] := rfl
theorem c62 : chkF Try.prog Try.f62 i62 = true := by kernel_rfl
theorem s62 {m : Model} {E : Nat → Model} (hE : ∀ f, Sound Try.prog f (E f)) (hm : ∀ args r, m args = some r → ∃ N, i62.ev E N args = some r) : Sound Try.prog 62 m := sound_of i62 Try.func62 rfl c62 hE hm
/-- bellwether/msg.Unlike -/
def j63 : C := (.seq (.region [⟨some 2, .mov (.c (.bool false)), none, [], []⟩] false)
 (.seq (.seq (.region [⟨some 5, .mov (.t 0), none, [], []⟩,
  ⟨some 6, .len (.t 5), none, [], []⟩,
  ⟨some 7, .mov (.c (.int .i64 0)), none, [], []⟩] false)
 (.block 0 (.loop (.keep [0, 5, 6, 7] (.seq (.region [⟨some 8, .bin .lss (.t 7) (.t 6), none, [], []⟩] false)
 (.seq (.cond (.t 8) .skip (.exit 0))
 (.seq (.block 1 (.seq (.region [⟨some 9, .mov (.t 7), none, [], []⟩,
  ⟨some 10, .iad 1 (.t 5) (.t 7), none, [], []⟩,
  ⟨some 11, .load false 1 (.t 10), none, [], []⟩,
  ⟨some 3, .mov (.t 9), none, [], []⟩,
  ⟨some 4, .mov (.t 11), none, [], []⟩] false)
 (.seq (.region [⟨some 12, .mov (.t 0), none, [], []⟩,
  ⟨some 13, .mov (.t 3), none, [], []⟩,
  ⟨some 14, .cut 1 (.t 12) none (some (.t 13)), none, [], []⟩,
  ⟨some 15, .mov (.t 4), none, [], []⟩,
  ⟨some 16, .call false 67 [(.t 14), (.t 15)], none, [], []⟩] false)
 (.cond (.t 16) (.seq (.region [⟨some 2, .mov (.c (.bool false)), none, [], []⟩] false)
 .ret) .skip))))
 (.region [⟨some 17, .bin .add (.t 7) (.c (.int .i64 1)), none, [], []⟩,
  ⟨some 7, .mov (.t 17), none, [], []⟩] false))))))))
 (.seq (.region [⟨some 2, .mov (.c (.bool true)), none, [], []⟩] false)
 .ret)))
def i63 : F := ⟨1, 18, j63, [.t 2]⟩
theorem b63 : i63.body = j63 := rfl
theorem q63 : i63.res = [.t 2] := rfl
theorem c63 : chkF Try.prog Try.f63 i63 = true := by kernel_rfl
theorem s63 {m : Model} {E : Nat → Model} (hE : ∀ f, Sound Try.prog f (E f)) (hm : ∀ args r, m args = some r → ∃ N, i63.ev E N args = some r) : Sound Try.prog 63 m := sound_of i63 Try.func63 rfl c63 hE hm
/-- slices.Concat   int int  -/
def j64 : C := (.seq (.region [⟨some 2, .nilsl 3 1 0, none, [], []⟩] false)
 (.seq (.region [⟨some 3, .mov (.c (.int .i64 0)), none, [], []⟩] false)
 (.seq (.seq (.region [⟨some 9, .mov (.t 0), none, [], []⟩,
  ⟨some 10, .len (.t 9), none, [], []⟩,
  ⟨some 11, .mov (.c (.int .i64 0)), none, [], []⟩] false)
 (.block 0 (.loop (.keep [0, 3, 9, 10, 11] (.seq (.region [⟨some 12, .bin .lss (.t 11) (.t 10), none, [], []⟩] false)
 (.seq (.cond (.t 12) .skip (.exit 0))
 (.seq (.block 1 (.seq (.region [⟨some 13, .iad 1 (.t 9) (.t 11), none, [], []⟩,
  ⟨some 14, .load false 1 (.t 13), none, [], []⟩,
  ⟨some 5, .mov (.t 14), none, [], []⟩] false)
 (.seq (.region [⟨some 15, .mov (.t 3), none, [], []⟩,
  ⟨some 16, .mov (.t 5), none, [], []⟩,
  ⟨some 17, .len (.t 16), none, [], []⟩,
  ⟨some 18, .bin .add (.t 15) (.t 17), none, [], []⟩,
  ⟨some 3, .mov (.t 18), none, [], []⟩] false)
 (.seq (.region [⟨some 19, .mov (.t 3), none, [], []⟩,
  ⟨some 20, .bin .lss (.t 19) (.c (.int .i64 0)), none, [], []⟩] false)
 (.cond (.t 20) (.region [⟨some 21, .stop, none, [], []⟩,
  ⟨none, .stop, none, [], []⟩] false) .skip)))))
 (.region [⟨some 22, .bin .add (.t 11) (.c (.int .i64 1)), none, [], []⟩,
  ⟨some 11, .mov (.t 22), none, [], []⟩] false))))))))
 (.seq (.region [⟨some 23, .mov (.t 3), none, [], []⟩,
  ⟨some 24, .call true 68 [(.c (.k (.slice none 0 0))), (.t 23)], none, [], []⟩,
  ⟨some 6, .mov (.t 24), none, [], []⟩] false)
 (.seq (.seq (.region [⟨some 25, .mov (.t 0), none, [], []⟩,
  ⟨some 26, .len (.t 25), none, [], []⟩,
  ⟨some 27, .mov (.c (.int .i64 0)), none, [], []⟩] false)
 (.block 2 (.loop (.keep [6, 25, 26, 27] (.seq (.region [⟨some 28, .bin .lss (.t 27) (.t 26), none, [], []⟩] false)
 (.seq (.cond (.t 28) .skip (.exit 2))
 (.seq (.block 3 (.seq (.region [⟨some 29, .iad 1 (.t 25) (.t 27), none, [], []⟩,
  ⟨some 30, .load false 1 (.t 29), none, [], []⟩,
  ⟨some 8, .mov (.t 30), none, [], []⟩] false)
 (.region [⟨some 31, .mov (.t 6), none, [], []⟩,
  ⟨some 32, .mov (.t 8), none, [], []⟩,
  ⟨some 33, .app 3 1 8 (.t 31) (.t 32), none, [], []⟩,
  ⟨some 6, .mov (.t 33), none, [], []⟩] false)))
 (.region [⟨some 34, .bin .add (.t 27) (.c (.int .i64 1)), none, [], []⟩,
  ⟨some 27, .mov (.t 34), none, [], []⟩] false))))))))
 (.seq (.region [⟨some 35, .mov (.t 6), none, [], []⟩,
  ⟨some 2, .mov (.t 35), none, [], []⟩] false)
 .ret))))))
def i64 : F := ⟨1, 36, j64, [.t 2]⟩
theorem b64 : i64.body = j64 := rfl
theorem q64 : i64.res = [.t 2] := rfl
theorem c64 : chkF Try.prog Try.f64 i64 = true := by kernel_rfl
theorem s64 {m : Model} {E : Nat → Model} (hE : ∀ f, Sound Try.prog f (E f)) (hm : ∀ args r, m args = some r → ∃ N, i64.ev E N args = some r) : Sound Try.prog 64 m := sound_of i64 Try.func64 rfl c64 hE hm
/-- bellwether/ring.All -/
def j65 : C := (.seq (.region [⟨some 2, .mov (.c (.bool false)), none, [], []⟩] false)
 (.seq (.region [⟨some 3, .mov (.t 0), none, [], []⟩,
  ⟨some 4, .call false 69 [(.t 3), (.c (.fn 70 []))], none, [], []⟩,
  ⟨some 5, .un .not (.t 4), none, [], []⟩,
  ⟨some 2, .mov (.t 5), none, [], []⟩] false)
 .ret))
def i65 : F := ⟨1, 6, j65, [.t 2]⟩
theorem b65 : i65.body = j65 := rfl
theorem q65 : i65.res = [.t 2] := rfl
theorem c65 : chkF Try.prog Try.f65 i65 = true := by kernel_rfl
theorem s65 {m : Model} {E : Nat → Model} (hE : ∀ f, Sound Try.prog f (E f)) (hm : ∀ args r, m args = some r → ∃ N, i65.ev E N args = some r) : Sound Try.prog 65 m := sound_of i65 Try.func65 rfl c65 hE hm
/-- bellwether/ring.in -/
def j66 : C := (.seq (.region [⟨some 4, .mov (.c (.bool false)), none, [], []⟩] false)
 (.seq (.region [⟨some 5, .mov (.t 0), none, [], []⟩,
  ⟨some 6, .bin .geq (.t 5) (.c (.int .i64 0)), none, [], []⟩,
  ⟨some 7, .mov (.t 6), none, [], []⟩,
  ⟨some 8, .mov (.t 0), some (7, true), [], []⟩,
  ⟨some 9, .mov (.t 1), some (7, true), [], []⟩,
  ⟨some 10, .bin .lss (.t 8) (.t 9), some (7, true), [], []⟩,
  ⟨some 11, .pick (.t 7) (.t 10) (.c (.bool false)), none, [], []⟩,
  ⟨some 4, .mov (.t 11), none, [], []⟩] false)
 .ret))
def i66 : F := ⟨2, 12, j66, [.t 4]⟩
theorem b66 : i66.body = j66 := rfl
theorem q66 : i66.res = [.t 4] := rfl
theorem c66 : chkF Try.prog Try.f66 i66 = true := by kernel_rfl
theorem s66 {m : Model} {E : Nat → Model} (hE : ∀ f, Sound Try.prog f (E f)) (hm : ∀ args r, m args = some r → ∃ N, i66.ev E N args = some r) : Sound Try.prog 66 m := sound_of i66 Try.func66 rfl c66 hE hm
/-- slices.Contains   int int  -/
def j67 : C := (.seq (.region [⟨some 4, .mov (.c (.bool false)), none, [], []⟩] false)
 (.seq (.region [⟨some 5, .mov (.t 0), none, [], []⟩,
  ⟨some 6, .mov (.t 1), none, [], []⟩,
  ⟨some 7, .call false 71 [(.t 5), (.t 6)], none, [], []⟩,
  ⟨some 8, .bin .geq (.t 7) (.c (.int .i64 0)), none, [], []⟩,
  ⟨some 4, .mov (.t 8), none, [], []⟩] false)
 .ret))
def i67 : F := ⟨2, 9, j67, [.t 4]⟩
theorem b67 : i67.body = j67 := rfl
theorem q67 : i67.res = [.t 4] := rfl
theorem c67 : chkF Try.prog Try.f67 i67 = true := by kernel_rfl
theorem s67 {m : Model} {E : Nat → Model} (hE : ∀ f, Sound Try.prog f (E f)) (hm : ∀ args r, m args = some r → ∃ N, i67.ev E N args = some r) : Sound Try.prog 67 m := sound_of i67 Try.func67 rfl c67 hE hm
/-- slices.Grow   int int  -/
def j68 : C := (.seq (.region [⟨some 4, .nilsl 3 1 0, none, [], []⟩] false)
 (.seq (.seq (.region [⟨some 5, .mov (.t 1), none, [], []⟩,
  ⟨some 6, .bin .lss (.t 5) (.c (.int .i64 0)), none, [], []⟩] false)
 (.cond (.t 6) (.region [⟨some 7, .stop, none, [], []⟩,
  ⟨none, .stop, none, [], []⟩] false) .skip))
 (.seq (.seq (.region [⟨some 8, .mov (.t 1), none, [], []⟩,
  ⟨some 9, .mov (.t 0), none, [], []⟩,
  ⟨some 10, .kln (.t 9), none, [], []⟩,
  ⟨some 11, .mov (.t 0), none, [], []⟩,
  ⟨some 12, .kln (.t 11), none, [], []⟩,
  ⟨some 13, .bin .sub (.t 10) (.t 12), none, [], []⟩,
  ⟨some 14, .bin .sub (.t 8) (.t 13), none, [], []⟩,
  ⟨some 1, .mov (.t 14), none, [], []⟩] false)
 (.seq (.region [⟨some 15, .mov (.t 1), none, [], []⟩,
  ⟨some 16, .bin .gtr (.t 15) (.c (.int .i64 0)), none, [], []⟩] false)
 (.cond (.t 16) (.region [⟨some 17, .mov (.t 0), none, [], []⟩,
  ⟨some 18, .mov (.t 0), none, [], []⟩,
  ⟨some 19, .kln (.t 18), none, [], []⟩,
  ⟨some 20, .kct (.t 17) (.t 19), none, [], []⟩,
  ⟨some 21, .mov (.t 1), none, [], []⟩,
  ⟨some 22, .apz 3 1 8 [.int .i64 0] (.t 20) (.t 21), none, [], []⟩,
  ⟨some 23, .mov (.t 0), none, [], []⟩,
  ⟨some 24, .kln (.t 23), none, [], []⟩,
  ⟨some 25, .cu0 1 (.t 22) (.t 24), none, [], []⟩,
  ⟨some 0, .mov (.t 25), none, [], []⟩] false) .skip)))
 (.seq (.region [⟨some 26, .kow 3 1 (.t 0), none, [], []⟩,
  ⟨some 4, .mov (.t 26), none, [], []⟩] false)
 .ret))))
def i68 : F := ⟨2, 27, j68, [.t 4]⟩
theorem b68 : i68.body = j68 := rfl
theorem q68 : i68.res = [.t 4] := rfl
theorem c68 : chkF Try.prog Try.f68 i68 = true := by kernel_rfl
theorem s68 {m : Model} {E : Nat → Model} (hE : ∀ f, Sound Try.prog f (E f)) (hm : ∀ args r, m args = some r → ∃ N, i68.ev E N args = some r) : Sound Try.prog 68 m := sound_of i68 Try.func68 rfl c68 hE hm
/-- slices.ContainsFunc   int int  -/
def j69 : C := (.seq (.region [⟨some 4, .mov (.c (.bool false)), none, [], []⟩] false)
 (.seq (.region [⟨some 5, .mov (.t 0), none, [], []⟩,
  ⟨some 6, .mov (.t 1), none, [], []⟩,
  ⟨some 7, .call false 72 [(.t 5), (.t 6)], none, [], []⟩,
  ⟨some 8, .bin .geq (.t 7) (.c (.int .i64 0)), none, [], []⟩,
  ⟨some 4, .mov (.t 8), none, [], []⟩] false)
 .ret))
def i69 : F := ⟨2, 9, j69, [.t 4]⟩
theorem b69 : i69.body = j69 := rfl
theorem q69 : i69.res = [.t 4] := rfl
theorem c69 : chkF Try.prog Try.f69 i69 = true := by kernel_rfl
theorem s69 {m : Model} {E : Nat → Model} (hE : ∀ f, Sound Try.prog f (E f)) (hm : ∀ args r, m args = some r → ∃ N, i69.ev E N args = some r) : Sound Try.prog 69 m := sound_of i69 Try.func69 rfl c69 hE hm
/-- bellwether/ring.All$1 -/
def j70 : C := (.seq (.region [⟨some 2, .mov (.c (.bool false)), none, [], []⟩] false)
 (.seq (.region [⟨some 3, .mov (.t 0), none, [], []⟩,
  ⟨some 4, .call false 59 [(.t 3)], none, [], []⟩,
  ⟨some 5, .un .not (.t 4), none, [], []⟩,
  ⟨some 2, .mov (.t 5), none, [], []⟩] false)
 .ret))
def i70 : F := ⟨1, 6, j70, [.t 2]⟩
theorem b70 : i70.body = j70 := rfl
theorem q70 : i70.res = [.t 2] := rfl
theorem c70 : chkF Try.prog Try.f70 i70 = true := by kernel_rfl
theorem s70 {m : Model} {E : Nat → Model} (hE : ∀ f, Sound Try.prog f (E f)) (hm : ∀ args r, m args = some r → ∃ N, i70.ev E N args = some r) : Sound Try.prog 70 m := sound_of i70 Try.func70 rfl c70 hE hm
/-- slices.Index   int int  -/
def j71 : C := (.seq (.region [⟨some 4, .mov (.c (.int .i64 0)), none, [], []⟩] false)
 (.seq (.seq (.region [⟨some 6, .mov (.t 0), none, [], []⟩,
  ⟨some 7, .len (.t 6), none, [], []⟩,
  ⟨some 8, .mov (.c (.int .i64 0)), none, [], []⟩] false)
 (.block 0 (.loop (.keep [0, 1, 7, 8] (.seq (.region [⟨some 9, .bin .lss (.t 8) (.t 7), none, [], []⟩] false)
 (.seq (.cond (.t 9) .skip (.exit 0))
 (.seq (.block 1 (.seq (.region [⟨some 10, .mov (.t 8), none, [], []⟩,
  ⟨some 5, .mov (.t 10), none, [], []⟩] false)
 (.seq (.region [⟨some 11, .mov (.t 1), none, [], []⟩,
  ⟨some 12, .mov (.t 0), none, [], []⟩,
  ⟨some 13, .mov (.t 5), none, [], []⟩,
  ⟨some 14, .iad 1 (.t 12) (.t 13), none, [], []⟩,
  ⟨some 15, .load false 1 (.t 14), none, [], []⟩,
  ⟨some 16, .bin .eql (.t 11) (.t 15), none, [], []⟩] false)
 (.cond (.t 16) (.seq (.region [⟨some 17, .mov (.t 5), none, [], []⟩,
  ⟨some 4, .mov (.t 17), none, [], []⟩] false)
 .ret) .skip))))
 (.region [⟨some 18, .bin .add (.t 8) (.c (.int .i64 1)), none, [], []⟩,
  ⟨some 8, .mov (.t 18), none, [], []⟩] false))))))))
 (.seq (.region [⟨some 4, .mov (.c (.int .i64 (-1))), none, [], []⟩] false)
 .ret)))
def i71 : F := ⟨2, 19, j71, [.t 4]⟩
theorem b71 : i71.body = j71 := rfl
theorem q71 : i71.res = [.t 4] := rfl
theorem c71 : chkF Try.prog Try.f71 i71 = true := by kernel_rfl
theorem s71 {m : Model} {E : Nat → Model} (hE : ∀ f, Sound Try.prog f (E f)) (hm : ∀ args r, m args = some r → ∃ N, i71.ev E N args = some r) : Sound Try.prog 71 m := sound_of i71 Try.func71 rfl c71 hE hm
/-- slices.IndexFunc   int int  -/
def j72 : C := (.seq (.region [⟨some 4, .mov (.c (.int .i64 0)), none, [], []⟩] false)
 (.seq (.seq (.region [⟨some 6, .mov (.t 0), none, [], []⟩,
  ⟨some 7, .len (.t 6), none, [], []⟩,
  ⟨some 8, .mov (.c (.int .i64 0)), none, [], []⟩] false)
 (.block 0 (.loop (.keep [0, 1, 7, 8] (.seq (.region [⟨some 9, .bin .lss (.t 8) (.t 7), none, [], []⟩] false)
 (.seq (.cond (.t 9) .skip (.exit 0))
 (.seq (.block 1 (.seq (.region [⟨some 10, .mov (.t 8), none, [], []⟩,
  ⟨some 5, .mov (.t 10), none, [], []⟩] false)
 (.seq (.region [⟨some 11, .mov (.t 1), none, [], []⟩,
  ⟨some 12, .mov (.t 0), none, [], []⟩,
  ⟨some 13, .mov (.t 5), none, [], []⟩,
  ⟨some 14, .iad 1 (.t 12) (.t 13), none, [], []⟩,
  ⟨some 15, .load false 1 (.t 14), none, [], []⟩,
  ⟨some 16, .callv false (.t 11) [(.t 15)], none, [], []⟩] false)
 (.cond (.t 16) (.seq (.region [⟨some 17, .mov (.t 5), none, [], []⟩,
  ⟨some 4, .mov (.t 17), none, [], []⟩] false)
 .ret) .skip))))
 (.region [⟨some 18, .bin .add (.t 8) (.c (.int .i64 1)), none, [], []⟩,
  ⟨some 8, .mov (.t 18), none, [], []⟩] false))))))))
 (.seq (.region [⟨some 4, .mov (.c (.int .i64 (-1))), none, [], []⟩] false)
 .ret)))
def i72 : F := ⟨2, 19, j72, [.t 4]⟩
theorem b72 : i72.body = j72 := rfl
theorem q72 : i72.res = [.t 4] := rfl
theorem c72 : chkF Try.prog Try.f72 i72 = true := by kernel_rfl
theorem s72 {m : Model} {E : Nat → Model} (hE : ∀ f, Sound Try.prog f (E f)) (hm : ∀ args r, m args = some r → ∃ N, i72.ev E N args = some r) : Sound Try.prog 72 m := sound_of i72 Try.func72 rfl c72 hE hm
def xt : List (Nat × Model) := [(24, cloneM 5 1 1)]
def tb : List (Nat × F) := [(3, i3), (4, i4), (5, i5), (6, i6), (7, i7), (8, i8), (9, i9), (10, i10), (11, i11), (12, i12), (13, i13), (14, i14), (15, i15), (16, i16), (17, i17), (18, i18), (19, i19), (20, i20), (21, i21), (22, i22), (23, i23), (25, i25), (26, i26), (27, i27), (28, i28), (29, i29), (30, i30), (31, i31), (32, i32), (33, i33), (34, i34), (35, i35), (36, i36), (37, i37), (38, i38), (39, i39), (40, i40), (41, i41), (42, i42), (43, i43), (44, i44), (45, i45), (46, i46), (47, i47), (48, i48), (49, i49), (50, i50), (51, i51), (52, i52), (53, i53), (54, i54), (55, i55), (56, i56), (57, i57), (58, i58), (59, i59), (60, i60), (61, i61), (62, i62), (63, i63), (64, i64), (65, i65), (66, i66), (67, i67), (68, i68), (69, i69), (70, i70), (71, i71), (72, i72)]
theorem xt_ok : ∀ p ∈ xt, Sound Try.prog p.1 p.2 := all_cons x24 (all_nil)
theorem tb_ok (N : Nat) : ∀ p ∈ tb, ∀ E : Nat → Model, (∀ f, Sound Try.prog f (E f)) → Sound Try.prog p.1 (p.2.ev E N) := all_cons (fun E hE => s3 hE fun _ _ h => ⟨N, h⟩) (all_cons (fun E hE => s4 hE fun _ _ h => ⟨N, h⟩) (all_cons (fun E hE => s5 hE fun _ _ h => ⟨N, h⟩) (all_cons (fun E hE => s6 hE fun _ _ h => ⟨N, h⟩) (all_cons (fun E hE => s7 hE fun _ _ h => ⟨N, h⟩) (all_cons (fun E hE => s8 hE fun _ _ h => ⟨N, h⟩) (all_cons (fun E hE => s9 hE fun _ _ h => ⟨N, h⟩) (all_cons (fun E hE => s10 hE fun _ _ h => ⟨N, h⟩) (all_cons (fun E hE => s11 hE fun _ _ h => ⟨N, h⟩) (all_cons (fun E hE => s12 hE fun _ _ h => ⟨N, h⟩) (all_cons (fun E hE => s13 hE fun _ _ h => ⟨N, h⟩) (all_cons (fun E hE => s14 hE fun _ _ h => ⟨N, h⟩) (all_cons (fun E hE => s15 hE fun _ _ h => ⟨N, h⟩) (all_cons (fun E hE => s16 hE fun _ _ h => ⟨N, h⟩) (all_cons (fun E hE => s17 hE fun _ _ h => ⟨N, h⟩) (all_cons (fun E hE => s18 hE fun _ _ h => ⟨N, h⟩) (all_cons (fun E hE => s19 hE fun _ _ h => ⟨N, h⟩) (all_cons (fun E hE => s20 hE fun _ _ h => ⟨N, h⟩) (all_cons (fun E hE => s21 hE fun _ _ h => ⟨N, h⟩) (all_cons (fun E hE => s22 hE fun _ _ h => ⟨N, h⟩) (all_cons (fun E hE => s23 hE fun _ _ h => ⟨N, h⟩) (all_cons (fun E hE => s25 hE fun _ _ h => ⟨N, h⟩) (all_cons (fun E hE => s26 hE fun _ _ h => ⟨N, h⟩) (all_cons (fun E hE => s27 hE fun _ _ h => ⟨N, h⟩) (all_cons (fun E hE => s28 hE fun _ _ h => ⟨N, h⟩) (all_cons (fun E hE => s29 hE fun _ _ h => ⟨N, h⟩) (all_cons (fun E hE => s30 hE fun _ _ h => ⟨N, h⟩) (all_cons (fun E hE => s31 hE fun _ _ h => ⟨N, h⟩) (all_cons (fun E hE => s32 hE fun _ _ h => ⟨N, h⟩) (all_cons (fun E hE => s33 hE fun _ _ h => ⟨N, h⟩) (all_cons (fun E hE => s34 hE fun _ _ h => ⟨N, h⟩) (all_cons (fun E hE => s35 hE fun _ _ h => ⟨N, h⟩) (all_cons (fun E hE => s36 hE fun _ _ h => ⟨N, h⟩) (all_cons (fun E hE => s37 hE fun _ _ h => ⟨N, h⟩) (all_cons (fun E hE => s38 hE fun _ _ h => ⟨N, h⟩) (all_cons (fun E hE => s39 hE fun _ _ h => ⟨N, h⟩) (all_cons (fun E hE => s40 hE fun _ _ h => ⟨N, h⟩) (all_cons (fun E hE => s41 hE fun _ _ h => ⟨N, h⟩) (all_cons (fun E hE => s42 hE fun _ _ h => ⟨N, h⟩) (all_cons (fun E hE => s43 hE fun _ _ h => ⟨N, h⟩) (all_cons (fun E hE => s44 hE fun _ _ h => ⟨N, h⟩) (all_cons (fun E hE => s45 hE fun _ _ h => ⟨N, h⟩) (all_cons (fun E hE => s46 hE fun _ _ h => ⟨N, h⟩) (all_cons (fun E hE => s47 hE fun _ _ h => ⟨N, h⟩) (all_cons (fun E hE => s48 hE fun _ _ h => ⟨N, h⟩) (all_cons (fun E hE => s49 hE fun _ _ h => ⟨N, h⟩) (all_cons (fun E hE => s50 hE fun _ _ h => ⟨N, h⟩) (all_cons (fun E hE => s51 hE fun _ _ h => ⟨N, h⟩) (all_cons (fun E hE => s52 hE fun _ _ h => ⟨N, h⟩) (all_cons (fun E hE => s53 hE fun _ _ h => ⟨N, h⟩) (all_cons (fun E hE => s54 hE fun _ _ h => ⟨N, h⟩) (all_cons (fun E hE => s55 hE fun _ _ h => ⟨N, h⟩) (all_cons (fun E hE => s56 hE fun _ _ h => ⟨N, h⟩) (all_cons (fun E hE => s57 hE fun _ _ h => ⟨N, h⟩) (all_cons (fun E hE => s58 hE fun _ _ h => ⟨N, h⟩) (all_cons (fun E hE => s59 hE fun _ _ h => ⟨N, h⟩) (all_cons (fun E hE => s60 hE fun _ _ h => ⟨N, h⟩) (all_cons (fun E hE => s61 hE fun _ _ h => ⟨N, h⟩) (all_cons (fun E hE => s62 hE fun _ _ h => ⟨N, h⟩) (all_cons (fun E hE => s63 hE fun _ _ h => ⟨N, h⟩) (all_cons (fun E hE => s64 hE fun _ _ h => ⟨N, h⟩) (all_cons (fun E hE => s65 hE fun _ _ h => ⟨N, h⟩) (all_cons (fun E hE => s66 hE fun _ _ h => ⟨N, h⟩) (all_cons (fun E hE => s67 hE fun _ _ h => ⟨N, h⟩) (all_cons (fun E hE => s68 hE fun _ _ h => ⟨N, h⟩) (all_cons (fun E hE => s69 hE fun _ _ h => ⟨N, h⟩) (all_cons (fun E hE => s70 hE fun _ _ h => ⟨N, h⟩) (all_cons (fun E hE => s71 hE fun _ _ h => ⟨N, h⟩) (all_cons (fun E hE => s72 hE fun _ _ h => ⟨N, h⟩) (all_nil)))))))))))))))))))))))))))))))))))))))))))))))))))))))))))))))))))))
abbrev TT := T xt tb
theorem TT_ok (N d f : Nat) : Sound Try.prog f (TT N d f) := T_ok xt_ok (tb_ok N) d f
theorem t3 (N d : Nat) : TT N (d + 1) 3 = i3.ev (TT N d) N := rfl
theorem t4 (N d : Nat) : TT N (d + 1) 4 = i4.ev (TT N d) N := rfl
theorem t5 (N d : Nat) : TT N (d + 1) 5 = i5.ev (TT N d) N := rfl
theorem t6 (N d : Nat) : TT N (d + 1) 6 = i6.ev (TT N d) N := rfl
theorem t7 (N d : Nat) : TT N (d + 1) 7 = i7.ev (TT N d) N := rfl
theorem t8 (N d : Nat) : TT N (d + 1) 8 = i8.ev (TT N d) N := rfl
theorem t9 (N d : Nat) : TT N (d + 1) 9 = i9.ev (TT N d) N := rfl
theorem t10 (N d : Nat) : TT N (d + 1) 10 = i10.ev (TT N d) N := rfl
theorem t11 (N d : Nat) : TT N (d + 1) 11 = i11.ev (TT N d) N := rfl
theorem t12 (N d : Nat) : TT N (d + 1) 12 = i12.ev (TT N d) N := rfl
theorem t13 (N d : Nat) : TT N (d + 1) 13 = i13.ev (TT N d) N := rfl
theorem t14 (N d : Nat) : TT N (d + 1) 14 = i14.ev (TT N d) N := rfl
theorem t15 (N d : Nat) : TT N (d + 1) 15 = i15.ev (TT N d) N := rfl
theorem t16 (N d : Nat) : TT N (d + 1) 16 = i16.ev (TT N d) N := rfl
theorem t17 (N d : Nat) : TT N (d + 1) 17 = i17.ev (TT N d) N := rfl
theorem t18 (N d : Nat) : TT N (d + 1) 18 = i18.ev (TT N d) N := rfl
theorem t19 (N d : Nat) : TT N (d + 1) 19 = i19.ev (TT N d) N := rfl
theorem t20 (N d : Nat) : TT N (d + 1) 20 = i20.ev (TT N d) N := rfl
theorem t21 (N d : Nat) : TT N (d + 1) 21 = i21.ev (TT N d) N := rfl
theorem t22 (N d : Nat) : TT N (d + 1) 22 = i22.ev (TT N d) N := rfl
theorem t23 (N d : Nat) : TT N (d + 1) 23 = i23.ev (TT N d) N := rfl
theorem t25 (N d : Nat) : TT N (d + 1) 25 = i25.ev (TT N d) N := rfl
theorem t26 (N d : Nat) : TT N (d + 1) 26 = i26.ev (TT N d) N := rfl
theorem t27 (N d : Nat) : TT N (d + 1) 27 = i27.ev (TT N d) N := rfl
theorem t28 (N d : Nat) : TT N (d + 1) 28 = i28.ev (TT N d) N := rfl
theorem t29 (N d : Nat) : TT N (d + 1) 29 = i29.ev (TT N d) N := rfl
theorem t30 (N d : Nat) : TT N (d + 1) 30 = i30.ev (TT N d) N := rfl
theorem t31 (N d : Nat) : TT N (d + 1) 31 = i31.ev (TT N d) N := rfl
theorem t32 (N d : Nat) : TT N (d + 1) 32 = i32.ev (TT N d) N := rfl
theorem t33 (N d : Nat) : TT N (d + 1) 33 = i33.ev (TT N d) N := rfl
theorem t34 (N d : Nat) : TT N (d + 1) 34 = i34.ev (TT N d) N := rfl
theorem t35 (N d : Nat) : TT N (d + 1) 35 = i35.ev (TT N d) N := rfl
theorem t36 (N d : Nat) : TT N (d + 1) 36 = i36.ev (TT N d) N := rfl
theorem t37 (N d : Nat) : TT N (d + 1) 37 = i37.ev (TT N d) N := rfl
theorem t38 (N d : Nat) : TT N (d + 1) 38 = i38.ev (TT N d) N := rfl
theorem t39 (N d : Nat) : TT N (d + 1) 39 = i39.ev (TT N d) N := rfl
theorem t40 (N d : Nat) : TT N (d + 1) 40 = i40.ev (TT N d) N := rfl
theorem t41 (N d : Nat) : TT N (d + 1) 41 = i41.ev (TT N d) N := rfl
theorem t42 (N d : Nat) : TT N (d + 1) 42 = i42.ev (TT N d) N := rfl
theorem t43 (N d : Nat) : TT N (d + 1) 43 = i43.ev (TT N d) N := rfl
theorem t44 (N d : Nat) : TT N (d + 1) 44 = i44.ev (TT N d) N := rfl
theorem t45 (N d : Nat) : TT N (d + 1) 45 = i45.ev (TT N d) N := rfl
theorem t46 (N d : Nat) : TT N (d + 1) 46 = i46.ev (TT N d) N := rfl
theorem t47 (N d : Nat) : TT N (d + 1) 47 = i47.ev (TT N d) N := rfl
theorem t48 (N d : Nat) : TT N (d + 1) 48 = i48.ev (TT N d) N := rfl
theorem t49 (N d : Nat) : TT N (d + 1) 49 = i49.ev (TT N d) N := rfl
theorem t50 (N d : Nat) : TT N (d + 1) 50 = i50.ev (TT N d) N := rfl
theorem t51 (N d : Nat) : TT N (d + 1) 51 = i51.ev (TT N d) N := rfl
theorem t52 (N d : Nat) : TT N (d + 1) 52 = i52.ev (TT N d) N := rfl
theorem t53 (N d : Nat) : TT N (d + 1) 53 = i53.ev (TT N d) N := rfl
theorem t54 (N d : Nat) : TT N (d + 1) 54 = i54.ev (TT N d) N := rfl
theorem t55 (N d : Nat) : TT N (d + 1) 55 = i55.ev (TT N d) N := rfl
theorem t56 (N d : Nat) : TT N (d + 1) 56 = i56.ev (TT N d) N := rfl
theorem t57 (N d : Nat) : TT N (d + 1) 57 = i57.ev (TT N d) N := rfl
theorem t58 (N d : Nat) : TT N (d + 1) 58 = i58.ev (TT N d) N := rfl
theorem t59 (N d : Nat) : TT N (d + 1) 59 = i59.ev (TT N d) N := rfl
theorem t60 (N d : Nat) : TT N (d + 1) 60 = i60.ev (TT N d) N := rfl
theorem t61 (N d : Nat) : TT N (d + 1) 61 = i61.ev (TT N d) N := rfl
theorem t62 (N d : Nat) : TT N (d + 1) 62 = i62.ev (TT N d) N := rfl
theorem t63 (N d : Nat) : TT N (d + 1) 63 = i63.ev (TT N d) N := rfl
theorem t64 (N d : Nat) : TT N (d + 1) 64 = i64.ev (TT N d) N := rfl
theorem t65 (N d : Nat) : TT N (d + 1) 65 = i65.ev (TT N d) N := rfl
theorem t66 (N d : Nat) : TT N (d + 1) 66 = i66.ev (TT N d) N := rfl
theorem t67 (N d : Nat) : TT N (d + 1) 67 = i67.ev (TT N d) N := rfl
theorem t68 (N d : Nat) : TT N (d + 1) 68 = i68.ev (TT N d) N := rfl
theorem t69 (N d : Nat) : TT N (d + 1) 69 = i69.ev (TT N d) N := rfl
theorem t70 (N d : Nat) : TT N (d + 1) 70 = i70.ev (TT N d) N := rfl
theorem t71 (N d : Nat) : TT N (d + 1) 71 = i71.ev (TT N d) N := rfl
theorem t72 (N d : Nat) : TT N (d + 1) 72 = i72.ev (TT N d) N := rfl
theorem t24 (N d : Nat) : TT N (d + 1) 24 = cloneM 5 1 1 := rfl
end Go.Proofs.Ytgjacdfiilcaaaa.IW
