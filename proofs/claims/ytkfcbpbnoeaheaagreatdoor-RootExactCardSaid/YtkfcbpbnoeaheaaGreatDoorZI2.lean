/- Texts joined: IG. -/
import Derived.Test.YtkfcbpbnoeaheaaGreatDoorZI1
import Derived.Test.YtkfcbpbnoeaheaaGreatDoorProg
set_option linter.unusedVariables false
set_option linter.unusedSimpArgs false
set_option maxRecDepth 100000
namespace Go.Proofs.YtkfcbpbnoeaheaaGreatDoor.IG
open Go Go.Proofs.YtkfcbpbnoeaheaaGreatDoorR
def j124 : C := (.seq (.region [⟨some 2, .mov (.c (.k .nilIface)), none, [], []⟩] false) (.seq (.region [⟨some 3, .mov (.c (.int .i64 0)), none, [], []⟩] false) (.seq (.seq (.region [⟨some 9, .mov (.t 0), none, [], []⟩,⟨some 10, .len (.t 9), none, [], []⟩,⟨some 11, .mov (.c (.int .i64 0)), none, [], []⟩] false) (.block 0 (.loop (.keep [0, 3, 9, 10, 11] (.seq (.region [⟨some 12, .bin .lss (.t 11) (.t 10), none, [], []⟩] false) (.seq (.cond (.t 12) .skip (.exit 0)) (.seq (.block 1 (.seq (.region [⟨some 13, .iad 1 (.t 9) (.t 11), none, [], []⟩,⟨some 14, .load false 1 (.t 13), none, [], []⟩,⟨some 5, .mov (.t 14), none, [], []⟩] false) (.seq (.region [⟨some 15, .mov (.t 5), none, [], []⟩,⟨some 16, .ifn true (.t 15), none, [], []⟩] false) (.cond (.t 16) (.region [⟨some 17, .mov (.t 3), none, [], []⟩,⟨some 18, .bin .add (.t 17) (.c (.int .i64 1)), none, [], []⟩,⟨some 3, .mov (.t 18), none, [], []⟩] false) .skip)))) (.region [⟨some 19, .bin .add (.t 11) (.c (.int .i64 1)), none, [], []⟩,⟨some 11, .mov (.t 19), none, [], []⟩] false)))))))) (.seq (.seq (.region [⟨some 20, .mov (.t 3), none, [], []⟩,⟨some 21, .bin .eql (.t 20) (.c (.int .i64 0)), none, [], []⟩] false) (.cond (.t 21) (.seq (.region [⟨some 2, .mov (.c (.k .nilIface)), none, [], []⟩] false) .ret) .skip)) (.seq (.region [⟨some 22, .mov (.t 3), none, [], []⟩,⟨some 23, .mkz 123 1 16 [.k .nilIface] (.t 22), none, [], []⟩,⟨some 24, .build [.row []] [(0, 1, (.t 23))], none, [], []⟩,⟨some 25, .box (.t 24), none, [], []⟩,⟨some 6, .mov (.t 25), none, [], []⟩] false) (.seq (.seq (.region [⟨some 26, .mov (.t 0), none, [], []⟩,⟨some 27, .len (.t 26), none, [], []⟩,⟨some 28, .mov (.c (.int .i64 0)), none, [], []⟩] false) (.block 2 (.loop (.keep [6, 26, 27, 28] (.seq (.region [⟨some 29, .bin .lss (.t 28) (.t 27), none, [], []⟩] false) (.seq (.cond (.t 29) .skip (.exit 2)) (.seq (.block 3 (.seq (.region [⟨some 30, .iad 1 (.t 26) (.t 28), none, [], []⟩,⟨some 31, .load false 1 (.t 30), none, [], []⟩,⟨some 8, .mov (.t 31), none, [], []⟩] false) (.seq (.region [⟨some 32, .mov (.t 8), none, [], []⟩,⟨some 33, .ifn true (.t 32), none, [], []⟩] false) (.cond (.t 33) (.region [⟨some 34, .mov (.t 6), none, [], []⟩,⟨some 35, .mov (.t 6), none, [], []⟩,⟨some 36, .nck (.t 35), none, [], []⟩,⟨some 37, .fad 0 (.t 36), none, [], []⟩,⟨some 38, .load false 1 (.t 37), none, [], []⟩,⟨some 39, .mov (.t 8), none, [], []⟩,⟨some 40, .bsl 123 1 1 [.k .nilIface] [(0, (.t 39))], none, [], []⟩,⟨some 41, .app 123 1 16 (.t 38) (.t 40), none, [], []⟩,⟨some 42, .nck (.t 34), none, [], []⟩,⟨some 43, .fad 0 (.t 42), none, [], []⟩,⟨none, .store none 1 (.t 43) (.t 41), none, [], []⟩] false) .skip)))) (.region [⟨some 44, .bin .add (.t 28) (.c (.int .i64 1)), none, [], []⟩,⟨some 28, .mov (.t 44), none, [], []⟩] false)))))))) (.seq (.region [⟨some 45, .mov (.t 6), none, [], []⟩,⟨some 46, .mkp 167 (.t 45), none, [], []⟩,⟨some 2, .mov (.t 46), none, [], []⟩] false) .ret)))))))
def i124 : F := ⟨1, 47, j124, [.t 2]⟩
theorem b124 : i124.body = j124 := rfl
theorem q124 : i124.res = [.t 2] := rfl
theorem c124 : chkF Tryz.prog Tryz.f124 i124 = true := by kernel_rfl
theorem s124 {m E} (hE : HE E) (hm : HM i124 m E) : Sound Tryz.prog 124 m := sound_of i124 Tryz.func124 rfl c124 hE hm
def j125 : C := (.seq (.region [⟨some 10, .mov (.c (.k .nilIface)), none, [], []⟩] false) (.seq (.seq (.region [⟨some 11, .mov (.t 1), none, [], []⟩,⟨some 12, .mov (.t 2), none, [], []⟩,⟨some 13, .bin .lss (.t 11) (.t 12), none, [], []⟩,⟨some 14, .mov (.t 13), none, [], []⟩,⟨some 15, .mov (.t 1), some (14, false), [], []⟩,⟨some 16, .mov (.t 3), some (14, false), [], []⟩,⟨some 17, .bin .gtr (.t 15) (.t 16), some (14, false), [], []⟩,⟨some 18, .pick (.t 14) (.c (.bool true)) (.t 17), none, [], []⟩] false) (.cond (.t 18) (.seq (.region [⟨some 19, .mov (.t 0), none, [], []⟩,⟨some 20, .mov (.t 4), none, [], []⟩,⟨some 21, .mki 33 (.t 20), none, [], []⟩,⟨some 22, .build [.k (.string ⟨#[]⟩), .k .nilIface] [(0, 1, (.t 19)), (1, 1, (.t 21))], none, [], []⟩,⟨some 23, .box (.t 22), none, [], []⟩,⟨some 24, .mkp 170 (.t 23), none, [], []⟩,⟨some 10, .mov (.t 24), none, [], []⟩] false) .ret) .skip)) (.seq (.region [⟨some 10, .mov (.c (.k .nilIface)), none, [], []⟩] false) .ret)))
def i125 : F := ⟨5, 25, j125, [.t 10]⟩
theorem b125 : i125.body = j125 := rfl
theorem q125 : i125.res = [.t 10] := rfl
theorem c125 : chkF Tryz.prog Tryz.f125 i125 = true := by kernel_rfl
theorem s125 {m E} (hE : HE E) (hm : HM i125 m E) : Sound Tryz.prog 125 m := sound_of i125 Tryz.func125 rfl c125 hE hm
def j126 : C := (.seq (.region [⟨some 4, .mov (.c (.bool false)), none, [], []⟩] false) (.seq (.seq (.region [⟨some 7, .mov (.t 0), none, [], []⟩,⟨some 8, .len (.t 7), none, [], []⟩,⟨some 9, .mov (.c (.int .i64 0)), none, [], []⟩] false) (.block 0 (.loop (.keep [0, 1, 7, 8, 9] (.seq (.region [⟨some 10, .bin .lss (.t 9) (.t 8), none, [], []⟩] false) (.seq (.cond (.t 10) .skip (.exit 0)) (.seq (.block 1 (.seq (.region [⟨some 11, .mov (.t 9), none, [], []⟩,⟨some 12, .iad 2 (.t 7) (.t 9), none, [], []⟩,⟨some 13, .load true 2 (.t 12), none, [], []⟩,⟨some 6, .alloc [.int .i64 0, .int .i64 0], none, [], []⟩,⟨some 5, .mov (.t 11), none, [], []⟩,⟨none, .store none 2 (.t 6) (.t 13), none, [], []⟩] false) (.seq (.region [⟨some 14, .fad 0 (.t 6), none, [], []⟩,⟨some 15, .load false 1 (.t 14), none, [], []⟩,⟨some 16, .bin .lss (.t 15) (.c (.int .i64 1)), none, [], []⟩,⟨some 17, .mov (.t 16), none, [], []⟩,⟨some 18, .fad 0 (.t 6), some (17, false), [], []⟩,⟨some 19, .load false 1 (.t 18), some (17, false), [], []⟩,⟨some 20, .mov (.t 1), some (17, false), [], []⟩,⟨some 21, .mov (.t 0), some (17, false), [], []⟩,⟨some 22, .len (.t 21), some (17, false), [], []⟩,⟨some 23, .bin .sub (.t 20) (.t 22), some (17, false), [], []⟩,⟨some 24, .mov (.t 5), some (17, false), [], []⟩,⟨some 25, .bin .add (.t 23) (.t 24), some (17, false), [], []⟩,⟨some 26, .bin .neq (.t 19) (.t 25), some (17, false), [], []⟩,⟨some 27, .pick (.t 17) (.c (.bool true)) (.t 26), none, [], []⟩,⟨some 28, .mov (.t 27), none, [], []⟩,⟨some 29, .fad 1 (.t 6), some (28, false), [], []⟩,⟨some 30, .load false 1 (.t 29), some (28, false), [], []⟩,⟨some 31, .call false 51 [(.t 30)], some (28, false), [], []⟩,⟨some 32, .un .not (.t 31), some (28, false), [], []⟩,⟨some 33, .pick (.t 28) (.c (.bool true)) (.t 32), none, [], []⟩] false) (.cond (.t 33) (.seq (.region [⟨some 4, .mov (.c (.bool false)), none, [], []⟩] false) .ret) .skip)))) (.region [⟨some 34, .bin .add (.t 9) (.c (.int .i64 1)), none, [], []⟩,⟨some 9, .mov (.t 34), none, [], []⟩] false)))))))) (.seq (.region [⟨some 4, .mov (.c (.bool true)), none, [], []⟩] false) .ret)))
def i126 : F := ⟨2, 35, j126, [.t 4]⟩
theorem b126 : i126.body = j126 := rfl
theorem q126 : i126.res = [.t 4] := rfl
theorem c126 : chkF Tryz.prog Tryz.f126 i126 = true := by kernel_rfl
theorem s126 {m E} (hE : HE E) (hm : HM i126 m E) : Sound Tryz.prog 126 m := sound_of i126 Tryz.func126 rfl c126 hE hm
def j127 : C := (.seq (.region [⟨some 4, .mov (.c (.int .i64 0)), none, [], []⟩] false) (.seq (.seq (.region [⟨some 6, .mov (.t 0), none, [], []⟩,⟨some 7, .len (.t 6), none, [], []⟩,⟨some 8, .mov (.c (.int .i64 0)), none, [], []⟩] false) (.block 0 (.loop (.keep [0, 1, 7, 8] (.seq (.region [⟨some 9, .bin .lss (.t 8) (.t 7), none, [], []⟩] false) (.seq (.cond (.t 9) .skip (.exit 0)) (.seq (.block 1 (.seq (.region [⟨some 10, .mov (.t 8), none, [], []⟩,⟨some 5, .mov (.t 10), none, [], []⟩] false) (.seq (.region [⟨some 11, .mov (.t 1), none, [], []⟩,⟨some 12, .mov (.t 0), none, [], []⟩,⟨some 13, .mov (.t 5), none, [], []⟩,⟨some 14, .iad 6 (.t 12) (.t 13), none, [], []⟩,⟨some 15, .load true 6 (.t 14), none, [], []⟩,⟨some 16, .callv false (.t 11) [(.t 15)], none, [], []⟩] false) (.cond (.t 16) (.seq (.region [⟨some 17, .mov (.t 5), none, [], []⟩,⟨some 4, .mov (.t 17), none, [], []⟩] false) .ret) .skip)))) (.region [⟨some 18, .bin .add (.t 8) (.c (.int .i64 1)), none, [], []⟩,⟨some 8, .mov (.t 18), none, [], []⟩] false)))))))) (.seq (.region [⟨some 4, .mov (.c (.int .i64 (-1))), none, [], []⟩] false) .ret)))
def i127 : F := ⟨2, 19, j127, [.t 4]⟩
theorem b127 : i127.body = j127 := rfl
theorem q127 : i127.res = [.t 4] := rfl
theorem c127 : chkF Tryz.prog Tryz.f127 i127 = true := by kernel_rfl
theorem s127 {m E} (hE : HE E) (hm : HM i127 m E) : Sound Tryz.prog 127 m := sound_of i127 Tryz.func127 rfl c127 hE hm
def j128 : C := (.seq (.region [⟨some 1, .box (.t 0), none, [], []⟩,⟨some 2, .alloc [.int .i64 0, .int .i64 0, .int .i64 0, .int .i64 0, .int .i64 0, .int .i64 0], none, [], []⟩,⟨some 3, .mov (.c (.bool false)), none, [], []⟩] false) (.seq (.seq (.region [⟨some 4, .fad 0 (.t 1), none, [], []⟩,⟨some 5, .load false 1 (.t 4), none, [], []⟩] false) (.block 0 (.seq (.region [⟨some 7, .bin .eql (.t 5) (.c (.int .i64 1)), none, [], []⟩,⟨some 6, .mov (.t 7), none, [], []⟩] false) (.cond (.t 6) (.seq (.region [⟨some 8, .load true 6 (.t 1), none, [], []⟩,⟨some 9, .call false 144 [(.t 8)], none, [], []⟩,⟨some 10, .mov (.t 9), none, [], []⟩,⟨some 11, .fad 4 (.t 1), some (10, true), [], []⟩,⟨some 12, .load false 1 (.t 11), some (10, true), [], []⟩,⟨some 13, .call false 51 [(.t 12)], some (10, true), [], []⟩,⟨some 14, .pick (.t 10) (.t 13) (.c (.bool false)), none, [], []⟩,⟨some 3, .mov (.t 14), none, [], []⟩] false) (.region [⟨some 15, .fad 1 (.t 1), none, [], []⟩,⟨none, .store none 1 (.t 15) (.c (.int .i64 0)), none, [], []⟩,⟨some 16, .fad 2 (.t 1), none, [], []⟩,⟨none, .store none 1 (.t 16) (.c (.int .i64 0)), none, [], []⟩,⟨some 17, .fad 4 (.t 1), none, [], []⟩,⟨none, .store none 1 (.t 17) (.c (.int .i64 0)), none, [], []⟩] false)) (.seq (.region [⟨some 19, .bin .eql (.t 5) (.c (.int .i64 2)), none, [], []⟩,⟨some 18, .mov (.t 19), none, [], []⟩] false) (.cond (.t 18) (.seq (.region [⟨some 20, .load true 6 (.t 1), none, [], []⟩,⟨some 21, .call false 144 [(.t 20)], none, [], []⟩,⟨some 22, .mov (.t 21), none, [], []⟩,⟨some 23, .fad 3 (.t 1), some (22, true), [], []⟩,⟨some 24, .load false 1 (.t 23), some (22, true), [], []⟩,⟨some 25, .fad 2 (.t 1), some (22, true), [], []⟩,⟨some 26, .load false 1 (.t 25), some (22, true), [], []⟩,⟨some 27, .bin .geq (.t 24) (.t 26), some (22, true), [], []⟩,⟨some 28, .pick (.t 22) (.t 27) (.c (.bool false)), none, [], []⟩,⟨some 29, .mov (.t 28), none, [], []⟩,⟨some 30, .fad 3 (.t 1), some (29, true), [], []⟩,⟨some 31, .load false 1 (.t 30), some (29, true), [], []⟩,⟨some 32, .bin .leq (.t 31) (.c (.int .i64 1073741824)), some (29, true), [], []⟩,⟨some 33, .pick (.t 29) (.t 32) (.c (.bool false)), none, [], []⟩,⟨some 3, .mov (.t 33), none, [], []⟩] false) (.region [⟨some 34, .fad 1 (.t 1), none, [], []⟩,⟨none, .store none 1 (.t 34) (.c (.int .i64 0)), none, [], []⟩,⟨some 35, .fad 2 (.t 1), none, [], []⟩,⟨none, .store none 1 (.t 35) (.c (.int .i64 0)), none, [], []⟩,⟨some 36, .fad 3 (.t 1), none, [], []⟩,⟨none, .store none 1 (.t 36) (.c (.int .i64 0)), none, [], []⟩] false)) (.seq (.region [⟨some 38, .bin .eql (.t 5) (.c (.int .i64 3)), none, [], []⟩,⟨some 37, .mov (.t 38), none, [], []⟩] false) (.cond (.t 37) (.seq (.region [⟨some 39, .fad 5 (.t 1), none, [], []⟩,⟨some 40, .load false 1 (.t 39), none, [], []⟩,⟨some 41, .call false 145 [(.t 40)], none, [], []⟩,⟨some 42, .mov (.t 41), none, [], []⟩,⟨some 43, .fad 4 (.t 1), some (42, true), [], []⟩,⟨some 44, .load false 1 (.t 43), some (42, true), [], []⟩,⟨some 45, .call false 83 [(.t 44)], some (42, true), [], []⟩,⟨some 46, .pick (.t 42) (.t 45) (.c (.bool false)), none, [], []⟩,⟨some 3, .mov (.t 46), none, [], []⟩] false) (.region [⟨some 47, .fad 5 (.t 1), none, [], []⟩,⟨none, .store none 1 (.t 47) (.c (.int .i64 0)), none, [], []⟩,⟨some 48, .fad 4 (.t 1), none, [], []⟩,⟨none, .store none 1 (.t 48) (.c (.int .i64 0)), none, [], []⟩] false)) (.seq (.region [⟨some 50, .bin .eql (.t 5) (.c (.int .i64 4)), none, [], []⟩,⟨some 49, .mov (.t 50), none, [], []⟩] false) (.cond (.t 49) (.seq (.region [⟨some 51, .fad 5 (.t 1), none, [], []⟩,⟨some 52, .load false 1 (.t 51), none, [], []⟩,⟨some 53, .call false 145 [(.t 52)], none, [], []⟩,⟨some 3, .mov (.t 53), none, [], []⟩] false) (.region [⟨some 54, .fad 5 (.t 1), none, [], []⟩,⟨none, .store none 1 (.t 54) (.c (.int .i64 0)), none, [], []⟩] false)) (.seq (.region [⟨some 56, .bin .eql (.t 5) (.c (.int .i64 5)), none, [], []⟩,⟨some 55, .mov (.t 56), none, [], []⟩] false) (.cond (.t 55) (.region [⟨some 3, .mov (.c (.bool true)), none, [], []⟩] false) .skip)))))))))))) (.seq (.region [⟨some 57, .load true 6 (.t 1), none, [], []⟩,⟨some 58, .mov (.t 3), none, [], []⟩,⟨none, .store none 6 (.t 2) (.t 57), none, [], []⟩,⟨some 3, .mov (.t 58), none, [], []⟩] false) .ret)))
def i128 : F := ⟨1, 59, j128, [.c 2 6 true, .t 3]⟩
theorem b128 : i128.body = j128 := rfl
theorem q128 : i128.res = [.c 2 6 true, .t 3] := rfl
theorem c128 : chkF Tryz.prog Tryz.f128 i128 = true := by kernel_rfl
theorem s128 {m E} (hE : HE E) (hm : HM i128 m E) : Sound Tryz.prog 128 m := sound_of i128 Tryz.func128 rfl c128 hE hm
def j129 : C := (.seq (.region [⟨some 6, .mov (.c (.bool false)), none, [], []⟩] false) (.seq (.region [⟨some 12, .mov (.t 0), none, [], []⟩,⟨some 13, .mov (.t 1), none, [], []⟩,⟨some 14, .call false 130 [(.t 12), (.t 13)], none, [], []⟩,⟨some 11, .mov (.t 14), none, [], []⟩,⟨some 15, .ext (.t 11) 0, none, [], []⟩,⟨some 16, .ext (.t 11) 1, none, [], []⟩,⟨some 7, .mov (.t 15), none, [], []⟩,⟨some 8, .mov (.t 16), none, [], []⟩] false) (.seq (.region [⟨some 18, .mov (.t 0), none, [], []⟩,⟨some 19, .mov (.t 2), none, [], []⟩,⟨some 20, .call false 130 [(.t 18), (.t 19)], none, [], []⟩,⟨some 17, .mov (.t 20), none, [], []⟩,⟨some 21, .ext (.t 17) 0, none, [], []⟩,⟨some 22, .ext (.t 17) 1, none, [], []⟩,⟨some 9, .mov (.t 21), none, [], []⟩,⟨some 10, .mov (.t 22), none, [], []⟩] false) (.seq (.region [⟨some 23, .mov (.t 8), none, [], []⟩,⟨some 24, .bin .eql (.t 23) (.c (.int .i64 0)), none, [], []⟩,⟨some 25, .mov (.t 24), none, [], []⟩,⟨some 26, .mov (.t 10), some (25, true), [], []⟩,⟨some 27, .bin .eql (.t 26) (.c (.int .i64 0)), some (25, true), [], []⟩,⟨some 28, .pick (.t 25) (.t 27) (.c (.bool false)), none, [], []⟩,⟨some 29, .mov (.t 28), none, [], []⟩,⟨some 30, .mov (.t 7), some (29, true), [], []⟩,⟨some 31, .mov (.t 9), some (29, true), [], []⟩,⟨some 32, .bin .lss (.t 30) (.t 31), some (29, true), [], []⟩,⟨some 33, .pick (.t 29) (.t 32) (.c (.bool false)), none, [], []⟩,⟨some 6, .mov (.t 33), none, [], []⟩] false) .ret))))
def i129 : F := ⟨3, 34, j129, [.t 6]⟩
theorem b129 : i129.body = j129 := rfl
theorem q129 : i129.res = [.t 6] := rfl
theorem c129 : chkF Tryz.prog Tryz.f129 i129 = true := by kernel_rfl
theorem s129 {m E} (hE : HE E) (hm : HM i129 m E) : Sound Tryz.prog 129 m := sound_of i129 Tryz.func129 rfl c129 hE hm
def j130 : C := (.seq (.region [⟨some 4, .mov (.c (.int .i64 0)), none, [], []⟩,⟨some 5, .mov (.c (.int .i64 0)), none, [], []⟩] false) (.seq (.region [⟨some 10, .mov (.t 0), none, [], []⟩,⟨some 11, .call false 146 [(.t 10)], none, [], []⟩,⟨some 9, .mov (.t 11), none, [], []⟩,⟨some 12, .ext (.t 9) 0, none, [], []⟩,⟨some 13, .ext (.t 9) 1, none, [], []⟩,⟨some 6, .mov (.t 12), none, [], []⟩,⟨some 7, .mov (.t 13), none, [], []⟩] false) (.seq (.seq (.region [⟨some 14, .mov (.t 7), none, [], []⟩,⟨some 15, .bin .neq (.t 14) (.c (.int .i64 0)), none, [], []⟩] false) (.cond (.t 15) (.seq (.region [⟨some 16, .mov (.t 7), none, [], []⟩,⟨some 4, .mov (.c (.int .i64 0)), none, [], []⟩,⟨some 5, .mov (.t 16), none, [], []⟩] false) .ret) .skip)) (.seq (.region [⟨some 18, .mov (.t 1), none, [], []⟩,⟨some 19, .call false 147 [(.t 18)], none, [], []⟩,⟨some 17, .mov (.t 19), none, [], []⟩,⟨some 20, .ext (.t 17) 0, none, [], []⟩,⟨some 21, .ext (.t 17) 1, none, [], []⟩,⟨some 8, .mov (.t 20), none, [], []⟩,⟨some 7, .mov (.t 21), none, [], []⟩] false) (.seq (.seq (.region [⟨some 22, .mov (.t 7), none, [], []⟩,⟨some 23, .bin .neq (.t 22) (.c (.int .i64 0)), none, [], []⟩] false) (.cond (.t 23) (.seq (.region [⟨some 24, .mov (.t 7), none, [], []⟩,⟨some 4, .mov (.c (.int .i64 0)), none, [], []⟩,⟨some 5, .mov (.t 24), none, [], []⟩] false) .ret) .skip)) (.seq (.region [⟨some 25, .mov (.t 6), none, [], []⟩,⟨some 26, .mov (.t 8), none, [], []⟩,⟨some 27, .call false 148 [(.t 25), (.t 26)], none, [], []⟩,⟨some 4, .mov (.t 27), none, [], []⟩,⟨some 5, .mov (.c (.int .i64 0)), none, [], []⟩] false) .ret))))))
def i130 : F := ⟨2, 28, j130, [.t 4, .t 5]⟩
theorem b130 : i130.body = j130 := rfl
theorem q130 : i130.res = [.t 4, .t 5] := rfl
theorem c130 : chkF Tryz.prog Tryz.f130 i130 = true := by kernel_rfl
theorem s130 {m E} (hE : HE E) (hm : HM i130 m E) : Sound Tryz.prog 130 m := sound_of i130 Tryz.func130 rfl c130 hE hm
def j131 : C := (.seq (.region [⟨some 2, .mov (.c (.bool false)), none, [], []⟩] false) (.seq (.region [⟨some 3, .mov (.t 0), none, [], []⟩,⟨some 4, .call false 149 [(.t 3), (.c (.fn 150 []))], none, [], []⟩,⟨some 5, .un .not (.t 4), none, [], []⟩,⟨some 2, .mov (.t 5), none, [], []⟩] false) .ret))
def i131 : F := ⟨1, 6, j131, [.t 2]⟩
theorem b131 : i131.body = j131 := rfl
theorem q131 : i131.res = [.t 2] := rfl
theorem c131 : chkF Tryz.prog Tryz.f131 i131 = true := by kernel_rfl
theorem s131 {m E} (hE : HE E) (hm : HM i131 m E) : Sound Tryz.prog 131 m := sound_of i131 Tryz.func131 rfl c131 hE hm
def j132 : C := (.seq (.region [⟨some 6, .mov (.c (.bool false)), none, [], []⟩] false) (.seq (.seq (.region [⟨some 9, .mov (.t 2), none, [], []⟩,⟨some 10, .len (.t 9), none, [], []⟩,⟨some 11, .mov (.c (.int .i64 0)), none, [], []⟩] false) (.block 0 (.loop (.keep [0, 1, 9, 10, 11] (.seq (.region [⟨some 12, .bin .lss (.t 11) (.t 10), none, [], []⟩] false) (.seq (.cond (.t 12) .skip (.exit 0)) (.seq (.block 1 (.seq (.region [⟨some 13, .iad 1 (.t 9) (.t 11), none, [], []⟩,⟨some 14, .load false 1 (.t 13), none, [], []⟩,⟨some 8, .mov (.t 14), none, [], []⟩] false) (.seq (.seq (.region [⟨some 15, .mov (.t 0), none, [], []⟩,⟨some 16, .mov (.t 8), none, [], []⟩,⟨some 17, .mov (.t 1), none, [], []⟩,⟨some 18, .call false 129 [(.t 15), (.t 16), (.t 17)], none, [], []⟩,⟨some 19, .un .not (.t 18), none, [], []⟩] false) (.cond (.t 19) (.seq (.region [⟨some 6, .mov (.c (.bool false)), none, [], []⟩] false) .ret) .skip)) (.region [⟨some 20, .mov (.t 8), none, [], []⟩,⟨some 1, .mov (.t 20), none, [], []⟩] false)))) (.region [⟨some 21, .bin .add (.t 11) (.c (.int .i64 1)), none, [], []⟩,⟨some 11, .mov (.t 21), none, [], []⟩] false)))))))) (.seq (.region [⟨some 6, .mov (.c (.bool true)), none, [], []⟩] false) .ret)))
def i132 : F := ⟨3, 22, j132, [.t 6]⟩
theorem b132 : i132.body = j132 := rfl
theorem q132 : i132.res = [.t 6] := rfl
theorem c132 : chkF Tryz.prog Tryz.f132 i132 = true := by kernel_rfl
theorem s132 {m E} (hE : HE E) (hm : HM i132 m E) : Sound Tryz.prog 132 m := sound_of i132 Tryz.func132 rfl c132 hE hm
def j133 : C := (.seq (.region [⟨some 5, .box (.t 2), none, [], []⟩,⟨some 6, .mov (.c (.bool false)), none, [], []⟩] false) (.seq (.region [⟨some 7, .mov (.t 0), none, [], []⟩,⟨some 8, .mov (.t 1), none, [], []⟩,⟨some 9, .fad 0 (.t 5), none, [], []⟩,⟨some 10, .load false 1 (.t 9), none, [], []⟩,⟨some 11, .call false 129 [(.t 7), (.t 8), (.t 10)], none, [], []⟩,⟨some 12, .mov (.t 11), none, [], []⟩,⟨some 13, .fad 1 (.t 5), some (12, true), [], []⟩,⟨some 14, .load false 1 (.t 13), some (12, true), [], []⟩,⟨some 15, .call false 46 [(.t 14)], some (12, true), [], []⟩,⟨some 16, .pick (.t 12) (.t 15) (.c (.bool false)), none, [], []⟩,⟨some 17, .mov (.t 16), none, [], []⟩,⟨some 18, .fad 2 (.t 5), some (17, true), [], []⟩,⟨some 19, .load false 1 (.t 18), some (17, true), [], []⟩,⟨some 20, .bin .geq (.t 19) (.c (.int .i64 0)), some (17, true), [], []⟩,⟨some 21, .pick (.t 17) (.t 20) (.c (.bool false)), none, [], []⟩,⟨some 22, .mov (.t 21), none, [], []⟩,⟨some 23, .fad 2 (.t 5), some (22, true), [], []⟩,⟨some 24, .load false 1 (.t 23), some (22, true), [], []⟩,⟨some 25, .bin .leq (.t 24) (.c (.int .i64 6)), some (22, true), [], []⟩,⟨some 26, .pick (.t 22) (.t 25) (.c (.bool false)), none, [], []⟩,⟨some 6, .mov (.t 26), none, [], []⟩] false) .ret))
def i133 : F := ⟨3, 27, j133, [.t 6]⟩
theorem b133 : i133.body = j133 := rfl
theorem q133 : i133.res = [.t 6] := rfl
theorem c133 : chkF Tryz.prog Tryz.f133 i133 = true := by kernel_rfl
theorem s133 {m E} (hE : HE E) (hm : HM i133 m E) : Sound Tryz.prog 133 m := sound_of i133 Tryz.func133 rfl c133 hE hm
def j137 : C := (.seq (.region [⟨some 1, .box (.t 0), none, [], []⟩,⟨some 2, .alloc [.int .i64 0, .int .i64 0, .int .i64 0, .int .i64 0, .int .i64 0, .int .i64 0], none, [], []⟩,⟨some 3, .mov (.c (.bool false)), none, [], []⟩] false) (.seq (.seq (.region [⟨some 4, .fad 0 (.t 1), none, [], []⟩,⟨some 5, .load false 1 (.t 4), none, [], []⟩] false) (.block 0 (.seq (.region [⟨some 7, .bin .eql (.t 5) (.c (.int .i64 1)), none, [], []⟩,⟨some 6, .mov (.t 7), none, [], []⟩] false) (.cond (.t 6) (.seq (.region [⟨some 8, .fad 1 (.t 1), none, [], []⟩,⟨some 9, .load false 1 (.t 8), none, [], []⟩,⟨some 10, .fad 2 (.t 1), none, [], []⟩,⟨some 11, .load false 1 (.t 10), none, [], []⟩,⟨some 12, .fad 2 (.t 1), none, [], []⟩,⟨some 13, .load false 1 (.t 12), none, [], []⟩,⟨some 14, .build [.int .i64 0, .int .i64 0, .int .i64 0, .int .i64 0, .int .i64 0, .int .i64 0] [(0, 1, (.c (.int .i64 2))), (1, 1, (.t 9)), (2, 1, (.t 11)), (3, 1, (.t 13))], none, [], []⟩,⟨none, .store none 6 (.t 2) (.t 14), none, [], []⟩,⟨some 3, .mov (.c (.bool true)), none, [], []⟩] false) .ret) (.seq (.region [⟨some 16, .bin .eql (.t 5) (.c (.int .i64 2)), none, [], []⟩,⟨some 15, .mov (.t 16), none, [], []⟩] false) (.cond (.t 15) (.seq (.region [⟨some 17, .load true 6 (.t 1), none, [], []⟩,⟨none, .store none 6 (.t 2) (.t 17), none, [], []⟩,⟨some 3, .mov (.c (.bool true)), none, [], []⟩] false) .ret) .skip)))))) (.seq (.region [⟨some 18, .build [.int .i64 0, .int .i64 0, .int .i64 0, .int .i64 0, .int .i64 0, .int .i64 0] [], none, [], []⟩,⟨none, .store none 6 (.t 2) (.t 18), none, [], []⟩,⟨some 3, .mov (.c (.bool false)), none, [], []⟩] false) .ret)))
def i137 : F := ⟨1, 19, j137, [.c 2 6 true, .t 3]⟩
theorem b137 : i137.body = j137 := rfl
theorem q137 : i137.res = [.c 2 6 true, .t 3] := rfl
theorem c137 : chkF Tryz.prog Tryz.f137 i137 = true := by kernel_rfl
theorem s137 {m E} (hE : HE E) (hm : HM i137 m E) : Sound Tryz.prog 137 m := sound_of i137 Tryz.func137 rfl c137 hE hm
def j144 : C := (.seq (.region [⟨some 1, .box (.t 0), none, [], []⟩,⟨some 2, .mov (.c (.bool false)), none, [], []⟩] false) (.seq (.region [⟨some 3, .fad 1 (.t 1), none, [], []⟩,⟨some 4, .load false 1 (.t 3), none, [], []⟩,⟨some 5, .call false 45 [(.t 4)], none, [], []⟩,⟨some 6, .bin .eql (.t 5) (.c (.int .i64 0)), none, [], []⟩,⟨some 7, .mov (.t 6), none, [], []⟩,⟨some 8, .fad 2 (.t 1), some (7, true), [], []⟩,⟨some 9, .load false 1 (.t 8), some (7, true), [], []⟩,⟨some 10, .call false 46 [(.t 9)], some (7, true), [], []⟩,⟨some 11, .pick (.t 7) (.t 10) (.c (.bool false)), none, [], []⟩,⟨some 2, .mov (.t 11), none, [], []⟩] false) .ret))
def i144 : F := ⟨1, 12, j144, [.t 2]⟩
theorem b144 : i144.body = j144 := rfl
theorem q144 : i144.res = [.t 2] := rfl
theorem c144 : chkF Tryz.prog Tryz.f144 i144 = true := by kernel_rfl
theorem s144 {m E} (hE : HE E) (hm : HM i144 m E) : Sound Tryz.prog 144 m := sound_of i144 Tryz.func144 rfl c144 hE hm
def j145 : C := (.seq (.region [⟨some 2, .mov (.c (.bool false)), none, [], []⟩] false) (.seq (.region [⟨some 3, .mov (.t 0), none, [], []⟩,⟨some 4, .bin .geq (.t 3) (.c (.int .i64 1)), none, [], []⟩,⟨some 5, .mov (.t 4), none, [], []⟩,⟨some 6, .mov (.t 0), some (5, true), [], []⟩,⟨some 7, .bin .leq (.t 6) (.c (.int .i64 40)), some (5, true), [], []⟩,⟨some 8, .pick (.t 5) (.t 7) (.c (.bool false)), none, [], []⟩,⟨some 2, .mov (.t 8), none, [], []⟩] false) .ret))
def i145 : F := ⟨1, 9, j145, [.t 2]⟩
theorem b145 : i145.body = j145 := rfl
theorem q145 : i145.res = [.t 2] := rfl
theorem c145 : chkF Tryz.prog Tryz.f145 i145 = true := by kernel_rfl
theorem s145 {m E} (hE : HE E) (hm : HM i145 m E) : Sound Tryz.prog 145 m := sound_of i145 Tryz.func145 rfl c145 hE hm
def j146 : C := (.seq (.region [⟨some 2, .mov (.c (.int .i64 0)), none, [], []⟩,⟨some 3, .mov (.c (.int .i64 0)), none, [], []⟩] false) (.seq (.seq (.region [⟨some 4, .mov (.t 0), none, [], []⟩,⟨some 5, .call false 115 [(.t 4), (.c (.int .i64 4))], none, [], []⟩,⟨some 6, .un .not (.t 5), none, [], []⟩] false) (.cond (.t 6) (.seq (.region [⟨some 2, .mov (.c (.int .i64 0)), none, [], []⟩,⟨some 3, .mov (.c (.int .i64 1)), none, [], []⟩] false) .ret) .skip)) (.seq (.region [⟨some 7, .call false 155 [], none, [], []⟩,⟨some 8, .mov (.t 0), none, [], []⟩,⟨some 9, .idx false 1 4 (.t 7) (.t 8), none, [], []⟩,⟨some 2, .mov (.t 9), none, [], []⟩,⟨some 3, .mov (.c (.int .i64 0)), none, [], []⟩] false) .ret)))
def i146 : F := ⟨1, 10, j146, [.t 2, .t 3]⟩
theorem b146 : i146.body = j146 := rfl
theorem q146 : i146.res = [.t 2, .t 3] := rfl
theorem c146 : chkF Tryz.prog Tryz.f146 i146 = true := by kernel_rfl
theorem s146 {m E} (hE : HE E) (hm : HM i146 m E) : Sound Tryz.prog 146 m := sound_of i146 Tryz.func146 rfl c146 hE hm
def j147 : C := (.seq (.region [⟨some 2, .mov (.c (.int .i64 0)), none, [], []⟩,⟨some 3, .mov (.c (.int .i64 0)), none, [], []⟩] false) (.seq (.seq (.region [⟨some 4, .mov (.t 0), none, [], []⟩,⟨some 5, .call false 83 [(.t 4)], none, [], []⟩,⟨some 6, .un .not (.t 5), none, [], []⟩] false) (.cond (.t 6) (.seq (.region [⟨some 2, .mov (.c (.int .i64 0)), none, [], []⟩,⟨some 3, .mov (.c (.int .i64 1)), none, [], []⟩] false) .ret) .skip)) (.seq (.region [⟨some 7, .call false 156 [], none, [], []⟩,⟨some 8, .mov (.t 0), none, [], []⟩,⟨some 9, .idx false 1 8 (.t 7) (.t 8), none, [], []⟩,⟨some 2, .mov (.t 9), none, [], []⟩,⟨some 3, .mov (.c (.int .i64 0)), none, [], []⟩] false) .ret)))
def i147 : F := ⟨1, 10, j147, [.t 2, .t 3]⟩
theorem b147 : i147.body = j147 := rfl
theorem q147 : i147.res = [.t 2, .t 3] := rfl
theorem c147 : chkF Tryz.prog Tryz.f147 i147 = true := by kernel_rfl
theorem s147 {m E} (hE : HE E) (hm : HM i147 m E) : Sound Tryz.prog 147 m := sound_of i147 Tryz.func147 rfl c147 hE hm
def j148 : C := (.seq (.region [⟨some 4, .mov (.c (.int .i64 0)), none, [], []⟩] false) (.seq (.region [⟨some 6, .mov (.t 1), none, [], []⟩,⟨some 7, .mov (.t 0), none, [], []⟩,⟨some 8, .bin .sub (.t 6) (.t 7), none, [], []⟩,⟨some 5, .mov (.t 8), none, [], []⟩] false) (.seq (.seq (.region [⟨some 9, .mov (.t 5), none, [], []⟩,⟨some 10, .bin .lss (.t 9) (.c (.int .i64 0)), none, [], []⟩] false) (.cond (.t 10) (.region [⟨some 11, .mov (.t 5), none, [], []⟩,⟨some 12, .bin .add (.t 11) (.c (.int .i64 4611686018427387904)), none, [], []⟩,⟨some 5, .mov (.t 12), none, [], []⟩] false) .skip)) (.seq (.region [⟨some 13, .mov (.t 5), none, [], []⟩,⟨some 4, .mov (.t 13), none, [], []⟩] false) .ret))))
def i148 : F := ⟨2, 14, j148, [.t 4]⟩
theorem b148 : i148.body = j148 := rfl
theorem q148 : i148.res = [.t 4] := rfl
theorem c148 : chkF Tryz.prog Tryz.f148 i148 = true := by kernel_rfl
theorem s148 {m E} (hE : HE E) (hm : HM i148 m E) : Sound Tryz.prog 148 m := sound_of i148 Tryz.func148 rfl c148 hE hm
def j149 : C := (.seq (.region [⟨some 4, .mov (.c (.bool false)), none, [], []⟩] false) (.seq (.region [⟨some 5, .mov (.t 0), none, [], []⟩,⟨some 6, .mov (.t 1), none, [], []⟩,⟨some 7, .call false 157 [(.t 5), (.t 6)], none, [], []⟩,⟨some 8, .bin .geq (.t 7) (.c (.int .i64 0)), none, [], []⟩,⟨some 4, .mov (.t 8), none, [], []⟩] false) .ret))
def i149 : F := ⟨2, 9, j149, [.t 4]⟩
theorem b149 : i149.body = j149 := rfl
theorem q149 : i149.res = [.t 4] := rfl
theorem c149 : chkF Tryz.prog Tryz.f149 i149 = true := by kernel_rfl
theorem s149 {m E} (hE : HE E) (hm : HM i149 m E) : Sound Tryz.prog 149 m := sound_of i149 Tryz.func149 rfl c149 hE hm
def j150 : C := (.seq (.region [⟨some 2, .mov (.c (.bool false)), none, [], []⟩] false) (.seq (.region [⟨some 3, .mov (.t 0), none, [], []⟩,⟨some 4, .call false 83 [(.t 3)], none, [], []⟩,⟨some 5, .un .not (.t 4), none, [], []⟩,⟨some 2, .mov (.t 5), none, [], []⟩] false) .ret))
def i150 : F := ⟨1, 6, j150, [.t 2]⟩
theorem b150 : i150.body = j150 := rfl
theorem q150 : i150.res = [.t 2] := rfl
theorem c150 : chkF Tryz.prog Tryz.f150 i150 = true := by kernel_rfl
theorem s150 {m E} (hE : HE E) (hm : HM i150 m E) : Sound Tryz.prog 150 m := sound_of i150 Tryz.func150 rfl c150 hE hm
def j155 : C := (.seq (.region [⟨some 0, .alloc [.int .i64 0, .int .i64 0, .int .i64 0, .int .i64 0], none, [], []⟩] false) (.seq (.region [⟨some 1, .build [.int .i64 0, .int .i64 0, .int .i64 0, .int .i64 0] [(0, 1, (.c (.int .i64 1462484242049070477))), (1, 1, (.c (.int .i64 1775212608919665246))), (2, 1, (.c (.int .i64 3535639072113518480))), (3, 1, (.c (.int .i64 3725500155902745375)))], none, [], []⟩,⟨none, .store none 4 (.t 0) (.t 1), none, [], []⟩] false) .ret))
def i155 : F := ⟨0, 2, j155, [.c 0 4 true]⟩
theorem c155 : chkF Tryz.prog Tryz.f155 i155 = true := by kernel_rfl
theorem s155 {m E} (hE : HE E) (hm : HM i155 m E) : Sound Tryz.prog 155 m := sound_of i155 Tryz.func155 rfl c155 hE hm
def j156 : C := (.seq (.region [⟨some 0, .alloc [.int .i64 0, .int .i64 0, .int .i64 0, .int .i64 0, .int .i64 0, .int .i64 0, .int .i64 0, .int .i64 0], none, [], []⟩] false) (.seq (.region [⟨some 1, .build [.int .i64 0, .int .i64 0, .int .i64 0, .int .i64 0, .int .i64 0, .int .i64 0, .int .i64 0, .int .i64 0] [(0, 1, (.c (.int .i64 2342812313538366385))), (1, 1, (.c (.int .i64 1863050908023769503))), (2, 1, (.c (.int .i64 81111313352671826))), (3, 1, (.c (.int .i64 2434324899588211290))), (4, 1, (.c (.int .i64 2454816673080883147))), (5, 1, (.c (.int .i64 1342378062264523301))), (6, 1, (.c (.int .i64 820659310660760249))), (7, 1, (.c (.int .i64 2006264061484817761)))], none, [], []⟩,⟨none, .store none 8 (.t 0) (.t 1), none, [], []⟩] false) .ret))
def i156 : F := ⟨0, 2, j156, [.c 0 8 true]⟩
theorem c156 : chkF Tryz.prog Tryz.f156 i156 = true := by kernel_rfl
theorem s156 {m E} (hE : HE E) (hm : HM i156 m E) : Sound Tryz.prog 156 m := sound_of i156 Tryz.func156 rfl c156 hE hm
def j157 : C := (.seq (.region [⟨some 4, .mov (.c (.int .i64 0)), none, [], []⟩] false) (.seq (.seq (.region [⟨some 6, .mov (.t 0), none, [], []⟩,⟨some 7, .len (.t 6), none, [], []⟩,⟨some 8, .mov (.c (.int .i64 0)), none, [], []⟩] false) (.block 0 (.loop (.keep [0, 1, 7, 8] (.seq (.region [⟨some 9, .bin .lss (.t 8) (.t 7), none, [], []⟩] false) (.seq (.cond (.t 9) .skip (.exit 0)) (.seq (.block 1 (.seq (.region [⟨some 10, .mov (.t 8), none, [], []⟩,⟨some 5, .mov (.t 10), none, [], []⟩] false) (.seq (.region [⟨some 11, .mov (.t 1), none, [], []⟩,⟨some 12, .mov (.t 0), none, [], []⟩,⟨some 13, .mov (.t 5), none, [], []⟩,⟨some 14, .iad 1 (.t 12) (.t 13), none, [], []⟩,⟨some 15, .load false 1 (.t 14), none, [], []⟩,⟨some 16, .callv false (.t 11) [(.t 15)], none, [], []⟩] false) (.cond (.t 16) (.seq (.region [⟨some 17, .mov (.t 5), none, [], []⟩,⟨some 4, .mov (.t 17), none, [], []⟩] false) .ret) .skip)))) (.region [⟨some 18, .bin .add (.t 8) (.c (.int .i64 1)), none, [], []⟩,⟨some 8, .mov (.t 18), none, [], []⟩] false)))))))) (.seq (.region [⟨some 4, .mov (.c (.int .i64 (-1))), none, [], []⟩] false) .ret)))
def i157 : F := ⟨2, 19, j157, [.t 4]⟩
theorem b157 : i157.body = j157 := rfl
theorem q157 : i157.res = [.t 4] := rfl
theorem c157 : chkF Tryz.prog Tryz.f157 i157 = true := by kernel_rfl
theorem s157 {m E} (hE : HE E) (hm : HM i157 m E) : Sound Tryz.prog 157 m := sound_of i157 Tryz.func157 rfl c157 hE hm
def xt : List (Nat × Model) := [(85, cloneM 29 2 16), (86, cloneM 96 6 48), (93, XI.insM 29 2 16), (96, XE.errnoM), (105, cloneM 3 1 8), (106, cloneM 79 3 24)]
def tb : List (Nat × F) := [(9, i9), (10, i10), (11, i11), (13, i13), (16, i16), (17, i17), (21, i21), (24, i24), (25, i25), (26, i26), (29, i29), (30, i30), (31, i31), (32, i32), (33, i33), (34, i34), (35, i35), (36, i36), (37, i37), (38, i38), (39, i39), (41, i41), (42, i42), (43, i43), (44, i44), (45, i45), (46, i46), (47, i47), (48, i48), (49, i49), (50, i50), (51, i51), (52, i52), (53, i53), (54, i54), (55, i55), (56, i56), (62, i62), (63, i63), (64, i64), (65, i65), (66, i66), (67, i67), (69, i69), (70, i70), (71, i71), (72, i72), (73, i73), (74, i74), (75, i75), (76, i76), (77, i77), (78, i78), (79, i79), (80, i80), (83, i83), (84, i84), (87, i87), (88, i88), (89, i89), (90, i90), (91, i91), (92, i92), (94, i94), (97, i97), (98, i98), (99, i99), (100, i100), (101, i101), (102, i102), (103, i103), (104, i104), (107, i107), (108, i108), (109, i109), (110, i110), (111, i111), (115, i115), (116, i116), (117, i117), (120, i120), (124, i124), (125, i125), (126, i126), (127, i127), (128, i128), (129, i129), (130, i130), (131, i131), (132, i132), (133, i133), (137, i137), (144, i144), (145, i145), (146, i146), (147, i147), (148, i148), (149, i149), (150, i150), (155, i155), (156, i156), (157, i157)]
theorem xt_ok : ∀ p ∈ xt, Sound Tryz.prog p.1 p.2 := all_cons x85 (all_cons x86 (all_cons x93 (all_cons x96 (all_cons x105 (all_cons x106 (all_nil))))))
theorem tb_ok (N : Nat) : ∀ p ∈ tb, ∀ E : Nat → Model, (∀ f, Sound Tryz.prog f (E f)) → Sound Tryz.prog p.1 (p.2.ev E N) := all_cons (fun E hE => s9 hE fun _ _ h => ⟨N, h⟩) (all_cons (fun E hE => s10 hE fun _ _ h => ⟨N, h⟩) (all_cons (fun E hE => s11 hE fun _ _ h => ⟨N, h⟩) (all_cons (fun E hE => s13 hE fun _ _ h => ⟨N, h⟩) (all_cons (fun E hE => s16 hE fun _ _ h => ⟨N, h⟩) (all_cons (fun E hE => s17 hE fun _ _ h => ⟨N, h⟩) (all_cons (fun E hE => s21 hE fun _ _ h => ⟨N, h⟩) (all_cons (fun E hE => s24 hE fun _ _ h => ⟨N, h⟩) (all_cons (fun E hE => s25 hE fun _ _ h => ⟨N, h⟩) (all_cons (fun E hE => s26 hE fun _ _ h => ⟨N, h⟩) (all_cons (fun E hE => s29 hE fun _ _ h => ⟨N, h⟩) (all_cons (fun E hE => s30 hE fun _ _ h => ⟨N, h⟩) (all_cons (fun E hE => s31 hE fun _ _ h => ⟨N, h⟩) (all_cons (fun E hE => s32 hE fun _ _ h => ⟨N, h⟩) (all_cons (fun E hE => s33 hE fun _ _ h => ⟨N, h⟩) (all_cons (fun E hE => s34 hE fun _ _ h => ⟨N, h⟩) (all_cons (fun E hE => s35 hE fun _ _ h => ⟨N, h⟩) (all_cons (fun E hE => s36 hE fun _ _ h => ⟨N, h⟩) (all_cons (fun E hE => s37 hE fun _ _ h => ⟨N, h⟩) (all_cons (fun E hE => s38 hE fun _ _ h => ⟨N, h⟩) (all_cons (fun E hE => s39 hE fun _ _ h => ⟨N, h⟩) (all_cons (fun E hE => s41 hE fun _ _ h => ⟨N, h⟩) (all_cons (fun E hE => s42 hE fun _ _ h => ⟨N, h⟩) (all_cons (fun E hE => s43 hE fun _ _ h => ⟨N, h⟩) (all_cons (fun E hE => s44 hE fun _ _ h => ⟨N, h⟩) (all_cons (fun E hE => s45 hE fun _ _ h => ⟨N, h⟩) (all_cons (fun E hE => s46 hE fun _ _ h => ⟨N, h⟩) (all_cons (fun E hE => s47 hE fun _ _ h => ⟨N, h⟩) (all_cons (fun E hE => s48 hE fun _ _ h => ⟨N, h⟩) (all_cons (fun E hE => s49 hE fun _ _ h => ⟨N, h⟩) (all_cons (fun E hE => s50 hE fun _ _ h => ⟨N, h⟩) (all_cons (fun E hE => s51 hE fun _ _ h => ⟨N, h⟩) (all_cons (fun E hE => s52 hE fun _ _ h => ⟨N, h⟩) (all_cons (fun E hE => s53 hE fun _ _ h => ⟨N, h⟩) (all_cons (fun E hE => s54 hE fun _ _ h => ⟨N, h⟩) (all_cons (fun E hE => s55 hE fun _ _ h => ⟨N, h⟩) (all_cons (fun E hE => s56 hE fun _ _ h => ⟨N, h⟩) (all_cons (fun E hE => s62 hE fun _ _ h => ⟨N, h⟩) (all_cons (fun E hE => s63 hE fun _ _ h => ⟨N, h⟩) (all_cons (fun E hE => s64 hE fun _ _ h => ⟨N, h⟩) (all_cons (fun E hE => s65 hE fun _ _ h => ⟨N, h⟩) (all_cons (fun E hE => s66 hE fun _ _ h => ⟨N, h⟩) (all_cons (fun E hE => s67 hE fun _ _ h => ⟨N, h⟩) (all_cons (fun E hE => s69 hE fun _ _ h => ⟨N, h⟩) (all_cons (fun E hE => s70 hE fun _ _ h => ⟨N, h⟩) (all_cons (fun E hE => s71 hE fun _ _ h => ⟨N, h⟩) (all_cons (fun E hE => s72 hE fun _ _ h => ⟨N, h⟩) (all_cons (fun E hE => s73 hE fun _ _ h => ⟨N, h⟩) (all_cons (fun E hE => s74 hE fun _ _ h => ⟨N, h⟩) (all_cons (fun E hE => s75 hE fun _ _ h => ⟨N, h⟩) (all_cons (fun E hE => s76 hE fun _ _ h => ⟨N, h⟩) (all_cons (fun E hE => s77 hE fun _ _ h => ⟨N, h⟩) (all_cons (fun E hE => s78 hE fun _ _ h => ⟨N, h⟩) (all_cons (fun E hE => s79 hE fun _ _ h => ⟨N, h⟩) (all_cons (fun E hE => s80 hE fun _ _ h => ⟨N, h⟩) (all_cons (fun E hE => s83 hE fun _ _ h => ⟨N, h⟩) (all_cons (fun E hE => s84 hE fun _ _ h => ⟨N, h⟩) (all_cons (fun E hE => s87 hE fun _ _ h => ⟨N, h⟩) (all_cons (fun E hE => s88 hE fun _ _ h => ⟨N, h⟩) (all_cons (fun E hE => s89 hE fun _ _ h => ⟨N, h⟩) (all_cons (fun E hE => s90 hE fun _ _ h => ⟨N, h⟩) (all_cons (fun E hE => s91 hE fun _ _ h => ⟨N, h⟩) (all_cons (fun E hE => s92 hE fun _ _ h => ⟨N, h⟩) (all_cons (fun E hE => s94 hE fun _ _ h => ⟨N, h⟩) (all_cons (fun E hE => s97 hE fun _ _ h => ⟨N, h⟩) (all_cons (fun E hE => s98 hE fun _ _ h => ⟨N, h⟩) (all_cons (fun E hE => s99 hE fun _ _ h => ⟨N, h⟩) (all_cons (fun E hE => s100 hE fun _ _ h => ⟨N, h⟩) (all_cons (fun E hE => s101 hE fun _ _ h => ⟨N, h⟩) (all_cons (fun E hE => s102 hE fun _ _ h => ⟨N, h⟩) (all_cons (fun E hE => s103 hE fun _ _ h => ⟨N, h⟩) (all_cons (fun E hE => s104 hE fun _ _ h => ⟨N, h⟩) (all_cons (fun E hE => s107 hE fun _ _ h => ⟨N, h⟩) (all_cons (fun E hE => s108 hE fun _ _ h => ⟨N, h⟩) (all_cons (fun E hE => s109 hE fun _ _ h => ⟨N, h⟩) (all_cons (fun E hE => s110 hE fun _ _ h => ⟨N, h⟩) (all_cons (fun E hE => s111 hE fun _ _ h => ⟨N, h⟩) (all_cons (fun E hE => s115 hE fun _ _ h => ⟨N, h⟩) (all_cons (fun E hE => s116 hE fun _ _ h => ⟨N, h⟩) (all_cons (fun E hE => s117 hE fun _ _ h => ⟨N, h⟩) (all_cons (fun E hE => s120 hE fun _ _ h => ⟨N, h⟩) (all_cons (fun E hE => s124 hE fun _ _ h => ⟨N, h⟩) (all_cons (fun E hE => s125 hE fun _ _ h => ⟨N, h⟩) (all_cons (fun E hE => s126 hE fun _ _ h => ⟨N, h⟩) (all_cons (fun E hE => s127 hE fun _ _ h => ⟨N, h⟩) (all_cons (fun E hE => s128 hE fun _ _ h => ⟨N, h⟩) (all_cons (fun E hE => s129 hE fun _ _ h => ⟨N, h⟩) (all_cons (fun E hE => s130 hE fun _ _ h => ⟨N, h⟩) (all_cons (fun E hE => s131 hE fun _ _ h => ⟨N, h⟩) (all_cons (fun E hE => s132 hE fun _ _ h => ⟨N, h⟩) (all_cons (fun E hE => s133 hE fun _ _ h => ⟨N, h⟩) (all_cons (fun E hE => s137 hE fun _ _ h => ⟨N, h⟩) (all_cons (fun E hE => s144 hE fun _ _ h => ⟨N, h⟩) (all_cons (fun E hE => s145 hE fun _ _ h => ⟨N, h⟩) (all_cons (fun E hE => s146 hE fun _ _ h => ⟨N, h⟩) (all_cons (fun E hE => s147 hE fun _ _ h => ⟨N, h⟩) (all_cons (fun E hE => s148 hE fun _ _ h => ⟨N, h⟩) (all_cons (fun E hE => s149 hE fun _ _ h => ⟨N, h⟩) (all_cons (fun E hE => s150 hE fun _ _ h => ⟨N, h⟩) (all_cons (fun E hE => s155 hE fun _ _ h => ⟨N, h⟩) (all_cons (fun E hE => s156 hE fun _ _ h => ⟨N, h⟩) (all_cons (fun E hE => s157 hE fun _ _ h => ⟨N, h⟩) (all_nil))))))))))))))))))))))))))))))))))))))))))))))))))))))))))))))))))))))))))))))))))))))))))))))))))))))
abbrev TT := T xt tb
theorem TT_ok (N d f : Nat) : Sound Tryz.prog f (TT N d f) := T_ok xt_ok (tb_ok N) d f
theorem t9 (N d : Nat) : TT N (d + 1) 9 = i9.ev (TT N d) N := rfl
theorem t10 (N d : Nat) : TT N (d + 1) 10 = i10.ev (TT N d) N := rfl
theorem t11 (N d : Nat) : TT N (d + 1) 11 = i11.ev (TT N d) N := rfl
theorem t13 (N d : Nat) : TT N (d + 1) 13 = i13.ev (TT N d) N := rfl
theorem t16 (N d : Nat) : TT N (d + 1) 16 = i16.ev (TT N d) N := rfl
theorem t17 (N d : Nat) : TT N (d + 1) 17 = i17.ev (TT N d) N := rfl
theorem t21 (N d : Nat) : TT N (d + 1) 21 = i21.ev (TT N d) N := rfl
theorem t24 (N d : Nat) : TT N (d + 1) 24 = i24.ev (TT N d) N := rfl
theorem t25 (N d : Nat) : TT N (d + 1) 25 = i25.ev (TT N d) N := rfl
theorem t26 (N d : Nat) : TT N (d + 1) 26 = i26.ev (TT N d) N := rfl
theorem t29 (N d : Nat) : TT N (d + 1) 29 = i29.ev (TT N d) N := rfl
theorem t30 (N d : Nat) : TT N (d + 1) 30 = i30.ev (TT N d) N := rfl
theorem t31 (N d : Nat) : TT N (d + 1) 31 = i31.ev (TT N d) N := rfl
theorem t32 (N d : Nat) : TT N (d + 1) 32 = i32.ev (TT N d) N := rfl
theorem t33 (N d : Nat) : TT N (d + 1) 33 = i33.ev (TT N d) N := rfl
theorem t34 (N d : Nat) : TT N (d + 1) 34 = i34.ev (TT N d) N := rfl
theorem t35 (N d : Nat) : TT N (d + 1) 35 = i35.ev (TT N d) N := rfl
theorem t37 (N d : Nat) : TT N (d + 1) 37 = i37.ev (TT N d) N := rfl
theorem t38 (N d : Nat) : TT N (d + 1) 38 = i38.ev (TT N d) N := rfl
theorem t39 (N d : Nat) : TT N (d + 1) 39 = i39.ev (TT N d) N := rfl
theorem t41 (N d : Nat) : TT N (d + 1) 41 = i41.ev (TT N d) N := rfl
theorem t42 (N d : Nat) : TT N (d + 1) 42 = i42.ev (TT N d) N := rfl
theorem t44 (N d : Nat) : TT N (d + 1) 44 = i44.ev (TT N d) N := rfl
theorem t45 (N d : Nat) : TT N (d + 1) 45 = i45.ev (TT N d) N := rfl
theorem t46 (N d : Nat) : TT N (d + 1) 46 = i46.ev (TT N d) N := rfl
theorem t47 (N d : Nat) : TT N (d + 1) 47 = i47.ev (TT N d) N := rfl
theorem t48 (N d : Nat) : TT N (d + 1) 48 = i48.ev (TT N d) N := rfl
theorem t49 (N d : Nat) : TT N (d + 1) 49 = i49.ev (TT N d) N := rfl
theorem t50 (N d : Nat) : TT N (d + 1) 50 = i50.ev (TT N d) N := rfl
theorem t51 (N d : Nat) : TT N (d + 1) 51 = i51.ev (TT N d) N := rfl
theorem t52 (N d : Nat) : TT N (d + 1) 52 = i52.ev (TT N d) N := rfl
theorem t53 (N d : Nat) : TT N (d + 1) 53 = i53.ev (TT N d) N := rfl
theorem t54 (N d : Nat) : TT N (d + 1) 54 = i54.ev (TT N d) N := rfl
theorem t55 (N d : Nat) : TT N (d + 1) 55 = i55.ev (TT N d) N := rfl
theorem t56 (N d : Nat) : TT N (d + 1) 56 = i56.ev (TT N d) N := rfl
theorem t62 (N d : Nat) : TT N (d + 1) 62 = i62.ev (TT N d) N := rfl
theorem t63 (N d : Nat) : TT N (d + 1) 63 = i63.ev (TT N d) N := rfl
theorem t64 (N d : Nat) : TT N (d + 1) 64 = i64.ev (TT N d) N := rfl
theorem t65 (N d : Nat) : TT N (d + 1) 65 = i65.ev (TT N d) N := rfl
theorem t66 (N d : Nat) : TT N (d + 1) 66 = i66.ev (TT N d) N := rfl
theorem t67 (N d : Nat) : TT N (d + 1) 67 = i67.ev (TT N d) N := rfl
theorem t69 (N d : Nat) : TT N (d + 1) 69 = i69.ev (TT N d) N := rfl
theorem t70 (N d : Nat) : TT N (d + 1) 70 = i70.ev (TT N d) N := rfl
theorem t71 (N d : Nat) : TT N (d + 1) 71 = i71.ev (TT N d) N := rfl
theorem t72 (N d : Nat) : TT N (d + 1) 72 = i72.ev (TT N d) N := rfl
theorem t73 (N d : Nat) : TT N (d + 1) 73 = i73.ev (TT N d) N := rfl
theorem t74 (N d : Nat) : TT N (d + 1) 74 = i74.ev (TT N d) N := rfl
theorem t75 (N d : Nat) : TT N (d + 1) 75 = i75.ev (TT N d) N := rfl
theorem t76 (N d : Nat) : TT N (d + 1) 76 = i76.ev (TT N d) N := rfl
theorem t77 (N d : Nat) : TT N (d + 1) 77 = i77.ev (TT N d) N := rfl
theorem t78 (N d : Nat) : TT N (d + 1) 78 = i78.ev (TT N d) N := rfl
theorem t79 (N d : Nat) : TT N (d + 1) 79 = i79.ev (TT N d) N := rfl
theorem t80 (N d : Nat) : TT N (d + 1) 80 = i80.ev (TT N d) N := rfl
theorem t83 (N d : Nat) : TT N (d + 1) 83 = i83.ev (TT N d) N := rfl
theorem t84 (N d : Nat) : TT N (d + 1) 84 = i84.ev (TT N d) N := rfl
theorem t87 (N d : Nat) : TT N (d + 1) 87 = i87.ev (TT N d) N := rfl
theorem t88 (N d : Nat) : TT N (d + 1) 88 = i88.ev (TT N d) N := rfl
theorem t89 (N d : Nat) : TT N (d + 1) 89 = i89.ev (TT N d) N := rfl
theorem t90 (N d : Nat) : TT N (d + 1) 90 = i90.ev (TT N d) N := rfl
theorem t91 (N d : Nat) : TT N (d + 1) 91 = i91.ev (TT N d) N := rfl
theorem t92 (N d : Nat) : TT N (d + 1) 92 = i92.ev (TT N d) N := rfl
theorem t94 (N d : Nat) : TT N (d + 1) 94 = i94.ev (TT N d) N := rfl
theorem t97 (N d : Nat) : TT N (d + 1) 97 = i97.ev (TT N d) N := rfl
theorem t98 (N d : Nat) : TT N (d + 1) 98 = i98.ev (TT N d) N := rfl
theorem t99 (N d : Nat) : TT N (d + 1) 99 = i99.ev (TT N d) N := rfl
theorem t100 (N d : Nat) : TT N (d + 1) 100 = i100.ev (TT N d) N := rfl
theorem t101 (N d : Nat) : TT N (d + 1) 101 = i101.ev (TT N d) N := rfl
theorem t102 (N d : Nat) : TT N (d + 1) 102 = i102.ev (TT N d) N := rfl
theorem t103 (N d : Nat) : TT N (d + 1) 103 = i103.ev (TT N d) N := rfl
theorem t104 (N d : Nat) : TT N (d + 1) 104 = i104.ev (TT N d) N := rfl
theorem t107 (N d : Nat) : TT N (d + 1) 107 = i107.ev (TT N d) N := rfl
theorem t108 (N d : Nat) : TT N (d + 1) 108 = i108.ev (TT N d) N := rfl
theorem t109 (N d : Nat) : TT N (d + 1) 109 = i109.ev (TT N d) N := rfl
theorem t110 (N d : Nat) : TT N (d + 1) 110 = i110.ev (TT N d) N := rfl
theorem t111 (N d : Nat) : TT N (d + 1) 111 = i111.ev (TT N d) N := rfl
theorem t115 (N d : Nat) : TT N (d + 1) 115 = i115.ev (TT N d) N := rfl
theorem t116 (N d : Nat) : TT N (d + 1) 116 = i116.ev (TT N d) N := rfl
theorem t117 (N d : Nat) : TT N (d + 1) 117 = i117.ev (TT N d) N := rfl
theorem t120 (N d : Nat) : TT N (d + 1) 120 = i120.ev (TT N d) N := rfl
theorem t124 (N d : Nat) : TT N (d + 1) 124 = i124.ev (TT N d) N := rfl
theorem t125 (N d : Nat) : TT N (d + 1) 125 = i125.ev (TT N d) N := rfl
theorem t126 (N d : Nat) : TT N (d + 1) 126 = i126.ev (TT N d) N := rfl
theorem t127 (N d : Nat) : TT N (d + 1) 127 = i127.ev (TT N d) N := rfl
theorem t128 (N d : Nat) : TT N (d + 1) 128 = i128.ev (TT N d) N := rfl
theorem t129 (N d : Nat) : TT N (d + 1) 129 = i129.ev (TT N d) N := rfl
theorem t130 (N d : Nat) : TT N (d + 1) 130 = i130.ev (TT N d) N := rfl
theorem t131 (N d : Nat) : TT N (d + 1) 131 = i131.ev (TT N d) N := rfl
theorem t132 (N d : Nat) : TT N (d + 1) 132 = i132.ev (TT N d) N := rfl
theorem t133 (N d : Nat) : TT N (d + 1) 133 = i133.ev (TT N d) N := rfl
theorem t137 (N d : Nat) : TT N (d + 1) 137 = i137.ev (TT N d) N := rfl
theorem t144 (N d : Nat) : TT N (d + 1) 144 = i144.ev (TT N d) N := rfl
theorem t145 (N d : Nat) : TT N (d + 1) 145 = i145.ev (TT N d) N := rfl
theorem t146 (N d : Nat) : TT N (d + 1) 146 = i146.ev (TT N d) N := rfl
theorem t147 (N d : Nat) : TT N (d + 1) 147 = i147.ev (TT N d) N := rfl
theorem t148 (N d : Nat) : TT N (d + 1) 148 = i148.ev (TT N d) N := rfl
theorem t149 (N d : Nat) : TT N (d + 1) 149 = i149.ev (TT N d) N := rfl
theorem t150 (N d : Nat) : TT N (d + 1) 150 = i150.ev (TT N d) N := rfl
theorem t157 (N d : Nat) : TT N (d + 1) 157 = i157.ev (TT N d) N := rfl
theorem t85 (N d : Nat) : TT N (d + 1) 85 = cloneM 29 2 16 := rfl
theorem t93 (N d : Nat) : TT N (d + 1) 93 = XI.insM 29 2 16 := rfl
theorem t96 (N d : Nat) : TT N (d + 1) 96 = XE.errnoM := rfl
theorem t105 (N d : Nat) : TT N (d + 1) 105 = cloneM 3 1 8 := rfl
theorem t106 (N d : Nat) : TT N (d + 1) 106 = cloneM 79 3 24 := rfl
end Go.Proofs.YtkfcbpbnoeaheaaGreatDoor.IG
