/- Texts joined: IG. -/
import Derived.Test.YtdflglehippoiaaGreatDoorZI1
import Derived.Test.YtdflglehippoiaaGreatDoorProg
set_option linter.unusedVariables false
set_option linter.unusedSimpArgs false
set_option maxRecDepth 100000
namespace Go.Proofs.YtdflglehippoiaaGreatDoor.IG
open Go Go.Proofs.YtdflglehippoiaaGreatDoorR
def j107 : C := (.seq (.region [nO 3 (.box (.t 1)),
  nO 4 (.mov (.c (.bool false)))] false) (.seq (.seq (.region [nO 7 (.fad 3 (.t 3)),
  nO 8 (.load false 1 (.t 7)),
  nO 9 (.bin .eql (.t 8) (.c (.int .i64 0)))] false) (.cond (.t 9) (.seq (.region [nO 4 (.mov (.c (.bool true)))] false) .ret) .skip)) (.seq (.region [nO 11 (.fad 3 (.t 3)),
  nO 12 (.load false 1 (.t 11)),
  nO 13 (.call false 17 [(.t 12)]),
  mO 10 13,
  nO 14 (.ext (.t 10) 0),
  nO 15 (.ext (.t 10) 1),
  mO 5 14,
  mO 6 15] false) (.seq (.region [mO 16 6,
  nO 17 (.bin .eql (.t 16) (.c (.int .i64 0))),
  mO 18 17,
  mG 19 5 18 true,
  mG 20 0 18 true,
  gO 21 (.bin .eql (.t 19) (.t 20)) 18 true,
  nO 22 (.pick (.t 18) (.t 21) (.c (.bool false))),
  mO 23 22,
  gO 24 (.fad 3 (.t 3)) 23 true,
  gO 25 (.load false 1 (.t 24)) 23 true,
  gO 26 (.fad 2 (.t 3)) 23 true,
  gO 27 (.load false 1 (.t 26)) 23 true,
  gO 28 (.bin .leq (.t 25) (.t 27)) 23 true,
  nO 29 (.pick (.t 23) (.t 28) (.c (.bool false))),
  mO 30 29,
  gO 31 (.fad 4 (.t 3)) 30 true,
  gO 32 (.load false 1 (.t 31)) 30 true,
  gO 33 (.bin .eql (.t 32) (.c (.int .i64 0))) 30 true,
  nO 34 (.pick (.t 30) (.t 33) (.c (.bool false))),
  mO 35 34,
  gO 36 (.fad 10 (.t 3)) 35 true,
  gO 37 (.fad 0 (.t 36)) 35 true,
  gO 38 (.load false 1 (.t 37)) 35 true,
  gO 39 (.fad 3 (.t 3)) 35 true,
  gO 40 (.load false 1 (.t 39)) 35 true,
  gO 41 (.bin .eql (.t 38) (.t 40)) 35 true,
  nO 42 (.pick (.t 35) (.t 41) (.c (.bool false))),
  mO 4 42] false) .ret))))
def i107 : F := ⟨2, 43, j107, [.t 4]⟩
theorem b107 : i107.body = j107 := rfl
theorem q107 : i107.res = [.t 4] := rfl
theorem c107 : chkF Tryz.prog Tryz.f107 i107 = true := by kernel_rfl
theorem s107 {m E} (hE : HE E) (hm : HM i107 m E) : Sound Tryz.prog 107 m := sound_of i107 Tryz.func107 rfl c107 hE hm
def j108 : C := (.seq (.region [nO 1 (.box (.t 0)),
  nO 2 (.mov (.c (.bool false)))] false) (.seq (.seq (.region [nO 3 (.fad 8 (.t 1)),
  nO 4 (.load false 1 (.t 3)),
  nO 5 (.len (.t 4)),
  nO 6 (.bin .eql (.t 5) (.c (.int .i64 0)))] false) (.cond (.t 6) (.seq (.region [nO 7 (.fad 4 (.t 1)),
  nO 8 (.load false 1 (.t 7)),
  nO 9 (.bin .eql (.t 8) (.c (.int .i64 0))),
  mO 2 9] false) .ret) .skip)) (.seq (.region [⟨some 10, .fad 4 (.t 1), none, [12, 13, 14, 15, 16], []⟩,⟨some 11, .load false 1 (.t 10), none, [12, 13, 14, 15, 16], [0]⟩,⟨some 12, .fad 8 (.t 1), none, [10, 11], []⟩,⟨some 13, .load false 1 (.t 12), none, [10, 11], [2]⟩,⟨some 14, .iad 1 (.t 13) (.c (.int .i64 0)), none, [10, 11], [2, 3]⟩,⟨some 15, .load false 1 (.t 14), none, [10, 11], [2, 3, 4]⟩,⟨some 16, .bin .add (.t 15) (.c (.int .i64 1)), none, [10, 11], [2, 3, 4, 5]⟩,⟨some 17, .bin .eql (.t 11) (.t 16), none, [], [0, 1, 2, 3, 4, 5, 6]⟩,⟨some 2, .mov (.t 17), none, [], [0, 1, 2, 3, 4, 5, 6, 7]⟩] true) .ret)))
def i108 : F := ⟨1, 18, j108, [.t 2]⟩
theorem b108 : i108.body = j108 := rfl
theorem q108 : i108.res = [.t 2] := rfl
theorem c108 : chkF Tryz.prog Tryz.f108 i108 = true := by kernel_rfl
theorem s108 {m E} (hE : HE E) (hm : HM i108 m E) : Sound Tryz.prog 108 m := sound_of i108 Tryz.func108 rfl c108 hE hm
def j109 : C := (.seq (.region [nO 3 (.box (.t 0)),
  nO 4 (.box (.t 1)),
  nO 6 (.mov (.c (.int .i64 0)))] false) (.seq (.region [nO 8 (.load true 7 (.t 3)),
  nO 9 (.call false 54 [(.t 8)]),
  mO 7 9] false) (.seq (.block 0 (.seq (.region [mO 11 7,
  nO 12 (.bin .neq (.t 11) (.c (.int .i64 0))),
  mO 10 12] false) (.cond (.t 10) (.seq (.region [mO 13 7,
  mO 6 13] false) .ret) (.seq (.region [nO 15 (.load true 7 (.t 3)),
  nO 16 (.load true 5 (.t 4)),
  nO 17 (.call false 142 [(.t 15), (.t 16)]),
  nO 18 (.un .not (.t 17)),
  mO 19 18,
  mG 20 2 19 false,
  gO 21 (.fad 6 (.t 3)) 19 false,
  gO 22 (.load false 1 (.t 21)) 19 false,
  gO 23 (.call false 143 [(.t 20), (.t 22)]) 19 false,
  gO 24 (.bin .neq (.t 23) (.c (.int .i64 0))) 19 false,
  nO 25 (.pick (.t 19) (.c (.bool true)) (.t 24)),
  mO 14 25] false) (.cond (.t 14) (.seq (.region [nO 6 (.mov (.c (.int .i64 1)))] false) .ret) .skip))))) (.seq (.region [nO 6 (.mov (.c (.int .i64 0)))] false) .ret))))
def i109 : F := ⟨3, 26, j109, [.t 6]⟩
theorem b109 : i109.body = j109 := rfl
theorem q109 : i109.res = [.t 6] := rfl
theorem c109 : chkF Tryz.prog Tryz.f109 i109 = true := by kernel_rfl
theorem s109 {m E} (hE : HE E) (hm : HM i109 m E) : Sound Tryz.prog 109 m := sound_of i109 Tryz.func109 rfl c109 hE hm
def j110 : C := (.seq (.region [nO 6 (.mov (.c (.bool false)))] false) (.seq (.region [mO 7 0,
  mO 8 1,
  nO 9 (.bin .geq (.t 7) (.t 8)),
  mO 10 9,
  mG 11 0 10 true,
  mG 12 2 10 true,
  gO 13 (.bin .leq (.t 11) (.t 12)) 10 true,
  nO 14 (.pick (.t 10) (.t 13) (.c (.bool false))),
  mO 6 14] false) .ret))
def i110 : F := ⟨3, 15, j110, [.t 6]⟩
theorem b110 : i110.body = j110 := rfl
theorem q110 : i110.res = [.t 6] := rfl
theorem c110 : chkF Tryz.prog Tryz.f110 i110 = true := by kernel_rfl
theorem s110 {m E} (hE : HE E) (hm : HM i110 m E) : Sound Tryz.prog 110 m := sound_of i110 Tryz.func110 rfl c110 hE hm
def j116 : C := (.seq (.region [nO 2 (.mov (.c (.bool false)))] false) (.seq (.region [mO 3 0,
  nO 4 (.call false 110 [(.t 3), (.c (.int .i64 1)), (.c (.int .i64 1073741824))]),
  mO 2 4] false) .ret))
def i116 : F := ⟨1, 5, j116, [.t 2]⟩
theorem b116 : i116.body = j116 := rfl
theorem q116 : i116.res = [.t 2] := rfl
theorem c116 : chkF Tryz.prog Tryz.f116 i116 = true := by kernel_rfl
theorem s116 {m E} (hE : HE E) (hm : HM i116 m E) : Sound Tryz.prog 116 m := sound_of i116 Tryz.func116 rfl c116 hE hm
def j117 : C := (.seq (.region [nO 4 (.mov (.c (.int .i64 0)))] false) (.seq (.seq (.region [mO 6 0,
  nO 7 (.len (.t 6)),
  nO 8 (.mov (.c (.int .i64 0)))] false) (.block 0 (.loop (.keep [0, 1, 7, 8] (.seq (.region [nO 9 (.bin .lss (.t 8) (.t 7))] false) (.seq (.cond (.t 9) .skip (.exit 0)) (.seq (.block 1 (.seq (.region [mO 10 8,
  mO 5 10] false) (.seq (.region [mO 11 1,
  mO 12 0,
  mO 13 5,
  nO 14 (.iad 3 (.t 12) (.t 13)),
  nO 15 (.load true 3 (.t 14)),
  nO 16 (.callv false (.t 11) [(.t 15)])] false) (.cond (.t 16) (.seq (.region [mO 17 5,
  mO 4 17] false) .ret) .skip)))) (.region [nO 18 (.bin .add (.t 8) (.c (.int .i64 1))),
  mO 8 18] false)))))))) (.seq (.region [nO 4 (.mov (.c (.int .i64 (-1))))] false) .ret)))
def i117 : F := ⟨2, 19, j117, [.t 4]⟩
theorem b117 : i117.body = j117 := rfl
theorem q117 : i117.res = [.t 4] := rfl
theorem c117 : chkF Tryz.prog Tryz.f117 i117 = true := by kernel_rfl
theorem s117 {m E} (hE : HE E) (hm : HM i117 m E) : Sound Tryz.prog 117 m := sound_of i117 Tryz.func117 rfl c117 hE hm
def j118 : C := (.seq (.region [nO 2 (.box (.t 0)),
  nO 3 (.mov (.c (.bool false)))] false) (.seq (.region [nO 4 (.fad 0 (.t 2)),
  nO 5 (.load false 1 (.t 4)),
  nO 6 (.load false 1 (.t 1)),
  nO 7 (.bin .eql (.t 5) (.t 6)),
  mO 3 7] false) .ret))
def i118 : F := ⟨2, 8, j118, [.t 3]⟩
theorem b118 : i118.body = j118 := rfl
theorem q118 : i118.res = [.t 3] := rfl
theorem c118 : chkF Tryz.prog Tryz.f118 i118 = true := by kernel_rfl
theorem s118 {m E} (hE : HE E) (hm : HM i118 m E) : Sound Tryz.prog 118 m := sound_of i118 Tryz.func118 rfl c118 hE hm
def j119 : C := (.seq (.region [nO 5 (.box (.t 2)),
  nO 6 (.mov (.c (.row [])))] false) (.seq (.region [nO 7 (.mov (.c (.int .i64 0)))] false) (.seq (.block 0 (.loop (.keep [0, 1, 5, 7] (.seq (.seq (.region [⟨some 8, .mov (.t 7), none, [9, 10], []⟩,⟨some 9, .mov (.t 1), none, [8], []⟩,⟨some 10, .len (.t 9), none, [8], [1]⟩,⟨some 11, .bin .lss (.t 8) (.t 10), none, [], [0, 1, 2]⟩,⟨some 12, .mov (.t 11), none, [], [0, 1, 2, 3]⟩,⟨some 13, .mov (.t 0), some (12, true), [14, 15, 16, 17, 18, 19, 20], [0, 1, 2, 3, 4]⟩,⟨some 14, .mov (.t 1), some (12, true), [13, 15, 19, 20], [0, 1, 2, 3, 4]⟩,⟨some 15, .mov (.t 7), some (12, true), [13, 14, 19, 20], [0, 1, 2, 3, 4]⟩,⟨some 16, .iad 3 (.t 14) (.t 15), some (12, true), [13, 19, 20], [0, 1, 2, 3, 4, 6, 7]⟩,⟨some 17, .fad 0 (.t 16), some (12, true), [13, 19, 20], [0, 1, 2, 3, 4, 6, 7, 8]⟩,⟨some 18, .load false 1 (.t 17), some (12, true), [13, 19, 20], [0, 1, 2, 3, 4, 6, 7, 8, 9]⟩,⟨some 19, .fad 0 (.t 5), some (12, true), [13, 14, 15, 16, 17, 18], [0, 1, 2, 3, 4]⟩,⟨some 20, .load false 1 (.t 19), some (12, true), [13, 14, 15, 16, 17, 18], [0, 1, 2, 3, 4, 11]⟩,⟨some 21, .call false 28 [(.t 13), (.t 18), (.t 20)], some (12, true), [], [0, 1, 2, 3, 4, 5, 6, 7, 8, 9, 10, 11, 12]⟩,⟨some 22, .pick (.t 12) (.t 21) (.c (.bool false)), none, [], [0, 1, 2, 3, 4, 5, 6, 7, 8, 9, 10, 11, 12, 13]⟩] true) (.cond (.t 22) .skip (.exit 0))) (.block 1 (.region [mO 23 7,
  nO 24 (.bin .add (.t 23) (.c (.int .i64 1))),
  mO 7 24] false)))))) (.seq (.region [⟨some 25, .mov (.t 1), none, [27, 28, 29], []⟩,⟨some 26, .call true 101 [(.t 25)], none, [27, 28, 29], [0]⟩,⟨some 27, .mov (.t 7), none, [25, 26, 28, 29], []⟩,⟨some 28, .load true 3 (.t 5), none, [25, 26, 27], []⟩,⟨some 29, .bsl 51 3 1 [.int .i64 0, .int .i64 0, .int .i64 0] [(0, (.t 28))], none, [25, 26, 27], [3]⟩,⟨some 30, .callo 152 [(.t 26), (.t 27), (.t 29)], none, [], [0, 1, 2, 3, 4]⟩,⟨some 6, .mov (.t 30), none, [], [0, 1, 2, 3, 4, 5]⟩] true) .ret))))
def i119 : F := ⟨3, 31, j119, [.t 6]⟩
theorem b119 : i119.body = j119 := rfl
theorem q119 : i119.res = [.t 6] := rfl
theorem c119 : chkF Tryz.prog Tryz.f119 i119 = true := by kernel_rfl
theorem s119 {m E} (hE : HE E) (hm : HM i119 m E) : Sound Tryz.prog 119 m := sound_of i119 Tryz.func119 rfl c119 hE hm
def j120 : C := (.seq (.region [nO 4 (.nilsl 51 3 0)] false) (.seq (.region [mO 8 0,
  mO 9 1,
  nO 10 (.call false 117 [(.t 8), (.t 9)]),
  mO 5 10] false) (.seq (.seq (.region [mO 11 5,
  nO 12 (.bin .eql (.t 11) (.c (.int .i64 (-1))))] false) (.cond (.t 12) (.seq (.region [mO 13 0,
  mO 4 13] false) .ret) .skip)) (.seq (.seq (.region [mO 14 5,
  nO 15 (.bin .add (.t 14) (.c (.int .i64 1))),
  mO 6 15] false) (.block 0 (.loop (.keep [0, 1, 5, 6] (.seq (.seq (.region [mO 16 6,
  mO 17 0,
  nO 18 (.len (.t 17)),
  nO 19 (.bin .lss (.t 16) (.t 18))] false) (.cond (.t 19) .skip (.exit 0))) (.seq (.block 1 (.seq (.region [mO 22 0,
  mO 23 6,
  nO 24 (.iad 3 (.t 22) (.t 23)),
  nO 25 (.load true 3 (.t 24)),
  nO 7 (.alloc [.int .i64 0, .int .i64 0, .int .i64 0]),⟨none, .store none 3 (.t 7) (.t 25), none, [], []⟩] false) (.seq (.region [mO 26 1,
  nO 27 (.load true 3 (.t 7)),
  nO 28 (.callv false (.t 26) [(.t 27)]),
  nO 29 (.un .not (.t 28))] false) (.cond (.t 29) (.seq (.region [mO 30 0,
  mO 31 5,
  nO 32 (.load true 3 (.t 7)),
  nO 33 (.iad 3 (.t 30) (.t 31)),⟨none, .store none 3 (.t 33) (.t 32), none, [], []⟩] false) (.region [mO 34 5,
  nO 35 (.bin .add (.t 34) (.c (.int .i64 1))),
  mO 5 35] false)) .skip)))) (.region [mO 20 6,
  nO 21 (.bin .add (.t 20) (.c (.int .i64 1))),
  mO 6 21] false))))))) (.seq (.region [mO 36 0,
  mO 37 5,
  nO 38 (.cut 3 (.t 36) (some (.t 37)) none),⟨none, .clr 51 3 (.t 38), none, [], []⟩] false) (.seq (.region [mO 39 0,
  mO 40 5,
  nO 41 (.cut 3 (.t 39) none (some (.t 40))),
  mO 4 41] false) .ret))))))
def i120 : F := ⟨2, 42, j120, [.t 4]⟩
theorem b120 : i120.body = j120 := rfl
theorem q120 : i120.res = [.t 4] := rfl
theorem c120 : chkF Tryz.prog Tryz.f120 i120 = true := by kernel_rfl
theorem s120 {m E} (hE : HE E) (hm : HM i120 m E) : Sound Tryz.prog 120 m := sound_of i120 Tryz.func120 rfl c120 hE hm
def j121 : C := (.seq (.region [nO 2 (.box (.t 0)),
  nO 3 (.mov (.c (.bool false)))] false) (.seq (.region [nO 4 (.fad 0 (.t 2)),
  nO 5 (.load false 1 (.t 4)),
  nO 6 (.load false 1 (.t 1)),
  nO 7 (.bin .eql (.t 5) (.t 6)),
  mO 3 7] false) .ret))
def i121 : F := ⟨2, 8, j121, [.t 3]⟩
theorem b121 : i121.body = j121 := rfl
theorem q121 : i121.res = [.t 3] := rfl
theorem c121 : chkF Tryz.prog Tryz.f121 i121 = true := by kernel_rfl
theorem s121 {m E} (hE : HE E) (hm : HM i121 m E) : Sound Tryz.prog 121 m := sound_of i121 Tryz.func121 rfl c121 hE hm
def j122 : C := (.seq (.region [nO 3 (.box (.t 1)),
  nO 4 (.nilsl 3 1 0)] false) (.seq (.region [mO 5 0,
  nO 6 (.bsl 3 1 1 [.int .i64 0] [(0, (.t 5))]),
  nO 7 (.fad 8 (.t 3)),
  nO 8 (.load false 1 (.t 7)),
  nO 9 (.app 3 1 8 (.t 6) (.t 8)),
  mO 4 9] false) .ret))
def i122 : F := ⟨2, 10, j122, [.t 4]⟩
theorem b122 : i122.body = j122 := rfl
theorem q122 : i122.res = [.t 4] := rfl
theorem c122 : chkF Tryz.prog Tryz.f122 i122 = true := by kernel_rfl
theorem s122 {m E} (hE : HE E) (hm : HM i122 m E) : Sound Tryz.prog 122 m := sound_of i122 Tryz.func122 rfl c122 hE hm
def j123 : C := (.seq (.region [nO 2 (.mov (.c (.int .i64 0))),
  nO 3 (.mov (.c (.int .i64 0)))] false) (.seq (.seq (.region [mO 4 0,
  nO 5 (.call false 131 [(.t 4), (.c (.int .i64 4))]),
  nO 6 (.un .not (.t 5))] false) (.cond (.t 6) (.seq (.region [nO 2 (.mov (.c (.int .i64 0))),
  nO 3 (.mov (.c (.int .i64 1)))] false) .ret) .skip)) (.seq (.region [nO 7 (.call false 153 []),
  mO 8 0,
  nO 9 (.idx false 1 4 (.t 7) (.t 8)),
  mO 2 9,
  nO 3 (.mov (.c (.int .i64 0)))] false) .ret)))
def i123 : F := ⟨1, 10, j123, [.t 2, .t 3]⟩
theorem b123 : i123.body = j123 := rfl
theorem q123 : i123.res = [.t 2, .t 3] := rfl
theorem c123 : chkF Tryz.prog Tryz.f123 i123 = true := by kernel_rfl
theorem s123 {m E} (hE : HE E) (hm : HM i123 m E) : Sound Tryz.prog 123 m := sound_of i123 Tryz.func123 rfl c123 hE hm
def j124 : C := (.seq (.region [nO 2 (.mov (.c (.int .i64 0))),
  nO 3 (.mov (.c (.int .i64 0)))] false) (.seq (.seq (.region [mO 4 0,
  nO 5 (.call false 85 [(.t 4)]),
  nO 6 (.un .not (.t 5))] false) (.cond (.t 6) (.seq (.region [nO 2 (.mov (.c (.int .i64 0))),
  nO 3 (.mov (.c (.int .i64 1)))] false) .ret) .skip)) (.seq (.region [nO 7 (.call false 154 []),
  mO 8 0,
  nO 9 (.idx false 1 8 (.t 7) (.t 8)),
  mO 2 9,
  nO 3 (.mov (.c (.int .i64 0)))] false) .ret)))
def i124 : F := ⟨1, 10, j124, [.t 2, .t 3]⟩
theorem b124 : i124.body = j124 := rfl
theorem q124 : i124.res = [.t 2, .t 3] := rfl
theorem c124 : chkF Tryz.prog Tryz.f124 i124 = true := by kernel_rfl
theorem s124 {m E} (hE : HE E) (hm : HM i124 m E) : Sound Tryz.prog 124 m := sound_of i124 Tryz.func124 rfl c124 hE hm
def j125 : C := (.seq (.region [nO 4 (.mov (.c (.int .i64 0)))] false) (.seq (.region [mO 6 1,
  mO 7 0,
  nO 8 (.bin .sub (.t 6) (.t 7)),
  mO 5 8] false) (.seq (.seq (.region [mO 9 5,
  nO 10 (.bin .lss (.t 9) (.c (.int .i64 0)))] false) (.cond (.t 10) (.region [mO 11 5,
  nO 12 (.bin .add (.t 11) (.c (.int .i64 4611686018427387904))),
  mO 5 12] false) .skip)) (.seq (.region [mO 13 5,
  mO 4 13] false) .ret))))
def i125 : F := ⟨2, 14, j125, [.t 4]⟩
theorem b125 : i125.body = j125 := rfl
theorem q125 : i125.res = [.t 4] := rfl
theorem c125 : chkF Tryz.prog Tryz.f125 i125 = true := by kernel_rfl
theorem s125 {m E} (hE : HE E) (hm : HM i125 m E) : Sound Tryz.prog 125 m := sound_of i125 Tryz.func125 rfl c125 hE hm
def j126 : C := (.seq (.region [nO 4 (.mov (.c (.bool false)))] false) (.seq (.region [mO 5 0,
  mO 6 1,
  nO 7 (.call false 155 [(.t 5), (.t 6)]),
  nO 8 (.bin .geq (.t 7) (.c (.int .i64 0))),
  mO 4 8] false) .ret))
def i126 : F := ⟨2, 9, j126, [.t 4]⟩
theorem b126 : i126.body = j126 := rfl
theorem q126 : i126.res = [.t 4] := rfl
theorem c126 : chkF Tryz.prog Tryz.f126 i126 = true := by kernel_rfl
theorem s126 {m E} (hE : HE E) (hm : HM i126 m E) : Sound Tryz.prog 126 m := sound_of i126 Tryz.func126 rfl c126 hE hm
def j127 : C := (.seq (.region [nO 2 (.mov (.c (.bool false)))] false) (.seq (.region [mO 3 0,
  nO 4 (.call false 85 [(.t 3)]),
  nO 5 (.un .not (.t 4)),
  mO 2 5] false) .ret))
def i127 : F := ⟨1, 6, j127, [.t 2]⟩
theorem b127 : i127.body = j127 := rfl
theorem q127 : i127.res = [.t 2] := rfl
theorem c127 : chkF Tryz.prog Tryz.f127 i127 = true := by kernel_rfl
theorem s127 {m E} (hE : HE E) (hm : HM i127 m E) : Sound Tryz.prog 127 m := sound_of i127 Tryz.func127 rfl c127 hE hm
def j128 : C := (.seq (.region [nO 1 (.box (.t 0)),
  nO 2 (.alloc [.int .i64 0, .int .i64 0, .int .i64 0, .int .i64 0, .int .i64 0, .int .i64 0, .int .i64 0, .int .i64 0, .int .i64 0, .int .i64 0, .int .i64 0, .int .i64 0, .int .i64 0, .int .i64 0, .row [], .row []]),
  nO 3 (.mov (.c (.bool false)))] false) (.seq (.seq (.region [nO 4 (.fad 0 (.t 1)),
  nO 5 (.load false 1 (.t 4))] false) (.block 0 (.seq (.seq (.region [nO 7 (.bin .eql (.t 5) (.c (.int .i64 1))),
  mO 6 7] false) (.cond (.t 6) .skip (.seq (.region [nO 8 (.bin .eql (.t 5) (.c (.int .i64 5))),
  mO 6 8] false) (.cond (.t 6) .skip (.region [nO 9 (.bin .eql (.t 5) (.c (.int .i64 6))),
  mO 6 9] false))))) (.cond (.t 6) (.region [nO 3 (.mov (.c (.bool true)))] false) (.seq (.region [nO 11 (.bin .eql (.t 5) (.c (.int .i64 2))),
  mO 10 11] false) (.cond (.t 10) (.seq (.region [nO 12 (.fad 6 (.t 1)),
  nO 13 (.load false 1 (.t 12)),
  nO 14 (.call false 110 [(.t 13), (.c (.int .i64 0)), (.c (.int .i64 1073741824))]),
  mO 3 14] false) (.region [nO 15 (.fad 6 (.t 1)),⟨none, .store none 1 (.t 15) (.c (.int .i64 0)), none, [], []⟩] false)) (.seq (.region [nO 17 (.bin .eql (.t 5) (.c (.int .i64 3))),
  mO 16 17] false) (.cond (.t 16) (.seq (.region [nO 18 (.fad 6 (.t 1)),⟨some 19, .load false 1 (.t 18), none, [], [0]⟩,⟨some 20, .call false 110 [(.t 19), (.c (.int .i64 0)), (.c (.int .i64 1073741824))], none, [], [0, 1]⟩,⟨some 21, .mov (.t 20), none, [], [0, 1, 2]⟩,⟨some 22, .fad 7 (.t 1), some (21, true), [], [0, 1, 2, 3]⟩,⟨some 23, .load false 1 (.t 22), some (21, true), [], [0, 1, 2, 3, 4]⟩,⟨some 24, .call false 116 [(.t 23)], some (21, true), [], [0, 1, 2, 3, 4, 5]⟩,⟨some 25, .pick (.t 21) (.t 24) (.c (.bool false)), none, [], [0, 1, 2, 3, 4, 5, 6]⟩,⟨some 26, .mov (.t 25), none, [], [0, 1, 2, 3, 4, 5, 6, 7]⟩,⟨some 27, .fad 8 (.t 1), some (26, true), [], [0, 1, 2, 3, 4, 5, 6, 7, 8]⟩,⟨some 28, .load false 1 (.t 27), some (26, true), [], [0, 1, 2, 3, 4, 5, 6, 7, 8, 9]⟩,⟨some 29, .call false 110 [(.t 28), (.c (.int .i64 0)), (.c (.int .i64 1073741824))], some (26, true), [], [0, 1, 2, 3, 4, 5, 6, 7, 8, 9, 10]⟩,⟨some 30, .pick (.t 26) (.t 29) (.c (.bool false)), none, [], [0, 1, 2, 3, 4, 5, 6, 7, 8, 9, 10, 11]⟩,⟨some 31, .mov (.t 30), none, [], [0, 1, 2, 3, 4, 5, 6, 7, 8, 9, 10, 11, 12]⟩,⟨some 32, .fad 14 (.t 1), some (31, true), [], [0, 1, 2, 3, 4, 5, 6, 7, 8, 9, 10, 11, 12, 13]⟩,⟨some 33, .load false 1 (.t 32), some (31, true), [], [0, 1, 2, 3, 4, 5, 6, 7, 8, 9, 10, 11, 12, 13, 14]⟩,⟨some 34, .len (.t 33), some (31, true), [], [0, 1, 2, 3, 4, 5, 6, 7, 8, 9, 10, 11, 12, 13, 14, 15]⟩,⟨some 35, .bin .gtr (.t 34) (.c (.int .i64 0)), some (31, true), [], [0, 1, 2, 3, 4, 5, 6, 7, 8, 9, 10, 11, 12, 13, 14, 15, 16]⟩,⟨some 36, .pick (.t 31) (.t 35) (.c (.bool false)), none, [], [0, 1, 2, 3, 4, 5, 6, 7, 8, 9, 10, 11, 12, 13, 14, 15, 16, 17]⟩,⟨some 37, .mov (.t 36), none, [], [0, 1, 2, 3, 4, 5, 6, 7, 8, 9, 10, 11, 12, 13, 14, 15, 16, 17, 18]⟩,⟨some 38, .fad 14 (.t 1), some (37, true), [], [0, 1, 2, 3, 4, 5, 6, 7, 8, 9, 10, 11, 12, 13, 14, 15, 16, 17, 18, 19]⟩,⟨some 39, .load false 1 (.t 38), some (37, true), [], [0, 1, 2, 3, 4, 5, 6, 7, 8, 9, 10, 11, 12, 13, 14, 15, 16, 17, 18, 19, 20]⟩,⟨some 40, .call false 156 [(.t 39)], some (37, true), [], [0, 1, 2, 3, 4, 5, 6, 7, 8, 9, 10, 11, 12, 13, 14, 15, 16, 17, 18, 19, 20, 21]⟩,⟨some 41, .pick (.t 37) (.t 40) (.c (.bool false)), none, [], [0, 1, 2, 3, 4, 5, 6, 7, 8, 9, 10, 11, 12, 13, 14, 15, 16, 17, 18, 19, 20, 21, 22]⟩,⟨some 42, .mov (.t 41), none, [], [0, 1, 2, 3, 4, 5, 6, 7, 8, 9, 10, 11, 12, 13, 14, 15, 16, 17, 18, 19, 20, 21, 22, 23]⟩,⟨some 43, .fad 14 (.t 1), some (42, true), [47, 48], [0, 1, 2, 3, 4, 5, 6, 7, 8, 9, 10, 11, 12, 13, 14, 15, 16, 17, 18, 19, 20, 21, 22, 23, 24]⟩,⟨some 44, .load false 1 (.t 43), some (42, true), [47, 48], [0, 1, 2, 3, 4, 5, 6, 7, 8, 9, 10, 11, 12, 13, 14, 15, 16, 17, 18, 19, 20, 21, 22, 23, 24, 25]⟩,⟨some 45, .iad 1 (.t 44) (.c (.int .i64 0)), some (42, true), [47, 48], [0, 1, 2, 3, 4, 5, 6, 7, 8, 9, 10, 11, 12, 13, 14, 15, 16, 17, 18, 19, 20, 21, 22, 23, 24, 25, 26]⟩,⟨some 46, .load false 1 (.t 45), some (42, true), [47, 48], [0, 1, 2, 3, 4, 5, 6, 7, 8, 9, 10, 11, 12, 13, 14, 15, 16, 17, 18, 19, 20, 21, 22, 23, 24, 25, 26, 27]⟩,⟨some 47, .fad 1 (.t 1), some (42, true), [43, 44, 45, 46], [0, 1, 2, 3, 4, 5, 6, 7, 8, 9, 10, 11, 12, 13, 14, 15, 16, 17, 18, 19, 20, 21, 22, 23, 24]⟩,⟨some 48, .load false 1 (.t 47), some (42, true), [43, 44, 45, 46], [0, 1, 2, 3, 4, 5, 6, 7, 8, 9, 10, 11, 12, 13, 14, 15, 16, 17, 18, 19, 20, 21, 22, 23, 24, 29]⟩,⟨some 49, .bin .eql (.t 46) (.t 48), some (42, true), [], [0, 1, 2, 3, 4, 5, 6, 7, 8, 9, 10, 11, 12, 13, 14, 15, 16, 17, 18, 19, 20, 21, 22, 23, 24, 25, 26, 27, 28, 29, 30]⟩,⟨some 50, .pick (.t 42) (.t 49) (.c (.bool false)), none, [], [0, 1, 2, 3, 4, 5, 6, 7, 8, 9, 10, 11, 12, 13, 14, 15, 16, 17, 18, 19, 20, 21, 22, 23, 24, 25, 26, 27, 28, 29, 30, 31]⟩,⟨some 3, .mov (.t 50), none, [], [0, 1, 2, 3, 4, 5, 6, 7, 8, 9, 10, 11, 12, 13, 14, 15, 16, 17, 18, 19, 20, 21, 22, 23, 24, 25, 26, 27, 28, 29, 30, 31, 32]⟩] true) (.region [nO 51 (.fad 6 (.t 1)),⟨none, .store none 1 (.t 51) (.c (.int .i64 0)), none, [], []⟩,
  nO 52 (.fad 7 (.t 1)),⟨none, .store none 1 (.t 52) (.c (.int .i64 0)), none, [], []⟩,
  nO 53 (.fad 8 (.t 1)),⟨none, .store none 1 (.t 53) (.c (.int .i64 0)), none, [], []⟩,
  nO 54 (.fad 14 (.t 1)),⟨none, .store none 1 (.t 54) (.c (.row [])), none, [], []⟩] false)) (.seq (.region [nO 56 (.bin .eql (.t 5) (.c (.int .i64 4))),
  mO 55 56] false) (.cond (.t 55) (.seq (.region [nO 57 (.fad 10 (.t 1)),
  nO 58 (.load false 1 (.t 57)),
  nO 59 (.call false 85 [(.t 58)]),
  mO 60 59,
  gO 61 (.fad 10 (.t 1)) 60 true,
  gO 62 (.load false 1 (.t 61)) 60 true,
  gO 63 (.fad 1 (.t 1)) 60 true,
  gO 64 (.load false 1 (.t 63)) 60 true,
  gO 65 (.bin .neq (.t 62) (.t 64)) 60 true,
  nO 66 (.pick (.t 60) (.t 65) (.c (.bool false))),
  mO 67 66,
  gO 68 (.fad 10 (.t 1)) 67 true,
  gO 69 (.load false 1 (.t 68)) 67 true,
  gO 70 (.fad 3 (.t 1)) 67 true,
  gO 71 (.load false 1 (.t 70)) 67 true,
  gO 72 (.bin .neq (.t 69) (.t 71)) 67 true,
  nO 73 (.pick (.t 67) (.t 72) (.c (.bool false))),
  mO 3 73] false) (.region [nO 74 (.fad 10 (.t 1)),⟨none, .store none 1 (.t 74) (.c (.int .i64 0)), none, [], []⟩] false)) (.seq (.region [nO 76 (.bin .eql (.t 5) (.c (.int .i64 7))),
  mO 75 76] false) (.cond (.t 75) (.seq (.region [nO 77 (.load true 16 (.t 1)),
  nO 78 (.call false 157 [(.t 77)]),
  mO 79 78,
  gO 80 (.fad 9 (.t 1)) 79 true,
  gO 81 (.load false 1 (.t 80)) 79 true,
  gO 82 (.call false 56 [(.t 81)]) 79 true,
  nO 83 (.pick (.t 79) (.t 82) (.c (.bool false))),
  mO 3 83] false) (.region [nO 84 (.fad 6 (.t 1)),⟨none, .store none 1 (.t 84) (.c (.int .i64 0)), none, [], []⟩,
  nO 85 (.fad 7 (.t 1)),⟨none, .store none 1 (.t 85) (.c (.int .i64 0)), none, [], []⟩,
  nO 86 (.fad 9 (.t 1)),⟨none, .store none 1 (.t 86) (.c (.int .i64 0)), none, [], []⟩] false)) (.seq (.region [nO 88 (.bin .eql (.t 5) (.c (.int .i64 8))),
  mO 87 88] false) (.cond (.t 87) (.seq (.region [nO 89 (.load true 16 (.t 1)),
  nO 90 (.call false 157 [(.t 89)]),
  mO 3 90] false) (.region [nO 91 (.fad 6 (.t 1)),⟨none, .store none 1 (.t 91) (.c (.int .i64 0)), none, [], []⟩,
  nO 92 (.fad 7 (.t 1)),⟨none, .store none 1 (.t 92) (.c (.int .i64 0)), none, [], []⟩] false)) (.seq (.region [nO 94 (.bin .eql (.t 5) (.c (.int .i64 9))),
  mO 93 94] false) (.cond (.t 93) (.seq (.region [nO 95 (.load true 16 (.t 1)),
  nO 96 (.call false 157 [(.t 95)]),
  mO 97 96,
  gO 98 (.fad 8 (.t 1)) 97 true,
  gO 99 (.load false 1 (.t 98)) 97 true,
  gO 100 (.fad 7 (.t 1)) 97 true,
  gO 101 (.load false 1 (.t 100)) 97 true,
  gO 102 (.call false 110 [(.t 99), (.t 101), (.c (.int .i64 1073741824))]) 97 true,
  nO 103 (.pick (.t 97) (.t 102) (.c (.bool false))),
  mO 3 103] false) (.region [nO 104 (.fad 6 (.t 1)),⟨none, .store none 1 (.t 104) (.c (.int .i64 0)), none, [], []⟩,
  nO 105 (.fad 7 (.t 1)),⟨none, .store none 1 (.t 105) (.c (.int .i64 0)), none, [], []⟩,
  nO 106 (.fad 8 (.t 1)),⟨none, .store none 1 (.t 106) (.c (.int .i64 0)), none, [], []⟩] false)) (.seq (.region [nO 108 (.bin .eql (.t 5) (.c (.int .i64 10))),
  mO 107 108] false) (.cond (.t 107) (.seq (.region [nO 109 (.load true 16 (.t 1)),
  nO 110 (.call false 158 [(.t 109)]),
  mO 111 110,
  gO 112 (.fad 12 (.t 1)) 111 true,
  gO 113 (.load false 1 (.t 112)) 111 true,
  gO 114 (.call false 116 [(.t 113)]) 111 true,
  nO 115 (.pick (.t 111) (.t 114) (.c (.bool false))),
  mO 3 115] false) (.region [nO 116 (.fad 10 (.t 1)),⟨none, .store none 1 (.t 116) (.c (.int .i64 0)), none, [], []⟩,
  nO 117 (.fad 11 (.t 1)),⟨none, .store none 1 (.t 117) (.c (.int .i64 0)), none, [], []⟩,
  nO 118 (.fad 12 (.t 1)),⟨none, .store none 1 (.t 118) (.c (.int .i64 0)), none, [], []⟩,
  nO 119 (.fad 9 (.t 1)),⟨none, .store none 1 (.t 119) (.c (.int .i64 0)), none, [], []⟩,
  nO 120 (.fad 13 (.t 1)),⟨none, .store none 1 (.t 120) (.c (.int .i64 0)), none, [], []⟩] false)) (.seq (.region [nO 122 (.bin .eql (.t 5) (.c (.int .i64 11))),
  mO 121 122] false) (.cond (.t 121) (.seq (.region [nO 123 (.load true 16 (.t 1)),
  nO 124 (.call false 158 [(.t 123)]),
  mO 125 124,
  gO 126 (.fad 12 (.t 1)) 125 true,
  gO 127 (.load false 1 (.t 126)) 125 true,
  gO 128 (.call false 110 [(.t 127), (.c (.int .i64 1)), (.c (.int .i64 40))]) 125 true,
  nO 129 (.pick (.t 125) (.t 128) (.c (.bool false))),
  mO 130 129,
  gO 131 (.fad 14 (.t 1)) 130 true,
  gO 132 (.load false 1 (.t 131)) 130 true,
  gO 133 (.call false 156 [(.t 132)]) 130 true,
  nO 134 (.pick (.t 130) (.t 133) (.c (.bool false))),
  mO 135 134,
  gO 136 (.fad 15 (.t 1)) 135 true,
  gO 137 (.load false 1 (.t 136)) 135 true,
  gO 138 (.call false 156 [(.t 137)]) 135 true,
  nO 139 (.pick (.t 135) (.t 138) (.c (.bool false))),
  mO 140 139,
  gO 141 (.fad 14 (.t 1)) 140 true,
  gO 142 (.load false 1 (.t 141)) 140 true,
  gO 143 (.fad 15 (.t 1)) 140 true,
  gO 144 (.load false 1 (.t 143)) 140 true,
  gO 145 (.bsl 24 1 2 [.row []] [(0, (.t 142)), (1, (.t 144))]) 140 true,
  gO 146 (.call false 160 [(.t 145)]) 140 true,
  gO 147 (.call false 159 [(.t 146)]) 140 true,
  nO 148 (.pick (.t 140) (.t 147) (.c (.bool false))),
  mO 3 148] false) (.region [nO 149 (.fad 10 (.t 1)),⟨none, .store none 1 (.t 149) (.c (.int .i64 0)), none, [], []⟩,
  nO 150 (.fad 11 (.t 1)),⟨none, .store none 1 (.t 150) (.c (.int .i64 0)), none, [], []⟩,
  nO 151 (.fad 12 (.t 1)),⟨none, .store none 1 (.t 151) (.c (.int .i64 0)), none, [], []⟩,
  nO 152 (.fad 9 (.t 1)),⟨none, .store none 1 (.t 152) (.c (.int .i64 0)), none, [], []⟩,
  nO 153 (.fad 13 (.t 1)),⟨none, .store none 1 (.t 153) (.c (.int .i64 0)), none, [], []⟩,
  nO 154 (.fad 14 (.t 1)),⟨none, .store none 1 (.t 154) (.c (.row [])), none, [], []⟩,
  nO 155 (.fad 15 (.t 1)),⟨none, .store none 1 (.t 155) (.c (.row [])), none, [], []⟩] false)) (.seq (.region [nO 157 (.bin .eql (.t 5) (.c (.int .i64 12))),
  mO 156 157] false) (.cond (.t 156) (.seq (.region [nO 158 (.fad 12 (.t 1)),
  nO 159 (.load false 1 (.t 158)),
  nO 160 (.call false 110 [(.t 159), (.c (.int .i64 1)), (.c (.int .i64 40))]),
  mO 161 160,
  gO 162 (.fad 9 (.t 1)) 161 true,
  gO 163 (.load false 1 (.t 162)) 161 true,
  gO 164 (.call false 85 [(.t 163)]) 161 true,
  nO 165 (.pick (.t 161) (.t 164) (.c (.bool false))),
  mO 3 165] false) (.region [nO 166 (.fad 12 (.t 1)),⟨none, .store none 1 (.t 166) (.c (.int .i64 0)), none, [], []⟩,
  nO 167 (.fad 9 (.t 1)),⟨none, .store none 1 (.t 167) (.c (.int .i64 0)), none, [], []⟩] false)) (.seq (.region [nO 169 (.bin .eql (.t 5) (.c (.int .i64 13))),
  mO 168 169] false) (.cond (.t 168) (.seq (.region [nO 170 (.fad 12 (.t 1)),
  nO 171 (.load false 1 (.t 170)),
  nO 172 (.call false 110 [(.t 171), (.c (.int .i64 1)), (.c (.int .i64 40))]),
  mO 3 172] false) (.region [nO 173 (.fad 12 (.t 1)),⟨none, .store none 1 (.t 173) (.c (.int .i64 0)), none, [], []⟩] false)) .skip)))))))))))))))))))))))) (.seq (.region [nO 174 (.load true 16 (.t 1)),
  mO 175 3,⟨none, .store none 16 (.t 2) (.t 174), none, [], []⟩,
  mO 3 175] false) .ret)))
def i128 : F := ⟨1, 176, j128, [.c 2 16 true, .t 3]⟩
theorem b128 : i128.body = j128 := rfl
theorem q128 : i128.res = [.c 2 16 true, .t 3] := rfl
theorem c128 : chkF Tryz.prog Tryz.f128 i128 = true := by kernel_rfl
theorem s128 {m E} (hE : HE E) (hm : HM i128 m E) : Sound Tryz.prog 128 m := sound_of i128 Tryz.func128 rfl c128 hE hm
def j129 : C := (.seq (.region [nO 1 (.box (.t 0)),
  nO 2 (.mov (.c (.bool false)))] false) (.seq (.region [nO 3 (.fad 1 (.t 1)),
  nO 4 (.load false 1 (.t 3)),
  nO 5 (.call false 85 [(.t 4)]),
  mO 6 5,
  gO 7 (.fad 3 (.t 1)) 6 true,
  gO 8 (.load false 1 (.t 7)) 6 true,
  gO 9 (.call false 85 [(.t 8)]) 6 true,
  nO 10 (.pick (.t 6) (.t 9) (.c (.bool false))),
  mO 11 10,
  gO 12 (.fad 1 (.t 1)) 11 true,
  gO 13 (.load false 1 (.t 12)) 11 true,
  gO 14 (.fad 3 (.t 1)) 11 true,
  gO 15 (.load false 1 (.t 14)) 11 true,
  gO 16 (.bin .neq (.t 13) (.t 15)) 11 true,
  nO 17 (.pick (.t 11) (.t 16) (.c (.bool false))),
  mO 18 17,
  gO 19 (.fad 2 (.t 1)) 18 true,
  gO 20 (.load false 1 (.t 19)) 18 true,
  gO 21 (.call false 116 [(.t 20)]) 18 true,
  nO 22 (.pick (.t 18) (.t 21) (.c (.bool false))),
  mO 2 22] false) .ret))
def i129 : F := ⟨1, 23, j129, [.t 2]⟩
theorem b129 : i129.body = j129 := rfl
theorem q129 : i129.res = [.t 2] := rfl
theorem c129 : chkF Tryz.prog Tryz.f129 i129 = true := by kernel_rfl
theorem s129 {m E} (hE : HE E) (hm : HM i129 m E) : Sound Tryz.prog 129 m := sound_of i129 Tryz.func129 rfl c129 hE hm
def j130 : C := (.seq (.region [nO 2 (.nilsl 88 2 0)] false) (.seq (.region [nO 3 (.nilsl 88 2 0)] false) (.seq (.region [mO 4 3,
  mO 5 0,
  nO 6 (.app 88 2 16 (.t 4) (.t 5)),
  mO 2 6] false) .ret)))
def i130 : F := ⟨1, 7, j130, [.t 2]⟩
theorem b130 : i130.body = j130 := rfl
theorem q130 : i130.res = [.t 2] := rfl
theorem c130 : chkF Tryz.prog Tryz.f130 i130 = true := by kernel_rfl
theorem s130 {m E} (hE : HE E) (hm : HM i130 m E) : Sound Tryz.prog 130 m := sound_of i130 Tryz.func130 rfl c130 hE hm
def j131 : C := (.seq (.region [nO 4 (.mov (.c (.bool false)))] false) (.seq (.region [mO 5 0,
  nO 6 (.bin .geq (.t 5) (.c (.int .i64 0))),
  mO 7 6,
  mG 8 0 7 true,
  mG 9 1 7 true,
  gO 10 (.bin .lss (.t 8) (.t 9)) 7 true,
  nO 11 (.pick (.t 7) (.t 10) (.c (.bool false))),
  mO 4 11] false) .ret))
def i131 : F := ⟨2, 12, j131, [.t 4]⟩
theorem b131 : i131.body = j131 := rfl
theorem q131 : i131.res = [.t 4] := rfl
theorem c131 : chkF Tryz.prog Tryz.f131 i131 = true := by kernel_rfl
theorem s131 {m E} (hE : HE E) (hm : HM i131 m E) : Sound Tryz.prog 131 m := sound_of i131 Tryz.func131 rfl c131 hE hm
def j132 : C := (.seq (.region [nO 2 (.box (.t 0)),
  nO 3 (.box (.t 1)),
  nO 4 (.mov (.c (.bool false)))] false) (.seq (.seq (.region [nO 5 (.load true 5 (.t 3)),
  nO 6 (.build [.int .i64 0, .int .i64 0, .int .i64 0, .row [], .row []] []),
  nO 7 (.call false 25 [(.t 5), (.t 6)])] false) (.cond (.t 7) (.seq (.region [nO 4 (.mov (.c (.bool true)))] false) .ret) .skip)) (.seq (.region [nO 8 (.fad 0 (.t 3)),
  nO 9 (.load false 1 (.t 8)),
  nO 10 (.call false 88 [(.t 9)]),
  mO 11 10,
  gO 12 (.fad 1 (.t 3)) 11 true,
  gO 13 (.load false 1 (.t 12)) 11 true,
  gO 14 (.call false 161 [(.t 13)]) 11 true,
  nO 15 (.pick (.t 11) (.t 14) (.c (.bool false))),
  mO 16 15,
  gO 17 (.fad 2 (.t 3)) 16 true,
  gO 18 (.load false 1 (.t 17)) 16 true,
  gO 19 (.fad 1 (.t 3)) 16 true,
  gO 20 (.load false 1 (.t 19)) 16 true,
  gO 21 (.call false 87 [(.t 18), (.t 20), (.c (.int .i64 1073741824))]) 16 true,
  nO 22 (.pick (.t 16) (.t 21) (.c (.bool false))),
  mO 23 22,
  gO 24 (.fad 3 (.t 3)) 23 true,
  gO 25 (.load false 1 (.t 24)) 23 true,
  gO 26 (.fad 1 (.t 3)) 23 true,
  gO 27 (.load false 1 (.t 26)) 23 true,
  gO 28 (.fad 4 (.t 2)) 23 true,
  gO 29 (.load false 1 (.t 28)) 23 true,
  gO 30 (.call false 162 [(.t 25), (.t 27), (.t 29)]) 23 true,
  nO 31 (.pick (.t 23) (.t 30) (.c (.bool false))),
  mO 32 31,
  gO 33 (.fad 4 (.t 3)) 32 true,
  gO 34 (.load false 1 (.t 33)) 32 true,
  gO 35 (.fad 1 (.t 3)) 32 true,
  gO 36 (.load false 1 (.t 35)) 32 true,
  gO 37 (.fad 5 (.t 2)) 32 true,
  gO 38 (.load false 1 (.t 37)) 32 true,
  gO 39 (.call false 163 [(.t 34), (.t 36), (.t 38)]) 32 true,
  nO 40 (.pick (.t 32) (.t 39) (.c (.bool false))),
  mO 4 40] false) .ret)))
def i132 : F := ⟨2, 41, j132, [.t 4]⟩
theorem b132 : i132.body = j132 := rfl
theorem q132 : i132.res = [.t 4] := rfl
theorem c132 : chkF Tryz.prog Tryz.f132 i132 = true := by kernel_rfl
theorem s132 {m E} (hE : HE E) (hm : HM i132 m E) : Sound Tryz.prog 132 m := sound_of i132 Tryz.func132 rfl c132 hE hm
def j133 : C := (.seq (.region [nO 4 (.mov (.c (.bool false)))] false) (.seq (.seq (.region [mO 6 1,
  nO 7 (.call false 87 [(.t 6), (.c (.int .i64 2)), (.c (.int .i64 32))]),
  nO 8 (.un .not (.t 7)),
  mO 9 8,
  mG 10 0 9 false,
  gO 11 (.len (.t 10)) 9 false,
  mG 12 1 9 false,
  gO 13 (.bin .gtr (.t 11) (.t 12)) 9 false,
  nO 14 (.pick (.t 9) (.c (.bool true)) (.t 13))] false) (.cond (.t 14) (.seq (.region [nO 4 (.mov (.c (.bool false)))] false) .ret) .skip)) (.seq (.seq (.region [nO 5 (.mov (.c (.int .i64 0)))] false) (.block 0 (.loop (.keep [0, 1, 5] (.seq (.seq (.region [mO 15 5,
  mO 16 0,
  nO 17 (.len (.t 16)),
  nO 18 (.bin .lss (.t 15) (.t 17))] false) (.cond (.t 18) .skip (.exit 0))) (.seq (.block 1 (.seq (.region [mO 21 0,
  mO 22 5,
  nO 23 (.iad 6 (.t 21) (.t 22)),
  nO 24 (.load true 6 (.t 23)),
  nO 25 (.call false 164 [(.t 24)]),
  nO 26 (.un .not (.t 25))] false) (.cond (.t 26) (.seq (.region [nO 4 (.mov (.c (.bool false)))] false) .ret) .skip))) (.region [mO 19 5,
  nO 20 (.bin .add (.t 19) (.c (.int .i64 1))),
  mO 5 20] false))))))) (.seq (.region [mO 27 0,
  nO 28 (.len (.t 27)),
  mO 29 1,
  nO 30 (.bin .lss (.t 28) (.t 29)),
  mO 31 30,
  mG 32 0 31 false,
  mG 33 0 31 false,
  gO 34 (.len (.t 33)) 31 false,
  gO 35 (.bin .sub (.t 34) (.c (.int .i64 1))) 31 false,
  gO 36 (.iad 6 (.t 32) (.t 35)) 31 false,
  gO 37 (.fad 0 (.t 36)) 31 false,
  gO 38 (.load false 1 (.t 37)) 31 false,
  gO 39 (.bin .eql (.t 38) (.c (.int .i64 2))) 31 false,
  nO 40 (.pick (.t 31) (.c (.bool true)) (.t 39)),
  mO 4 40] false) .ret))))
def i133 : F := ⟨2, 41, j133, [.t 4]⟩
theorem b133 : i133.body = j133 := rfl
theorem q133 : i133.res = [.t 4] := rfl
theorem c133 : chkF Tryz.prog Tryz.f133 i133 = true := by kernel_rfl
theorem s133 {m E} (hE : HE E) (hm : HM i133 m E) : Sound Tryz.prog 133 m := sound_of i133 Tryz.func133 rfl c133 hE hm
def j134 : C := (.seq (.region [nO 5 (.box (.t 2)),
  nO 6 (.nilsl 51 3 0)] false) (.seq (.region [nO 7 (.nilsl 51 3 0)] false) (.seq (.region [nO 8 (.mov (.c (.bool false)))] false) (.seq (.seq (.region [nO 9 (.mov (.c (.int .i64 0)))] false) (.block 0 (.loop (.keep [0, 1, 5, 7, 8, 9] (.seq (.seq (.region [mO 10 9,
  mO 11 1,
  nO 12 (.len (.t 11)),
  nO 13 (.bin .lss (.t 10) (.t 12))] false) (.cond (.t 13) .skip (.exit 0))) (.seq (.block 1 (.seq (.seq (.region [mO 16 8,⟨some 17, .un .not (.t 16), none, [], [0]⟩,⟨some 18, .mov (.t 17), none, [], [0, 1]⟩,⟨some 19, .mov (.t 0), some (18, true), [20, 21, 22, 23, 24, 25, 26], [0, 1, 2]⟩,⟨some 20, .fad 0 (.t 5), some (18, true), [19, 22, 23, 24, 25, 26], [0, 1, 2]⟩,⟨some 21, .load false 1 (.t 20), some (18, true), [19, 22, 23, 24, 25, 26], [0, 1, 2, 4]⟩,⟨some 22, .mov (.t 1), some (18, true), [19, 20, 21, 23], [0, 1, 2]⟩,⟨some 23, .mov (.t 9), some (18, true), [19, 20, 21, 22], [0, 1, 2]⟩,⟨some 24, .iad 3 (.t 22) (.t 23), some (18, true), [19, 20, 21], [0, 1, 2, 6, 7]⟩,⟨some 25, .fad 0 (.t 24), some (18, true), [19, 20, 21], [0, 1, 2, 6, 7, 8]⟩,⟨some 26, .load false 1 (.t 25), some (18, true), [19, 20, 21], [0, 1, 2, 6, 7, 8, 9]⟩,⟨some 27, .call false 99 [(.t 19), (.t 21), (.t 26)], some (18, true), [], [0, 1, 2, 3, 4, 5, 6, 7, 8, 9, 10]⟩,⟨some 28, .pick (.t 18) (.t 27) (.c (.bool false)), none, [], [0, 1, 2, 3, 4, 5, 6, 7, 8, 9, 10, 11]⟩] true) (.cond (.t 28) (.region [mO 29 7,
  nO 30 (.load true 3 (.t 5)),
  nO 31 (.bsl 51 3 1 [.int .i64 0, .int .i64 0, .int .i64 0] [(0, (.t 30))]),
  nO 32 (.app 51 3 24 (.t 29) (.t 31)),
  mO 7 32,
  nO 8 (.mov (.c (.bool true)))] false) .skip)) (.region [mO 33 7,
  mO 34 1,
  mO 35 9,
  nO 36 (.iad 3 (.t 34) (.t 35)),
  nO 37 (.load true 3 (.t 36)),
  nO 38 (.bsl 51 3 1 [.int .i64 0, .int .i64 0, .int .i64 0] [(0, (.t 37))]),
  nO 39 (.app 51 3 24 (.t 33) (.t 38)),
  mO 7 39] false))) (.region [mO 14 9,
  nO 15 (.bin .add (.t 14) (.c (.int .i64 1))),
  mO 9 15] false))))))) (.seq (.seq (.region [mO 40 8,
  nO 41 (.un .not (.t 40))] false) (.cond (.t 41) (.region [mO 42 7,
  nO 43 (.load true 3 (.t 5)),
  nO 44 (.bsl 51 3 1 [.int .i64 0, .int .i64 0, .int .i64 0] [(0, (.t 43))]),
  nO 45 (.app 51 3 24 (.t 42) (.t 44)),
  mO 7 45] false) .skip)) (.seq (.region [mO 46 7,
  mO 6 46] false) .ret))))))
def i134 : F := ⟨3, 47, j134, [.t 6]⟩
theorem b134 : i134.body = j134 := rfl
theorem q134 : i134.res = [.t 6] := rfl
theorem c134 : chkF Tryz.prog Tryz.f134 i134 = true := by kernel_rfl
theorem s134 {m E} (hE : HE E) (hm : HM i134 m E) : Sound Tryz.prog 134 m := sound_of i134 Tryz.func134 rfl c134 hE hm
def j135 : C := (.seq (.region [nO 4 (.alloc [.int .i64 0, .int .i64 0, .int .i64 0, .row [], .row []])] false) (.seq (.region [mO 5 0,
  mO 6 1,
  mO 7 1,
  nO 8 (.build [.int .i64 0, .int .i64 0, .int .i64 0, .row [], .row []] [(0, 1, (.t 5)), (1, 1, (.t 6)), (2, 1, (.t 7))]),⟨none, .store none 5 (.t 4) (.t 8), none, [], []⟩] false) .ret))
def i135 : F := ⟨2, 9, j135, [.c 4 5 true]⟩
theorem b135 : i135.body = j135 := rfl
theorem q135 : i135.res = [.c 4 5 true] := rfl
theorem c135 : chkF Tryz.prog Tryz.f135 i135 = true := by kernel_rfl
theorem s135 {m E} (hE : HE E) (hm : HM i135 m E) : Sound Tryz.prog 135 m := sound_of i135 Tryz.func135 rfl c135 hE hm
def j136 : C := (.seq (.region [nO 4 (.mov (.c (.int .i64 0)))] false) (.seq (.region [mO 5 0,
  nO 6 (.call false 166 [(.t 5)]),
  mO 7 1,
  nO 8 (.call false 167 [(.t 7)]),
  nO 9 (.call false 165 [(.t 6), (.t 8)]),
  mO 4 9] false) .ret))
def i136 : F := ⟨2, 10, j136, [.t 4]⟩
theorem b136 : i136.body = j136 := rfl
theorem q136 : i136.res = [.t 4] := rfl
theorem c136 : chkF Tryz.prog Tryz.f136 i136 = true := by kernel_rfl
theorem s136 {m E} (hE : HE E) (hm : HM i136 m E) : Sound Tryz.prog 136 m := sound_of i136 Tryz.func136 rfl c136 hE hm
def j137 : C := (.seq (.region [nO 2 (.nilsl 88 2 0)] false) (.seq (.seq (.region [mO 3 0,
  nO 4 (.isnil false (.t 3))] false) (.cond (.t 4) (.seq (.region [nO 2 (.nilsl 88 2 1)] false) .ret) .skip)) (.seq (.region [nO 5 (.bsl 88 2 0 [.int .i64 0, .int .i64 0] []),
  mO 6 0,
  nO 7 (.app 88 2 16 (.t 5) (.t 6)),
  mO 2 7] false) .ret)))
def i137 : F := ⟨1, 8, j137, [.t 2]⟩
theorem b137 : i137.body = j137 := rfl
theorem q137 : i137.res = [.t 2] := rfl
theorem c137 : chkF Tryz.prog Tryz.f137 i137 = true := by kernel_rfl
theorem s137 {m E} (hE : HE E) (hm : HM i137 m E) : Sound Tryz.prog 137 m := sound_of i137 Tryz.func137 rfl c137 hE hm
theorem x137 : Sound Tryz.prog 137 (cloneM 88 2 16) := by
  refine clone_ok (r := fun _ => (.undef, [])) (s137 (E := fun _ _ => none) (fun f => Sound.no) fun args r h => ?_) (sound_nil (fun m hm => s137 (E := fun _ _ => none) (fun f => Sound.no) hm) fun A c => ⟨0, ?_⟩)
  · split at h
    · rename_i y ys
      split at h
      · rename_i hc
        cases h
        refine ⟨0, ?_⟩
        rw [F_ev rfl]
        simp only [j137, b137, q137, ww, simprocAttr, List.replicate, fillR, evE, V.pur1, asRow, List.map_append]
        rw [if_pos ⟨hc.1, by simpa using hc.2⟩]
        simp only [j137, b137, q137, ww, simprocAttr, S.kill, V.kill, Blk.kill, hand, handSs, handS, handVs, handV, List.contains_nil]
        try simp
      · cases h
    · cases h
  · cases A
    · rw [F_ev rfl]
      simp only [j137, b137, q137, ww, simprocAttr, hand, handSs, handS, handVs, handV, List.contains_nil, Bool.not_false]
      try simp
    · rw [F_ev rfl]
      simp only [j137, b137, q137, ww, simprocAttr, List.replicate, fillR, evE, V.pur1, asRow]
      try (rw [if_pos (by simp)]; simp only [j137, b137, q137, ww, simprocAttr, S.kill, V.kill, Blk.kill, hand, handSs, handS, handVs, handV, List.contains_nil])
      try simp
def j140 : C := (.seq (.region [nO 2 (.mov (.c (.k .nilIface)))] false) (.seq (.region [nO 3 (.mov (.c (.int .i64 0)))] false) (.seq (.seq (.region [mO 9 0,
  nO 10 (.len (.t 9)),
  nO 11 (.mov (.c (.int .i64 0)))] false) (.block 0 (.loop (.keep [0, 3, 9, 10, 11] (.seq (.region [nO 12 (.bin .lss (.t 11) (.t 10))] false) (.seq (.cond (.t 12) .skip (.exit 0)) (.seq (.block 1 (.seq (.region [nO 13 (.iad 1 (.t 9) (.t 11)),
  nO 14 (.load false 1 (.t 13)),
  mO 5 14] false) (.seq (.region [mO 15 5,
  nO 16 (.ifn true (.t 15))] false) (.cond (.t 16) (.region [mO 17 3,
  nO 18 (.bin .add (.t 17) (.c (.int .i64 1))),
  mO 3 18] false) .skip)))) (.region [nO 19 (.bin .add (.t 11) (.c (.int .i64 1))),
  mO 11 19] false)))))))) (.seq (.seq (.region [mO 20 3,
  nO 21 (.bin .eql (.t 20) (.c (.int .i64 0)))] false) (.cond (.t 21) (.seq (.region [nO 2 (.mov (.c (.k .nilIface)))] false) .ret) .skip)) (.seq (.region [mO 22 3,
  nO 23 (.mkz 119 1 16 [.k .nilIface] (.t 22)),
  nO 24 (.build [.row []] [(0, 1, (.t 23))]),
  nO 25 (.box (.t 24)),
  mO 6 25] false) (.seq (.seq (.region [mO 26 0,
  nO 27 (.len (.t 26)),
  nO 28 (.mov (.c (.int .i64 0)))] false) (.block 2 (.loop (.keep [6, 26, 27, 28] (.seq (.region [nO 29 (.bin .lss (.t 28) (.t 27))] false) (.seq (.cond (.t 29) .skip (.exit 2)) (.seq (.block 3 (.seq (.region [nO 30 (.iad 1 (.t 26) (.t 28)),
  nO 31 (.load false 1 (.t 30)),
  mO 8 31] false) (.seq (.region [mO 32 8,
  nO 33 (.ifn true (.t 32))] false) (.cond (.t 33) (.region [mO 34 6,
  mO 35 6,
  nO 36 (.nck (.t 35)),
  nO 37 (.fad 0 (.t 36)),
  nO 38 (.load false 1 (.t 37)),
  mO 39 8,
  nO 40 (.bsl 119 1 1 [.k .nilIface] [(0, (.t 39))]),
  nO 41 (.app 119 1 16 (.t 38) (.t 40)),
  nO 42 (.nck (.t 34)),
  nO 43 (.fad 0 (.t 42)),⟨none, .store none 1 (.t 43) (.t 41), none, [], []⟩] false) .skip)))) (.region [nO 44 (.bin .add (.t 28) (.c (.int .i64 1))),
  mO 28 44] false)))))))) (.seq (.region [mO 45 6,
  nO 46 (.mkp 182 (.t 45)),
  mO 2 46] false) .ret)))))))
def i140 : F := ⟨1, 47, j140, [.t 2]⟩
theorem b140 : i140.body = j140 := rfl
theorem q140 : i140.res = [.t 2] := rfl
theorem c140 : chkF Tryz.prog Tryz.f140 i140 = true := by kernel_rfl
theorem s140 {m E} (hE : HE E) (hm : HM i140 m E) : Sound Tryz.prog 140 m := sound_of i140 Tryz.func140 rfl c140 hE hm
def j141 : C := (.seq (.region [nO 10 (.mov (.c (.k .nilIface)))] false) (.seq (.seq (.region [mO 11 1,
  mO 12 2,
  nO 13 (.bin .lss (.t 11) (.t 12)),
  mO 14 13,
  mG 15 1 14 false,
  mG 16 3 14 false,
  gO 17 (.bin .gtr (.t 15) (.t 16)) 14 false,
  nO 18 (.pick (.t 14) (.c (.bool true)) (.t 17))] false) (.cond (.t 18) (.seq (.region [mO 19 0,
  mO 20 4,
  nO 21 (.mki 34 (.t 20)),⟨some 22, .build [.k (.string ⟨#[]⟩), .k .nilIface] [(0, 1, (.t 19)), (1, 1, (.t 21))], none, [], []⟩,
  nO 23 (.box (.t 22)),
  nO 24 (.mkp 185 (.t 23)),
  mO 10 24] false) .ret) .skip)) (.seq (.region [nO 10 (.mov (.c (.k .nilIface)))] false) .ret)))
def i141 : F := ⟨5, 25, j141, [.t 10]⟩
theorem b141 : i141.body = j141 := rfl
theorem q141 : i141.res = [.t 10] := rfl
theorem c141 : chkF Tryz.prog Tryz.f141 i141 = true := by kernel_rfl
theorem s141 {m E} (hE : HE E) (hm : HM i141 m E) : Sound Tryz.prog 141 m := sound_of i141 Tryz.func141 rfl c141 hE hm
def j142 : C := (.seq (.region [nO 2 (.box (.t 0)),
  nO 3 (.box (.t 1)),
  nO 4 (.mov (.c (.bool false)))] false) (.seq (.seq (.region [nO 5 (.load true 5 (.t 3)),
  nO 6 (.call false 174 [(.t 5)])] false) (.cond (.t 6) (.seq (.region [nO 4 (.mov (.c (.bool true)))] false) .ret) .skip)) (.seq (.region [nO 7 (.fad 0 (.t 3)),
  nO 8 (.load false 1 (.t 7)),
  nO 9 (.call false 53 [(.t 8)]),
  nO 10 (.bin .eql (.t 9) (.c (.int .i64 0))),
  mO 11 10,
  gO 12 (.fad 1 (.t 3)) 11 true,
  gO 13 (.load false 1 (.t 12)) 11 true,
  gO 14 (.call false 116 [(.t 13)]) 11 true,
  nO 15 (.pick (.t 11) (.t 14) (.c (.bool false))),
  mO 16 15,
  gO 17 (.fad 2 (.t 3)) 16 true,
  gO 18 (.load false 1 (.t 17)) 16 true,
  gO 19 (.fad 1 (.t 3)) 16 true,
  gO 20 (.load false 1 (.t 19)) 16 true,
  gO 21 (.bin .geq (.t 18) (.t 20)) 16 true,
  nO 22 (.pick (.t 16) (.t 21) (.c (.bool false))),
  mO 23 22,
  gO 24 (.fad 2 (.t 3)) 23 true,
  gO 25 (.load false 1 (.t 24)) 23 true,
  gO 26 (.bin .leq (.t 25) (.c (.int .i64 1073741824))) 23 true,
  nO 27 (.pick (.t 23) (.t 26) (.c (.bool false))),
  mO 28 27,
  gO 29 (.fad 3 (.t 3)) 28 true,
  gO 30 (.load false 1 (.t 29)) 28 true,
  gO 31 (.fad 1 (.t 3)) 28 true,
  gO 32 (.load false 1 (.t 31)) 28 true,
  gO 33 (.fad 4 (.t 2)) 28 true,
  gO 34 (.load false 1 (.t 33)) 28 true,
  gO 35 (.call false 175 [(.t 30), (.t 32), (.t 34)]) 28 true,
  gO 36 (.bin .eql (.t 35) (.c (.int .i64 0))) 28 true,
  nO 37 (.pick (.t 28) (.t 36) (.c (.bool false))),
  mO 38 37,
  gO 39 (.fad 4 (.t 3)) 38 true,
  gO 40 (.load false 1 (.t 39)) 38 true,
  gO 41 (.fad 1 (.t 3)) 38 true,
  gO 42 (.load false 1 (.t 41)) 38 true,
  gO 43 (.fad 5 (.t 2)) 38 true,
  gO 44 (.load false 1 (.t 43)) 38 true,
  gO 45 (.call false 147 [(.t 40), (.t 42), (.t 44)]) 38 true,
  gO 46 (.bin .eql (.t 45) (.c (.int .i64 0))) 38 true,
  nO 47 (.pick (.t 38) (.t 46) (.c (.bool false))),
  mO 4 47] false) .ret)))
def i142 : F := ⟨2, 48, j142, [.t 4]⟩
theorem b142 : i142.body = j142 := rfl
theorem q142 : i142.res = [.t 4] := rfl
theorem c142 : chkF Tryz.prog Tryz.f142 i142 = true := by kernel_rfl
theorem s142 {m E} (hE : HE E) (hm : HM i142 m E) : Sound Tryz.prog 142 m := sound_of i142 Tryz.func142 rfl c142 hE hm
def j143 : C := (.seq (.region [nO 4 (.mov (.c (.int .i64 0)))] false) (.seq (.region [mO 6 1,
  nO 7 (.bin .lss (.t 6) (.c (.int .i64 2))),
  mO 8 7,
  mG 9 1 8 false,
  gO 10 (.bin .gtr (.t 9) (.c (.int .i64 32))) 8 false,
  nO 11 (.pick (.t 8) (.c (.bool true)) (.t 10)),
  mO 12 11,
  mG 13 0 12 false,
  gO 14 (.len (.t 13)) 12 false,
  mG 15 1 12 false,
  gO 16 (.bin .gtr (.t 14) (.t 15)) 12 false,
  nO 17 (.pick (.t 12) (.c (.bool true)) (.t 16)),
  mO 5 17] false) (.seq (.region [mO 18 5,
  mO 19 18,
  mG 20 0 19 false,
  gO 21 (.call false 176 [(.t 20), (.c (.fn 177 []))]) 19 false,
  nO 22 (.pick (.t 19) (.c (.bool true)) (.t 21)),
  mO 5 22] false) (.seq (.seq (.region [mO 23 5,
  mO 24 23,
  mG 25 0 24 false,
  gO 26 (.len (.t 25)) 24 false,
  mG 27 1 24 false,
  gO 28 (.bin .eql (.t 26) (.t 27)) 24 false,
  mG 29 28 24 false,
  mG 30 0 29 true,
  mG 31 1 29 true,
  gO 32 (.bin .sub (.t 31) (.c (.int .i64 1))) 29 true,
  gO 33 (.iad 6 (.t 30) (.t 32)) 29 true,
  gO 34 (.fad 0 (.t 33)) 29 true,
  gO 35 (.load false 1 (.t 34)) 29 true,
  gO 36 (.bin .neq (.t 35) (.c (.int .i64 2))) 29 true,
  gO 37 (.pick (.t 29) (.t 36) (.c (.bool false))) 24 false,
  nO 38 (.pick (.t 24) (.c (.bool true)) (.t 37))] false) (.cond (.t 38) (.seq (.region [nO 4 (.mov (.c (.int .i64 1)))] false) .ret) .skip)) (.seq (.region [nO 4 (.mov (.c (.int .i64 0)))] false) .ret)))))
def i143 : F := ⟨2, 39, j143, [.t 4]⟩
theorem b143 : i143.body = j143 := rfl
theorem q143 : i143.res = [.t 4] := rfl
theorem c143 : chkF Tryz.prog Tryz.f143 i143 = true := by kernel_rfl
theorem s143 {m E} (hE : HE E) (hm : HM i143 m E) : Sound Tryz.prog 143 m := sound_of i143 Tryz.func143 rfl c143 hE hm
def j147 : C := (.seq (.region [nO 6 (.mov (.c (.int .i64 0)))] false) (.seq (.seq (.region [mO 9 1,
  nO 10 (.call false 116 [(.t 9)]),
  nO 11 (.un .not (.t 10)),
  mO 12 11,
  mG 13 2 12 false,
  gO 14 (.bin .lss (.t 13) (.c (.int .i64 1))) 12 false,
  nO 15 (.pick (.t 12) (.c (.bool true)) (.t 14)),
  mO 16 15,
  mG 17 2 16 false,
  gO 18 (.bin .gtr (.t 17) (.c (.int .i64 16))) 16 false,
  nO 19 (.pick (.t 16) (.c (.bool true)) (.t 18))] false) (.cond (.t 19) (.seq (.region [nO 6 (.mov (.c (.int .i64 1)))] false) .ret) .skip)) (.seq (.seq (.region [mO 20 0,
  nO 21 (.len (.t 20)),
  nO 22 (.mov (.c (.int .i64 0)))] false) (.block 0 (.loop (.keep [0, 1, 2, 20, 21, 22] (.seq (.region [nO 23 (.bin .lss (.t 22) (.t 21))] false) (.seq (.cond (.t 23) .skip (.exit 0)) (.seq (.block 1 (.seq (.region [mO 24 22,
  nO 25 (.iad 2 (.t 20) (.t 22)),
  nO 26 (.load true 2 (.t 25)),
  nO 8 (.alloc [.int .i64 0, .int .i64 0]),
  mO 7 24,⟨none, .store none 2 (.t 8) (.t 26), none, [], []⟩] false) (.seq (.region [⟨some 27, .fad 0 (.t 8), none, [29, 30], []⟩,⟨some 28, .load false 1 (.t 27), none, [29, 30], [0]⟩,⟨some 29, .mov (.t 1), none, [27, 28, 30], []⟩,⟨some 30, .mov (.t 2), none, [27, 28, 29], []⟩,⟨some 31, .call false 150 [(.t 28), (.t 29), (.t 30)], none, [], [0, 1, 2, 3]⟩,⟨some 32, .un .not (.t 31), none, [], [0, 1, 2, 3, 4]⟩,⟨some 33, .mov (.t 32), none, [], [0, 1, 2, 3, 4, 5]⟩,⟨some 34, .fad 1 (.t 8), some (33, false), [], [0, 1, 2, 3, 4, 5, 6]⟩,⟨some 35, .load false 1 (.t 34), some (33, false), [], [0, 1, 2, 3, 4, 5, 6, 7]⟩,⟨some 36, .call false 56 [(.t 35)], some (33, false), [], [0, 1, 2, 3, 4, 5, 6, 7, 8]⟩,⟨some 37, .un .not (.t 36), some (33, false), [], [0, 1, 2, 3, 4, 5, 6, 7, 8, 9]⟩,⟨some 38, .pick (.t 33) (.c (.bool true)) (.t 37), none, [], [0, 1, 2, 3, 4, 5, 6, 7, 8, 9, 10]⟩,⟨some 39, .mov (.t 38), none, [], [0, 1, 2, 3, 4, 5, 6, 7, 8, 9, 10, 11]⟩,⟨some 40, .mov (.t 7), some (39, false), [], [0, 1, 2, 3, 4, 5, 6, 7, 8, 9, 10, 11, 12]⟩,⟨some 41, .bin .gtr (.t 40) (.c (.int .i64 0)), some (39, false), [], [0, 1, 2, 3, 4, 5, 6, 7, 8, 9, 10, 11, 12, 13]⟩,⟨some 42, .mov (.t 41), some (39, false), [], [0, 1, 2, 3, 4, 5, 6, 7, 8, 9, 10, 11, 12, 13, 14]⟩,⟨some 43, .mov (.t 0), some (42, true), [44, 45, 49, 50], [0, 1, 2, 3, 4, 5, 6, 7, 8, 9, 10, 11, 12, 13, 14, 15]⟩,⟨some 44, .mov (.t 7), some (42, true), [43, 49, 50], [0, 1, 2, 3, 4, 5, 6, 7, 8, 9, 10, 11, 12, 13, 14, 15]⟩,⟨some 45, .bin .sub (.t 44) (.c (.int .i64 1)), some (42, true), [43, 49, 50], [0, 1, 2, 3, 4, 5, 6, 7, 8, 9, 10, 11, 12, 13, 14, 15, 17]⟩,⟨some 46, .iad 2 (.t 43) (.t 45), some (42, true), [49, 50], [0, 1, 2, 3, 4, 5, 6, 7, 8, 9, 10, 11, 12, 13, 14, 15, 16, 17, 18]⟩,⟨some 47, .fad 0 (.t 46), some (42, true), [49, 50], [0, 1, 2, 3, 4, 5, 6, 7, 8, 9, 10, 11, 12, 13, 14, 15, 16, 17, 18, 19]⟩,⟨some 48, .load false 1 (.t 47), some (42, true), [49, 50], [0, 1, 2, 3, 4, 5, 6, 7, 8, 9, 10, 11, 12, 13, 14, 15, 16, 17, 18, 19, 20]⟩,⟨some 49, .fad 0 (.t 8), some (42, true), [43, 44, 45, 46, 47, 48], [0, 1, 2, 3, 4, 5, 6, 7, 8, 9, 10, 11, 12, 13, 14, 15]⟩,⟨some 50, .load false 1 (.t 49), some (42, true), [43, 44, 45, 46, 47, 48], [0, 1, 2, 3, 4, 5, 6, 7, 8, 9, 10, 11, 12, 13, 14, 15, 22]⟩,⟨some 51, .bin .geq (.t 48) (.t 50), some (42, true), [], [0, 1, 2, 3, 4, 5, 6, 7, 8, 9, 10, 11, 12, 13, 14, 15, 16, 17, 18, 19, 20, 21, 22, 23]⟩,⟨some 52, .pick (.t 42) (.t 51) (.c (.bool false)), some (39, false), [], [0, 1, 2, 3, 4, 5, 6, 7, 8, 9, 10, 11, 12, 13, 14, 15, 16, 17, 18, 19, 20, 21, 22, 23, 24]⟩,⟨some 53, .pick (.t 39) (.c (.bool true)) (.t 52), none, [], [0, 1, 2, 3, 4, 5, 6, 7, 8, 9, 10, 11, 12, 13, 14, 15, 16, 17, 18, 19, 20, 21, 22, 23, 24, 25]⟩] true) (.cond (.t 53) (.seq (.region [nO 6 (.mov (.c (.int .i64 1)))] false) .ret) .skip)))) (.region [nO 54 (.bin .add (.t 22) (.c (.int .i64 1))),
  mO 22 54] false)))))))) (.seq (.region [nO 6 (.mov (.c (.int .i64 0)))] false) .ret))))
def i147 : F := ⟨3, 55, j147, [.t 6]⟩
theorem b147 : i147.body = j147 := rfl
theorem q147 : i147.res = [.t 6] := rfl
theorem c147 : chkF Tryz.prog Tryz.f147 i147 = true := by kernel_rfl
theorem s147 {m E} (hE : HE E) (hm : HM i147 m E) : Sound Tryz.prog 147 m := sound_of i147 Tryz.func147 rfl c147 hE hm
def j150 : C := (.seq (.region [nO 6 (.mov (.c (.bool false)))] false) (.seq (.region [mO 7 0,
  mO 8 1,
  nO 9 (.bin .gtr (.t 7) (.t 8)),
  mO 10 9,
  mG 11 0 10 true,
  mG 12 1 10 true,
  mG 13 2 10 true,
  gO 14 (.bin .add (.t 12) (.t 13)) 10 true,
  gO 15 (.bin .lss (.t 11) (.t 14)) 10 true,
  nO 16 (.pick (.t 10) (.t 15) (.c (.bool false))),
  mO 17 16,
  mG 18 0 17 true,
  gO 19 (.bin .lss (.t 18) (.c (.int .i64 1073741824))) 17 true,
  nO 20 (.pick (.t 17) (.t 19) (.c (.bool false))),
  mO 6 20] false) .ret))
def i150 : F := ⟨3, 21, j150, [.t 6]⟩
theorem b150 : i150.body = j150 := rfl
theorem q150 : i150.res = [.t 6] := rfl
theorem c150 : chkF Tryz.prog Tryz.f150 i150 = true := by kernel_rfl
theorem s150 {m E} (hE : HE E) (hm : HM i150 m E) : Sound Tryz.prog 150 m := sound_of i150 Tryz.func150 rfl c150 hE hm
theorem x152 : Sound Tryz.prog 152 (XM.insM 51 3 24) := XM.ins_ok
def j153 : C := (.seq (.region [nO 0 (.alloc [.int .i64 0, .int .i64 0, .int .i64 0, .int .i64 0])] false) (.seq (.region [nO 1 (.build [.int .i64 0, .int .i64 0, .int .i64 0, .int .i64 0] [(0, 1, (.c (.int .i64 1462484242049070477))), (1, 1, (.c (.int .i64 1775212608919665246))), (2, 1, (.c (.int .i64 3535639072113518480))), (3, 1, (.c (.int .i64 3725500155902745375)))]),⟨none, .store none 4 (.t 0) (.t 1), none, [], []⟩] false) .ret))
def i153 : F := ⟨0, 2, j153, [.c 0 4 true]⟩
theorem c153 : chkF Tryz.prog Tryz.f153 i153 = true := by kernel_rfl
theorem s153 {m E} (hE : HE E) (hm : HM i153 m E) : Sound Tryz.prog 153 m := sound_of i153 Tryz.func153 rfl c153 hE hm
def j154 : C := (.seq (.region [nO 0 (.alloc [.int .i64 0, .int .i64 0, .int .i64 0, .int .i64 0, .int .i64 0, .int .i64 0, .int .i64 0, .int .i64 0])] false) (.seq (.region [nO 1 (.build [.int .i64 0, .int .i64 0, .int .i64 0, .int .i64 0, .int .i64 0, .int .i64 0, .int .i64 0, .int .i64 0] [(0, 1, (.c (.int .i64 2342812313538366385))), (1, 1, (.c (.int .i64 1863050908023769503))), (2, 1, (.c (.int .i64 81111313352671826))), (3, 1, (.c (.int .i64 2434324899588211290))), (4, 1, (.c (.int .i64 2454816673080883147))), (5, 1, (.c (.int .i64 1342378062264523301))), (6, 1, (.c (.int .i64 820659310660760249))), (7, 1, (.c (.int .i64 2006264061484817761)))]),⟨none, .store none 8 (.t 0) (.t 1), none, [], []⟩] false) .ret))
def i154 : F := ⟨0, 2, j154, [.c 0 8 true]⟩
theorem c154 : chkF Tryz.prog Tryz.f154 i154 = true := by kernel_rfl
theorem s154 {m E} (hE : HE E) (hm : HM i154 m E) : Sound Tryz.prog 154 m := sound_of i154 Tryz.func154 rfl c154 hE hm
def j155 : C := (.seq (.region [nO 4 (.mov (.c (.int .i64 0)))] false) (.seq (.seq (.region [mO 6 0,
  nO 7 (.len (.t 6)),
  nO 8 (.mov (.c (.int .i64 0)))] false) (.block 0 (.loop (.keep [0, 1, 7, 8] (.seq (.region [nO 9 (.bin .lss (.t 8) (.t 7))] false) (.seq (.cond (.t 9) .skip (.exit 0)) (.seq (.block 1 (.seq (.region [mO 10 8,
  mO 5 10] false) (.seq (.region [mO 11 1,
  mO 12 0,
  mO 13 5,
  nO 14 (.iad 1 (.t 12) (.t 13)),
  nO 15 (.load false 1 (.t 14)),
  nO 16 (.callv false (.t 11) [(.t 15)])] false) (.cond (.t 16) (.seq (.region [mO 17 5,
  mO 4 17] false) .ret) .skip)))) (.region [nO 18 (.bin .add (.t 8) (.c (.int .i64 1))),
  mO 8 18] false)))))))) (.seq (.region [nO 4 (.mov (.c (.int .i64 (-1))))] false) .ret)))
def i155 : F := ⟨2, 19, j155, [.t 4]⟩
theorem b155 : i155.body = j155 := rfl
theorem q155 : i155.res = [.t 4] := rfl
theorem c155 : chkF Tryz.prog Tryz.f155 i155 = true := by kernel_rfl
theorem s155 {m E} (hE : HE E) (hm : HM i155 m E) : Sound Tryz.prog 155 m := sound_of i155 Tryz.func155 rfl c155 hE hm
def j156 : C := (.seq (.region [nO 2 (.mov (.c (.bool false)))] false) (.seq (.region [mO 3 0,
  nO 4 (.len (.t 3)),
  nO 5 (.bin .leq (.t 4) (.c (.int .i64 8))),
  mO 6 5,
  mG 7 0 6 true,
  gO 8 (.call false 70 [(.t 7)]) 6 true,
  nO 9 (.pick (.t 6) (.t 8) (.c (.bool false))),
  mO 10 9,
  mG 11 0 10 true,
  gO 12 (.call false 159 [(.t 11)]) 10 true,
  nO 13 (.pick (.t 10) (.t 12) (.c (.bool false))),
  mO 2 13] false) .ret))
def i156 : F := ⟨1, 14, j156, [.t 2]⟩
theorem b156 : i156.body = j156 := rfl
theorem q156 : i156.res = [.t 2] := rfl
theorem c156 : chkF Tryz.prog Tryz.f156 i156 = true := by kernel_rfl
theorem s156 {m E} (hE : HE E) (hm : HM i156 m E) : Sound Tryz.prog 156 m := sound_of i156 Tryz.func156 rfl c156 hE hm
def j157 : C := (.seq (.region [nO 1 (.box (.t 0)),
  nO 2 (.mov (.c (.bool false)))] false) (.seq (.region [nO 3 (.fad 6 (.t 1)),
  nO 4 (.load false 1 (.t 3)),
  nO 5 (.call false 110 [(.t 4), (.c (.int .i64 1)), (.c (.int .i64 1073741824))]),
  mO 6 5,
  gO 7 (.fad 7 (.t 1)) 6 true,
  gO 8 (.load false 1 (.t 7)) 6 true,
  gO 9 (.call false 116 [(.t 8)]) 6 true,
  nO 10 (.pick (.t 6) (.t 9) (.c (.bool false))),
  mO 2 10] false) .ret))
def i157 : F := ⟨1, 11, j157, [.t 2]⟩
theorem b157 : i157.body = j157 := rfl
theorem q157 : i157.res = [.t 2] := rfl
theorem c157 : chkF Tryz.prog Tryz.f157 i157 = true := by kernel_rfl
theorem s157 {m E} (hE : HE E) (hm : HM i157 m E) : Sound Tryz.prog 157 m := sound_of i157 Tryz.func157 rfl c157 hE hm
def j158 : C := (.seq (.region [nO 1 (.box (.t 0)),
  nO 2 (.mov (.c (.bool false)))] false) (.seq (.region [nO 3 (.fad 10 (.t 1)),
  nO 4 (.load false 1 (.t 3)),
  nO 5 (.call false 85 [(.t 4)]),
  mO 6 5,
  gO 7 (.fad 11 (.t 1)) 6 true,
  gO 8 (.load false 1 (.t 7)) 6 true,
  gO 9 (.call false 116 [(.t 8)]) 6 true,
  nO 10 (.pick (.t 6) (.t 9) (.c (.bool false))),
  mO 11 10,
  gO 12 (.fad 9 (.t 1)) 11 true,
  gO 13 (.load false 1 (.t 12)) 11 true,
  gO 14 (.call false 56 [(.t 13)]) 11 true,
  nO 15 (.pick (.t 11) (.t 14) (.c (.bool false))),
  mO 16 15,
  gO 17 (.fad 13 (.t 1)) 16 true,
  gO 18 (.load false 1 (.t 17)) 16 true,
  gO 19 (.call false 110 [(.t 18), (.c (.int .i64 0)), (.c (.int .i64 16))]) 16 true,
  nO 20 (.pick (.t 16) (.t 19) (.c (.bool false))),
  mO 2 20] false) .ret))
def i158 : F := ⟨1, 21, j158, [.t 2]⟩
theorem b158 : i158.body = j158 := rfl
theorem q158 : i158.res = [.t 2] := rfl
theorem c158 : chkF Tryz.prog Tryz.f158 i158 = true := by kernel_rfl
theorem s158 {m E} (hE : HE E) (hm : HM i158 m E) : Sound Tryz.prog 158 m := sound_of i158 Tryz.func158 rfl c158 hE hm
def j159 : C := (.seq (.region [nO 2 (.mov (.c (.bool false)))] false) (.seq (.seq (.region [mO 5 0,
  nO 6 (.len (.t 5)),
  nO 7 (.mov (.c (.int .i64 0)))] false) (.block 0 (.loop (.keep [0, 5, 6, 7] (.seq (.region [nO 8 (.bin .lss (.t 7) (.t 6))] false) (.seq (.cond (.t 8) .skip (.exit 0)) (.seq (.block 1 (.seq (.region [mO 9 7,
  nO 10 (.iad 1 (.t 5) (.t 7)),
  nO 11 (.load false 1 (.t 10)),
  mO 3 9,
  mO 4 11] false) (.seq (.region [mO 12 0,
  mO 13 3,
  nO 14 (.cut 1 (.t 12) none (some (.t 13))),
  mO 15 4,
  nO 16 (.call false 186 [(.t 14), (.t 15)])] false) (.cond (.t 16) (.seq (.region [nO 2 (.mov (.c (.bool false)))] false) .ret) .skip)))) (.region [nO 17 (.bin .add (.t 7) (.c (.int .i64 1))),
  mO 7 17] false)))))))) (.seq (.region [nO 2 (.mov (.c (.bool true)))] false) .ret)))
def i159 : F := ⟨1, 18, j159, [.t 2]⟩
theorem b159 : i159.body = j159 := rfl
theorem q159 : i159.res = [.t 2] := rfl
theorem c159 : chkF Tryz.prog Tryz.f159 i159 = true := by kernel_rfl
theorem s159 {m E} (hE : HE E) (hm : HM i159 m E) : Sound Tryz.prog 159 m := sound_of i159 Tryz.func159 rfl c159 hE hm
def j160 : C := (.seq (.region [nO 2 (.nilsl 3 1 0)] false) (.seq (.region [nO 3 (.mov (.c (.int .i64 0)))] false) (.seq (.seq (.region [mO 9 0,
  nO 10 (.len (.t 9)),
  nO 11 (.mov (.c (.int .i64 0)))] false) (.block 0 (.loop (.keep [0, 3, 9, 10, 11] (.seq (.region [nO 12 (.bin .lss (.t 11) (.t 10))] false) (.seq (.cond (.t 12) .skip (.exit 0)) (.seq (.block 1 (.seq (.region [nO 13 (.iad 1 (.t 9) (.t 11)),
  nO 14 (.load false 1 (.t 13)),
  mO 5 14] false) (.seq (.region [mO 15 3,
  mO 16 5,
  nO 17 (.len (.t 16)),
  nO 18 (.bin .add (.t 15) (.t 17)),
  mO 3 18] false) (.seq (.region [mO 19 3,
  nO 20 (.bin .lss (.t 19) (.c (.int .i64 0)))] false) (.cond (.t 20) (.region [nO 21 (.stop),⟨none, .stop, none, [], []⟩] false) .skip))))) (.region [nO 22 (.bin .add (.t 11) (.c (.int .i64 1))),
  mO 11 22] false)))))))) (.seq (.region [mO 23 3,
  nO 24 (.call true 187 [(.c (.k (.slice none 0 0))), (.t 23)]),
  mO 6 24] false) (.seq (.seq (.region [mO 25 0,
  nO 26 (.len (.t 25)),
  nO 27 (.mov (.c (.int .i64 0)))] false) (.block 2 (.loop (.keep [6, 25, 26, 27] (.seq (.region [nO 28 (.bin .lss (.t 27) (.t 26))] false) (.seq (.cond (.t 28) .skip (.exit 2)) (.seq (.block 3 (.seq (.region [nO 29 (.iad 1 (.t 25) (.t 27)),
  nO 30 (.load false 1 (.t 29)),
  mO 8 30] false) (.region [mO 31 6,
  mO 32 8,
  nO 33 (.app 3 1 8 (.t 31) (.t 32)),
  mO 6 33] false))) (.region [nO 34 (.bin .add (.t 27) (.c (.int .i64 1))),
  mO 27 34] false)))))))) (.seq (.region [mO 35 6,
  mO 2 35] false) .ret))))))
def i160 : F := ⟨1, 36, j160, [.t 2]⟩
theorem b160 : i160.body = j160 := rfl
theorem q160 : i160.res = [.t 2] := rfl
theorem c160 : chkF Tryz.prog Tryz.f160 i160 = true := by kernel_rfl
theorem s160 {m E} (hE : HE E) (hm : HM i160 m E) : Sound Tryz.prog 160 m := sound_of i160 Tryz.func160 rfl c160 hE hm
def j161 : C := (.seq (.region [nO 2 (.mov (.c (.bool false)))] false) (.seq (.region [mO 3 0,
  nO 4 (.call false 87 [(.t 3), (.c (.int .i64 1)), (.c (.int .i64 1073741824))]),
  mO 2 4] false) .ret))
def i161 : F := ⟨1, 5, j161, [.t 2]⟩
theorem b161 : i161.body = j161 := rfl
theorem q161 : i161.res = [.t 2] := rfl
theorem c161 : chkF Tryz.prog Tryz.f161 i161 = true := by kernel_rfl
theorem s161 {m E} (hE : HE E) (hm : HM i161 m E) : Sound Tryz.prog 161 m := sound_of i161 Tryz.func161 rfl c161 hE hm
def j162 : C := (.seq (.region [nO 6 (.mov (.c (.bool false)))] false) (.seq (.seq (.region [mO 8 1,
  nO 9 (.call false 87 [(.t 8), (.c (.int .i64 1)), (.c (.int .i64 1073741824))]),
  nO 10 (.un .not (.t 9)),
  mO 11 10,
  mG 12 2 11 false,
  gO 13 (.call false 87 [(.t 12), (.c (.int .i64 1)), (.c (.int .i64 16))]) 11 false,
  gO 14 (.un .not (.t 13)) 11 false,
  nO 15 (.pick (.t 11) (.c (.bool true)) (.t 14)),
  mO 16 15,
  mG 17 0 16 false,
  gO 18 (.len (.t 17)) 16 false,
  mG 19 2 16 false,
  gO 20 (.bin .gtr (.t 18) (.t 19)) 16 false,
  nO 21 (.pick (.t 16) (.c (.bool true)) (.t 20)),
  mO 22 21,
  mG 23 0 22 false,
  gO 24 (.len (.t 23)) 22 false,
  mG 25 1 22 false,
  gO 26 (.bin .geq (.t 24) (.t 25)) 22 false,
  nO 27 (.pick (.t 22) (.c (.bool true)) (.t 26))] false) (.cond (.t 27) (.seq (.region [nO 6 (.mov (.c (.bool false)))] false) .ret) .skip)) (.seq (.seq (.region [nO 7 (.mov (.c (.int .i64 0)))] false) (.block 0 (.loop (.keep [0, 1, 7] (.seq (.seq (.region [mO 28 7,
  mO 29 0,
  nO 30 (.len (.t 29)),
  nO 31 (.bin .lss (.t 28) (.t 30))] false) (.cond (.t 31) .skip (.exit 0))) (.seq (.block 1 (.seq (.region [mO 34 0,
  mO 35 7,
  nO 36 (.iad 2 (.t 34) (.t 35)),
  nO 37 (.fad 0 (.t 36)),
  nO 38 (.load false 1 (.t 37)),
  mO 39 1,
  mO 40 0,
  nO 41 (.len (.t 40)),
  nO 42 (.bin .sub (.t 39) (.t 41)),
  mO 43 7,
  nO 44 (.bin .add (.t 42) (.t 43)),
  nO 45 (.bin .neq (.t 38) (.t 44)),
  mO 46 45,
  mG 47 0 46 false,
  mG 48 7 46 false,
  gO 49 (.iad 2 (.t 47) (.t 48)) 46 false,
  gO 50 (.fad 1 (.t 49)) 46 false,
  gO 51 (.load false 1 (.t 50)) 46 false,
  gO 52 (.call false 76 [(.t 51)]) 46 false,
  gO 53 (.un .not (.t 52)) 46 false,
  nO 54 (.pick (.t 46) (.c (.bool true)) (.t 53))] false) (.cond (.t 54) (.seq (.region [nO 6 (.mov (.c (.bool false)))] false) .ret) .skip))) (.region [mO 32 7,
  nO 33 (.bin .add (.t 32) (.c (.int .i64 1))),
  mO 7 33] false))))))) (.seq (.region [nO 6 (.mov (.c (.bool true)))] false) .ret))))
def i162 : F := ⟨3, 55, j162, [.t 6]⟩
theorem b162 : i162.body = j162 := rfl
theorem q162 : i162.res = [.t 6] := rfl
theorem c162 : chkF Tryz.prog Tryz.f162 i162 = true := by kernel_rfl
theorem s162 {m E} (hE : HE E) (hm : HM i162 m E) : Sound Tryz.prog 162 m := sound_of i162 Tryz.func162 rfl c162 hE hm
def j163 : C := (.seq (.region [nO 6 (.mov (.c (.bool false)))] false) (.seq (.seq (.region [mO 8 1,
  nO 9 (.call false 87 [(.t 8), (.c (.int .i64 1)), (.c (.int .i64 1073741824))]),
  nO 10 (.un .not (.t 9)),
  mO 11 10,
  mG 12 2 11 false,
  gO 13 (.call false 87 [(.t 12), (.c (.int .i64 1)), (.c (.int .i64 16))]) 11 false,
  gO 14 (.un .not (.t 13)) 11 false,
  nO 15 (.pick (.t 11) (.c (.bool true)) (.t 14))] false) (.cond (.t 15) (.seq (.region [nO 6 (.mov (.c (.bool false)))] false) .ret) .skip)) (.seq (.seq (.region [nO 7 (.mov (.c (.int .i64 0)))] false) (.block 0 (.loop (.keep [0, 1, 2, 7] (.seq (.seq (.region [mO 16 7,
  mO 17 0,
  nO 18 (.len (.t 17)),
  nO 19 (.bin .lss (.t 16) (.t 18))] false) (.cond (.t 19) .skip (.exit 0))) (.seq (.block 1 (.seq (.region [⟨some 22, .mov (.t 0), none, [23, 27], []⟩,⟨some 23, .mov (.t 7), none, [22, 27], []⟩,⟨some 24, .iad 2 (.t 22) (.t 23), none, [27], [0, 1]⟩,⟨some 25, .fad 0 (.t 24), none, [27], [0, 1, 2]⟩,⟨some 26, .load false 1 (.t 25), none, [27], [0, 1, 2, 3]⟩,⟨some 27, .mov (.t 1), none, [22, 23, 24, 25, 26], []⟩,⟨some 28, .bin .leq (.t 26) (.t 27), none, [], [0, 1, 2, 3, 4, 5]⟩,⟨some 29, .mov (.t 28), none, [], [0, 1, 2, 3, 4, 5, 6]⟩,⟨some 30, .mov (.t 0), some (29, false), [31, 35, 36, 37], [0, 1, 2, 3, 4, 5, 6, 7]⟩,⟨some 31, .mov (.t 7), some (29, false), [30, 35, 36, 37], [0, 1, 2, 3, 4, 5, 6, 7]⟩,⟨some 32, .iad 2 (.t 30) (.t 31), some (29, false), [35, 36, 37], [0, 1, 2, 3, 4, 5, 6, 7, 8, 9]⟩,⟨some 33, .fad 0 (.t 32), some (29, false), [35, 36, 37], [0, 1, 2, 3, 4, 5, 6, 7, 8, 9, 10]⟩,⟨some 34, .load false 1 (.t 33), some (29, false), [35, 36, 37], [0, 1, 2, 3, 4, 5, 6, 7, 8, 9, 10, 11]⟩,⟨some 35, .mov (.t 1), some (29, false), [30, 31, 32, 33, 34, 36], [0, 1, 2, 3, 4, 5, 6, 7]⟩,⟨some 36, .mov (.t 2), some (29, false), [30, 31, 32, 33, 34, 35], [0, 1, 2, 3, 4, 5, 6, 7]⟩,⟨some 37, .bin .add (.t 35) (.t 36), some (29, false), [30, 31, 32, 33, 34], [0, 1, 2, 3, 4, 5, 6, 7, 13, 14]⟩,⟨some 38, .bin .geq (.t 34) (.t 37), some (29, false), [], [0, 1, 2, 3, 4, 5, 6, 7, 8, 9, 10, 11, 12, 13, 14, 15]⟩,⟨some 39, .pick (.t 29) (.c (.bool true)) (.t 38), none, [], [0, 1, 2, 3, 4, 5, 6, 7, 8, 9, 10, 11, 12, 13, 14, 15, 16]⟩,⟨some 40, .mov (.t 39), none, [], [0, 1, 2, 3, 4, 5, 6, 7, 8, 9, 10, 11, 12, 13, 14, 15, 16, 17]⟩,⟨some 41, .mov (.t 0), some (40, false), [42], [0, 1, 2, 3, 4, 5, 6, 7, 8, 9, 10, 11, 12, 13, 14, 15, 16, 17, 18]⟩,⟨some 42, .mov (.t 7), some (40, false), [41], [0, 1, 2, 3, 4, 5, 6, 7, 8, 9, 10, 11, 12, 13, 14, 15, 16, 17, 18]⟩,⟨some 43, .iad 2 (.t 41) (.t 42), some (40, false), [], [0, 1, 2, 3, 4, 5, 6, 7, 8, 9, 10, 11, 12, 13, 14, 15, 16, 17, 18, 19, 20]⟩,⟨some 44, .fad 0 (.t 43), some (40, false), [], [0, 1, 2, 3, 4, 5, 6, 7, 8, 9, 10, 11, 12, 13, 14, 15, 16, 17, 18, 19, 20, 21]⟩,⟨some 45, .load false 1 (.t 44), some (40, false), [], [0, 1, 2, 3, 4, 5, 6, 7, 8, 9, 10, 11, 12, 13, 14, 15, 16, 17, 18, 19, 20, 21, 22]⟩,⟨some 46, .bin .geq (.t 45) (.c (.int .i64 1073741824)), some (40, false), [], [0, 1, 2, 3, 4, 5, 6, 7, 8, 9, 10, 11, 12, 13, 14, 15, 16, 17, 18, 19, 20, 21, 22, 23]⟩,⟨some 47, .pick (.t 40) (.c (.bool true)) (.t 46), none, [], [0, 1, 2, 3, 4, 5, 6, 7, 8, 9, 10, 11, 12, 13, 14, 15, 16, 17, 18, 19, 20, 21, 22, 23, 24]⟩,⟨some 48, .mov (.t 47), none, [], [0, 1, 2, 3, 4, 5, 6, 7, 8, 9, 10, 11, 12, 13, 14, 15, 16, 17, 18, 19, 20, 21, 22, 23, 24, 25]⟩,⟨some 49, .mov (.t 7), some (48, false), [], [0, 1, 2, 3, 4, 5, 6, 7, 8, 9, 10, 11, 12, 13, 14, 15, 16, 17, 18, 19, 20, 21, 22, 23, 24, 25, 26]⟩,⟨some 50, .bin .gtr (.t 49) (.c (.int .i64 0)), some (48, false), [], [0, 1, 2, 3, 4, 5, 6, 7, 8, 9, 10, 11, 12, 13, 14, 15, 16, 17, 18, 19, 20, 21, 22, 23, 24, 25, 26, 27]⟩,⟨some 51, .mov (.t 50), some (48, false), [], [0, 1, 2, 3, 4, 5, 6, 7, 8, 9, 10, 11, 12, 13, 14, 15, 16, 17, 18, 19, 20, 21, 22, 23, 24, 25, 26, 27, 28]⟩,⟨some 52, .mov (.t 0), some (51, true), [53, 57, 58, 59, 60, 61, 62], [0, 1, 2, 3, 4, 5, 6, 7, 8, 9, 10, 11, 12, 13, 14, 15, 16, 17, 18, 19, 20, 21, 22, 23, 24, 25, 26, 27, 28, 29]⟩,⟨some 53, .mov (.t 7), some (51, true), [52, 57, 58, 59, 60, 61, 62], [0, 1, 2, 3, 4, 5, 6, 7, 8, 9, 10, 11, 12, 13, 14, 15, 16, 17, 18, 19, 20, 21, 22, 23, 24, 25, 26, 27, 28, 29]⟩,⟨some 54, .iad 2 (.t 52) (.t 53), some (51, true), [57, 58, 59, 60, 61, 62], [0, 1, 2, 3, 4, 5, 6, 7, 8, 9, 10, 11, 12, 13, 14, 15, 16, 17, 18, 19, 20, 21, 22, 23, 24, 25, 26, 27, 28, 29, 30, 31]⟩,⟨some 55, .fad 0 (.t 54), some (51, true), [57, 58, 59, 60, 61, 62], [0, 1, 2, 3, 4, 5, 6, 7, 8, 9, 10, 11, 12, 13, 14, 15, 16, 17, 18, 19, 20, 21, 22, 23, 24, 25, 26, 27, 28, 29, 30, 31, 32]⟩,⟨some 56, .load false 1 (.t 55), some (51, true), [57, 58, 59, 60, 61, 62], [0, 1, 2, 3, 4, 5, 6, 7, 8, 9, 10, 11, 12, 13, 14, 15, 16, 17, 18, 19, 20, 21, 22, 23, 24, 25, 26, 27, 28, 29, 30, 31, 32, 33]⟩,⟨some 57, .mov (.t 0), some (51, true), [52, 53, 54, 55, 56, 58, 59], [0, 1, 2, 3, 4, 5, 6, 7, 8, 9, 10, 11, 12, 13, 14, 15, 16, 17, 18, 19, 20, 21, 22, 23, 24, 25, 26, 27, 28, 29]⟩,⟨some 58, .mov (.t 7), some (51, true), [52, 53, 54, 55, 56, 57], [0, 1, 2, 3, 4, 5, 6, 7, 8, 9, 10, 11, 12, 13, 14, 15, 16, 17, 18, 19, 20, 21, 22, 23, 24, 25, 26, 27, 28, 29]⟩,⟨some 59, .bin .sub (.t 58) (.c (.int .i64 1)), some (51, true), [52, 53, 54, 55, 56, 57], [0, 1, 2, 3, 4, 5, 6, 7, 8, 9, 10, 11, 12, 13, 14, 15, 16, 17, 18, 19, 20, 21, 22, 23, 24, 25, 26, 27, 28, 29, 36]⟩,⟨some 60, .iad 2 (.t 57) (.t 59), some (51, true), [52, 53, 54, 55, 56], [0, 1, 2, 3, 4, 5, 6, 7, 8, 9, 10, 11, 12, 13, 14, 15, 16, 17, 18, 19, 20, 21, 22, 23, 24, 25, 26, 27, 28, 29, 35, 36, 37]⟩,⟨some 61, .fad 0 (.t 60), some (51, true), [52, 53, 54, 55, 56], [0, 1, 2, 3, 4, 5, 6, 7, 8, 9, 10, 11, 12, 13, 14, 15, 16, 17, 18, 19, 20, 21, 22, 23, 24, 25, 26, 27, 28, 29, 35, 36, 37, 38]⟩,⟨some 62, .load false 1 (.t 61), some (51, true), [52, 53, 54, 55, 56], [0, 1, 2, 3, 4, 5, 6, 7, 8, 9, 10, 11, 12, 13, 14, 15, 16, 17, 18, 19, 20, 21, 22, 23, 24, 25, 26, 27, 28, 29, 35, 36, 37, 38, 39]⟩,⟨some 63, .bin .leq (.t 56) (.t 62), some (51, true), [], [0, 1, 2, 3, 4, 5, 6, 7, 8, 9, 10, 11, 12, 13, 14, 15, 16, 17, 18, 19, 20, 21, 22, 23, 24, 25, 26, 27, 28, 29, 30, 31, 32, 33, 34, 35, 36, 37, 38, 39, 40]⟩,⟨some 64, .pick (.t 51) (.t 63) (.c (.bool false)), some (48, false), [], [0, 1, 2, 3, 4, 5, 6, 7, 8, 9, 10, 11, 12, 13, 14, 15, 16, 17, 18, 19, 20, 21, 22, 23, 24, 25, 26, 27, 28, 29, 30, 31, 32, 33, 34, 35, 36, 37, 38, 39, 40, 41]⟩,⟨some 65, .pick (.t 48) (.c (.bool true)) (.t 64), none, [], [0, 1, 2, 3, 4, 5, 6, 7, 8, 9, 10, 11, 12, 13, 14, 15, 16, 17, 18, 19, 20, 21, 22, 23, 24, 25, 26, 27, 28, 29, 30, 31, 32, 33, 34, 35, 36, 37, 38, 39, 40, 41, 42]⟩,⟨some 66, .mov (.t 65), none, [], [0, 1, 2, 3, 4, 5, 6, 7, 8, 9, 10, 11, 12, 13, 14, 15, 16, 17, 18, 19, 20, 21, 22, 23, 24, 25, 26, 27, 28, 29, 30, 31, 32, 33, 34, 35, 36, 37, 38, 39, 40, 41, 42, 43]⟩,⟨some 67, .mov (.t 0), some (66, false), [68], [0, 1, 2, 3, 4, 5, 6, 7, 8, 9, 10, 11, 12, 13, 14, 15, 16, 17, 18, 19, 20, 21, 22, 23, 24, 25, 26, 27, 28, 29, 30, 31, 32, 33, 34, 35, 36, 37, 38, 39, 40, 41, 42, 43, 44]⟩,⟨some 68, .mov (.t 7), some (66, false), [67], [0, 1, 2, 3, 4, 5, 6, 7, 8, 9, 10, 11, 12, 13, 14, 15, 16, 17, 18, 19, 20, 21, 22, 23, 24, 25, 26, 27, 28, 29, 30, 31, 32, 33, 34, 35, 36, 37, 38, 39, 40, 41, 42, 43, 44]⟩,⟨some 69, .iad 2 (.t 67) (.t 68), some (66, false), [], [0, 1, 2, 3, 4, 5, 6, 7, 8, 9, 10, 11, 12, 13, 14, 15, 16, 17, 18, 19, 20, 21, 22, 23, 24, 25, 26, 27, 28, 29, 30, 31, 32, 33, 34, 35, 36, 37, 38, 39, 40, 41, 42, 43, 44, 45, 46]⟩,⟨some 70, .fad 1 (.t 69), some (66, false), [], [0, 1, 2, 3, 4, 5, 6, 7, 8, 9, 10, 11, 12, 13, 14, 15, 16, 17, 18, 19, 20, 21, 22, 23, 24, 25, 26, 27, 28, 29, 30, 31, 32, 33, 34, 35, 36, 37, 38, 39, 40, 41, 42, 43, 44, 45, 46, 47]⟩,⟨some 71, .load false 1 (.t 70), some (66, false), [], [0, 1, 2, 3, 4, 5, 6, 7, 8, 9, 10, 11, 12, 13, 14, 15, 16, 17, 18, 19, 20, 21, 22, 23, 24, 25, 26, 27, 28, 29, 30, 31, 32, 33, 34, 35, 36, 37, 38, 39, 40, 41, 42, 43, 44, 45, 46, 47, 48]⟩,⟨some 72, .call false 76 [(.t 71)], some (66, false), [], [0, 1, 2, 3, 4, 5, 6, 7, 8, 9, 10, 11, 12, 13, 14, 15, 16, 17, 18, 19, 20, 21, 22, 23, 24, 25, 26, 27, 28, 29, 30, 31, 32, 33, 34, 35, 36, 37, 38, 39, 40, 41, 42, 43, 44, 45, 46, 47, 48, 49]⟩,⟨some 73, .un .not (.t 72), some (66, false), [], [0, 1, 2, 3, 4, 5, 6, 7, 8, 9, 10, 11, 12, 13, 14, 15, 16, 17, 18, 19, 20, 21, 22, 23, 24, 25, 26, 27, 28, 29, 30, 31, 32, 33, 34, 35, 36, 37, 38, 39, 40, 41, 42, 43, 44, 45, 46, 47, 48, 49, 50]⟩,⟨some 74, .pick (.t 66) (.c (.bool true)) (.t 73), none, [], [0, 1, 2, 3, 4, 5, 6, 7, 8, 9, 10, 11, 12, 13, 14, 15, 16, 17, 18, 19, 20, 21, 22, 23, 24, 25, 26, 27, 28, 29, 30, 31, 32, 33, 34, 35, 36, 37, 38, 39, 40, 41, 42, 43, 44, 45, 46, 47, 48, 49, 50, 51]⟩] true) (.cond (.t 74) (.seq (.region [nO 6 (.mov (.c (.bool false)))] false) .ret) .skip))) (.region [mO 20 7,
  nO 21 (.bin .add (.t 20) (.c (.int .i64 1))),
  mO 7 21] false))))))) (.seq (.region [nO 6 (.mov (.c (.bool true)))] false) .ret))))
def i163 : F := ⟨3, 75, j163, [.t 6]⟩
theorem b163 : i163.body = j163 := rfl
theorem q163 : i163.res = [.t 6] := rfl
theorem c163 : chkF Tryz.prog Tryz.f163 i163 = true := by kernel_rfl
theorem s163 {m E} (hE : HE E) (hm : HM i163 m E) : Sound Tryz.prog 163 m := sound_of i163 Tryz.func163 rfl c163 hE hm
def j164 : C := (.seq (.region [nO 1 (.box (.t 0)),
  nO 2 (.mov (.c (.bool false)))] false) (.seq (.region [nO 5 (.fad 0 (.t 1)),
  nO 6 (.load false 1 (.t 5)),
  nO 7 (.build [.int .i64 0, .int .i64 0, .int .i64 0, .int .i64 0, .int .i64 0, .int .i64 0] [(0, 1, (.t 6))]),
  nO 3 (.alloc [.int .i64 0, .int .i64 0, .int .i64 0, .int .i64 0, .int .i64 0, .int .i64 0]),⟨none, .store none 6 (.t 3) (.t 7), none, [], []⟩] false) (.seq (.region [nO 4 (.mov (.c (.bool true)))] false) (.seq (.seq (.region [nO 8 (.fad 0 (.t 1)),
  nO 9 (.load false 1 (.t 8))] false) (.block 0 (.seq (.region [nO 11 (.bin .eql (.t 9) (.c (.int .i64 1))),
  mO 10 11] false) (.cond (.t 10) (.seq (.region [nO 12 (.fad 1 (.t 1)),
  nO 13 (.load false 1 (.t 12)),
  nO 14 (.call false 88 [(.t 13)]),
  mO 15 14,
  gO 16 (.fad 2 (.t 1)) 15 true,
  gO 17 (.load false 1 (.t 16)) 15 true,
  gO 18 (.call false 161 [(.t 17)]) 15 true,
  nO 19 (.pick (.t 15) (.t 18) (.c (.bool false))),
  mO 20 19,
  gO 21 (.fad 4 (.t 1)) 20 true,
  gO 22 (.load false 1 (.t 21)) 20 true,
  gO 23 (.call false 76 [(.t 22)]) 20 true,
  nO 24 (.pick (.t 20) (.t 23) (.c (.bool false))),
  mO 4 24] false) (.region [⟨some 25, .fad 1 (.t 1), none, [27, 28, 29, 30], []⟩,⟨some 26, .load false 1 (.t 25), none, [27, 28, 29, 30], [0]⟩,⟨some 27, .fad 2 (.t 1), none, [3, 25, 26, 29, 30, 31], []⟩,⟨some 28, .load false 1 (.t 27), none, [3, 25, 26, 29, 30, 31], [2]⟩,⟨some 29, .fad 4 (.t 1), none, [3, 25, 26, 27, 28, 31, 32], []⟩,⟨some 30, .load false 1 (.t 29), none, [3, 25, 26, 27, 28, 31, 32], [4]⟩,⟨some 31, .fad 1 (.t 3), none, [27, 28, 29, 30], [0, 1]⟩,⟨none, .store (some 3) 1 (.t 31) (.t 26), none, [27, 28, 29, 30], [0, 1, 6]⟩,⟨some 32, .fad 2 (.t 3), none, [29, 30], [0, 1, 2, 3, 6, 7]⟩,⟨none, .store (some 3) 1 (.t 32) (.t 28), none, [29, 30], [0, 1, 2, 3, 6, 7, 8]⟩,⟨some 33, .fad 4 (.t 3), none, [], [0, 1, 2, 3, 4, 5, 6, 7, 8, 9]⟩,⟨none, .store none 1 (.t 33) (.t 30), none, [], [0, 1, 2, 3, 4, 5, 6, 7, 8, 9, 10]⟩] true)) (.seq (.region [nO 35 (.bin .eql (.t 9) (.c (.int .i64 2))),
  mO 34 35] false) (.cond (.t 34) (.seq (.region [nO 36 (.fad 1 (.t 1)),
  nO 37 (.load false 1 (.t 36)),
  nO 38 (.call false 88 [(.t 37)]),
  mO 39 38,
  gO 40 (.fad 2 (.t 1)) 39 true,
  gO 41 (.load false 1 (.t 40)) 39 true,
  gO 42 (.call false 161 [(.t 41)]) 39 true,
  nO 43 (.pick (.t 39) (.t 42) (.c (.bool false))),
  mO 44 43,
  gO 45 (.fad 3 (.t 1)) 44 true,
  gO 46 (.load false 1 (.t 45)) 44 true,
  gO 47 (.fad 2 (.t 1)) 44 true,
  gO 48 (.load false 1 (.t 47)) 44 true,
  gO 49 (.call false 87 [(.t 46), (.t 48), (.c (.int .i64 1073741824))]) 44 true,
  nO 50 (.pick (.t 44) (.t 49) (.c (.bool false))),
  mO 4 50] false) (.region [⟨some 51, .fad 1 (.t 1), none, [53, 54, 55, 56], []⟩,⟨some 52, .load false 1 (.t 51), none, [53, 54, 55, 56], [0]⟩,⟨some 53, .fad 2 (.t 1), none, [3, 51, 52, 55, 56, 57], []⟩,⟨some 54, .load false 1 (.t 53), none, [3, 51, 52, 55, 56, 57], [2]⟩,⟨some 55, .fad 3 (.t 1), none, [3, 51, 52, 53, 54, 57, 58], []⟩,⟨some 56, .load false 1 (.t 55), none, [3, 51, 52, 53, 54, 57, 58], [4]⟩,⟨some 57, .fad 1 (.t 3), none, [53, 54, 55, 56], [0, 1]⟩,⟨none, .store (some 3) 1 (.t 57) (.t 52), none, [53, 54, 55, 56], [0, 1, 6]⟩,⟨some 58, .fad 2 (.t 3), none, [55, 56], [0, 1, 2, 3, 6, 7]⟩,⟨none, .store (some 3) 1 (.t 58) (.t 54), none, [55, 56], [0, 1, 2, 3, 6, 7, 8]⟩,⟨some 59, .fad 3 (.t 3), none, [], [0, 1, 2, 3, 4, 5, 6, 7, 8, 9]⟩,⟨none, .store none 1 (.t 59) (.t 56), none, [], [0, 1, 2, 3, 4, 5, 6, 7, 8, 9, 10]⟩] true)) (.seq (.region [nO 61 (.bin .eql (.t 9) (.c (.int .i64 3))),
  mO 60 61] false) (.cond (.t 60) (.seq (.region [nO 62 (.fad 5 (.t 1)),
  nO 63 (.load false 1 (.t 62)),
  nO 64 (.call false 87 [(.t 63), (.c (.int .i64 1)), (.c (.int .i64 40))]),
  mO 65 64,
  gO 66 (.fad 4 (.t 1)) 65 true,
  gO 67 (.load false 1 (.t 66)) 65 true,
  gO 68 (.call false 26 [(.t 67)]) 65 true,
  nO 69 (.pick (.t 65) (.t 68) (.c (.bool false))),
  mO 4 69] false) (.region [⟨some 70, .fad 5 (.t 1), none, [72, 73], []⟩,⟨some 71, .load false 1 (.t 70), none, [72, 73], [0]⟩,⟨some 72, .fad 4 (.t 1), none, [3, 70, 71, 74], []⟩,⟨some 73, .load false 1 (.t 72), none, [3, 70, 71, 74], [2]⟩,⟨some 74, .fad 5 (.t 3), none, [72, 73], [0, 1]⟩,⟨none, .store (some 3) 1 (.t 74) (.t 71), none, [72, 73], [0, 1, 4]⟩,⟨some 75, .fad 4 (.t 3), none, [], [0, 1, 2, 3, 4, 5]⟩,⟨none, .store none 1 (.t 75) (.t 73), none, [], [0, 1, 2, 3, 4, 5, 6]⟩] true)) (.seq (.region [nO 77 (.bin .eql (.t 9) (.c (.int .i64 4))),
  mO 76 77] false) (.cond (.t 76) (.seq (.region [nO 78 (.fad 5 (.t 1)),
  nO 79 (.load false 1 (.t 78)),
  nO 80 (.call false 87 [(.t 79), (.c (.int .i64 1)), (.c (.int .i64 40))]),
  mO 4 80] false) (.region [nO 81 (.fad 5 (.t 1)),
  nO 82 (.load false 1 (.t 81)),
  nO 83 (.fad 5 (.t 3)),⟨none, .store none 1 (.t 83) (.t 82), none, [], []⟩] false)) (.seq (.region [nO 85 (.bin .eql (.t 9) (.c (.int .i64 5))),
  mO 84 85] false) (.cond (.t 84) .skip (.seq (.region [nO 2 (.mov (.c (.bool false)))] false) .ret))))))))))))) (.seq (.region [mO 86 4,
  mO 87 86,
  gO 88 (.load true 6 (.t 1)) 87 true,
  gO 89 (.load true 6 (.t 3)) 87 true,
  gO 90 (.eqs false [true, true, true, true, true, true] (.t 88) (.t 89)) 87 true,
  nO 91 (.pick (.t 87) (.t 90) (.c (.bool false))),
  mO 2 91] false) .ret)))))
def i164 : F := ⟨1, 92, j164, [.t 2]⟩
theorem b164 : i164.body = j164 := rfl
theorem q164 : i164.res = [.t 2] := rfl
theorem c164 : chkF Tryz.prog Tryz.f164 i164 = true := by kernel_rfl
theorem s164 {m E} (hE : HE E) (hm : HM i164 m E) : Sound Tryz.prog 164 m := sound_of i164 Tryz.func164 rfl c164 hE hm
def j165 : C := (.seq (.region [nO 4 (.mov (.c (.int .i64 0)))] false) (.seq (.seq (.region [mO 5 1,
  mO 6 0,
  nO 7 (.bin .geq (.t 5) (.t 6))] false) (.cond (.t 7) (.seq (.region [mO 8 1,
  mO 9 0,
  nO 10 (.bin .sub (.t 8) (.t 9)),
  mO 4 10] false) .ret) .skip)) (.seq (.region [mO 11 0,
  mO 12 1,
  nO 13 (.bin .sub (.t 11) (.t 12)),
  nO 14 (.bin .sub (.c (.int .i64 4611686018427387904)) (.t 13)),
  mO 4 14] false) .ret)))
def i165 : F := ⟨2, 15, j165, [.t 4]⟩
theorem b165 : i165.body = j165 := rfl
theorem q165 : i165.res = [.t 4] := rfl
theorem c165 : chkF Tryz.prog Tryz.f165 i165 = true := by kernel_rfl
theorem s165 {m E} (hE : HE E) (hm : HM i165 m E) : Sound Tryz.prog 165 m := sound_of i165 Tryz.func165 rfl c165 hE hm
def j166 : C := (.seq (.region [nO 2 (.mov (.c (.int .i64 0)))] false) (.seq (.region [nO 3 (.bsl 3 1 4 [.int .i64 0] [(0, (.c (.int .i64 1462484242049070477))), (1, (.c (.int .i64 1775212608919665246))), (2, (.c (.int .i64 3535639072113518480))), (3, (.c (.int .i64 3725500155902745375)))]),
  mO 4 0,
  nO 5 (.iad 1 (.t 3) (.t 4)),
  nO 6 (.load false 1 (.t 5)),
  mO 2 6] false) .ret))
def i166 : F := ⟨1, 7, j166, [.t 2]⟩
theorem c166 : chkF Tryz.prog Tryz.f166 i166 = true := by kernel_rfl
theorem s166 {m E} (hE : HE E) (hm : HM i166 m E) : Sound Tryz.prog 166 m := sound_of i166 Tryz.func166 rfl c166 hE hm
def j167 : C := (.seq (.region [nO 2 (.mov (.c (.int .i64 0)))] false) (.seq (.region [nO 3 (.bsl 3 1 8 [.int .i64 0] [(0, (.c (.int .i64 2342812313538366385))), (1, (.c (.int .i64 1863050908023769503))), (2, (.c (.int .i64 81111313352671826))), (3, (.c (.int .i64 2434324899588211290))), (4, (.c (.int .i64 2454816673080883147))), (5, (.c (.int .i64 1342378062264523301))), (6, (.c (.int .i64 820659310660760249))), (7, (.c (.int .i64 2006264061484817761)))]),
  mO 4 0,
  nO 5 (.iad 1 (.t 3) (.t 4)),
  nO 6 (.load false 1 (.t 5)),
  mO 2 6] false) .ret))
def i167 : F := ⟨1, 7, j167, [.t 2]⟩
theorem c167 : chkF Tryz.prog Tryz.f167 i167 = true := by kernel_rfl
theorem s167 {m E} (hE : HE E) (hm : HM i167 m E) : Sound Tryz.prog 167 m := sound_of i167 Tryz.func167 rfl c167 hE hm
def j174 : C := (.seq (.region [nO 1 (.box (.t 0)),
  nO 2 (.mov (.c (.bool false)))] false) (.seq (.region [nO 3 (.fad 0 (.t 1)),
  nO 4 (.load false 1 (.t 3)),
  nO 5 (.bin .eql (.t 4) (.c (.int .i64 0))),
  mO 6 5,
  gO 7 (.fad 1 (.t 1)) 6 true,
  gO 8 (.load false 1 (.t 7)) 6 true,
  gO 9 (.bin .eql (.t 8) (.c (.int .i64 0))) 6 true,
  nO 10 (.pick (.t 6) (.t 9) (.c (.bool false))),
  mO 11 10,
  gO 12 (.fad 2 (.t 1)) 11 true,
  gO 13 (.load false 1 (.t 12)) 11 true,
  gO 14 (.bin .eql (.t 13) (.c (.int .i64 0))) 11 true,
  nO 15 (.pick (.t 11) (.t 14) (.c (.bool false))),
  mO 16 15,
  gO 17 (.fad 3 (.t 1)) 16 true,
  gO 18 (.load false 1 (.t 17)) 16 true,
  gO 19 (.len (.t 18)) 16 true,
  gO 20 (.bin .eql (.t 19) (.c (.int .i64 0))) 16 true,
  nO 21 (.pick (.t 16) (.t 20) (.c (.bool false))),
  mO 22 21,
  gO 23 (.fad 4 (.t 1)) 22 true,
  gO 24 (.load false 1 (.t 23)) 22 true,
  gO 25 (.len (.t 24)) 22 true,
  gO 26 (.bin .eql (.t 25) (.c (.int .i64 0))) 22 true,
  nO 27 (.pick (.t 22) (.t 26) (.c (.bool false))),
  mO 2 27] false) .ret))
def i174 : F := ⟨1, 28, j174, [.t 2]⟩
theorem b174 : i174.body = j174 := rfl
theorem q174 : i174.res = [.t 2] := rfl
theorem c174 : chkF Tryz.prog Tryz.f174 i174 = true := by kernel_rfl
theorem s174 {m E} (hE : HE E) (hm : HM i174 m E) : Sound Tryz.prog 174 m := sound_of i174 Tryz.func174 rfl c174 hE hm
def j175 : C := (.seq (.region [nO 6 (.mov (.c (.int .i64 0)))] false) (.seq (.seq (.region [mO 7 1,
  nO 8 (.call false 116 [(.t 7)]),
  nO 9 (.un .not (.t 8)),
  mO 10 9,
  mG 11 2 10 false,
  gO 12 (.bin .lss (.t 11) (.c (.int .i64 1))) 10 false,
  nO 13 (.pick (.t 10) (.c (.bool true)) (.t 12)),
  mO 14 13,
  mG 15 2 14 false,
  gO 16 (.bin .gtr (.t 15) (.c (.int .i64 16))) 14 false,
  nO 17 (.pick (.t 14) (.c (.bool true)) (.t 16)),
  mO 18 17,
  mG 19 0 18 false,
  gO 20 (.len (.t 19)) 18 false,
  mG 21 2 18 false,
  gO 22 (.bin .gtr (.t 20) (.t 21)) 18 false,
  nO 23 (.pick (.t 18) (.c (.bool true)) (.t 22)),
  mO 24 23,
  mG 25 0 24 false,
  mG 26 1 24 false,
  gO 27 (.call false 190 [(.t 25), (.t 26)]) 24 false,
  gO 28 (.un .not (.t 27)) 24 false,
  nO 29 (.pick (.t 24) (.c (.bool true)) (.t 28))] false) (.cond (.t 29) (.seq (.region [nO 6 (.mov (.c (.int .i64 1)))] false) .ret) .skip)) (.seq (.region [nO 6 (.mov (.c (.int .i64 0)))] false) .ret)))
def i175 : F := ⟨3, 30, j175, [.t 6]⟩
theorem b175 : i175.body = j175 := rfl
theorem q175 : i175.res = [.t 6] := rfl
theorem c175 : chkF Tryz.prog Tryz.f175 i175 = true := by kernel_rfl
theorem s175 {m E} (hE : HE E) (hm : HM i175 m E) : Sound Tryz.prog 175 m := sound_of i175 Tryz.func175 rfl c175 hE hm
def j176 : C := (.seq (.region [nO 4 (.mov (.c (.bool false)))] false) (.seq (.region [mO 5 0,
  mO 6 1,
  nO 7 (.call false 191 [(.t 5), (.t 6)]),
  nO 8 (.bin .geq (.t 7) (.c (.int .i64 0))),
  mO 4 8] false) .ret))
def i176 : F := ⟨2, 9, j176, [.t 4]⟩
theorem b176 : i176.body = j176 := rfl
theorem q176 : i176.res = [.t 4] := rfl
theorem c176 : chkF Tryz.prog Tryz.f176 i176 = true := by kernel_rfl
theorem s176 {m E} (hE : HE E) (hm : HM i176 m E) : Sound Tryz.prog 176 m := sound_of i176 Tryz.func176 rfl c176 hE hm
def j177 : C := (.seq (.region [nO 1 (.box (.t 0)),
  nO 2 (.mov (.c (.bool false)))] false) (.seq (.region [nO 3 (.load true 6 (.t 1)),
  nO 4 (.call false 178 [(.t 3)]),
  nO 5 (.bin .neq (.t 4) (.c (.int .i64 0))),
  mO 2 5] false) .ret))
def i177 : F := ⟨1, 6, j177, [.t 2]⟩
theorem b177 : i177.body = j177 := rfl
theorem q177 : i177.res = [.t 2] := rfl
theorem c177 : chkF Tryz.prog Tryz.f177 i177 = true := by kernel_rfl
theorem s177 {m E} (hE : HE E) (hm : HM i177 m E) : Sound Tryz.prog 177 m := sound_of i177 Tryz.func177 rfl c177 hE hm
def j178 : C := (.seq (.region [nO 1 (.box (.t 0)),
  nO 2 (.mov (.c (.int .i64 0)))] false) (.seq (.region [nO 6 (.load true 6 (.t 1)),
  nO 7 (.call false 192 [(.t 6)]),
  mO 5 7,
  nO 8 (.ext (.t 5) 0),
  nO 9 (.ext (.t 5) 1),
  nO 3 (.alloc [.int .i64 0, .int .i64 0, .int .i64 0, .int .i64 0, .int .i64 0, .int .i64 0]),⟨none, .store none 6 (.t 3) (.t 8), none, [], []⟩,
  mO 4 9] false) (.seq (.seq (.region [mO 10 4,
  nO 11 (.un .not (.t 10)),
  mO 12 11,
  gO 13 (.load true 6 (.t 3)) 12 false,
  gO 14 (.fad 0 (.t 1)) 12 false,
  gO 15 (.load false 1 (.t 14)) 12 false,
  gO 16 (.build [.int .i64 0, .int .i64 0, .int .i64 0, .int .i64 0, .int .i64 0, .int .i64 0] [(0, 1, (.t 15))]) 12 false,
  gO 17 (.eqs true [true, true, true, true, true, true] (.t 13) (.t 16)) 12 false,
  nO 18 (.pick (.t 12) (.c (.bool true)) (.t 17))] false) (.cond (.t 18) (.seq (.region [nO 2 (.mov (.c (.int .i64 1)))] false) .ret) .skip)) (.seq (.region [nO 2 (.mov (.c (.int .i64 0)))] false) .ret))))
def i178 : F := ⟨1, 19, j178, [.t 2]⟩
theorem b178 : i178.body = j178 := rfl
theorem q178 : i178.res = [.t 2] := rfl
theorem c178 : chkF Tryz.prog Tryz.f178 i178 = true := by kernel_rfl
theorem s178 {m E} (hE : HE E) (hm : HM i178 m E) : Sound Tryz.prog 178 m := sound_of i178 Tryz.func178 rfl c178 hE hm
def j186 : C := (.seq (.region [nO 4 (.mov (.c (.bool false)))] false) (.seq (.region [mO 5 0,
  mO 6 1,
  nO 7 (.call false 196 [(.t 5), (.t 6)]),
  nO 8 (.bin .geq (.t 7) (.c (.int .i64 0))),
  mO 4 8] false) .ret))
def i186 : F := ⟨2, 9, j186, [.t 4]⟩
theorem b186 : i186.body = j186 := rfl
theorem q186 : i186.res = [.t 4] := rfl
theorem c186 : chkF Tryz.prog Tryz.f186 i186 = true := by kernel_rfl
theorem s186 {m E} (hE : HE E) (hm : HM i186 m E) : Sound Tryz.prog 186 m := sound_of i186 Tryz.func186 rfl c186 hE hm
def j187 : C := (.seq (.region [nO 4 (.nilsl 3 1 0)] false) (.seq (.seq (.region [mO 5 1,
  nO 6 (.bin .lss (.t 5) (.c (.int .i64 0)))] false) (.cond (.t 6) (.region [nO 7 (.stop),⟨none, .stop, none, [], []⟩] false) .skip)) (.seq (.seq (.region [mO 8 1,
  mO 9 0,
  nO 10 (.kln (.t 9)),
  mO 11 0,
  nO 12 (.kln (.t 11)),
  nO 13 (.bin .sub (.t 10) (.t 12)),
  nO 14 (.bin .sub (.t 8) (.t 13)),
  mO 1 14] false) (.seq (.region [mO 15 1,
  nO 16 (.bin .gtr (.t 15) (.c (.int .i64 0)))] false) (.cond (.t 16) (.region [mO 17 0,
  mO 18 0,
  nO 19 (.kln (.t 18)),
  nO 20 (.kct (.t 17) (.t 19)),
  mO 21 1,
  nO 22 (.apz 3 1 8 [.int .i64 0] (.t 20) (.t 21)),
  mO 23 0,
  nO 24 (.kln (.t 23)),
  nO 25 (.cu0 1 (.t 22) (.t 24)),
  mO 0 25] false) .skip))) (.seq (.region [nO 26 (.kow 3 1 (.t 0)),
  mO 4 26] false) .ret))))
def i187 : F := ⟨2, 27, j187, [.t 4]⟩
theorem b187 : i187.body = j187 := rfl
theorem q187 : i187.res = [.t 4] := rfl
theorem c187 : chkF Tryz.prog Tryz.f187 i187 = true := by kernel_rfl
theorem s187 {m E} (hE : HE E) (hm : HM i187 m E) : Sound Tryz.prog 187 m := sound_of i187 Tryz.func187 rfl c187 hE hm
def j190 : C := (.seq (.region [nO 4 (.mov (.c (.bool false)))] false) (.seq (.seq (.region [mO 7 0,
  nO 8 (.len (.t 7)),
  nO 9 (.mov (.c (.int .i64 0)))] false) (.block 0 (.loop (.keep [0, 1, 7, 8, 9] (.seq (.region [nO 10 (.bin .lss (.t 9) (.t 8))] false) (.seq (.cond (.t 10) .skip (.exit 0)) (.seq (.block 1 (.seq (.region [mO 11 9,
  nO 12 (.iad 2 (.t 7) (.t 9)),
  nO 13 (.load true 2 (.t 12)),
  nO 6 (.alloc [.int .i64 0, .int .i64 0]),
  mO 5 11,⟨none, .store none 2 (.t 6) (.t 13), none, [], []⟩] false) (.seq (.region [nO 14 (.fad 0 (.t 6)),
  nO 15 (.load false 1 (.t 14)),
  nO 16 (.bin .lss (.t 15) (.c (.int .i64 1))),
  mO 17 16,
  gO 18 (.fad 0 (.t 6)) 17 false,
  gO 19 (.load false 1 (.t 18)) 17 false,
  mG 20 1 17 false,
  mG 21 0 17 false,
  gO 22 (.len (.t 21)) 17 false,
  gO 23 (.bin .sub (.t 20) (.t 22)) 17 false,
  mG 24 5 17 false,
  gO 25 (.bin .add (.t 23) (.t 24)) 17 false,
  gO 26 (.bin .neq (.t 19) (.t 25)) 17 false,
  nO 27 (.pick (.t 17) (.c (.bool true)) (.t 26)),
  mO 28 27,
  gO 29 (.fad 1 (.t 6)) 28 false,
  gO 30 (.load false 1 (.t 29)) 28 false,
  gO 31 (.call false 56 [(.t 30)]) 28 false,
  gO 32 (.un .not (.t 31)) 28 false,
  nO 33 (.pick (.t 28) (.c (.bool true)) (.t 32))] false) (.cond (.t 33) (.seq (.region [nO 4 (.mov (.c (.bool false)))] false) .ret) .skip)))) (.region [nO 34 (.bin .add (.t 9) (.c (.int .i64 1))),
  mO 9 34] false)))))))) (.seq (.region [nO 4 (.mov (.c (.bool true)))] false) .ret)))
def i190 : F := ⟨2, 35, j190, [.t 4]⟩
theorem b190 : i190.body = j190 := rfl
theorem q190 : i190.res = [.t 4] := rfl
theorem c190 : chkF Tryz.prog Tryz.f190 i190 = true := by kernel_rfl
theorem s190 {m E} (hE : HE E) (hm : HM i190 m E) : Sound Tryz.prog 190 m := sound_of i190 Tryz.func190 rfl c190 hE hm
def j191 : C := (.seq (.region [nO 4 (.mov (.c (.int .i64 0)))] false) (.seq (.seq (.region [mO 6 0,
  nO 7 (.len (.t 6)),
  nO 8 (.mov (.c (.int .i64 0)))] false) (.block 0 (.loop (.keep [0, 1, 7, 8] (.seq (.region [nO 9 (.bin .lss (.t 8) (.t 7))] false) (.seq (.cond (.t 9) .skip (.exit 0)) (.seq (.block 1 (.seq (.region [mO 10 8,
  mO 5 10] false) (.seq (.region [mO 11 1,
  mO 12 0,
  mO 13 5,
  nO 14 (.iad 6 (.t 12) (.t 13)),
  nO 15 (.load true 6 (.t 14)),
  nO 16 (.callv false (.t 11) [(.t 15)])] false) (.cond (.t 16) (.seq (.region [mO 17 5,
  mO 4 17] false) .ret) .skip)))) (.region [nO 18 (.bin .add (.t 8) (.c (.int .i64 1))),
  mO 8 18] false)))))))) (.seq (.region [nO 4 (.mov (.c (.int .i64 (-1))))] false) .ret)))
def i191 : F := ⟨2, 19, j191, [.t 4]⟩
theorem b191 : i191.body = j191 := rfl
theorem q191 : i191.res = [.t 4] := rfl
theorem c191 : chkF Tryz.prog Tryz.f191 i191 = true := by kernel_rfl
theorem s191 {m E} (hE : HE E) (hm : HM i191 m E) : Sound Tryz.prog 191 m := sound_of i191 Tryz.func191 rfl c191 hE hm
def j192 : C := (.seq (.region [nO 1 (.box (.t 0)),
  nO 2 (.alloc [.int .i64 0, .int .i64 0, .int .i64 0, .int .i64 0, .int .i64 0, .int .i64 0]),
  nO 3 (.mov (.c (.bool false)))] false) (.seq (.seq (.region [nO 4 (.fad 0 (.t 1)),
  nO 5 (.load false 1 (.t 4))] false) (.block 0 (.seq (.region [nO 7 (.bin .eql (.t 5) (.c (.int .i64 1))),
  mO 6 7] false) (.cond (.t 6) (.seq (.region [nO 8 (.load true 6 (.t 1)),
  nO 9 (.call false 197 [(.t 8)]),
  mO 10 9,
  gO 11 (.fad 4 (.t 1)) 10 true,
  gO 12 (.load false 1 (.t 11)) 10 true,
  gO 13 (.call false 56 [(.t 12)]) 10 true,
  nO 14 (.pick (.t 10) (.t 13) (.c (.bool false))),
  mO 3 14] false) (.region [nO 15 (.fad 1 (.t 1)),⟨none, .store none 1 (.t 15) (.c (.int .i64 0)), none, [], []⟩,
  nO 16 (.fad 2 (.t 1)),⟨none, .store none 1 (.t 16) (.c (.int .i64 0)), none, [], []⟩,
  nO 17 (.fad 4 (.t 1)),⟨none, .store none 1 (.t 17) (.c (.int .i64 0)), none, [], []⟩] false)) (.seq (.region [nO 19 (.bin .eql (.t 5) (.c (.int .i64 2))),
  mO 18 19] false) (.cond (.t 18) (.seq (.region [nO 20 (.load true 6 (.t 1)),
  nO 21 (.call false 197 [(.t 20)]),
  mO 22 21,
  gO 23 (.fad 3 (.t 1)) 22 true,
  gO 24 (.load false 1 (.t 23)) 22 true,
  gO 25 (.fad 2 (.t 1)) 22 true,
  gO 26 (.load false 1 (.t 25)) 22 true,
  gO 27 (.bin .geq (.t 24) (.t 26)) 22 true,
  nO 28 (.pick (.t 22) (.t 27) (.c (.bool false))),
  mO 29 28,
  gO 30 (.fad 3 (.t 1)) 29 true,
  gO 31 (.load false 1 (.t 30)) 29 true,
  gO 32 (.bin .leq (.t 31) (.c (.int .i64 1073741824))) 29 true,
  nO 33 (.pick (.t 29) (.t 32) (.c (.bool false))),
  mO 3 33] false) (.region [nO 34 (.fad 1 (.t 1)),⟨none, .store none 1 (.t 34) (.c (.int .i64 0)), none, [], []⟩,
  nO 35 (.fad 2 (.t 1)),⟨none, .store none 1 (.t 35) (.c (.int .i64 0)), none, [], []⟩,
  nO 36 (.fad 3 (.t 1)),⟨none, .store none 1 (.t 36) (.c (.int .i64 0)), none, [], []⟩] false)) (.seq (.region [nO 38 (.bin .eql (.t 5) (.c (.int .i64 3))),
  mO 37 38] false) (.cond (.t 37) (.seq (.region [nO 39 (.fad 5 (.t 1)),
  nO 40 (.load false 1 (.t 39)),
  nO 41 (.call false 198 [(.t 40)]),
  mO 42 41,
  gO 43 (.fad 4 (.t 1)) 42 true,
  gO 44 (.load false 1 (.t 43)) 42 true,
  gO 45 (.call false 85 [(.t 44)]) 42 true,
  nO 46 (.pick (.t 42) (.t 45) (.c (.bool false))),
  mO 3 46] false) (.region [nO 47 (.fad 5 (.t 1)),⟨none, .store none 1 (.t 47) (.c (.int .i64 0)), none, [], []⟩,
  nO 48 (.fad 4 (.t 1)),⟨none, .store none 1 (.t 48) (.c (.int .i64 0)), none, [], []⟩] false)) (.seq (.region [nO 50 (.bin .eql (.t 5) (.c (.int .i64 4))),
  mO 49 50] false) (.cond (.t 49) (.seq (.region [nO 51 (.fad 5 (.t 1)),
  nO 52 (.load false 1 (.t 51)),
  nO 53 (.call false 198 [(.t 52)]),
  mO 3 53] false) (.region [nO 54 (.fad 5 (.t 1)),⟨none, .store none 1 (.t 54) (.c (.int .i64 0)), none, [], []⟩] false)) (.seq (.region [nO 56 (.bin .eql (.t 5) (.c (.int .i64 5))),
  mO 55 56] false) (.cond (.t 55) (.region [nO 3 (.mov (.c (.bool true)))] false) .skip)))))))))))) (.seq (.region [nO 57 (.load true 6 (.t 1)),
  mO 58 3,⟨none, .store none 6 (.t 2) (.t 57), none, [], []⟩,
  mO 3 58] false) .ret)))
def i192 : F := ⟨1, 59, j192, [.c 2 6 true, .t 3]⟩
theorem b192 : i192.body = j192 := rfl
theorem q192 : i192.res = [.c 2 6 true, .t 3] := rfl
theorem c192 : chkF Tryz.prog Tryz.f192 i192 = true := by kernel_rfl
theorem s192 {m E} (hE : HE E) (hm : HM i192 m E) : Sound Tryz.prog 192 m := sound_of i192 Tryz.func192 rfl c192 hE hm
def j196 : C := (.seq (.region [nO 4 (.mov (.c (.int .i64 0)))] false) (.seq (.seq (.region [mO 6 0,
  nO 7 (.len (.t 6)),
  nO 8 (.mov (.c (.int .i64 0)))] false) (.block 0 (.loop (.keep [0, 1, 7, 8] (.seq (.region [nO 9 (.bin .lss (.t 8) (.t 7))] false) (.seq (.cond (.t 9) .skip (.exit 0)) (.seq (.block 1 (.seq (.region [mO 10 8,
  mO 5 10] false) (.seq (.region [mO 11 1,
  mO 12 0,
  mO 13 5,
  nO 14 (.iad 1 (.t 12) (.t 13)),
  nO 15 (.load false 1 (.t 14)),
  nO 16 (.bin .eql (.t 11) (.t 15))] false) (.cond (.t 16) (.seq (.region [mO 17 5,
  mO 4 17] false) .ret) .skip)))) (.region [nO 18 (.bin .add (.t 8) (.c (.int .i64 1))),
  mO 8 18] false)))))))) (.seq (.region [nO 4 (.mov (.c (.int .i64 (-1))))] false) .ret)))
def i196 : F := ⟨2, 19, j196, [.t 4]⟩
theorem b196 : i196.body = j196 := rfl
theorem q196 : i196.res = [.t 4] := rfl
theorem c196 : chkF Tryz.prog Tryz.f196 i196 = true := by kernel_rfl
theorem s196 {m E} (hE : HE E) (hm : HM i196 m E) : Sound Tryz.prog 196 m := sound_of i196 Tryz.func196 rfl c196 hE hm
def j197 : C := (.seq (.region [nO 1 (.box (.t 0)),
  nO 2 (.mov (.c (.bool false)))] false) (.seq (.region [nO 3 (.fad 1 (.t 1)),
  nO 4 (.load false 1 (.t 3)),
  nO 5 (.call false 53 [(.t 4)]),
  nO 6 (.bin .eql (.t 5) (.c (.int .i64 0))),
  mO 7 6,
  gO 8 (.fad 2 (.t 1)) 7 true,
  gO 9 (.load false 1 (.t 8)) 7 true,
  gO 10 (.call false 116 [(.t 9)]) 7 true,
  nO 11 (.pick (.t 7) (.t 10) (.c (.bool false))),
  mO 2 11] false) .ret))
def i197 : F := ⟨1, 12, j197, [.t 2]⟩
theorem b197 : i197.body = j197 := rfl
theorem q197 : i197.res = [.t 2] := rfl
theorem c197 : chkF Tryz.prog Tryz.f197 i197 = true := by kernel_rfl
theorem s197 {m E} (hE : HE E) (hm : HM i197 m E) : Sound Tryz.prog 197 m := sound_of i197 Tryz.func197 rfl c197 hE hm
def j198 : C := (.seq (.region [nO 2 (.mov (.c (.bool false)))] false) (.seq (.region [mO 3 0,
  nO 4 (.bin .geq (.t 3) (.c (.int .i64 1))),
  mO 5 4,
  mG 6 0 5 true,
  gO 7 (.bin .leq (.t 6) (.c (.int .i64 40))) 5 true,
  nO 8 (.pick (.t 5) (.t 7) (.c (.bool false))),
  mO 2 8] false) .ret))
def i198 : F := ⟨1, 9, j198, [.t 2]⟩
theorem b198 : i198.body = j198 := rfl
theorem q198 : i198.res = [.t 2] := rfl
theorem c198 : chkF Tryz.prog Tryz.f198 i198 = true := by kernel_rfl
theorem s198 {m E} (hE : HE E) (hm : HM i198 m E) : Sound Tryz.prog 198 m := sound_of i198 Tryz.func198 rfl c198 hE hm
def xt : List (Nat × Model) := [(80, cloneM 3 1 8), (101, cloneM 51 3 24), (102, cloneM 84 6 48), (104, XE.errnoM), (137, cloneM 88 2 16), (152, XM.insM 51 3 24)]
def tb : List (Nat × F) := [(13, i13), (17, i17), (18, i18), (19, i19), (20, i20), (21, i21), (23, i23), (25, i25), (26, i26), (27, i27), (28, i28), (29, i29), (30, i30), (31, i31), (32, i32), (33, i33), (34, i34), (36, i36), (37, i37), (38, i38), (39, i39), (40, i40), (41, i41), (42, i42), (43, i43), (44, i44), (45, i45), (46, i46), (47, i47), (48, i48), (49, i49), (50, i50), (52, i52), (53, i53), (54, i54), (55, i55), (56, i56), (59, i59), (60, i60), (61, i61), (62, i62), (63, i63), (64, i64), (65, i65), (66, i66), (67, i67), (68, i68), (69, i69), (70, i70), (71, i71), (72, i72), (73, i73), (74, i74), (75, i75), (76, i76), (77, i77), (78, i78), (79, i79), (81, i81), (82, i82), (83, i83), (84, i84), (85, i85), (86, i86), (87, i87), (88, i88), (89, i89), (90, i90), (91, i91), (92, i92), (93, i93), (94, i94), (95, i95), (96, i96), (97, i97), (98, i98), (99, i99), (100, i100), (103, i103), (105, i105), (106, i106), (107, i107), (108, i108), (109, i109), (110, i110), (116, i116), (117, i117), (118, i118), (119, i119), (120, i120), (121, i121), (122, i122), (123, i123), (124, i124), (125, i125), (126, i126), (127, i127), (128, i128), (129, i129), (130, i130), (131, i131), (132, i132), (133, i133), (134, i134), (135, i135), (136, i136), (140, i140), (141, i141), (142, i142), (143, i143), (147, i147), (150, i150), (153, i153), (154, i154), (155, i155), (156, i156), (157, i157), (158, i158), (159, i159), (160, i160), (161, i161), (162, i162), (163, i163), (164, i164), (165, i165), (166, i166), (167, i167), (174, i174), (175, i175), (176, i176), (177, i177), (178, i178), (186, i186), (187, i187), (190, i190), (191, i191), (192, i192), (196, i196), (197, i197), (198, i198)]
theorem xt_ok : ∀ p ∈ xt, Sound Tryz.prog p.1 p.2 := all_cons x80 (all_cons x101 (all_cons x102 (all_cons x104 (all_cons x137 (all_cons x152 (all_nil))))))
theorem tb_ok (N : Nat) : ∀ p ∈ tb, ∀ E : Nat → Model, (∀ f, Sound Tryz.prog f (E f)) → Sound Tryz.prog p.1 (p.2.ev E N) := all_cons (fun E hE => s13 hE fun _ _ h => ⟨N, h⟩) (all_cons (fun E hE => s17 hE fun _ _ h => ⟨N, h⟩) (all_cons (fun E hE => s18 hE fun _ _ h => ⟨N, h⟩) (all_cons (fun E hE => s19 hE fun _ _ h => ⟨N, h⟩) (all_cons (fun E hE => s20 hE fun _ _ h => ⟨N, h⟩) (all_cons (fun E hE => s21 hE fun _ _ h => ⟨N, h⟩) (all_cons (fun E hE => s23 hE fun _ _ h => ⟨N, h⟩) (all_cons (fun E hE => s25 hE fun _ _ h => ⟨N, h⟩) (all_cons (fun E hE => s26 hE fun _ _ h => ⟨N, h⟩) (all_cons (fun E hE => s27 hE fun _ _ h => ⟨N, h⟩) (all_cons (fun E hE => s28 hE fun _ _ h => ⟨N, h⟩) (all_cons (fun E hE => s29 hE fun _ _ h => ⟨N, h⟩) (all_cons (fun E hE => s30 hE fun _ _ h => ⟨N, h⟩) (all_cons (fun E hE => s31 hE fun _ _ h => ⟨N, h⟩) (all_cons (fun E hE => s32 hE fun _ _ h => ⟨N, h⟩) (all_cons (fun E hE => s33 hE fun _ _ h => ⟨N, h⟩) (all_cons (fun E hE => s34 hE fun _ _ h => ⟨N, h⟩) (all_cons (fun E hE => s36 hE fun _ _ h => ⟨N, h⟩) (all_cons (fun E hE => s37 hE fun _ _ h => ⟨N, h⟩) (all_cons (fun E hE => s38 hE fun _ _ h => ⟨N, h⟩) (all_cons (fun E hE => s39 hE fun _ _ h => ⟨N, h⟩) (all_cons (fun E hE => s40 hE fun _ _ h => ⟨N, h⟩) (all_cons (fun E hE => s41 hE fun _ _ h => ⟨N, h⟩) (all_cons (fun E hE => s42 hE fun _ _ h => ⟨N, h⟩) (all_cons (fun E hE => s43 hE fun _ _ h => ⟨N, h⟩) (all_cons (fun E hE => s44 hE fun _ _ h => ⟨N, h⟩) (all_cons (fun E hE => s45 hE fun _ _ h => ⟨N, h⟩) (all_cons (fun E hE => s46 hE fun _ _ h => ⟨N, h⟩) (all_cons (fun E hE => s47 hE fun _ _ h => ⟨N, h⟩) (all_cons (fun E hE => s48 hE fun _ _ h => ⟨N, h⟩) (all_cons (fun E hE => s49 hE fun _ _ h => ⟨N, h⟩) (all_cons (fun E hE => s50 hE fun _ _ h => ⟨N, h⟩) (all_cons (fun E hE => s52 hE fun _ _ h => ⟨N, h⟩) (all_cons (fun E hE => s53 hE fun _ _ h => ⟨N, h⟩) (all_cons (fun E hE => s54 hE fun _ _ h => ⟨N, h⟩) (all_cons (fun E hE => s55 hE fun _ _ h => ⟨N, h⟩) (all_cons (fun E hE => s56 hE fun _ _ h => ⟨N, h⟩) (all_cons (fun E hE => s59 hE fun _ _ h => ⟨N, h⟩) (all_cons (fun E hE => s60 hE fun _ _ h => ⟨N, h⟩) (all_cons (fun E hE => s61 hE fun _ _ h => ⟨N, h⟩) (all_cons (fun E hE => s62 hE fun _ _ h => ⟨N, h⟩) (all_cons (fun E hE => s63 hE fun _ _ h => ⟨N, h⟩) (all_cons (fun E hE => s64 hE fun _ _ h => ⟨N, h⟩) (all_cons (fun E hE => s65 hE fun _ _ h => ⟨N, h⟩) (all_cons (fun E hE => s66 hE fun _ _ h => ⟨N, h⟩) (all_cons (fun E hE => s67 hE fun _ _ h => ⟨N, h⟩) (all_cons (fun E hE => s68 hE fun _ _ h => ⟨N, h⟩) (all_cons (fun E hE => s69 hE fun _ _ h => ⟨N, h⟩) (all_cons (fun E hE => s70 hE fun _ _ h => ⟨N, h⟩) (all_cons (fun E hE => s71 hE fun _ _ h => ⟨N, h⟩) (all_cons (fun E hE => s72 hE fun _ _ h => ⟨N, h⟩) (all_cons (fun E hE => s73 hE fun _ _ h => ⟨N, h⟩) (all_cons (fun E hE => s74 hE fun _ _ h => ⟨N, h⟩) (all_cons (fun E hE => s75 hE fun _ _ h => ⟨N, h⟩) (all_cons (fun E hE => s76 hE fun _ _ h => ⟨N, h⟩) (all_cons (fun E hE => s77 hE fun _ _ h => ⟨N, h⟩) (all_cons (fun E hE => s78 hE fun _ _ h => ⟨N, h⟩) (all_cons (fun E hE => s79 hE fun _ _ h => ⟨N, h⟩) (all_cons (fun E hE => s81 hE fun _ _ h => ⟨N, h⟩) (all_cons (fun E hE => s82 hE fun _ _ h => ⟨N, h⟩) (all_cons (fun E hE => s83 hE fun _ _ h => ⟨N, h⟩) (all_cons (fun E hE => s84 hE fun _ _ h => ⟨N, h⟩) (all_cons (fun E hE => s85 hE fun _ _ h => ⟨N, h⟩) (all_cons (fun E hE => s86 hE fun _ _ h => ⟨N, h⟩) (all_cons (fun E hE => s87 hE fun _ _ h => ⟨N, h⟩) (all_cons (fun E hE => s88 hE fun _ _ h => ⟨N, h⟩) (all_cons (fun E hE => s89 hE fun _ _ h => ⟨N, h⟩) (all_cons (fun E hE => s90 hE fun _ _ h => ⟨N, h⟩) (all_cons (fun E hE => s91 hE fun _ _ h => ⟨N, h⟩) (all_cons (fun E hE => s92 hE fun _ _ h => ⟨N, h⟩) (all_cons (fun E hE => s93 hE fun _ _ h => ⟨N, h⟩) (all_cons (fun E hE => s94 hE fun _ _ h => ⟨N, h⟩) (all_cons (fun E hE => s95 hE fun _ _ h => ⟨N, h⟩) (all_cons (fun E hE => s96 hE fun _ _ h => ⟨N, h⟩) (all_cons (fun E hE => s97 hE fun _ _ h => ⟨N, h⟩) (all_cons (fun E hE => s98 hE fun _ _ h => ⟨N, h⟩) (all_cons (fun E hE => s99 hE fun _ _ h => ⟨N, h⟩) (all_cons (fun E hE => s100 hE fun _ _ h => ⟨N, h⟩) (all_cons (fun E hE => s103 hE fun _ _ h => ⟨N, h⟩) (all_cons (fun E hE => s105 hE fun _ _ h => ⟨N, h⟩) (all_cons (fun E hE => s106 hE fun _ _ h => ⟨N, h⟩) (all_cons (fun E hE => s107 hE fun _ _ h => ⟨N, h⟩) (all_cons (fun E hE => s108 hE fun _ _ h => ⟨N, h⟩) (all_cons (fun E hE => s109 hE fun _ _ h => ⟨N, h⟩) (all_cons (fun E hE => s110 hE fun _ _ h => ⟨N, h⟩) (all_cons (fun E hE => s116 hE fun _ _ h => ⟨N, h⟩) (all_cons (fun E hE => s117 hE fun _ _ h => ⟨N, h⟩) (all_cons (fun E hE => s118 hE fun _ _ h => ⟨N, h⟩) (all_cons (fun E hE => s119 hE fun _ _ h => ⟨N, h⟩) (all_cons (fun E hE => s120 hE fun _ _ h => ⟨N, h⟩) (all_cons (fun E hE => s121 hE fun _ _ h => ⟨N, h⟩) (all_cons (fun E hE => s122 hE fun _ _ h => ⟨N, h⟩) (all_cons (fun E hE => s123 hE fun _ _ h => ⟨N, h⟩) (all_cons (fun E hE => s124 hE fun _ _ h => ⟨N, h⟩) (all_cons (fun E hE => s125 hE fun _ _ h => ⟨N, h⟩) (all_cons (fun E hE => s126 hE fun _ _ h => ⟨N, h⟩) (all_cons (fun E hE => s127 hE fun _ _ h => ⟨N, h⟩) (all_cons (fun E hE => s128 hE fun _ _ h => ⟨N, h⟩) (all_cons (fun E hE => s129 hE fun _ _ h => ⟨N, h⟩) (all_cons (fun E hE => s130 hE fun _ _ h => ⟨N, h⟩) (all_cons (fun E hE => s131 hE fun _ _ h => ⟨N, h⟩) (all_cons (fun E hE => s132 hE fun _ _ h => ⟨N, h⟩) (all_cons (fun E hE => s133 hE fun _ _ h => ⟨N, h⟩) (all_cons (fun E hE => s134 hE fun _ _ h => ⟨N, h⟩) (all_cons (fun E hE => s135 hE fun _ _ h => ⟨N, h⟩) (all_cons (fun E hE => s136 hE fun _ _ h => ⟨N, h⟩) (all_cons (fun E hE => s140 hE fun _ _ h => ⟨N, h⟩) (all_cons (fun E hE => s141 hE fun _ _ h => ⟨N, h⟩) (all_cons (fun E hE => s142 hE fun _ _ h => ⟨N, h⟩) (all_cons (fun E hE => s143 hE fun _ _ h => ⟨N, h⟩) (all_cons (fun E hE => s147 hE fun _ _ h => ⟨N, h⟩) (all_cons (fun E hE => s150 hE fun _ _ h => ⟨N, h⟩) (all_cons (fun E hE => s153 hE fun _ _ h => ⟨N, h⟩) (all_cons (fun E hE => s154 hE fun _ _ h => ⟨N, h⟩) (all_cons (fun E hE => s155 hE fun _ _ h => ⟨N, h⟩) (all_cons (fun E hE => s156 hE fun _ _ h => ⟨N, h⟩) (all_cons (fun E hE => s157 hE fun _ _ h => ⟨N, h⟩) (all_cons (fun E hE => s158 hE fun _ _ h => ⟨N, h⟩) (all_cons (fun E hE => s159 hE fun _ _ h => ⟨N, h⟩) (all_cons (fun E hE => s160 hE fun _ _ h => ⟨N, h⟩) (all_cons (fun E hE => s161 hE fun _ _ h => ⟨N, h⟩) (all_cons (fun E hE => s162 hE fun _ _ h => ⟨N, h⟩) (all_cons (fun E hE => s163 hE fun _ _ h => ⟨N, h⟩) (all_cons (fun E hE => s164 hE fun _ _ h => ⟨N, h⟩) (all_cons (fun E hE => s165 hE fun _ _ h => ⟨N, h⟩) (all_cons (fun E hE => s166 hE fun _ _ h => ⟨N, h⟩) (all_cons (fun E hE => s167 hE fun _ _ h => ⟨N, h⟩) (all_cons (fun E hE => s174 hE fun _ _ h => ⟨N, h⟩) (all_cons (fun E hE => s175 hE fun _ _ h => ⟨N, h⟩) (all_cons (fun E hE => s176 hE fun _ _ h => ⟨N, h⟩) (all_cons (fun E hE => s177 hE fun _ _ h => ⟨N, h⟩) (all_cons (fun E hE => s178 hE fun _ _ h => ⟨N, h⟩) (all_cons (fun E hE => s186 hE fun _ _ h => ⟨N, h⟩) (all_cons (fun E hE => s187 hE fun _ _ h => ⟨N, h⟩) (all_cons (fun E hE => s190 hE fun _ _ h => ⟨N, h⟩) (all_cons (fun E hE => s191 hE fun _ _ h => ⟨N, h⟩) (all_cons (fun E hE => s192 hE fun _ _ h => ⟨N, h⟩) (all_cons (fun E hE => s196 hE fun _ _ h => ⟨N, h⟩) (all_cons (fun E hE => s197 hE fun _ _ h => ⟨N, h⟩) (all_cons (fun E hE => s198 hE fun _ _ h => ⟨N, h⟩) (all_nil))))))))))))))))))))))))))))))))))))))))))))))))))))))))))))))))))))))))))))))))))))))))))))))))))))))))))))))))))))))))))))))))))))))))))))
abbrev TT := T xt tb
theorem TT_ok (N d f : Nat) : Sound Tryz.prog f (TT N d f) := T_ok xt_ok (tb_ok N) d f
theorem t13 (N d : Nat) : TT N (d + 1) 13 = i13.ev (TT N d) N := rfl
theorem t17 (N d : Nat) : TT N (d + 1) 17 = i17.ev (TT N d) N := rfl
theorem t18 (N d : Nat) : TT N (d + 1) 18 = i18.ev (TT N d) N := rfl
theorem t19 (N d : Nat) : TT N (d + 1) 19 = i19.ev (TT N d) N := rfl
theorem t20 (N d : Nat) : TT N (d + 1) 20 = i20.ev (TT N d) N := rfl
theorem t21 (N d : Nat) : TT N (d + 1) 21 = i21.ev (TT N d) N := rfl
theorem t25 (N d : Nat) : TT N (d + 1) 25 = i25.ev (TT N d) N := rfl
theorem t26 (N d : Nat) : TT N (d + 1) 26 = i26.ev (TT N d) N := rfl
theorem t27 (N d : Nat) : TT N (d + 1) 27 = i27.ev (TT N d) N := rfl
theorem t28 (N d : Nat) : TT N (d + 1) 28 = i28.ev (TT N d) N := rfl
theorem t30 (N d : Nat) : TT N (d + 1) 30 = i30.ev (TT N d) N := rfl
theorem t31 (N d : Nat) : TT N (d + 1) 31 = i31.ev (TT N d) N := rfl
theorem t32 (N d : Nat) : TT N (d + 1) 32 = i32.ev (TT N d) N := rfl
theorem t33 (N d : Nat) : TT N (d + 1) 33 = i33.ev (TT N d) N := rfl
theorem t34 (N d : Nat) : TT N (d + 1) 34 = i34.ev (TT N d) N := rfl
theorem t36 (N d : Nat) : TT N (d + 1) 36 = i36.ev (TT N d) N := rfl
theorem t37 (N d : Nat) : TT N (d + 1) 37 = i37.ev (TT N d) N := rfl
theorem t38 (N d : Nat) : TT N (d + 1) 38 = i38.ev (TT N d) N := rfl
theorem t39 (N d : Nat) : TT N (d + 1) 39 = i39.ev (TT N d) N := rfl
theorem t40 (N d : Nat) : TT N (d + 1) 40 = i40.ev (TT N d) N := rfl
theorem t41 (N d : Nat) : TT N (d + 1) 41 = i41.ev (TT N d) N := rfl
theorem t42 (N d : Nat) : TT N (d + 1) 42 = i42.ev (TT N d) N := rfl
theorem t43 (N d : Nat) : TT N (d + 1) 43 = i43.ev (TT N d) N := rfl
theorem t44 (N d : Nat) : TT N (d + 1) 44 = i44.ev (TT N d) N := rfl
theorem t45 (N d : Nat) : TT N (d + 1) 45 = i45.ev (TT N d) N := rfl
theorem t46 (N d : Nat) : TT N (d + 1) 46 = i46.ev (TT N d) N := rfl
theorem t47 (N d : Nat) : TT N (d + 1) 47 = i47.ev (TT N d) N := rfl
theorem t48 (N d : Nat) : TT N (d + 1) 48 = i48.ev (TT N d) N := rfl
theorem t49 (N d : Nat) : TT N (d + 1) 49 = i49.ev (TT N d) N := rfl
theorem t50 (N d : Nat) : TT N (d + 1) 50 = i50.ev (TT N d) N := rfl
theorem t52 (N d : Nat) : TT N (d + 1) 52 = i52.ev (TT N d) N := rfl
theorem t53 (N d : Nat) : TT N (d + 1) 53 = i53.ev (TT N d) N := rfl
theorem t54 (N d : Nat) : TT N (d + 1) 54 = i54.ev (TT N d) N := rfl
theorem t55 (N d : Nat) : TT N (d + 1) 55 = i55.ev (TT N d) N := rfl
theorem t56 (N d : Nat) : TT N (d + 1) 56 = i56.ev (TT N d) N := rfl
theorem t59 (N d : Nat) : TT N (d + 1) 59 = i59.ev (TT N d) N := rfl
theorem t60 (N d : Nat) : TT N (d + 1) 60 = i60.ev (TT N d) N := rfl
theorem t61 (N d : Nat) : TT N (d + 1) 61 = i61.ev (TT N d) N := rfl
theorem t62 (N d : Nat) : TT N (d + 1) 62 = i62.ev (TT N d) N := rfl
theorem t63 (N d : Nat) : TT N (d + 1) 63 = i63.ev (TT N d) N := rfl
theorem t64 (N d : Nat) : TT N (d + 1) 64 = i64.ev (TT N d) N := rfl
theorem t65 (N d : Nat) : TT N (d + 1) 65 = i65.ev (TT N d) N := rfl
theorem t68 (N d : Nat) : TT N (d + 1) 68 = i68.ev (TT N d) N := rfl
theorem t69 (N d : Nat) : TT N (d + 1) 69 = i69.ev (TT N d) N := rfl
theorem t70 (N d : Nat) : TT N (d + 1) 70 = i70.ev (TT N d) N := rfl
theorem t71 (N d : Nat) : TT N (d + 1) 71 = i71.ev (TT N d) N := rfl
theorem t72 (N d : Nat) : TT N (d + 1) 72 = i72.ev (TT N d) N := rfl
theorem t73 (N d : Nat) : TT N (d + 1) 73 = i73.ev (TT N d) N := rfl
theorem t74 (N d : Nat) : TT N (d + 1) 74 = i74.ev (TT N d) N := rfl
theorem t75 (N d : Nat) : TT N (d + 1) 75 = i75.ev (TT N d) N := rfl
theorem t76 (N d : Nat) : TT N (d + 1) 76 = i76.ev (TT N d) N := rfl
theorem t77 (N d : Nat) : TT N (d + 1) 77 = i77.ev (TT N d) N := rfl
theorem t78 (N d : Nat) : TT N (d + 1) 78 = i78.ev (TT N d) N := rfl
theorem t79 (N d : Nat) : TT N (d + 1) 79 = i79.ev (TT N d) N := rfl
theorem t81 (N d : Nat) : TT N (d + 1) 81 = i81.ev (TT N d) N := rfl
theorem t82 (N d : Nat) : TT N (d + 1) 82 = i82.ev (TT N d) N := rfl
theorem t83 (N d : Nat) : TT N (d + 1) 83 = i83.ev (TT N d) N := rfl
theorem t84 (N d : Nat) : TT N (d + 1) 84 = i84.ev (TT N d) N := rfl
theorem t85 (N d : Nat) : TT N (d + 1) 85 = i85.ev (TT N d) N := rfl
theorem t86 (N d : Nat) : TT N (d + 1) 86 = i86.ev (TT N d) N := rfl
theorem t87 (N d : Nat) : TT N (d + 1) 87 = i87.ev (TT N d) N := rfl
theorem t88 (N d : Nat) : TT N (d + 1) 88 = i88.ev (TT N d) N := rfl
theorem t89 (N d : Nat) : TT N (d + 1) 89 = i89.ev (TT N d) N := rfl
theorem t90 (N d : Nat) : TT N (d + 1) 90 = i90.ev (TT N d) N := rfl
theorem t91 (N d : Nat) : TT N (d + 1) 91 = i91.ev (TT N d) N := rfl
theorem t92 (N d : Nat) : TT N (d + 1) 92 = i92.ev (TT N d) N := rfl
theorem t93 (N d : Nat) : TT N (d + 1) 93 = i93.ev (TT N d) N := rfl
theorem t94 (N d : Nat) : TT N (d + 1) 94 = i94.ev (TT N d) N := rfl
theorem t95 (N d : Nat) : TT N (d + 1) 95 = i95.ev (TT N d) N := rfl
theorem t96 (N d : Nat) : TT N (d + 1) 96 = i96.ev (TT N d) N := rfl
theorem t97 (N d : Nat) : TT N (d + 1) 97 = i97.ev (TT N d) N := rfl
theorem t98 (N d : Nat) : TT N (d + 1) 98 = i98.ev (TT N d) N := rfl
theorem t99 (N d : Nat) : TT N (d + 1) 99 = i99.ev (TT N d) N := rfl
theorem t100 (N d : Nat) : TT N (d + 1) 100 = i100.ev (TT N d) N := rfl
theorem t103 (N d : Nat) : TT N (d + 1) 103 = i103.ev (TT N d) N := rfl
theorem t105 (N d : Nat) : TT N (d + 1) 105 = i105.ev (TT N d) N := rfl
theorem t106 (N d : Nat) : TT N (d + 1) 106 = i106.ev (TT N d) N := rfl
theorem t107 (N d : Nat) : TT N (d + 1) 107 = i107.ev (TT N d) N := rfl
theorem t108 (N d : Nat) : TT N (d + 1) 108 = i108.ev (TT N d) N := rfl
theorem t109 (N d : Nat) : TT N (d + 1) 109 = i109.ev (TT N d) N := rfl
theorem t110 (N d : Nat) : TT N (d + 1) 110 = i110.ev (TT N d) N := rfl
theorem t116 (N d : Nat) : TT N (d + 1) 116 = i116.ev (TT N d) N := rfl
theorem t117 (N d : Nat) : TT N (d + 1) 117 = i117.ev (TT N d) N := rfl
theorem t118 (N d : Nat) : TT N (d + 1) 118 = i118.ev (TT N d) N := rfl
theorem t119 (N d : Nat) : TT N (d + 1) 119 = i119.ev (TT N d) N := rfl
theorem t120 (N d : Nat) : TT N (d + 1) 120 = i120.ev (TT N d) N := rfl
theorem t121 (N d : Nat) : TT N (d + 1) 121 = i121.ev (TT N d) N := rfl
theorem t122 (N d : Nat) : TT N (d + 1) 122 = i122.ev (TT N d) N := rfl
theorem t123 (N d : Nat) : TT N (d + 1) 123 = i123.ev (TT N d) N := rfl
theorem t124 (N d : Nat) : TT N (d + 1) 124 = i124.ev (TT N d) N := rfl
theorem t125 (N d : Nat) : TT N (d + 1) 125 = i125.ev (TT N d) N := rfl
theorem t126 (N d : Nat) : TT N (d + 1) 126 = i126.ev (TT N d) N := rfl
theorem t127 (N d : Nat) : TT N (d + 1) 127 = i127.ev (TT N d) N := rfl
theorem t128 (N d : Nat) : TT N (d + 1) 128 = i128.ev (TT N d) N := rfl
theorem t129 (N d : Nat) : TT N (d + 1) 129 = i129.ev (TT N d) N := rfl
theorem t130 (N d : Nat) : TT N (d + 1) 130 = i130.ev (TT N d) N := rfl
theorem t131 (N d : Nat) : TT N (d + 1) 131 = i131.ev (TT N d) N := rfl
theorem t132 (N d : Nat) : TT N (d + 1) 132 = i132.ev (TT N d) N := rfl
theorem t133 (N d : Nat) : TT N (d + 1) 133 = i133.ev (TT N d) N := rfl
theorem t134 (N d : Nat) : TT N (d + 1) 134 = i134.ev (TT N d) N := rfl
theorem t135 (N d : Nat) : TT N (d + 1) 135 = i135.ev (TT N d) N := rfl
theorem t136 (N d : Nat) : TT N (d + 1) 136 = i136.ev (TT N d) N := rfl
theorem t140 (N d : Nat) : TT N (d + 1) 140 = i140.ev (TT N d) N := rfl
theorem t141 (N d : Nat) : TT N (d + 1) 141 = i141.ev (TT N d) N := rfl
theorem t142 (N d : Nat) : TT N (d + 1) 142 = i142.ev (TT N d) N := rfl
theorem t143 (N d : Nat) : TT N (d + 1) 143 = i143.ev (TT N d) N := rfl
theorem t147 (N d : Nat) : TT N (d + 1) 147 = i147.ev (TT N d) N := rfl
theorem t150 (N d : Nat) : TT N (d + 1) 150 = i150.ev (TT N d) N := rfl
theorem t155 (N d : Nat) : TT N (d + 1) 155 = i155.ev (TT N d) N := rfl
theorem t156 (N d : Nat) : TT N (d + 1) 156 = i156.ev (TT N d) N := rfl
theorem t157 (N d : Nat) : TT N (d + 1) 157 = i157.ev (TT N d) N := rfl
theorem t158 (N d : Nat) : TT N (d + 1) 158 = i158.ev (TT N d) N := rfl
theorem t159 (N d : Nat) : TT N (d + 1) 159 = i159.ev (TT N d) N := rfl
theorem t160 (N d : Nat) : TT N (d + 1) 160 = i160.ev (TT N d) N := rfl
theorem t161 (N d : Nat) : TT N (d + 1) 161 = i161.ev (TT N d) N := rfl
theorem t162 (N d : Nat) : TT N (d + 1) 162 = i162.ev (TT N d) N := rfl
theorem t163 (N d : Nat) : TT N (d + 1) 163 = i163.ev (TT N d) N := rfl
theorem t164 (N d : Nat) : TT N (d + 1) 164 = i164.ev (TT N d) N := rfl
theorem t165 (N d : Nat) : TT N (d + 1) 165 = i165.ev (TT N d) N := rfl
theorem t174 (N d : Nat) : TT N (d + 1) 174 = i174.ev (TT N d) N := rfl
theorem t175 (N d : Nat) : TT N (d + 1) 175 = i175.ev (TT N d) N := rfl
theorem t176 (N d : Nat) : TT N (d + 1) 176 = i176.ev (TT N d) N := rfl
theorem t177 (N d : Nat) : TT N (d + 1) 177 = i177.ev (TT N d) N := rfl
theorem t178 (N d : Nat) : TT N (d + 1) 178 = i178.ev (TT N d) N := rfl
theorem t186 (N d : Nat) : TT N (d + 1) 186 = i186.ev (TT N d) N := rfl
theorem t187 (N d : Nat) : TT N (d + 1) 187 = i187.ev (TT N d) N := rfl
theorem t190 (N d : Nat) : TT N (d + 1) 190 = i190.ev (TT N d) N := rfl
theorem t191 (N d : Nat) : TT N (d + 1) 191 = i191.ev (TT N d) N := rfl
theorem t192 (N d : Nat) : TT N (d + 1) 192 = i192.ev (TT N d) N := rfl
theorem t196 (N d : Nat) : TT N (d + 1) 196 = i196.ev (TT N d) N := rfl
theorem t197 (N d : Nat) : TT N (d + 1) 197 = i197.ev (TT N d) N := rfl
theorem t198 (N d : Nat) : TT N (d + 1) 198 = i198.ev (TT N d) N := rfl
theorem t80 (N d : Nat) : TT N (d + 1) 80 = cloneM 3 1 8 := rfl
theorem t101 (N d : Nat) : TT N (d + 1) 101 = cloneM 51 3 24 := rfl
theorem t104 (N d : Nat) : TT N (d + 1) 104 = XE.errnoM := rfl
theorem t137 (N d : Nat) : TT N (d + 1) 137 = cloneM 88 2 16 := rfl
theorem t152 (N d : Nat) : TT N (d + 1) 152 = XM.insM 51 3 24 := rfl
end Go.Proofs.YtdflglehippoiaaGreatDoor.IG
