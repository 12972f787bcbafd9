/- Texts joined: IG. -/
import Derived.Test.YtdflglehippoiaaGreatDoorZI1
import Derived.Test.YtdflglehippoiaaGreatDoorProg
set_option linter.unusedVariables false
set_option linter.unusedSimpArgs false
set_option maxRecDepth 100000
namespace Go.Proofs.YtdflglehippoiaaGreatDoor.IG
open Go Go.Proofs.YtdflglehippoiaaGreatDoorR
def j164 : C := (.seq (.region [nO 1 (.box (.t 0)),
  nO 2 (.mov (.c (.bool false)))] false) (.seq (.region [nO 5 (.fad 0 (.t 1)),
  nO 6 (.load false 1 (.t 5)),
  nO 7 (.build [.int .i64 0, .int .i64 0, .int .i64 0, .int .i64 0, .int .i64 0, .int .i64 0] [(0, 1, (.t 6))]),
  nO 3 (.alloc [.int .i64 0, .int .i64 0, .int .i64 0, .int .i64 0, .int .i64 0, .int .i64 0]),⟨none, .store none 6 (.t 3) (.t 7), none, [], []⟩] false) (.seq (.region [nO 4 (.mov (.c (.bool true)))] false) (.seq (.seq (.region [nO 8 (.fad 0 (.t 1)),
  nO 9 (.load false 1 (.t 8))] false) (.block 0 (.seq (.region [nO 11 (.bin .eql (.t 9) (.c (.int .i64 1))),
  mO 10 11] false) (.cond (.t 10) (.seq (.region [nO 12 (.fad 1 (.t 1)),
  nO 13 (.load false 1 (.t 12)),
  nO 14 (.call false 88 [(.t 13)]),
  mO 15 14,
  gO 16 (.fad 2 (.t 1)) 15 true,
  gO 17 (.load false 1 (.t 16)) 15 true,
  gO 18 (.call false 161 [(.t 17)]) 15 true,
  nO 19 (.pick (.t 15) (.t 18) (.c (.bool false))),
  mO 20 19,
  gO 21 (.fad 4 (.t 1)) 20 true,
  gO 22 (.load false 1 (.t 21)) 20 true,
  gO 23 (.call false 76 [(.t 22)]) 20 true,
  nO 24 (.pick (.t 20) (.t 23) (.c (.bool false))),
  mO 4 24] false) (.region [⟨some 25, .fad 1 (.t 1), none, [27, 28, 29, 30], []⟩,⟨some 26, .load false 1 (.t 25), none, [27, 28, 29, 30], [0]⟩,⟨some 27, .fad 2 (.t 1), none, [3, 25, 26, 29, 30, 31], []⟩,⟨some 28, .load false 1 (.t 27), none, [3, 25, 26, 29, 30, 31], [2]⟩,⟨some 29, .fad 4 (.t 1), none, [3, 25, 26, 27, 28, 31, 32], []⟩,⟨some 30, .load false 1 (.t 29), none, [3, 25, 26, 27, 28, 31, 32], [4]⟩,⟨some 31, .fad 1 (.t 3), none, [27, 28, 29, 30], [0, 1]⟩,⟨none, .store (some 3) 1 (.t 31) (.t 26), none, [27, 28, 29, 30], [0, 1, 6]⟩,⟨some 32, .fad 2 (.t 3), none, [29, 30], [0, 1, 2, 3, 6, 7]⟩,⟨none, .store (some 3) 1 (.t 32) (.t 28), none, [29, 30], [0, 1, 2, 3, 6, 7, 8]⟩,⟨some 33, .fad 4 (.t 3), none, [], [0, 1, 2, 3, 4, 5, 6, 7, 8, 9]⟩,⟨none, .store none 1 (.t 33) (.t 30), none, [], [0, 1, 2, 3, 4, 5, 6, 7, 8, 9, 10]⟩] true)) (.seq (.region [nO 35 (.bin .eql (.t 9) (.c (.int .i64 2))),
  mO 34 35] false) (.cond (.t 34) (.seq (.region [nO 36 (.fad 1 (.t 1)),
  nO 37 (.load false 1 (.t 36)),
  nO 38 (.call false 88 [(.t 37)]),
  mO 39 38,
  gO 40 (.fad 2 (.t 1)) 39 true,
  gO 41 (.load false 1 (.t 40)) 39 true,
  gO 42 (.call false 161 [(.t 41)]) 39 true,
  nO 43 (.pick (.t 39) (.t 42) (.c (.bool false))),
  mO 44 43,
  gO 45 (.fad 3 (.t 1)) 44 true,
  gO 46 (.load false 1 (.t 45)) 44 true,
  gO 47 (.fad 2 (.t 1)) 44 true,
  gO 48 (.load false 1 (.t 47)) 44 true,
  gO 49 (.call false 87 [(.t 46), (.t 48), (.c (.int .i64 1073741824))]) 44 true,
  nO 50 (.pick (.t 44) (.t 49) (.c (.bool false))),
  mO 4 50] false) (.region [⟨some 51, .fad 1 (.t 1), none, [53, 54, 55, 56], []⟩,⟨some 52, .load false 1 (.t 51), none, [53, 54, 55, 56], [0]⟩,⟨some 53, .fad 2 (.t 1), none, [3, 51, 52, 55, 56, 57], []⟩,⟨some 54, .load false 1 (.t 53), none, [3, 51, 52, 55, 56, 57], [2]⟩,⟨some 55, .fad 3 (.t 1), none, [3, 51, 52, 53, 54, 57, 58], []⟩,⟨some 56, .load false 1 (.t 55), none, [3, 51, 52, 53, 54, 57, 58], [4]⟩,⟨some 57, .fad 1 (.t 3), none, [53, 54, 55, 56], [0, 1]⟩,⟨none, .store (some 3) 1 (.t 57) (.t 52), none, [53, 54, 55, 56], [0, 1, 6]⟩,⟨some 58, .fad 2 (.t 3), none, [55, 56], [0, 1, 2, 3, 6, 7]⟩,⟨none, .store (some 3) 1 (.t 58) (.t 54), none, [55, 56], [0, 1, 2, 3, 6, 7, 8]⟩,⟨some 59, .fad 3 (.t 3), none, [], [0, 1, 2, 3, 4, 5, 6, 7, 8, 9]⟩,⟨none, .store none 1 (.t 59) (.t 56), none, [], [0, 1, 2, 3, 4, 5, 6, 7, 8, 9, 10]⟩] true)) (.seq (.region [nO 61 (.bin .eql (.t 9) (.c (.int .i64 3))),
  mO 60 61] false) (.cond (.t 60) (.seq (.region [nO 62 (.fad 5 (.t 1)),
  nO 63 (.load false 1 (.t 62)),
  nO 64 (.call false 87 [(.t 63), (.c (.int .i64 1)), (.c (.int .i64 40))]),
  mO 65 64,
  gO 66 (.fad 4 (.t 1)) 65 true,
  gO 67 (.load false 1 (.t 66)) 65 true,
  gO 68 (.call false 26 [(.t 67)]) 65 true,
  nO 69 (.pick (.t 65) (.t 68) (.c (.bool false))),
  mO 4 69] false) (.region [⟨some 70, .fad 5 (.t 1), none, [72, 73], []⟩,⟨some 71, .load false 1 (.t 70), none, [72, 73], [0]⟩,⟨some 72, .fad 4 (.t 1), none, [3, 70, 71, 74], []⟩,⟨some 73, .load false 1 (.t 72), none, [3, 70, 71, 74], [2]⟩,⟨some 74, .fad 5 (.t 3), none, [72, 73], [0, 1]⟩,⟨none, .store (some 3) 1 (.t 74) (.t 71), none, [72, 73], [0, 1, 4]⟩,⟨some 75, .fad 4 (.t 3), none, [], [0, 1, 2, 3, 4, 5]⟩,⟨none, .store none 1 (.t 75) (.t 73), none, [], [0, 1, 2, 3, 4, 5, 6]⟩] true)) (.seq (.region [nO 77 (.bin .eql (.t 9) (.c (.int .i64 4))),
  mO 76 77] false) (.cond (.t 76) (.seq (.region [nO 78 (.fad 5 (.t 1)),
  nO 79 (.load false 1 (.t 78)),
  nO 80 (.call false 87 [(.t 79), (.c (.int .i64 1)), (.c (.int .i64 40))]),
  mO 4 80] false) (.region [nO 81 (.fad 5 (.t 1)),
  nO 82 (.load false 1 (.t 81)),
  nO 83 (.fad 5 (.t 3)),⟨none, .store none 1 (.t 83) (.t 82), none, [], []⟩] false)) (.seq (.region [nO 85 (.bin .eql (.t 9) (.c (.int .i64 5))),
  mO 84 85] false) (.cond (.t 84) .skip (.seq (.region [nO 2 (.mov (.c (.bool false)))] false) .ret))))))))))))) (.seq (.region [mO 86 4,
  mO 87 86,
  gO 88 (.load true 6 (.t 1)) 87 true,
  gO 89 (.load true 6 (.t 3)) 87 true,
  gO 90 (.eqs false [true, true, true, true, true, true] (.t 88) (.t 89)) 87 true,
  nO 91 (.pick (.t 87) (.t 90) (.c (.bool false))),
  mO 2 91] false) .ret)))))
def i164 : F := ⟨1, 92, j164, [.t 2]⟩
theorem b164 : i164.body = j164 := rfl
theorem q164 : i164.res = [.t 2] := rfl
theorem c164 : chkF Tryz.prog Tryz.f164 i164 = true := by kernel_rfl
theorem s164 {m E} (hE : HE E) (hm : HM i164 m E) : Sound Tryz.prog 164 m := sound_of i164 Tryz.func164 rfl c164 hE hm
def j165 : C := (.seq (.region [nO 4 (.mov (.c (.int .i64 0)))] false) (.seq (.seq (.region [mO 5 1,
  mO 6 0,
  nO 7 (.bin .geq (.t 5) (.t 6))] false) (.cond (.t 7) (.seq (.region [mO 8 1,
  mO 9 0,
  nO 10 (.bin .sub (.t 8) (.t 9)),
  mO 4 10] false) .ret) .skip)) (.seq (.region [mO 11 0,
  mO 12 1,
  nO 13 (.bin .sub (.t 11) (.t 12)),
  nO 14 (.bin .sub (.c (.int .i64 4611686018427387904)) (.t 13)),
  mO 4 14] false) .ret)))
def i165 : F := ⟨2, 15, j165, [.t 4]⟩
theorem b165 : i165.body = j165 := rfl
theorem q165 : i165.res = [.t 4] := rfl
theorem c165 : chkF Tryz.prog Tryz.f165 i165 = true := by kernel_rfl
theorem s165 {m E} (hE : HE E) (hm : HM i165 m E) : Sound Tryz.prog 165 m := sound_of i165 Tryz.func165 rfl c165 hE hm
def j166 : C := (.seq (.region [nO 2 (.mov (.c (.int .i64 0)))] false) (.seq (.region [nO 3 (.bsl 3 1 4 [.int .i64 0] [(0, (.c (.int .i64 1462484242049070477))), (1, (.c (.int .i64 1775212608919665246))), (2, (.c (.int .i64 3535639072113518480))), (3, (.c (.int .i64 3725500155902745375)))]),
  mO 4 0,
  nO 5 (.iad 1 (.t 3) (.t 4)),
  nO 6 (.load false 1 (.t 5)),
  mO 2 6] false) .ret))
def i166 : F := ⟨1, 7, j166, [.t 2]⟩
theorem c166 : chkF Tryz.prog Tryz.f166 i166 = true := by kernel_rfl
theorem s166 {m E} (hE : HE E) (hm : HM i166 m E) : Sound Tryz.prog 166 m := sound_of i166 Tryz.func166 rfl c166 hE hm
def j167 : C := (.seq (.region [nO 2 (.mov (.c (.int .i64 0)))] false) (.seq (.region [nO 3 (.bsl 3 1 8 [.int .i64 0] [(0, (.c (.int .i64 2342812313538366385))), (1, (.c (.int .i64 1863050908023769503))), (2, (.c (.int .i64 81111313352671826))), (3, (.c (.int .i64 2434324899588211290))), (4, (.c (.int .i64 2454816673080883147))), (5, (.c (.int .i64 1342378062264523301))), (6, (.c (.int .i64 820659310660760249))), (7, (.c (.int .i64 2006264061484817761)))]),
  mO 4 0,
  nO 5 (.iad 1 (.t 3) (.t 4)),
  nO 6 (.load false 1 (.t 5)),
  mO 2 6] false) .ret))
def i167 : F := ⟨1, 7, j167, [.t 2]⟩
theorem c167 : chkF Tryz.prog Tryz.f167 i167 = true := by kernel_rfl
theorem s167 {m E} (hE : HE E) (hm : HM i167 m E) : Sound Tryz.prog 167 m := sound_of i167 Tryz.func167 rfl c167 hE hm
def j174 : C := (.seq (.region [nO 1 (.box (.t 0)),
  nO 2 (.mov (.c (.bool false)))] false) (.seq (.region [nO 3 (.fad 0 (.t 1)),
  nO 4 (.load false 1 (.t 3)),
  nO 5 (.bin .eql (.t 4) (.c (.int .i64 0))),
  mO 6 5,
  gO 7 (.fad 1 (.t 1)) 6 true,
  gO 8 (.load false 1 (.t 7)) 6 true,
  gO 9 (.bin .eql (.t 8) (.c (.int .i64 0))) 6 true,
  nO 10 (.pick (.t 6) (.t 9) (.c (.bool false))),
  mO 11 10,
  gO 12 (.fad 2 (.t 1)) 11 true,
  gO 13 (.load false 1 (.t 12)) 11 true,
  gO 14 (.bin .eql (.t 13) (.c (.int .i64 0))) 11 true,
  nO 15 (.pick (.t 11) (.t 14) (.c (.bool false))),
  mO 16 15,
  gO 17 (.fad 3 (.t 1)) 16 true,
  gO 18 (.load false 1 (.t 17)) 16 true,
  gO 19 (.len (.t 18)) 16 true,
  gO 20 (.bin .eql (.t 19) (.c (.int .i64 0))) 16 true,
  nO 21 (.pick (.t 16) (.t 20) (.c (.bool false))),
  mO 22 21,
  gO 23 (.fad 4 (.t 1)) 22 true,
  gO 24 (.load false 1 (.t 23)) 22 true,
  gO 25 (.len (.t 24)) 22 true,
  gO 26 (.bin .eql (.t 25) (.c (.int .i64 0))) 22 true,
  nO 27 (.pick (.t 22) (.t 26) (.c (.bool false))),
  mO 2 27] false) .ret))
def i174 : F := ⟨1, 28, j174, [.t 2]⟩
theorem b174 : i174.body = j174 := rfl
theorem q174 : i174.res = [.t 2] := rfl
theorem c174 : chkF Tryz.prog Tryz.f174 i174 = true := by kernel_rfl
theorem s174 {m E} (hE : HE E) (hm : HM i174 m E) : Sound Tryz.prog 174 m := sound_of i174 Tryz.func174 rfl c174 hE hm
def j175 : C := (.seq (.region [nO 6 (.mov (.c (.int .i64 0)))] false) (.seq (.seq (.region [mO 7 1,
  nO 8 (.call false 116 [(.t 7)]),
  nO 9 (.un .not (.t 8)),
  mO 10 9,
  mG 11 2 10 false,
  gO 12 (.bin .lss (.t 11) (.c (.int .i64 1))) 10 false,
  nO 13 (.pick (.t 10) (.c (.bool true)) (.t 12)),
  mO 14 13,
  mG 15 2 14 false,
  gO 16 (.bin .gtr (.t 15) (.c (.int .i64 16))) 14 false,
  nO 17 (.pick (.t 14) (.c (.bool true)) (.t 16)),
  mO 18 17,
  mG 19 0 18 false,
  gO 20 (.len (.t 19)) 18 false,
  mG 21 2 18 false,
  gO 22 (.bin .gtr (.t 20) (.t 21)) 18 false,
  nO 23 (.pick (.t 18) (.c (.bool true)) (.t 22)),
  mO 24 23,
  mG 25 0 24 false,
  mG 26 1 24 false,
  gO 27 (.call false 190 [(.t 25), (.t 26)]) 24 false,
  gO 28 (.un .not (.t 27)) 24 false,
  nO 29 (.pick (.t 24) (.c (.bool true)) (.t 28))] false) (.cond (.t 29) (.seq (.region [nO 6 (.mov (.c (.int .i64 1)))] false) .ret) .skip)) (.seq (.region [nO 6 (.mov (.c (.int .i64 0)))] false) .ret)))
def i175 : F := ⟨3, 30, j175, [.t 6]⟩
theorem b175 : i175.body = j175 := rfl
theorem q175 : i175.res = [.t 6] := rfl
theorem c175 : chkF Tryz.prog Tryz.f175 i175 = true := by kernel_rfl
theorem s175 {m E} (hE : HE E) (hm : HM i175 m E) : Sound Tryz.prog 175 m := sound_of i175 Tryz.func175 rfl c175 hE hm
def j176 : C := (.seq (.region [nO 4 (.mov (.c (.bool false)))] false) (.seq (.region [mO 5 0,
  mO 6 1,
  nO 7 (.call false 191 [(.t 5), (.t 6)]),
  nO 8 (.bin .geq (.t 7) (.c (.int .i64 0))),
  mO 4 8] false) .ret))
def i176 : F := ⟨2, 9, j176, [.t 4]⟩
theorem b176 : i176.body = j176 := rfl
theorem q176 : i176.res = [.t 4] := rfl
theorem c176 : chkF Tryz.prog Tryz.f176 i176 = true := by kernel_rfl
theorem s176 {m E} (hE : HE E) (hm : HM i176 m E) : Sound Tryz.prog 176 m := sound_of i176 Tryz.func176 rfl c176 hE hm
def j177 : C := (.seq (.region [nO 1 (.box (.t 0)),
  nO 2 (.mov (.c (.bool false)))] false) (.seq (.region [nO 3 (.load true 6 (.t 1)),
  nO 4 (.call false 178 [(.t 3)]),
  nO 5 (.bin .neq (.t 4) (.c (.int .i64 0))),
  mO 2 5] false) .ret))
def i177 : F := ⟨1, 6, j177, [.t 2]⟩
theorem b177 : i177.body = j177 := rfl
theorem q177 : i177.res = [.t 2] := rfl
theorem c177 : chkF Tryz.prog Tryz.f177 i177 = true := by kernel_rfl
theorem s177 {m E} (hE : HE E) (hm : HM i177 m E) : Sound Tryz.prog 177 m := sound_of i177 Tryz.func177 rfl c177 hE hm
def j178 : C := (.seq (.region [nO 1 (.box (.t 0)),
  nO 2 (.mov (.c (.int .i64 0)))] false) (.seq (.region [nO 6 (.load true 6 (.t 1)),
  nO 7 (.call false 192 [(.t 6)]),
  mO 5 7,
  nO 8 (.ext (.t 5) 0),
  nO 9 (.ext (.t 5) 1),
  nO 3 (.alloc [.int .i64 0, .int .i64 0, .int .i64 0, .int .i64 0, .int .i64 0, .int .i64 0]),⟨none, .store none 6 (.t 3) (.t 8), none, [], []⟩,
  mO 4 9] false) (.seq (.seq (.region [mO 10 4,
  nO 11 (.un .not (.t 10)),
  mO 12 11,
  gO 13 (.load true 6 (.t 3)) 12 false,
  gO 14 (.fad 0 (.t 1)) 12 false,
  gO 15 (.load false 1 (.t 14)) 12 false,
  gO 16 (.build [.int .i64 0, .int .i64 0, .int .i64 0, .int .i64 0, .int .i64 0, .int .i64 0] [(0, 1, (.t 15))]) 12 false,
  gO 17 (.eqs true [true, true, true, true, true, true] (.t 13) (.t 16)) 12 false,
  nO 18 (.pick (.t 12) (.c (.bool true)) (.t 17))] false) (.cond (.t 18) (.seq (.region [nO 2 (.mov (.c (.int .i64 1)))] false) .ret) .skip)) (.seq (.region [nO 2 (.mov (.c (.int .i64 0)))] false) .ret))))
def i178 : F := ⟨1, 19, j178, [.t 2]⟩
theorem b178 : i178.body = j178 := rfl
theorem q178 : i178.res = [.t 2] := rfl
theorem c178 : chkF Tryz.prog Tryz.f178 i178 = true := by kernel_rfl
theorem s178 {m E} (hE : HE E) (hm : HM i178 m E) : Sound Tryz.prog 178 m := sound_of i178 Tryz.func178 rfl c178 hE hm
def j186 : C := (.seq (.region [nO 4 (.mov (.c (.bool false)))] false) (.seq (.region [mO 5 0,
  mO 6 1,
  nO 7 (.call false 196 [(.t 5), (.t 6)]),
  nO 8 (.bin .geq (.t 7) (.c (.int .i64 0))),
  mO 4 8] false) .ret))
def i186 : F := ⟨2, 9, j186, [.t 4]⟩
theorem c186 : chkF Tryz.prog Tryz.f186 i186 = true := by kernel_rfl
theorem s186 {m E} (hE : HE E) (hm : HM i186 m E) : Sound Tryz.prog 186 m := sound_of i186 Tryz.func186 rfl c186 hE hm
def j187 : C := (.seq (.region [nO 4 (.nilsl 3 1 0)] false) (.seq (.seq (.region [mO 5 1,
  nO 6 (.bin .lss (.t 5) (.c (.int .i64 0)))] false) (.cond (.t 6) (.region [nO 7 (.stop),⟨none, .stop, none, [], []⟩] false) .skip)) (.seq (.seq (.region [mO 8 1,
  mO 9 0,
  nO 10 (.kln (.t 9)),
  mO 11 0,
  nO 12 (.kln (.t 11)),
  nO 13 (.bin .sub (.t 10) (.t 12)),
  nO 14 (.bin .sub (.t 8) (.t 13)),
  mO 1 14] false) (.seq (.region [mO 15 1,
  nO 16 (.bin .gtr (.t 15) (.c (.int .i64 0)))] false) (.cond (.t 16) (.region [mO 17 0,
  mO 18 0,
  nO 19 (.kln (.t 18)),
  nO 20 (.kct (.t 17) (.t 19)),
  mO 21 1,
  nO 22 (.apz 3 1 8 [.int .i64 0] (.t 20) (.t 21)),
  mO 23 0,
  nO 24 (.kln (.t 23)),
  nO 25 (.cu0 1 (.t 22) (.t 24)),
  mO 0 25] false) .skip))) (.seq (.region [nO 26 (.kow 3 1 (.t 0)),
  mO 4 26] false) .ret))))
def i187 : F := ⟨2, 27, j187, [.t 4]⟩
theorem c187 : chkF Tryz.prog Tryz.f187 i187 = true := by kernel_rfl
theorem s187 {m E} (hE : HE E) (hm : HM i187 m E) : Sound Tryz.prog 187 m := sound_of i187 Tryz.func187 rfl c187 hE hm
def j190 : C := (.seq (.region [nO 4 (.mov (.c (.bool false)))] false) (.seq (.seq (.region [mO 7 0,
  nO 8 (.len (.t 7)),
  nO 9 (.mov (.c (.int .i64 0)))] false) (.block 0 (.loop (.keep [0, 1, 7, 8, 9] (.seq (.region [nO 10 (.bin .lss (.t 9) (.t 8))] false) (.seq (.cond (.t 10) .skip (.exit 0)) (.seq (.block 1 (.seq (.region [mO 11 9,
  nO 12 (.iad 2 (.t 7) (.t 9)),
  nO 13 (.load true 2 (.t 12)),
  nO 6 (.alloc [.int .i64 0, .int .i64 0]),
  mO 5 11,⟨none, .store none 2 (.t 6) (.t 13), none, [], []⟩] false) (.seq (.region [nO 14 (.fad 0 (.t 6)),
  nO 15 (.load false 1 (.t 14)),
  nO 16 (.bin .lss (.t 15) (.c (.int .i64 1))),
  mO 17 16,
  gO 18 (.fad 0 (.t 6)) 17 false,
  gO 19 (.load false 1 (.t 18)) 17 false,
  mG 20 1 17 false,
  mG 21 0 17 false,
  gO 22 (.len (.t 21)) 17 false,
  gO 23 (.bin .sub (.t 20) (.t 22)) 17 false,
  mG 24 5 17 false,
  gO 25 (.bin .add (.t 23) (.t 24)) 17 false,
  gO 26 (.bin .neq (.t 19) (.t 25)) 17 false,
  nO 27 (.pick (.t 17) (.c (.bool true)) (.t 26)),
  mO 28 27,
  gO 29 (.fad 1 (.t 6)) 28 false,
  gO 30 (.load false 1 (.t 29)) 28 false,
  gO 31 (.call false 56 [(.t 30)]) 28 false,
  gO 32 (.un .not (.t 31)) 28 false,
  nO 33 (.pick (.t 28) (.c (.bool true)) (.t 32))] false) (.cond (.t 33) (.seq (.region [nO 4 (.mov (.c (.bool false)))] false) .ret) .skip)))) (.region [nO 34 (.bin .add (.t 9) (.c (.int .i64 1))),
  mO 9 34] false)))))))) (.seq (.region [nO 4 (.mov (.c (.bool true)))] false) .ret)))
def i190 : F := ⟨2, 35, j190, [.t 4]⟩
theorem b190 : i190.body = j190 := rfl
theorem q190 : i190.res = [.t 4] := rfl
theorem c190 : chkF Tryz.prog Tryz.f190 i190 = true := by kernel_rfl
theorem s190 {m E} (hE : HE E) (hm : HM i190 m E) : Sound Tryz.prog 190 m := sound_of i190 Tryz.func190 rfl c190 hE hm
def j191 : C := (.seq (.region [nO 4 (.mov (.c (.int .i64 0)))] false) (.seq (.seq (.region [mO 6 0,
  nO 7 (.len (.t 6)),
  nO 8 (.mov (.c (.int .i64 0)))] false) (.block 0 (.loop (.keep [0, 1, 7, 8] (.seq (.region [nO 9 (.bin .lss (.t 8) (.t 7))] false) (.seq (.cond (.t 9) .skip (.exit 0)) (.seq (.block 1 (.seq (.region [mO 10 8,
  mO 5 10] false) (.seq (.region [mO 11 1,
  mO 12 0,
  mO 13 5,
  nO 14 (.iad 6 (.t 12) (.t 13)),
  nO 15 (.load true 6 (.t 14)),
  nO 16 (.callv false (.t 11) [(.t 15)])] false) (.cond (.t 16) (.seq (.region [mO 17 5,
  mO 4 17] false) .ret) .skip)))) (.region [nO 18 (.bin .add (.t 8) (.c (.int .i64 1))),
  mO 8 18] false)))))))) (.seq (.region [nO 4 (.mov (.c (.int .i64 (-1))))] false) .ret)))
def i191 : F := ⟨2, 19, j191, [.t 4]⟩
theorem b191 : i191.body = j191 := rfl
theorem q191 : i191.res = [.t 4] := rfl
theorem c191 : chkF Tryz.prog Tryz.f191 i191 = true := by kernel_rfl
theorem s191 {m E} (hE : HE E) (hm : HM i191 m E) : Sound Tryz.prog 191 m := sound_of i191 Tryz.func191 rfl c191 hE hm
def j192 : C := (.seq (.region [nO 1 (.box (.t 0)),
  nO 2 (.alloc [.int .i64 0, .int .i64 0, .int .i64 0, .int .i64 0, .int .i64 0, .int .i64 0]),
  nO 3 (.mov (.c (.bool false)))] false) (.seq (.seq (.region [nO 4 (.fad 0 (.t 1)),
  nO 5 (.load false 1 (.t 4))] false) (.block 0 (.seq (.region [nO 7 (.bin .eql (.t 5) (.c (.int .i64 1))),
  mO 6 7] false) (.cond (.t 6) (.seq (.region [nO 8 (.load true 6 (.t 1)),
  nO 9 (.call false 197 [(.t 8)]),
  mO 10 9,
  gO 11 (.fad 4 (.t 1)) 10 true,
  gO 12 (.load false 1 (.t 11)) 10 true,
  gO 13 (.call false 56 [(.t 12)]) 10 true,
  nO 14 (.pick (.t 10) (.t 13) (.c (.bool false))),
  mO 3 14] false) (.region [nO 15 (.fad 1 (.t 1)),⟨none, .store none 1 (.t 15) (.c (.int .i64 0)), none, [], []⟩,
  nO 16 (.fad 2 (.t 1)),⟨none, .store none 1 (.t 16) (.c (.int .i64 0)), none, [], []⟩,
  nO 17 (.fad 4 (.t 1)),⟨none, .store none 1 (.t 17) (.c (.int .i64 0)), none, [], []⟩] false)) (.seq (.region [nO 19 (.bin .eql (.t 5) (.c (.int .i64 2))),
  mO 18 19] false) (.cond (.t 18) (.seq (.region [nO 20 (.load true 6 (.t 1)),
  nO 21 (.call false 197 [(.t 20)]),
  mO 22 21,
  gO 23 (.fad 3 (.t 1)) 22 true,
  gO 24 (.load false 1 (.t 23)) 22 true,
  gO 25 (.fad 2 (.t 1)) 22 true,
  gO 26 (.load false 1 (.t 25)) 22 true,
  gO 27 (.bin .geq (.t 24) (.t 26)) 22 true,
  nO 28 (.pick (.t 22) (.t 27) (.c (.bool false))),
  mO 29 28,
  gO 30 (.fad 3 (.t 1)) 29 true,
  gO 31 (.load false 1 (.t 30)) 29 true,
  gO 32 (.bin .leq (.t 31) (.c (.int .i64 1073741824))) 29 true,
  nO 33 (.pick (.t 29) (.t 32) (.c (.bool false))),
  mO 3 33] false) (.region [nO 34 (.fad 1 (.t 1)),⟨none, .store none 1 (.t 34) (.c (.int .i64 0)), none, [], []⟩,
  nO 35 (.fad 2 (.t 1)),⟨none, .store none 1 (.t 35) (.c (.int .i64 0)), none, [], []⟩,
  nO 36 (.fad 3 (.t 1)),⟨none, .store none 1 (.t 36) (.c (.int .i64 0)), none, [], []⟩] false)) (.seq (.region [nO 38 (.bin .eql (.t 5) (.c (.int .i64 3))),
  mO 37 38] false) (.cond (.t 37) (.seq (.region [nO 39 (.fad 5 (.t 1)),
  nO 40 (.load false 1 (.t 39)),
  nO 41 (.call false 198 [(.t 40)]),
  mO 42 41,
  gO 43 (.fad 4 (.t 1)) 42 true,
  gO 44 (.load false 1 (.t 43)) 42 true,
  gO 45 (.call false 85 [(.t 44)]) 42 true,
  nO 46 (.pick (.t 42) (.t 45) (.c (.bool false))),
  mO 3 46] false) (.region [nO 47 (.fad 5 (.t 1)),⟨none, .store none 1 (.t 47) (.c (.int .i64 0)), none, [], []⟩,
  nO 48 (.fad 4 (.t 1)),⟨none, .store none 1 (.t 48) (.c (.int .i64 0)), none, [], []⟩] false)) (.seq (.region [nO 50 (.bin .eql (.t 5) (.c (.int .i64 4))),
  mO 49 50] false) (.cond (.t 49) (.seq (.region [nO 51 (.fad 5 (.t 1)),
  nO 52 (.load false 1 (.t 51)),
  nO 53 (.call false 198 [(.t 52)]),
  mO 3 53] false) (.region [nO 54 (.fad 5 (.t 1)),⟨none, .store none 1 (.t 54) (.c (.int .i64 0)), none, [], []⟩] false)) (.seq (.region [nO 56 (.bin .eql (.t 5) (.c (.int .i64 5))),
  mO 55 56] false) (.cond (.t 55) (.region [nO 3 (.mov (.c (.bool true)))] false) .skip)))))))))))) (.seq (.region [nO 57 (.load true 6 (.t 1)),
  mO 58 3,⟨none, .store none 6 (.t 2) (.t 57), none, [], []⟩,
  mO 3 58] false) .ret)))
def i192 : F := ⟨1, 59, j192, [.c 2 6 true, .t 3]⟩
theorem b192 : i192.body = j192 := rfl
theorem q192 : i192.res = [.c 2 6 true, .t 3] := rfl
theorem c192 : chkF Tryz.prog Tryz.f192 i192 = true := by kernel_rfl
theorem s192 {m E} (hE : HE E) (hm : HM i192 m E) : Sound Tryz.prog 192 m := sound_of i192 Tryz.func192 rfl c192 hE hm
def j196 : C := (.seq (.region [nO 4 (.mov (.c (.int .i64 0)))] false) (.seq (.seq (.region [mO 6 0,
  nO 7 (.len (.t 6)),
  nO 8 (.mov (.c (.int .i64 0)))] false) (.block 0 (.loop (.keep [0, 1, 7, 8] (.seq (.region [nO 9 (.bin .lss (.t 8) (.t 7))] false) (.seq (.cond (.t 9) .skip (.exit 0)) (.seq (.block 1 (.seq (.region [mO 10 8,
  mO 5 10] false) (.seq (.region [mO 11 1,
  mO 12 0,
  mO 13 5,
  nO 14 (.iad 1 (.t 12) (.t 13)),
  nO 15 (.load false 1 (.t 14)),
  nO 16 (.bin .eql (.t 11) (.t 15))] false) (.cond (.t 16) (.seq (.region [mO 17 5,
  mO 4 17] false) .ret) .skip)))) (.region [nO 18 (.bin .add (.t 8) (.c (.int .i64 1))),
  mO 8 18] false)))))))) (.seq (.region [nO 4 (.mov (.c (.int .i64 (-1))))] false) .ret)))
def i196 : F := ⟨2, 19, j196, [.t 4]⟩
theorem c196 : chkF Tryz.prog Tryz.f196 i196 = true := by kernel_rfl
theorem s196 {m E} (hE : HE E) (hm : HM i196 m E) : Sound Tryz.prog 196 m := sound_of i196 Tryz.func196 rfl c196 hE hm
def j197 : C := (.seq (.region [nO 1 (.box (.t 0)),
  nO 2 (.mov (.c (.bool false)))] false) (.seq (.region [nO 3 (.fad 1 (.t 1)),
  nO 4 (.load false 1 (.t 3)),
  nO 5 (.call false 53 [(.t 4)]),
  nO 6 (.bin .eql (.t 5) (.c (.int .i64 0))),
  mO 7 6,
  gO 8 (.fad 2 (.t 1)) 7 true,
  gO 9 (.load false 1 (.t 8)) 7 true,
  gO 10 (.call false 116 [(.t 9)]) 7 true,
  nO 11 (.pick (.t 7) (.t 10) (.c (.bool false))),
  mO 2 11] false) .ret))
def i197 : F := ⟨1, 12, j197, [.t 2]⟩
theorem b197 : i197.body = j197 := rfl
theorem q197 : i197.res = [.t 2] := rfl
theorem c197 : chkF Tryz.prog Tryz.f197 i197 = true := by kernel_rfl
theorem s197 {m E} (hE : HE E) (hm : HM i197 m E) : Sound Tryz.prog 197 m := sound_of i197 Tryz.func197 rfl c197 hE hm
def j198 : C := (.seq (.region [nO 2 (.mov (.c (.bool false)))] false) (.seq (.region [mO 3 0,
  nO 4 (.bin .geq (.t 3) (.c (.int .i64 1))),
  mO 5 4,
  mG 6 0 5 true,
  gO 7 (.bin .leq (.t 6) (.c (.int .i64 40))) 5 true,
  nO 8 (.pick (.t 5) (.t 7) (.c (.bool false))),
  mO 2 8] false) .ret))
def i198 : F := ⟨1, 9, j198, [.t 2]⟩
theorem b198 : i198.body = j198 := rfl
theorem q198 : i198.res = [.t 2] := rfl
theorem c198 : chkF Tryz.prog Tryz.f198 i198 = true := by kernel_rfl
theorem s198 {m E} (hE : HE E) (hm : HM i198 m E) : Sound Tryz.prog 198 m := sound_of i198 Tryz.func198 rfl c198 hE hm
def xt : List (Nat × Model) := [(80, cloneM 3 1 8), (101, cloneM 51 3 24), (102, cloneM 84 6 48), (104, XE.errnoM), (137, cloneM 88 2 16), (152, XM.insM 51 3 24)]
def tb : List (Nat × F) := [(13, i13), (14, i14), (17, i17), (18, i18), (19, i19), (20, i20), (21, i21), (23, i23), (25, i25), (26, i26), (27, i27), (28, i28), (29, i29), (30, i30), (31, i31), (33, i33), (34, i34), (39, i39), (40, i40), (41, i41), (42, i42), (48, i48), (49, i49), (50, i50), (52, i52), (53, i53), (54, i54), (55, i55), (56, i56), (59, i59), (60, i60), (61, i61), (62, i62), (63, i63), (64, i64), (65, i65), (66, i66), (67, i67), (68, i68), (69, i69), (70, i70), (71, i71), (73, i73), (76, i76), (79, i79), (81, i81), (85, i85), (86, i86), (87, i87), (88, i88), (89, i89), (90, i90), (91, i91), (92, i92), (99, i99), (100, i100), (103, i103), (105, i105), (106, i106), (107, i107), (108, i108), (109, i109), (110, i110), (116, i116), (117, i117), (118, i118), (119, i119), (120, i120), (121, i121), (122, i122), (123, i123), (124, i124), (125, i125), (126, i126), (127, i127), (128, i128), (129, i129), (131, i131), (132, i132), (133, i133), (136, i136), (140, i140), (141, i141), (142, i142), (143, i143), (147, i147), (150, i150), (153, i153), (154, i154), (155, i155), (156, i156), (157, i157), (158, i158), (159, i159), (160, i160), (161, i161), (162, i162), (163, i163), (164, i164), (165, i165), (166, i166), (167, i167), (174, i174), (175, i175), (176, i176), (177, i177), (178, i178), (186, i186), (187, i187), (190, i190), (191, i191), (192, i192), (196, i196), (197, i197), (198, i198)]
theorem xt_ok : ∀ p ∈ xt, Sound Tryz.prog p.1 p.2 := all_cons x80 (all_cons x101 (all_cons x102 (all_cons x104 (all_cons x137 (all_cons x152 (all_nil))))))
theorem tb_ok (N : Nat) : ∀ p ∈ tb, ∀ E : Nat → Model, (∀ f, Sound Tryz.prog f (E f)) → Sound Tryz.prog p.1 (p.2.ev E N) := all_cons (fun E hE => s13 hE fun _ _ h => ⟨N, h⟩) (all_cons (fun E hE => s14 hE fun _ _ h => ⟨N, h⟩) (all_cons (fun E hE => s17 hE fun _ _ h => ⟨N, h⟩) (all_cons (fun E hE => s18 hE fun _ _ h => ⟨N, h⟩) (all_cons (fun E hE => s19 hE fun _ _ h => ⟨N, h⟩) (all_cons (fun E hE => s20 hE fun _ _ h => ⟨N, h⟩) (all_cons (fun E hE => s21 hE fun _ _ h => ⟨N, h⟩) (all_cons (fun E hE => s23 hE fun _ _ h => ⟨N, h⟩) (all_cons (fun E hE => s25 hE fun _ _ h => ⟨N, h⟩) (all_cons (fun E hE => s26 hE fun _ _ h => ⟨N, h⟩) (all_cons (fun E hE => s27 hE fun _ _ h => ⟨N, h⟩) (all_cons (fun E hE => s28 hE fun _ _ h => ⟨N, h⟩) (all_cons (fun E hE => s29 hE fun _ _ h => ⟨N, h⟩) (all_cons (fun E hE => s30 hE fun _ _ h => ⟨N, h⟩) (all_cons (fun E hE => s31 hE fun _ _ h => ⟨N, h⟩) (all_cons (fun E hE => s33 hE fun _ _ h => ⟨N, h⟩) (all_cons (fun E hE => s34 hE fun _ _ h => ⟨N, h⟩) (all_cons (fun E hE => s39 hE fun _ _ h => ⟨N, h⟩) (all_cons (fun E hE => s40 hE fun _ _ h => ⟨N, h⟩) (all_cons (fun E hE => s41 hE fun _ _ h => ⟨N, h⟩) (all_cons (fun E hE => s42 hE fun _ _ h => ⟨N, h⟩) (all_cons (fun E hE => s48 hE fun _ _ h => ⟨N, h⟩) (all_cons (fun E hE => s49 hE fun _ _ h => ⟨N, h⟩) (all_cons (fun E hE => s50 hE fun _ _ h => ⟨N, h⟩) (all_cons (fun E hE => s52 hE fun _ _ h => ⟨N, h⟩) (all_cons (fun E hE => s53 hE fun _ _ h => ⟨N, h⟩) (all_cons (fun E hE => s54 hE fun _ _ h => ⟨N, h⟩) (all_cons (fun E hE => s55 hE fun _ _ h => ⟨N, h⟩) (all_cons (fun E hE => s56 hE fun _ _ h => ⟨N, h⟩) (all_cons (fun E hE => s59 hE fun _ _ h => ⟨N, h⟩) (all_cons (fun E hE => s60 hE fun _ _ h => ⟨N, h⟩) (all_cons (fun E hE => s61 hE fun _ _ h => ⟨N, h⟩) (all_cons (fun E hE => s62 hE fun _ _ h => ⟨N, h⟩) (all_cons (fun E hE => s63 hE fun _ _ h => ⟨N, h⟩) (all_cons (fun E hE => s64 hE fun _ _ h => ⟨N, h⟩) (all_cons (fun E hE => s65 hE fun _ _ h => ⟨N, h⟩) (all_cons (fun E hE => s66 hE fun _ _ h => ⟨N, h⟩) (all_cons (fun E hE => s67 hE fun _ _ h => ⟨N, h⟩) (all_cons (fun E hE => s68 hE fun _ _ h => ⟨N, h⟩) (all_cons (fun E hE => s69 hE fun _ _ h => ⟨N, h⟩) (all_cons (fun E hE => s70 hE fun _ _ h => ⟨N, h⟩) (all_cons (fun E hE => s71 hE fun _ _ h => ⟨N, h⟩) (all_cons (fun E hE => s73 hE fun _ _ h => ⟨N, h⟩) (all_cons (fun E hE => s76 hE fun _ _ h => ⟨N, h⟩) (all_cons (fun E hE => s79 hE fun _ _ h => ⟨N, h⟩) (all_cons (fun E hE => s81 hE fun _ _ h => ⟨N, h⟩) (all_cons (fun E hE => s85 hE fun _ _ h => ⟨N, h⟩) (all_cons (fun E hE => s86 hE fun _ _ h => ⟨N, h⟩) (all_cons (fun E hE => s87 hE fun _ _ h => ⟨N, h⟩) (all_cons (fun E hE => s88 hE fun _ _ h => ⟨N, h⟩) (all_cons (fun E hE => s89 hE fun _ _ h => ⟨N, h⟩) (all_cons (fun E hE => s90 hE fun _ _ h => ⟨N, h⟩) (all_cons (fun E hE => s91 hE fun _ _ h => ⟨N, h⟩) (all_cons (fun E hE => s92 hE fun _ _ h => ⟨N, h⟩) (all_cons (fun E hE => s99 hE fun _ _ h => ⟨N, h⟩) (all_cons (fun E hE => s100 hE fun _ _ h => ⟨N, h⟩) (all_cons (fun E hE => s103 hE fun _ _ h => ⟨N, h⟩) (all_cons (fun E hE => s105 hE fun _ _ h => ⟨N, h⟩) (all_cons (fun E hE => s106 hE fun _ _ h => ⟨N, h⟩) (all_cons (fun E hE => s107 hE fun _ _ h => ⟨N, h⟩) (all_cons (fun E hE => s108 hE fun _ _ h => ⟨N, h⟩) (all_cons (fun E hE => s109 hE fun _ _ h => ⟨N, h⟩) (all_cons (fun E hE => s110 hE fun _ _ h => ⟨N, h⟩) (all_cons (fun E hE => s116 hE fun _ _ h => ⟨N, h⟩) (all_cons (fun E hE => s117 hE fun _ _ h => ⟨N, h⟩) (all_cons (fun E hE => s118 hE fun _ _ h => ⟨N, h⟩) (all_cons (fun E hE => s119 hE fun _ _ h => ⟨N, h⟩) (all_cons (fun E hE => s120 hE fun _ _ h => ⟨N, h⟩) (all_cons (fun E hE => s121 hE fun _ _ h => ⟨N, h⟩) (all_cons (fun E hE => s122 hE fun _ _ h => ⟨N, h⟩) (all_cons (fun E hE => s123 hE fun _ _ h => ⟨N, h⟩) (all_cons (fun E hE => s124 hE fun _ _ h => ⟨N, h⟩) (all_cons (fun E hE => s125 hE fun _ _ h => ⟨N, h⟩) (all_cons (fun E hE => s126 hE fun _ _ h => ⟨N, h⟩) (all_cons (fun E hE => s127 hE fun _ _ h => ⟨N, h⟩) (all_cons (fun E hE => s128 hE fun _ _ h => ⟨N, h⟩) (all_cons (fun E hE => s129 hE fun _ _ h => ⟨N, h⟩) (all_cons (fun E hE => s131 hE fun _ _ h => ⟨N, h⟩) (all_cons (fun E hE => s132 hE fun _ _ h => ⟨N, h⟩) (all_cons (fun E hE => s133 hE fun _ _ h => ⟨N, h⟩) (all_cons (fun E hE => s136 hE fun _ _ h => ⟨N, h⟩) (all_cons (fun E hE => s140 hE fun _ _ h => ⟨N, h⟩) (all_cons (fun E hE => s141 hE fun _ _ h => ⟨N, h⟩) (all_cons (fun E hE => s142 hE fun _ _ h => ⟨N, h⟩) (all_cons (fun E hE => s143 hE fun _ _ h => ⟨N, h⟩) (all_cons (fun E hE => s147 hE fun _ _ h => ⟨N, h⟩) (all_cons (fun E hE => s150 hE fun _ _ h => ⟨N, h⟩) (all_cons (fun E hE => s153 hE fun _ _ h => ⟨N, h⟩) (all_cons (fun E hE => s154 hE fun _ _ h => ⟨N, h⟩) (all_cons (fun E hE => s155 hE fun _ _ h => ⟨N, h⟩) (all_cons (fun E hE => s156 hE fun _ _ h => ⟨N, h⟩) (all_cons (fun E hE => s157 hE fun _ _ h => ⟨N, h⟩) (all_cons (fun E hE => s158 hE fun _ _ h => ⟨N, h⟩) (all_cons (fun E hE => s159 hE fun _ _ h => ⟨N, h⟩) (all_cons (fun E hE => s160 hE fun _ _ h => ⟨N, h⟩) (all_cons (fun E hE => s161 hE fun _ _ h => ⟨N, h⟩) (all_cons (fun E hE => s162 hE fun _ _ h => ⟨N, h⟩) (all_cons (fun E hE => s163 hE fun _ _ h => ⟨N, h⟩) (all_cons (fun E hE => s164 hE fun _ _ h => ⟨N, h⟩) (all_cons (fun E hE => s165 hE fun _ _ h => ⟨N, h⟩) (all_cons (fun E hE => s166 hE fun _ _ h => ⟨N, h⟩) (all_cons (fun E hE => s167 hE fun _ _ h => ⟨N, h⟩) (all_cons (fun E hE => s174 hE fun _ _ h => ⟨N, h⟩) (all_cons (fun E hE => s175 hE fun _ _ h => ⟨N, h⟩) (all_cons (fun E hE => s176 hE fun _ _ h => ⟨N, h⟩) (all_cons (fun E hE => s177 hE fun _ _ h => ⟨N, h⟩) (all_cons (fun E hE => s178 hE fun _ _ h => ⟨N, h⟩) (all_cons (fun E hE => s186 hE fun _ _ h => ⟨N, h⟩) (all_cons (fun E hE => s187 hE fun _ _ h => ⟨N, h⟩) (all_cons (fun E hE => s190 hE fun _ _ h => ⟨N, h⟩) (all_cons (fun E hE => s191 hE fun _ _ h => ⟨N, h⟩) (all_cons (fun E hE => s192 hE fun _ _ h => ⟨N, h⟩) (all_cons (fun E hE => s196 hE fun _ _ h => ⟨N, h⟩) (all_cons (fun E hE => s197 hE fun _ _ h => ⟨N, h⟩) (all_cons (fun E hE => s198 hE fun _ _ h => ⟨N, h⟩) (all_nil)))))))))))))))))))))))))))))))))))))))))))))))))))))))))))))))))))))))))))))))))))))))))))))))))))))))))))))))))))
abbrev TT := T xt tb
theorem TT_ok (N d f : Nat) : Sound Tryz.prog f (TT N d f) := T_ok xt_ok (tb_ok N) d f
theorem t13 (N d : Nat) : TT N (d + 1) 13 = i13.ev (TT N d) N := rfl
theorem t14 (N d : Nat) : TT N (d + 1) 14 = i14.ev (TT N d) N := rfl
theorem t17 (N d : Nat) : TT N (d + 1) 17 = i17.ev (TT N d) N := rfl
theorem t18 (N d : Nat) : TT N (d + 1) 18 = i18.ev (TT N d) N := rfl
theorem t19 (N d : Nat) : TT N (d + 1) 19 = i19.ev (TT N d) N := rfl
theorem t20 (N d : Nat) : TT N (d + 1) 20 = i20.ev (TT N d) N := rfl
theorem t21 (N d : Nat) : TT N (d + 1) 21 = i21.ev (TT N d) N := rfl
theorem t25 (N d : Nat) : TT N (d + 1) 25 = i25.ev (TT N d) N := rfl
theorem t26 (N d : Nat) : TT N (d + 1) 26 = i26.ev (TT N d) N := rfl
theorem t27 (N d : Nat) : TT N (d + 1) 27 = i27.ev (TT N d) N := rfl
theorem t28 (N d : Nat) : TT N (d + 1) 28 = i28.ev (TT N d) N := rfl
theorem t30 (N d : Nat) : TT N (d + 1) 30 = i30.ev (TT N d) N := rfl
theorem t31 (N d : Nat) : TT N (d + 1) 31 = i31.ev (TT N d) N := rfl
theorem t34 (N d : Nat) : TT N (d + 1) 34 = i34.ev (TT N d) N := rfl
theorem t40 (N d : Nat) : TT N (d + 1) 40 = i40.ev (TT N d) N := rfl
theorem t41 (N d : Nat) : TT N (d + 1) 41 = i41.ev (TT N d) N := rfl
theorem t42 (N d : Nat) : TT N (d + 1) 42 = i42.ev (TT N d) N := rfl
theorem t48 (N d : Nat) : TT N (d + 1) 48 = i48.ev (TT N d) N := rfl
theorem t49 (N d : Nat) : TT N (d + 1) 49 = i49.ev (TT N d) N := rfl
theorem t50 (N d : Nat) : TT N (d + 1) 50 = i50.ev (TT N d) N := rfl
theorem t53 (N d : Nat) : TT N (d + 1) 53 = i53.ev (TT N d) N := rfl
theorem t54 (N d : Nat) : TT N (d + 1) 54 = i54.ev (TT N d) N := rfl
theorem t55 (N d : Nat) : TT N (d + 1) 55 = i55.ev (TT N d) N := rfl
theorem t56 (N d : Nat) : TT N (d + 1) 56 = i56.ev (TT N d) N := rfl
theorem t59 (N d : Nat) : TT N (d + 1) 59 = i59.ev (TT N d) N := rfl
theorem t60 (N d : Nat) : TT N (d + 1) 60 = i60.ev (TT N d) N := rfl
theorem t61 (N d : Nat) : TT N (d + 1) 61 = i61.ev (TT N d) N := rfl
theorem t62 (N d : Nat) : TT N (d + 1) 62 = i62.ev (TT N d) N := rfl
theorem t63 (N d : Nat) : TT N (d + 1) 63 = i63.ev (TT N d) N := rfl
theorem t64 (N d : Nat) : TT N (d + 1) 64 = i64.ev (TT N d) N := rfl
theorem t65 (N d : Nat) : TT N (d + 1) 65 = i65.ev (TT N d) N := rfl
theorem t68 (N d : Nat) : TT N (d + 1) 68 = i68.ev (TT N d) N := rfl
theorem t69 (N d : Nat) : TT N (d + 1) 69 = i69.ev (TT N d) N := rfl
theorem t70 (N d : Nat) : TT N (d + 1) 70 = i70.ev (TT N d) N := rfl
theorem t71 (N d : Nat) : TT N (d + 1) 71 = i71.ev (TT N d) N := rfl
theorem t73 (N d : Nat) : TT N (d + 1) 73 = i73.ev (TT N d) N := rfl
theorem t76 (N d : Nat) : TT N (d + 1) 76 = i76.ev (TT N d) N := rfl
theorem t85 (N d : Nat) : TT N (d + 1) 85 = i85.ev (TT N d) N := rfl
theorem t87 (N d : Nat) : TT N (d + 1) 87 = i87.ev (TT N d) N := rfl
theorem t88 (N d : Nat) : TT N (d + 1) 88 = i88.ev (TT N d) N := rfl
theorem t89 (N d : Nat) : TT N (d + 1) 89 = i89.ev (TT N d) N := rfl
theorem t90 (N d : Nat) : TT N (d + 1) 90 = i90.ev (TT N d) N := rfl
theorem t91 (N d : Nat) : TT N (d + 1) 91 = i91.ev (TT N d) N := rfl
theorem t92 (N d : Nat) : TT N (d + 1) 92 = i92.ev (TT N d) N := rfl
theorem t99 (N d : Nat) : TT N (d + 1) 99 = i99.ev (TT N d) N := rfl
theorem t100 (N d : Nat) : TT N (d + 1) 100 = i100.ev (TT N d) N := rfl
theorem t103 (N d : Nat) : TT N (d + 1) 103 = i103.ev (TT N d) N := rfl
theorem t105 (N d : Nat) : TT N (d + 1) 105 = i105.ev (TT N d) N := rfl
theorem t106 (N d : Nat) : TT N (d + 1) 106 = i106.ev (TT N d) N := rfl
theorem t107 (N d : Nat) : TT N (d + 1) 107 = i107.ev (TT N d) N := rfl
theorem t108 (N d : Nat) : TT N (d + 1) 108 = i108.ev (TT N d) N := rfl
theorem t109 (N d : Nat) : TT N (d + 1) 109 = i109.ev (TT N d) N := rfl
theorem t110 (N d : Nat) : TT N (d + 1) 110 = i110.ev (TT N d) N := rfl
theorem t116 (N d : Nat) : TT N (d + 1) 116 = i116.ev (TT N d) N := rfl
theorem t117 (N d : Nat) : TT N (d + 1) 117 = i117.ev (TT N d) N := rfl
theorem t118 (N d : Nat) : TT N (d + 1) 118 = i118.ev (TT N d) N := rfl
theorem t119 (N d : Nat) : TT N (d + 1) 119 = i119.ev (TT N d) N := rfl
theorem t120 (N d : Nat) : TT N (d + 1) 120 = i120.ev (TT N d) N := rfl
theorem t121 (N d : Nat) : TT N (d + 1) 121 = i121.ev (TT N d) N := rfl
theorem t122 (N d : Nat) : TT N (d + 1) 122 = i122.ev (TT N d) N := rfl
theorem t123 (N d : Nat) : TT N (d + 1) 123 = i123.ev (TT N d) N := rfl
theorem t124 (N d : Nat) : TT N (d + 1) 124 = i124.ev (TT N d) N := rfl
theorem t125 (N d : Nat) : TT N (d + 1) 125 = i125.ev (TT N d) N := rfl
theorem t126 (N d : Nat) : TT N (d + 1) 126 = i126.ev (TT N d) N := rfl
theorem t127 (N d : Nat) : TT N (d + 1) 127 = i127.ev (TT N d) N := rfl
theorem t131 (N d : Nat) : TT N (d + 1) 131 = i131.ev (TT N d) N := rfl
theorem t132 (N d : Nat) : TT N (d + 1) 132 = i132.ev (TT N d) N := rfl
theorem t133 (N d : Nat) : TT N (d + 1) 133 = i133.ev (TT N d) N := rfl
theorem t136 (N d : Nat) : TT N (d + 1) 136 = i136.ev (TT N d) N := rfl
theorem t140 (N d : Nat) : TT N (d + 1) 140 = i140.ev (TT N d) N := rfl
theorem t141 (N d : Nat) : TT N (d + 1) 141 = i141.ev (TT N d) N := rfl
theorem t142 (N d : Nat) : TT N (d + 1) 142 = i142.ev (TT N d) N := rfl
theorem t143 (N d : Nat) : TT N (d + 1) 143 = i143.ev (TT N d) N := rfl
theorem t147 (N d : Nat) : TT N (d + 1) 147 = i147.ev (TT N d) N := rfl
theorem t150 (N d : Nat) : TT N (d + 1) 150 = i150.ev (TT N d) N := rfl
theorem t155 (N d : Nat) : TT N (d + 1) 155 = i155.ev (TT N d) N := rfl
theorem t161 (N d : Nat) : TT N (d + 1) 161 = i161.ev (TT N d) N := rfl
theorem t162 (N d : Nat) : TT N (d + 1) 162 = i162.ev (TT N d) N := rfl
theorem t163 (N d : Nat) : TT N (d + 1) 163 = i163.ev (TT N d) N := rfl
theorem t164 (N d : Nat) : TT N (d + 1) 164 = i164.ev (TT N d) N := rfl
theorem t165 (N d : Nat) : TT N (d + 1) 165 = i165.ev (TT N d) N := rfl
theorem t174 (N d : Nat) : TT N (d + 1) 174 = i174.ev (TT N d) N := rfl
theorem t175 (N d : Nat) : TT N (d + 1) 175 = i175.ev (TT N d) N := rfl
theorem t176 (N d : Nat) : TT N (d + 1) 176 = i176.ev (TT N d) N := rfl
theorem t177 (N d : Nat) : TT N (d + 1) 177 = i177.ev (TT N d) N := rfl
theorem t178 (N d : Nat) : TT N (d + 1) 178 = i178.ev (TT N d) N := rfl
theorem t190 (N d : Nat) : TT N (d + 1) 190 = i190.ev (TT N d) N := rfl
theorem t191 (N d : Nat) : TT N (d + 1) 191 = i191.ev (TT N d) N := rfl
theorem t192 (N d : Nat) : TT N (d + 1) 192 = i192.ev (TT N d) N := rfl
theorem t197 (N d : Nat) : TT N (d + 1) 197 = i197.ev (TT N d) N := rfl
theorem t198 (N d : Nat) : TT N (d + 1) 198 = i198.ev (TT N d) N := rfl
theorem t80 (N d : Nat) : TT N (d + 1) 80 = cloneM 3 1 8 := rfl
theorem t101 (N d : Nat) : TT N (d + 1) 101 = cloneM 51 3 24 := rfl
theorem t104 (N d : Nat) : TT N (d + 1) 104 = XE.errnoM := rfl
theorem t137 (N d : Nat) : TT N (d + 1) 137 = cloneM 88 2 16 := rfl
theorem t152 (N d : Nat) : TT N (d + 1) 152 = XM.insM 51 3 24 := rfl
end Go.Proofs.YtdflglehippoiaaGreatDoor.IG
