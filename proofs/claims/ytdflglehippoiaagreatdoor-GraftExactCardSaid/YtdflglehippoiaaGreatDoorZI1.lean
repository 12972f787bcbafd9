/- Texts joined: IG1. -/
import Derived.Test.YtdflglehippoiaaGreatDoorZX1
import Derived.Test.YtdflglehippoiaaGreatDoorProg
set_option linter.unusedVariables false
set_option linter.unusedSimpArgs false
set_option maxRecDepth 100000
namespace Go.Proofs.YtdflglehippoiaaGreatDoor.IG
open Go Go.Proofs.YtdflglehippoiaaGreatDoorR
abbrev mO (d n : Nat) : IO := ⟨some d, .mov (.t n), none, [], []⟩
abbrev mG (d n k : Nat) (b : Bool) : IO := ⟨some d, .mov (.t n), some (k, b), [], []⟩
abbrev HE (E : Nat → Model) : Prop := ∀ f, Sound Tryz.prog f (E f)
abbrev HM (i : F) (m : Model) (E : Nat → Model) : Prop := ∀ args r, m args = some r → ∃ N, i.ev E N args = some r
def j13 : C := (.seq (.region [nO 1 (.box (.t 0)),
  nO 2 (.mov (.c (.bool false)))] false) (.seq (.region [nO 3 (.fad 8 (.t 1)),
  nO 4 (.load false 1 (.t 3)),
  nO 5 (.len (.t 4)),
  nO 6 (.bin .gtr (.t 5) (.c (.int .i64 20))),
  mO 7 6,
  gO 8 (.fad 9 (.t 1)) 7 false,
  gO 9 (.load false 1 (.t 8)) 7 false,
  gO 10 (.len (.t 9)) 7 false,
  gO 11 (.bin .gtr (.t 10) (.c (.int .i64 20))) 7 false,
  nO 12 (.pick (.t 7) (.c (.bool true)) (.t 11)),
  mO 13 12,
  gO 14 (.fad 10 (.t 1)) 13 false,
  gO 15 (.load true 5 (.t 14)) 13 false,
  gO 16 (.fad 15 (.t 1)) 13 false,
  gO 17 (.load false 1 (.t 16)) 13 false,
  gO 18 (.call false 49 [(.t 15), (.t 17)]) 13 false,
  nO 19 (.pick (.t 13) (.c (.bool true)) (.t 18)),
  mO 2 19] false) .ret))
def i13 : F := ⟨1, 20, j13, [.t 2]⟩
theorem b13 : i13.body = j13 := rfl
theorem q13 : i13.res = [.t 2] := rfl
theorem c13 : chkF Tryz.prog Tryz.f13 i13 = true := by kernel_rfl
theorem s13 {m E} (hE : HE E) (hm : HM i13 m E) : Sound Tryz.prog 13 m := sound_of i13 Tryz.func13 rfl c13 hE hm
def j17 : C := (.seq (.region [nO 2 (.mov (.c (.int .i64 0))),
  nO 3 (.mov (.c (.int .i64 0)))] false) (.seq (.region [mO 5 0,
  nO 6 (.call false 53 [(.t 5)]),
  mO 4 6] false) (.seq (.seq (.region [mO 7 4,
  nO 8 (.bin .neq (.t 7) (.c (.int .i64 0)))] false) (.cond (.t 8) (.seq (.region [mO 9 4,
  nO 2 (.mov (.c (.int .i64 0))),
  mO 3 9] false) .ret) .skip)) (.seq (.region [mO 10 0,
  nO 11 (.bin .rem (.t 10) (.c (.int .i64 16))),
  mO 2 11,
  nO 3 (.mov (.c (.int .i64 0)))] false) .ret))))
def i17 : F := ⟨1, 12, j17, [.t 2, .t 3]⟩
theorem b17 : i17.body = j17 := rfl
theorem q17 : i17.res = [.t 2, .t 3] := rfl
theorem c17 : chkF Tryz.prog Tryz.f17 i17 = true := by kernel_rfl
theorem s17 {m E} (hE : HE E) (hm : HM i17 m E) : Sound Tryz.prog 17 m := sound_of i17 Tryz.func17 rfl c17 hE hm
def j18 : C := (.seq (.region [nO 4 (.box (.t 0)),
  nO 7 (.box (.t 3)),
  nO 8 (.mov (.c (.int .i64 0)))] false) (.seq (.region [nO 10 (.load true 7 (.t 4)),
  nO 11 (.call false 54 [(.t 10)]),
  mO 9 11] false) (.seq (.block 0 (.seq (.region [mO 13 9,
  nO 14 (.bin .neq (.t 13) (.c (.int .i64 0))),
  mO 12 14] false) (.cond (.t 12) (.seq (.region [mO 15 9,
  mO 8 15] false) .ret) (.seq (.region [mO 17 1,
  nO 18 (.bin .lss (.t 17) (.c (.int .i64 0))),
  mO 19 18,
  mG 20 1 19 false,
  gO 21 (.fad 1 (.t 4)) 19 false,
  gO 22 (.load false 1 (.t 21)) 19 false,
  gO 23 (.bin .geq (.t 20) (.t 22)) 19 false,
  nO 24 (.pick (.t 19) (.c (.bool true)) (.t 23)),
  mO 25 24,
  mG 26 2 25 false,
  gO 27 (.bin .lss (.t 26) (.c (.int .i64 0))) 25 false,
  nO 28 (.pick (.t 25) (.c (.bool true)) (.t 27)),
  mO 29 28,
  mG 30 2 29 false,
  gO 31 (.fad 0 (.t 4)) 29 false,
  gO 32 (.load false 1 (.t 31)) 29 false,
  gO 33 (.bin .geq (.t 30) (.t 32)) 29 false,
  nO 34 (.pick (.t 29) (.c (.bool true)) (.t 33)),
  mO 35 34,
  gO 36 (.load true 7 (.t 4)) 35 false,
  mG 37 1 35 false,
  mG 38 2 35 false,
  gO 39 (.load true 16 (.t 7)) 35 false,
  gO 40 (.call false 55 [(.t 36), (.t 37), (.t 38), (.t 39)]) 35 false,
  gO 41 (.un .not (.t 40)) 35 false,
  nO 42 (.pick (.t 35) (.c (.bool true)) (.t 41)),
  mO 16 42] false) (.cond (.t 16) (.seq (.region [nO 8 (.mov (.c (.int .i64 1)))] false) .ret) .skip))))) (.seq (.region [nO 8 (.mov (.c (.int .i64 0)))] false) .ret))))
def i18 : F := ⟨4, 43, j18, [.t 8]⟩
theorem b18 : i18.body = j18 := rfl
theorem q18 : i18.res = [.t 8] := rfl
theorem c18 : chkF Tryz.prog Tryz.f18 i18 = true := by kernel_rfl
theorem s18 {m E} (hE : HE E) (hm : HM i18 m E) : Sound Tryz.prog 18 m := sound_of i18 Tryz.func18 rfl c18 hE hm
def j19 : C := (.seq (.region [nO 2 (.box (.t 0)),
  nO 3 (.box (.t 1)),
  nO 4 (.mov (.c (.bool false)))] false) (.seq (.region [nO 5 (.fad 0 (.t 2)),
  nO 6 (.load false 1 (.t 5)),
  nO 7 (.fad 0 (.t 3)),
  nO 8 (.load false 1 (.t 7)),
  nO 9 (.eqb false (.t 6) (.t 8)),
  mO 10 9,
  gO 11 (.fad 1 (.t 2)) 10 true,
  gO 12 (.load false 1 (.t 11)) 10 true,
  gO 13 (.fad 1 (.t 3)) 10 true,
  gO 14 (.load false 1 (.t 13)) 10 true,
  gO 15 (.eqb false (.t 12) (.t 14)) 10 true,
  nO 16 (.pick (.t 10) (.t 15) (.c (.bool false))),
  mO 17 16,
  gO 18 (.fad 2 (.t 2)) 17 true,
  gO 19 (.load false 1 (.t 18)) 17 true,
  gO 20 (.fad 2 (.t 3)) 17 true,
  gO 21 (.load false 1 (.t 20)) 17 true,
  gO 22 (.bin .eql (.t 19) (.t 21)) 17 true,
  nO 23 (.pick (.t 17) (.t 22) (.c (.bool false))),
  mO 24 23,
  gO 25 (.fad 3 (.t 2)) 24 true,
  gO 26 (.load false 1 (.t 25)) 24 true,
  gO 27 (.fad 3 (.t 3)) 24 true,
  gO 28 (.load false 1 (.t 27)) 24 true,
  gO 29 (.bin .eql (.t 26) (.t 28)) 24 true,
  nO 30 (.pick (.t 24) (.t 29) (.c (.bool false))),
  mO 31 30,
  gO 32 (.fad 4 (.t 2)) 31 true,
  gO 33 (.load false 1 (.t 32)) 31 true,
  gO 34 (.fad 4 (.t 3)) 31 true,
  gO 35 (.load false 1 (.t 34)) 31 true,
  gO 36 (.bin .eql (.t 33) (.t 35)) 31 true,
  nO 37 (.pick (.t 31) (.t 36) (.c (.bool false))),
  mO 38 37,
  gO 39 (.fad 5 (.t 2)) 38 true,
  gO 40 (.load false 1 (.t 39)) 38 true,
  gO 41 (.fad 5 (.t 3)) 38 true,
  gO 42 (.load false 1 (.t 41)) 38 true,
  gO 43 (.bin .eql (.t 40) (.t 42)) 38 true,
  nO 44 (.pick (.t 38) (.t 43) (.c (.bool false))),
  mO 45 44,
  gO 46 (.fad 6 (.t 2)) 45 true,
  gO 47 (.load false 1 (.t 46)) 45 true,
  gO 48 (.fad 6 (.t 3)) 45 true,
  gO 49 (.load false 1 (.t 48)) 45 true,
  gO 50 (.bin .eql (.t 47) (.t 49)) 45 true,
  nO 51 (.pick (.t 45) (.t 50) (.c (.bool false))),
  mO 52 51,
  gO 53 (.fad 7 (.t 2)) 52 true,
  gO 54 (.load false 1 (.t 53)) 52 true,
  gO 55 (.fad 7 (.t 3)) 52 true,
  gO 56 (.load false 1 (.t 55)) 52 true,
  gO 57 (.bin .eql (.t 54) (.t 56)) 52 true,
  nO 58 (.pick (.t 52) (.t 57) (.c (.bool false))),
  mO 59 58,
  gO 60 (.fad 8 (.t 2)) 59 true,
  gO 61 (.load false 1 (.t 60)) 59 true,
  gO 62 (.fad 8 (.t 3)) 59 true,
  gO 63 (.load false 1 (.t 62)) 59 true,
  gO 64 (.call false 34 [(.t 61), (.t 63)]) 59 true,
  nO 65 (.pick (.t 59) (.t 64) (.c (.bool false))),
  mO 66 65,
  gO 67 (.fad 9 (.t 2)) 66 true,
  gO 68 (.load false 1 (.t 67)) 66 true,
  gO 69 (.fad 9 (.t 3)) 66 true,
  gO 70 (.load false 1 (.t 69)) 66 true,
  gO 71 (.call false 20 [(.t 68), (.t 70)]) 66 true,
  nO 72 (.pick (.t 66) (.t 71) (.c (.bool false))),
  mO 73 72,
  gO 74 (.fad 10 (.t 2)) 73 true,
  gO 75 (.load true 5 (.t 74)) 73 true,
  gO 76 (.fad 10 (.t 3)) 73 true,
  gO 77 (.load true 5 (.t 76)) 73 true,
  gO 78 (.call false 25 [(.t 75), (.t 77)]) 73 true,
  nO 79 (.pick (.t 73) (.t 78) (.c (.bool false))),
  mO 80 79,
  gO 81 (.fad 15 (.t 2)) 80 true,
  gO 82 (.load false 1 (.t 81)) 80 true,
  gO 83 (.fad 15 (.t 3)) 80 true,
  gO 84 (.load false 1 (.t 83)) 80 true,
  gO 85 (.call false 21 [(.t 82), (.t 84)]) 80 true,
  nO 86 (.pick (.t 80) (.t 85) (.c (.bool false))),
  mO 4 86] false) .ret))
def i19 : F := ⟨2, 87, j19, [.t 4]⟩
theorem b19 : i19.body = j19 := rfl
theorem q19 : i19.res = [.t 4] := rfl
theorem c19 : chkF Tryz.prog Tryz.f19 i19 = true := by kernel_rfl
theorem s19 {m E} (hE : HE E) (hm : HM i19 m E) : Sound Tryz.prog 19 m := sound_of i19 Tryz.func19 rfl c19 hE hm
def j20 : C := (.seq (.region [nO 4 (.mov (.c (.bool false)))] false) (.seq (.seq (.region [mO 6 0,
  nO 7 (.len (.t 6)),
  mO 8 1,
  nO 9 (.len (.t 8)),
  nO 10 (.bin .neq (.t 7) (.t 9))] false) (.cond (.t 10) (.seq (.region [nO 4 (.mov (.c (.bool false)))] false) .ret) .skip)) (.seq (.seq (.region [nO 5 (.mov (.c (.int .i64 0)))] false) (.block 0 (.loop (.keep [0, 1, 5] (.seq (.seq (.region [mO 11 5,
  mO 12 0,
  nO 13 (.len (.t 12)),
  nO 14 (.bin .lss (.t 11) (.t 13))] false) (.cond (.t 14) .skip (.exit 0))) (.seq (.block 1 (.seq (.region [⟨some 17, .mov (.t 0), none, [18, 21, 22, 23, 24], []⟩,⟨some 18, .mov (.t 5), none, [17, 21, 22, 23, 24], []⟩,⟨some 19, .iad 3 (.t 17) (.t 18), none, [21, 22, 23, 24], [0, 1]⟩,⟨some 20, .load true 3 (.t 19), none, [21, 22, 23, 24], [0, 1, 2]⟩,⟨some 21, .mov (.t 1), none, [17, 18, 19, 20, 22], []⟩,⟨some 22, .mov (.t 5), none, [17, 18, 19, 20, 21], []⟩,⟨some 23, .iad 3 (.t 21) (.t 22), none, [17, 18, 19, 20], [4, 5]⟩,⟨some 24, .load true 3 (.t 23), none, [17, 18, 19, 20], [4, 5, 6]⟩,⟨some 25, .eqs true [true, true, true] (.t 20) (.t 24), none, [], [0, 1, 2, 3, 4, 5, 6, 7]⟩] true) (.cond (.t 25) (.seq (.region [nO 4 (.mov (.c (.bool false)))] false) .ret) .skip))) (.region [mO 15 5,
  nO 16 (.bin .add (.t 15) (.c (.int .i64 1))),
  mO 5 16] false))))))) (.seq (.region [nO 4 (.mov (.c (.bool true)))] false) .ret))))
def i20 : F := ⟨2, 26, j20, [.t 4]⟩
theorem b20 : i20.body = j20 := rfl
theorem q20 : i20.res = [.t 4] := rfl
theorem c20 : chkF Tryz.prog Tryz.f20 i20 = true := by kernel_rfl
theorem s20 {m E} (hE : HE E) (hm : HM i20 m E) : Sound Tryz.prog 20 m := sound_of i20 Tryz.func20 rfl c20 hE hm
def j21 : C := (.seq (.region [nO 4 (.mov (.c (.bool false)))] false) (.seq (.seq (.region [mO 6 0,
  nO 7 (.len (.t 6)),
  mO 8 1,
  nO 9 (.len (.t 8)),
  nO 10 (.bin .neq (.t 7) (.t 9))] false) (.cond (.t 10) (.seq (.region [nO 4 (.mov (.c (.bool false)))] false) .ret) .skip)) (.seq (.seq (.region [nO 5 (.mov (.c (.int .i64 0)))] false) (.block 0 (.loop (.keep [0, 1, 5] (.seq (.seq (.region [mO 11 5,
  mO 12 0,
  nO 13 (.len (.t 12)),
  nO 14 (.bin .lss (.t 11) (.t 13))] false) (.cond (.t 14) .skip (.exit 0))) (.seq (.block 1 (.seq (.region [⟨some 17, .mov (.t 0), none, [18, 21, 22, 23, 24], []⟩,⟨some 18, .mov (.t 5), none, [17, 21, 22, 23, 24], []⟩,⟨some 19, .iad 6 (.t 17) (.t 18), none, [21, 22, 23, 24], [0, 1]⟩,⟨some 20, .load true 6 (.t 19), none, [21, 22, 23, 24], [0, 1, 2]⟩,⟨some 21, .mov (.t 1), none, [17, 18, 19, 20, 22], []⟩,⟨some 22, .mov (.t 5), none, [17, 18, 19, 20, 21], []⟩,⟨some 23, .iad 6 (.t 21) (.t 22), none, [17, 18, 19, 20], [4, 5]⟩,⟨some 24, .load true 6 (.t 23), none, [17, 18, 19, 20], [4, 5, 6]⟩,⟨some 25, .eqs true [true, true, true, true, true, true] (.t 20) (.t 24), none, [], [0, 1, 2, 3, 4, 5, 6, 7]⟩] true) (.cond (.t 25) (.seq (.region [nO 4 (.mov (.c (.bool false)))] false) .ret) .skip))) (.region [mO 15 5,
  nO 16 (.bin .add (.t 15) (.c (.int .i64 1))),
  mO 5 16] false))))))) (.seq (.region [nO 4 (.mov (.c (.bool true)))] false) .ret))))
def i21 : F := ⟨2, 26, j21, [.t 4]⟩
theorem b21 : i21.body = j21 := rfl
theorem q21 : i21.res = [.t 4] := rfl
theorem c21 : chkF Tryz.prog Tryz.f21 i21 = true := by kernel_rfl
theorem s21 {m E} (hE : HE E) (hm : HM i21 m E) : Sound Tryz.prog 21 m := sound_of i21 Tryz.func21 rfl c21 hE hm
def j23 : C := (.seq (.region [nO 0 (.alloc [.int .i64 0, .int .i64 0, .int .i64 0, .int .i64 0, .int .i64 0, .int .i64 0, .int .i64 0])] false) (.seq (.region [nO 1 (.build [.int .i64 0, .int .i64 0, .int .i64 0, .int .i64 0, .int .i64 0, .int .i64 0, .int .i64 0] [(0, 1, (.c (.int .i64 8))), (1, 1, (.c (.int .i64 4))), (2, 1, (.c (.int .i64 2))), (3, 1, (.c (.int .i64 8))), (4, 1, (.c (.int .i64 8))), (5, 1, (.c (.int .i64 8))), (6, 1, (.c (.int .i64 16)))]),⟨none, .store none 7 (.t 0) (.t 1), none, [], []⟩] false) .ret))
def i23 : F := ⟨0, 2, j23, [.c 0 7 true]⟩
theorem c23 : chkF Tryz.prog Tryz.f23 i23 = true := by kernel_rfl
theorem s23 {m E} (hE : HE E) (hm : HM i23 m E) : Sound Tryz.prog 23 m := sound_of i23 Tryz.func23 rfl c23 hE hm
def j25 : C := (.seq (.region [nO 2 (.box (.t 0)),
  nO 3 (.box (.t 1)),
  nO 4 (.mov (.c (.bool false)))] false) (.seq (.region [nO 5 (.fad 0 (.t 2)),
  nO 6 (.load false 1 (.t 5)),
  nO 7 (.fad 0 (.t 3)),
  nO 8 (.load false 1 (.t 7)),
  nO 9 (.bin .eql (.t 6) (.t 8)),
  mO 10 9,
  gO 11 (.fad 1 (.t 2)) 10 true,
  gO 12 (.load false 1 (.t 11)) 10 true,
  gO 13 (.fad 1 (.t 3)) 10 true,
  gO 14 (.load false 1 (.t 13)) 10 true,
  gO 15 (.bin .eql (.t 12) (.t 14)) 10 true,
  nO 16 (.pick (.t 10) (.t 15) (.c (.bool false))),
  mO 17 16,
  gO 18 (.fad 2 (.t 2)) 17 true,
  gO 19 (.load false 1 (.t 18)) 17 true,
  gO 20 (.fad 2 (.t 3)) 17 true,
  gO 21 (.load false 1 (.t 20)) 17 true,
  gO 22 (.bin .eql (.t 19) (.t 21)) 17 true,
  nO 23 (.pick (.t 17) (.t 22) (.c (.bool false))),
  mO 24 23,
  gO 25 (.fad 3 (.t 2)) 24 true,
  gO 26 (.load false 1 (.t 25)) 24 true,
  gO 27 (.fad 3 (.t 3)) 24 true,
  gO 28 (.load false 1 (.t 27)) 24 true,
  gO 29 (.call false 59 [(.t 26), (.t 28)]) 24 true,
  nO 30 (.pick (.t 24) (.t 29) (.c (.bool false))),
  mO 31 30,
  gO 32 (.fad 4 (.t 2)) 31 true,
  gO 33 (.load false 1 (.t 32)) 31 true,
  gO 34 (.fad 4 (.t 3)) 31 true,
  gO 35 (.load false 1 (.t 34)) 31 true,
  gO 36 (.call false 59 [(.t 33), (.t 35)]) 31 true,
  nO 37 (.pick (.t 31) (.t 36) (.c (.bool false))),
  mO 4 37] false) .ret))
def i25 : F := ⟨2, 38, j25, [.t 4]⟩
theorem b25 : i25.body = j25 := rfl
theorem q25 : i25.res = [.t 4] := rfl
theorem c25 : chkF Tryz.prog Tryz.f25 i25 = true := by kernel_rfl
theorem s25 {m E} (hE : HE E) (hm : HM i25 m E) : Sound Tryz.prog 25 m := sound_of i25 Tryz.func25 rfl c25 hE hm
def j26 : C := (.seq (.region [nO 2 (.mov (.c (.bool false)))] false) (.seq (.region [mO 3 0,
  nO 4 (.call false 60 [(.t 3), (.c (.int .i64 0)), (.c (.int .i64 7))]),
  mO 2 4] false) .ret))
def i26 : F := ⟨1, 5, j26, [.t 2]⟩
theorem b26 : i26.body = j26 := rfl
theorem q26 : i26.res = [.t 2] := rfl
theorem c26 : chkF Tryz.prog Tryz.f26 i26 = true := by kernel_rfl
theorem s26 {m E} (hE : HE E) (hm : HM i26 m E) : Sound Tryz.prog 26 m := sound_of i26 Tryz.func26 rfl c26 hE hm
def j27 : C := (.seq (.region [nO 7 (.box (.t 0)),
  nO 10 (.box (.t 3)),
  nO 14 (.alloc [.bool false, .bool false, .int .i64 0, .int .i64 0, .int .i64 0, .int .i64 0, .int .i64 0, .int .i64 0, .row [], .row [], .int .i64 0, .int .i64 0, .int .i64 0, .row [], .row [], .row []]),
  nO 15 (.nilsl 49 16 0),
  nO 16 (.mov (.c (.int .i64 0)))] false) (.seq (.region [nO 20 (.load true 7 (.t 7)),
  mO 21 1,
  mO 22 2,
  nO 23 (.load true 16 (.t 10)),
  nO 24 (.call false 18 [(.t 20), (.t 21), (.t 22), (.t 23)]),
  mO 16 24] false) (.seq (.block 0 (.seq (.region [mO 26 16,
  nO 27 (.bin .neq (.t 26) (.c (.int .i64 0))),
  mO 25 27] false) (.cond (.t 25) (.seq (.region [nO 28 (.build [.bool false, .bool false, .int .i64 0, .int .i64 0, .int .i64 0, .int .i64 0, .int .i64 0, .int .i64 0, .row [], .row [], .int .i64 0, .int .i64 0, .int .i64 0, .row [], .row [], .row []] []),
  mO 29 16,⟨none, .store none 16 (.t 14) (.t 28), none, [], []⟩,
  nO 15 (.nilsl 49 16 1),
  mO 16 29] false) .ret) (.seq (.region [mO 31 6,
  nO 32 (.bin .lss (.t 31) (.c (.int .i64 0))),
  mO 33 32,
  mG 34 6 33 false,
  gO 35 (.bin .gtr (.t 34) (.c (.int .i64 1073741824))) 33 false,
  nO 36 (.pick (.t 33) (.c (.bool true)) (.t 35)),
  mO 30 36] false) (.cond (.t 30) (.seq (.region [nO 37 (.build [.bool false, .bool false, .int .i64 0, .int .i64 0, .int .i64 0, .int .i64 0, .int .i64 0, .int .i64 0, .row [], .row [], .int .i64 0, .int .i64 0, .int .i64 0, .row [], .row [], .row []] []),⟨none, .store none 16 (.t 14) (.t 37), none, [], []⟩,
  nO 15 (.nilsl 49 16 2),
  nO 16 (.mov (.c (.int .i64 1)))] false) .ret) .skip))))) (.seq (.region [nO 38 (.load true 16 (.t 10)),
  nO 39 (.call false 50 [(.t 38)]),⟨none, .store none 16 (.t 14) (.t 39), none, [], []⟩] false) (.seq (.region [mO 41 1,
  mO 42 2,
  nO 43 (.fad 2 (.t 7)),
  nO 44 (.load false 1 (.t 43)),
  nO 45 (.fad 9 (.t 10)),
  nO 46 (.load false 1 (.t 45)),
  mO 47 4,
  mO 48 5,
  nO 49 (.call false 61 [(.t 41), (.t 42), (.t 44), (.t 46), (.t 47), (.t 48)]),
  mO 40 49,
  nO 50 (.ext (.t 40) 0),
  nO 51 (.ext (.t 40) 1),
  nO 52 (.ext (.t 40) 2),
  nO 53 (.ext (.t 40) 3),
  mO 17 50,
  mO 18 51,
  mO 19 52,
  mO 16 53] false) (.seq (.seq (.region [mO 54 16,
  nO 55 (.bin .neq (.t 54) (.c (.int .i64 0)))] false) (.cond (.t 55) (.seq (.region [nO 56 (.load true 16 (.t 14)),⟨none, .store none 16 (.t 14) (.t 56), none, [], []⟩,
  nO 15 (.nilsl 49 16 3),
  nO 16 (.mov (.c (.int .i64 0)))] false) .ret) .skip)) (.seq (.region [nO 57 (.fad 2 (.t 14)),
  nO 58 (.load false 1 (.t 57)),
  mO 59 6,
  nO 60 (.mx (.t 58) (.t 59)),
  mO 61 17,
  nO 62 (.fad 2 (.t 14)),⟨none, .store none 1 (.t 62) (.t 60), none, [], []⟩,
  nO 63 (.fad 9 (.t 14)),⟨none, .store none 1 (.t 63) (.t 61), none, [], []⟩] false) (.seq (.seq (.region [mO 64 18,
  nO 65 (.bin .gtr (.t 64) (.c (.int .i64 0)))] false) (.cond (.t 65) (.region [mO 66 15,
  mO 67 18,
  nO 68 (.bin .sub (.t 67) (.c (.int .i64 1))),
  mO 69 1,
  mO 70 19,
  nO 71 (.bin .sub (.t 70) (.c (.int .i64 1))),
  nO 72 (.build [.int .i64 0, .int .i64 0, .int .i64 0, .int .i64 0, .int .i64 0, .int .i64 0, .int .i64 0, .int .i64 0, .int .i64 0, .int .i64 0, .int .i64 0, .int .i64 0, .int .i64 0, .int .i64 0, .row [], .row []] [(0, 1, (.c (.int .i64 4))), (3, 1, (.t 68)), (5, 1, (.t 69)), (10, 1, (.t 71))]),
  nO 73 (.bsl 49 16 1 [.int .i64 0, .int .i64 0, .int .i64 0, .int .i64 0, .int .i64 0, .int .i64 0, .int .i64 0, .int .i64 0, .int .i64 0, .int .i64 0, .int .i64 0, .int .i64 0, .int .i64 0, .int .i64 0, .row [], .row []] [(0, (.t 72))]),
  nO 74 (.app 49 16 160 (.t 66) (.t 73)),
  mO 15 74] false) .skip)) (.seq (.seq (.region [mO 75 17,
  mO 76 4,
  nO 77 (.call false 30 [(.t 75), (.t 76)]),
  nO 78 (.un .not (.t 77)),
  mO 79 78,
  gO 80 (.load true 16 (.t 14)) 79 false,
  gO 81 (.call false 62 [(.t 80)]) 79 false,
  gO 82 (.un .not (.t 81)) 79 false,
  nO 83 (.pick (.t 79) (.c (.bool true)) (.t 82))] false) (.cond (.t 83) (.seq (.region [nO 84 (.load true 16 (.t 14)),
  mO 85 15,⟨none, .store none 16 (.t 14) (.t 84), none, [], []⟩,
  mO 15 85,
  nO 16 (.mov (.c (.int .i64 0)))] false) .ret) .skip)) (.seq (.seq (.region [nO 86 (.fad 8 (.t 14)),
  nO 87 (.load false 1 (.t 86)),
  nO 88 (.len (.t 87)),
  nO 89 (.bin .add (.t 88) (.c (.int .i64 1))),
  nO 90 (.fad 3 (.t 7)),
  nO 91 (.load false 1 (.t 90)),
  nO 92 (.bin .gtr (.t 89) (.t 91))] false) (.cond (.t 92) (.seq (.region [mO 93 17,
  mO 94 4,
  nO 95 (.call false 63 [(.t 93), (.t 94)]),
  nO 96 (.fad 9 (.t 14)),⟨none, .store none 1 (.t 96) (.t 95), none, [], []⟩] false) (.seq (.region [⟨some 97, .ldb true 16 (.t 14), none, [98, 99, 100, 101, 102, 103], []⟩,⟨some 98, .mov (.t 15), none, [97, 99, 100, 101, 102], []⟩,⟨some 99, .mov (.t 4), none, [97, 98, 100], []⟩,⟨some 100, .mov (.t 1), none, [97, 98, 99], []⟩,⟨some 101, .build [.int .i64 0, .int .i64 0, .int .i64 0, .int .i64 0, .int .i64 0, .int .i64 0, .int .i64 0, .int .i64 0, .int .i64 0, .int .i64 0, .int .i64 0, .int .i64 0, .int .i64 0, .int .i64 0, .row [], .row []] [(0, 1, (.c (.int .i64 5))), (3, 1, (.t 99)), (5, 1, (.t 100))], none, [97, 98], [2, 3]⟩,⟨some 102, .bsl 49 16 1 [.int .i64 0, .int .i64 0, .int .i64 0, .int .i64 0, .int .i64 0, .int .i64 0, .int .i64 0, .int .i64 0, .int .i64 0, .int .i64 0, .int .i64 0, .int .i64 0, .int .i64 0, .int .i64 0, .row [], .row []] [(0, (.t 101))], none, [97, 98], [2, 3, 4]⟩,⟨some 103, .app 49 16 160 (.t 98) (.t 102), none, [97], [1, 2, 3, 4, 5]⟩,⟨none, .store none 16 (.t 14) (.t 97), none, [], [0, 1, 2, 3, 4, 5, 6]⟩,⟨some 15, .mov (.t 103), none, [], [0, 1, 2, 3, 4, 5, 6, 7]⟩,⟨some 16, .mov (.c (.int .i64 0)), none, [], [0, 1, 2, 3, 4, 5, 6, 7, 8]⟩] true) .ret)) .skip)) (.seq (.region [⟨some 104, .ldb true 16 (.t 14), none, [105, 106, 107, 108, 109, 110, 111, 112], []⟩,⟨some 105, .mov (.t 15), none, [104, 106, 107, 108, 109, 110, 111], []⟩,⟨some 106, .mov (.t 1), none, [104, 105, 107, 108, 109], []⟩,⟨some 107, .mov (.t 2), none, [104, 105, 106, 108, 109], []⟩,⟨some 108, .load true 16 (.t 14), none, [104, 105, 106, 107, 109], []⟩,⟨some 109, .mov (.t 4), none, [104, 105, 106, 107, 108], []⟩,⟨some 110, .call false 64 [(.t 106), (.t 107), (.t 108), (.t 109)], none, [104, 105], [2, 3, 4, 5]⟩,⟨some 111, .bsl 49 16 1 [.int .i64 0, .int .i64 0, .int .i64 0, .int .i64 0, .int .i64 0, .int .i64 0, .int .i64 0, .int .i64 0, .int .i64 0, .int .i64 0, .int .i64 0, .int .i64 0, .int .i64 0, .int .i64 0, .row [], .row []] [(0, (.t 110))], none, [104, 105], [2, 3, 4, 5, 6]⟩,⟨some 112, .app 49 16 160 (.t 105) (.t 111), none, [104], [1, 2, 3, 4, 5, 6, 7]⟩,⟨none, .store none 16 (.t 14) (.t 104), none, [], [0, 1, 2, 3, 4, 5, 6, 7, 8]⟩,⟨some 15, .mov (.t 112), none, [], [0, 1, 2, 3, 4, 5, 6, 7, 8, 9]⟩,⟨some 16, .mov (.c (.int .i64 0)), none, [], [0, 1, 2, 3, 4, 5, 6, 7, 8, 9, 10]⟩] true) .ret)))))))))))
def i27 : F := ⟨7, 113, j27, [.c 14 16 true, .t 15, .t 16]⟩
theorem b27 : i27.body = j27 := rfl
theorem q27 : i27.res = [.c 14 16 true, .t 15, .t 16] := rfl
theorem c27 : chkF Tryz.prog Tryz.f27 i27 = true := by kernel_rfl
theorem s27 {m E} (hE : HE E) (hm : HM i27 m E) : Sound Tryz.prog 27 m := sound_of i27 Tryz.func27 rfl c27 hE hm
def j28 : C := (.seq (.region [nO 6 (.mov (.c (.bool false)))] false) (.seq (.region [mO 12 0,
  mO 13 1,
  nO 14 (.call false 65 [(.t 12), (.t 13)]),
  mO 11 14,
  nO 15 (.ext (.t 11) 0),
  nO 16 (.ext (.t 11) 1),
  mO 7 15,
  mO 8 16] false) (.seq (.region [mO 18 0,
  mO 19 2,
  nO 20 (.call false 65 [(.t 18), (.t 19)]),
  mO 17 20,
  nO 21 (.ext (.t 17) 0),
  nO 22 (.ext (.t 17) 1),
  mO 9 21,
  mO 10 22] false) (.seq (.region [mO 23 8,
  nO 24 (.bin .eql (.t 23) (.c (.int .i64 0))),
  mO 25 24,
  mG 26 10 25 true,
  gO 27 (.bin .eql (.t 26) (.c (.int .i64 0))) 25 true,
  nO 28 (.pick (.t 25) (.t 27) (.c (.bool false))),
  mO 29 28,
  mG 30 7 29 true,
  mG 31 9 29 true,
  gO 32 (.bin .lss (.t 30) (.t 31)) 29 true,
  nO 33 (.pick (.t 29) (.t 32) (.c (.bool false))),
  mO 6 33] false) .ret))))
def i28 : F := ⟨3, 34, j28, [.t 6]⟩
theorem b28 : i28.body = j28 := rfl
theorem q28 : i28.res = [.t 6] := rfl
theorem c28 : chkF Tryz.prog Tryz.f28 i28 = true := by kernel_rfl
theorem s28 {m E} (hE : HE E) (hm : HM i28 m E) : Sound Tryz.prog 28 m := sound_of i28 Tryz.func28 rfl c28 hE hm
def j29 : C := (.seq (.region [nO 0 (.mov (.c (.bool false)))] false) (.seq (.region [nO 13 (.call false 23 []),
  nO 1 (.alloc [.int .i64 0, .int .i64 0, .int .i64 0, .int .i64 0, .int .i64 0, .int .i64 0, .int .i64 0]),⟨none, .store none 7 (.t 1) (.t 13), none, [], []⟩] false) (.seq (.region [nO 15 (.bsr 3 1 8 [.int .i64 0] [(0, (.c (.int .i64 0))), (1, (.c (.int .i64 1))), (2, (.c (.int .i64 2))), (3, (.c (.int .i64 3))), (4, (.c (.int .i64 4))), (5, (.c (.int .i64 5))), (6, (.c (.int .i64 6))), (7, (.c (.int .i64 7)))]),
  nO 16 (.call false 66 [(.c (.int .i64 1)), (.t 15)]),
  mO 14 16,
  nO 17 (.ext (.t 14) 0),
  nO 18 (.ext (.t 14) 1),
  mO 2 17,
  mO 3 18] false) (.seq (.region [mO 19 2,
  nO 20 (.call false 67 [(.c (.int .i64 1)), (.t 19)]),
  mO 4 20] false) (.seq (.seq (.region [mO 21 3,
  nO 22 (.bin .neq (.t 21) (.c (.int .i64 0))),
  mO 23 22,
  mG 24 4 23 false,
  gO 25 (.len (.t 24)) 23 false,
  gO 26 (.bin .neq (.t 25) (.c (.int .i64 7))) 23 false,
  nO 27 (.pick (.t 23) (.c (.bool true)) (.t 26))] false) (.cond (.t 27) (.seq (.region [nO 0 (.mov (.c (.bool false)))] false) .ret) .skip)) (.seq (.region [mO 28 2,
  nO 29 (.bin .add (.c (.int .i64 32)) (.t 28)),
  mO 30 2,
  nO 31 (.bin .add (.c (.int .i64 32)) (.t 30)),
  mO 32 2,
  nO 33 (.bin .add (.c (.int .i64 32)) (.t 32)),
  nO 34 (.build [.int .i64 0, .int .i64 0, .int .i64 0, .row [], .row []] [(0, 1, (.t 33)), (1, 1, (.c (.int .i64 1))), (2, 1, (.c (.int .i64 1)))]),
  nO 35 (.build [.bool false, .bool false, .int .i64 0, .int .i64 0, .int .i64 0, .int .i64 0, .int .i64 0, .int .i64 0, .row [], .row [], .int .i64 0, .int .i64 0, .int .i64 0, .row [], .row [], .row []] [(3, 1, (.t 29)), (2, 1, (.t 31)), (10, 5, (.t 34))]),
  nO 5 (.alloc [.bool false, .bool false, .int .i64 0, .int .i64 0, .int .i64 0, .int .i64 0, .int .i64 0, .int .i64 0, .row [], .row [], .int .i64 0, .int .i64 0, .int .i64 0, .row [], .row [], .row []]),⟨none, .store none 16 (.t 5) (.t 35), none, [], []⟩] false) (.seq (.region [⟨some 37, .load true 7 (.t 1), none, [6, 38, 39, 40, 41, 42], []⟩,⟨some 38, .mov (.t 2), none, [6, 37, 39, 40, 41, 42], []⟩,⟨some 39, .load true 16 (.t 5), none, [6, 37, 38, 40, 41, 42], []⟩,⟨some 40, .mov (.t 4), none, [6, 37, 38, 39], []⟩,⟨some 41, .iad 1 (.t 40) (.c (.int .i64 0)), none, [6, 37, 38, 39], [3]⟩,⟨some 42, .load false 1 (.t 41), none, [6, 37, 38, 39], [3, 4]⟩,⟨some 43, .call false 27 [(.t 37), (.c (.int .i64 1)), (.t 38), (.t 39), (.t 42), (.c (.int .i64 3)), (.c (.int .i64 7))], none, [6], [0, 1, 2, 3, 4, 5]⟩,⟨some 36, .mov (.t 43), none, [6], [0, 1, 2, 3, 4, 5, 6]⟩,⟨some 44, .ext (.t 36) 0, none, [6, 45, 46], [0, 1, 2, 3, 4, 5, 6, 7]⟩,⟨some 45, .ext (.t 36) 1, none, [6, 44, 46], [0, 1, 2, 3, 4, 5, 6, 7]⟩,⟨some 46, .ext (.t 36) 2, none, [6, 7, 44, 45], [0, 1, 2, 3, 4, 5, 6, 7]⟩,⟨some 6, .alloc [.bool false, .bool false, .int .i64 0, .int .i64 0, .int .i64 0, .int .i64 0, .int .i64 0, .int .i64 0, .row [], .row [], .int .i64 0, .int .i64 0, .int .i64 0, .row [], .row [], .row []], none, [36, 37, 38, 39, 40, 41, 42, 43, 44, 45, 46], []⟩,⟨none, .store (some 6) 16 (.t 6) (.t 44), none, [45, 46], [0, 1, 2, 3, 4, 5, 6, 7, 8, 11]⟩,⟨some 7, .mov (.t 45), none, [46], [0, 1, 2, 3, 4, 5, 6, 7, 8, 9, 11, 12]⟩,⟨some 8, .mov (.t 46), none, [], [0, 1, 2, 3, 4, 5, 6, 7, 8, 9, 10, 11, 12, 13]⟩] true) (.seq (.region [⟨some 48, .load true 7 (.t 1), none, [9, 49, 50, 51, 52, 53, 54, 55, 56, 57, 58, 59, 60, 61, 62, 63, 64, 65, 66], []⟩,⟨some 49, .mov (.t 4), none, [9, 48, 52, 53, 54, 55, 56, 57, 58, 59, 60, 61, 62, 63, 64, 65, 66], []⟩,⟨some 50, .iad 1 (.t 49) (.c (.int .i64 0)), none, [9, 48, 52, 53, 54, 55, 56, 57, 58, 59, 60, 61, 62, 63, 64, 65, 66], [1]⟩,⟨some 51, .load false 1 (.t 50), none, [9, 48, 52, 53, 54, 55, 56, 57, 58, 59, 60, 61, 62, 63, 64, 65, 66], [1, 2]⟩,⟨some 52, .mov (.t 2), none, [9, 48, 49, 50, 51, 55, 56, 57, 58, 59, 60, 61, 62, 63, 64, 65, 66], []⟩,⟨some 53, .bin .add (.t 52) (.c (.int .i64 1)), none, [9, 48, 49, 50, 51, 55, 56, 57, 58, 59, 60, 61, 62, 63, 64, 65, 66], [4]⟩,⟨some 54, .build [.bool false, .bool false, .int .i64 0, .int .i64 0, .int .i64 0, .int .i64 0, .int .i64 0, .int .i64 0, .row [], .row [], .int .i64 0, .int .i64 0, .int .i64 0, .row [], .row [], .row []] [(5, 1, (.t 53))], none, [9, 48, 49, 50, 51, 55, 56, 57, 58, 59, 60, 61, 62, 63, 64, 65, 66], [4, 5]⟩,⟨some 55, .mov (.t 2), none, [9, 48, 49, 50, 51, 52, 53, 54, 56, 57, 58, 59, 60, 61, 62, 63, 64, 65, 66], []⟩,⟨some 56, .mov (.t 2), none, [9, 48, 49, 50, 51, 52, 53, 54, 55, 57, 58, 59, 60, 61, 62, 63, 64, 65], []⟩,⟨some 57, .mov (.t 4), none, [9, 48, 49, 50, 51, 52, 53, 54, 55, 56, 60, 61, 62, 63, 64, 65], []⟩,⟨some 58, .iad 1 (.t 57) (.c (.int .i64 0)), none, [9, 48, 49, 50, 51, 52, 53, 54, 55, 56, 60, 61, 62, 63, 64, 65], [9]⟩,⟨some 59, .load false 1 (.t 58), none, [9, 48, 49, 50, 51, 52, 53, 54, 55, 56, 60, 61, 62, 63, 64, 65], [9, 10]⟩,⟨some 60, .mov (.t 2), none, [9, 48, 49, 50, 51, 52, 53, 54, 55, 56, 57, 58, 59, 62, 63, 64, 65], []⟩,⟨some 61, .bin .add (.c (.int .i64 32)) (.t 60), none, [9, 48, 49, 50, 51, 52, 53, 54, 55, 56, 57, 58, 59, 62, 63, 64, 65], [12]⟩,⟨some 62, .mov (.t 2), none, [9, 48, 49, 50, 51, 52, 53, 54, 55, 56, 57, 58, 59, 60, 61, 64, 65], []⟩,⟨some 63, .bin .add (.c (.int .i64 32)) (.t 62), none, [9, 48, 49, 50, 51, 52, 53, 54, 55, 56, 57, 58, 59, 60, 61, 64, 65], [14]⟩,⟨some 64, .mov (.t 2), none, [9, 48, 49, 50, 51, 52, 53, 54, 55, 56, 57, 58, 59, 60, 61, 62, 63], []⟩,⟨some 65, .bsr 3 1 1 [.int .i64 0] [(0, (.t 64))], none, [9, 48, 49, 50, 51, 52, 53, 54, 55, 56, 57, 58, 59, 60, 61, 62, 63], [16]⟩,⟨some 66, .build [.int .i64 0, .int .i64 0, .int .i64 0, .int .i64 0, .int .i64 0, .int .i64 0, .int .i64 0, .int .i64 0, .int .i64 0, .int .i64 0, .int .i64 0, .int .i64 0, .int .i64 0, .int .i64 0, .row [], .row []] [(0, 1, (.c (.int .i64 3))), (1, 1, (.t 56)), (2, 1, (.c (.int .i64 1))), (3, 1, (.t 59)), (4, 1, (.c (.int .i64 3))), (5, 1, (.c (.int .i64 1))), (6, 1, (.t 61)), (7, 1, (.c (.int .i64 1))), (8, 1, (.t 63)), (14, 1, (.t 65))], none, [9, 48, 49, 50, 51, 52, 53, 54, 55], [8, 9, 10, 11, 12, 13, 14, 15, 16, 17]⟩,⟨some 67, .call false 33 [(.t 48), (.c (.int .i64 1)), (.t 51), (.t 54), (.t 55), (.t 66)], none, [9], [0, 1, 2, 3, 4, 5, 6, 7, 8, 9, 10, 11, 12, 13, 14, 15, 16, 17, 18]⟩,⟨some 47, .mov (.t 67), none, [9], [0, 1, 2, 3, 4, 5, 6, 7, 8, 9, 10, 11, 12, 13, 14, 15, 16, 17, 18, 19]⟩,⟨some 68, .ext (.t 47) 0, none, [9, 69], [0, 1, 2, 3, 4, 5, 6, 7, 8, 9, 10, 11, 12, 13, 14, 15, 16, 17, 18, 19, 20]⟩,⟨some 69, .ext (.t 47) 1, none, [9, 68], [0, 1, 2, 3, 4, 5, 6, 7, 8, 9, 10, 11, 12, 13, 14, 15, 16, 17, 18, 19, 20]⟩,⟨some 9, .alloc [.bool false, .bool false, .int .i64 0, .int .i64 0, .int .i64 0, .int .i64 0, .int .i64 0, .int .i64 0, .row [], .row [], .int .i64 0, .int .i64 0, .int .i64 0, .row [], .row [], .row []], none, [47, 48, 49, 50, 51, 52, 53, 54, 55, 56, 57, 58, 59, 60, 61, 62, 63, 64, 65, 66, 67, 68, 69], []⟩,⟨none, .store (some 9) 16 (.t 9) (.t 68), none, [69], [0, 1, 2, 3, 4, 5, 6, 7, 8, 9, 10, 11, 12, 13, 14, 15, 16, 17, 18, 19, 20, 21, 23]⟩,⟨some 10, .mov (.t 69), none, [], [0, 1, 2, 3, 4, 5, 6, 7, 8, 9, 10, 11, 12, 13, 14, 15, 16, 17, 18, 19, 20, 21, 22, 23, 24]⟩] true) (.seq (.region [⟨some 71, .load true 7 (.t 1), none, [11, 72, 73, 74, 75], []⟩,⟨some 72, .mov (.t 4), none, [11, 71, 75], []⟩,⟨some 73, .iad 1 (.t 72) (.c (.int .i64 0)), none, [11, 71, 75], [1]⟩,⟨some 74, .load false 1 (.t 73), none, [11, 71, 75], [1, 2]⟩,⟨some 75, .load true 16 (.t 9), none, [11, 71, 72, 73, 74], []⟩,⟨some 76, .call false 39 [(.t 71), (.c (.int .i64 1)), (.t 74), (.t 75)], none, [11], [0, 1, 2, 3, 4]⟩,⟨some 70, .mov (.t 76), none, [11], [0, 1, 2, 3, 4, 5]⟩,⟨some 77, .ext (.t 70) 0, none, [11, 78], [0, 1, 2, 3, 4, 5, 6]⟩,⟨some 78, .ext (.t 70) 1, none, [11, 77], [0, 1, 2, 3, 4, 5, 6]⟩,⟨some 11, .alloc [.bool false, .bool false, .int .i64 0, .int .i64 0, .int .i64 0, .int .i64 0, .int .i64 0, .int .i64 0, .row [], .row [], .int .i64 0, .int .i64 0, .int .i64 0, .row [], .row [], .row []], none, [70, 71, 72, 73, 74, 75, 76, 77, 78], []⟩,⟨none, .store (some 11) 16 (.t 11) (.t 77), none, [78], [0, 1, 2, 3, 4, 5, 6, 7, 9]⟩,⟨some 12, .mov (.t 78), none, [], [0, 1, 2, 3, 4, 5, 6, 7, 8, 9, 10]⟩] true) (.seq (.region [mO 79 8,⟨some 80, .bin .eql (.t 79) (.c (.int .i64 0)), none, [], [0]⟩,⟨some 81, .mov (.t 80), none, [], [0, 1]⟩,⟨some 82, .fad 9 (.t 6), some (81, true), [], [0, 1, 2]⟩,⟨some 83, .load false 1 (.t 82), some (81, true), [], [0, 1, 2, 3]⟩,⟨some 84, .len (.t 83), some (81, true), [], [0, 1, 2, 3, 4]⟩,⟨some 85, .bin .eql (.t 84) (.c (.int .i64 1)), some (81, true), [], [0, 1, 2, 3, 4, 5]⟩,⟨some 86, .pick (.t 81) (.t 85) (.c (.bool false)), none, [], [0, 1, 2, 3, 4, 5, 6]⟩,⟨some 87, .mov (.t 86), none, [], [0, 1, 2, 3, 4, 5, 6, 7]⟩,⟨some 88, .mov (.t 7), some (87, true), [], [0, 1, 2, 3, 4, 5, 6, 7, 8]⟩,⟨some 89, .len (.t 88), some (87, true), [], [0, 1, 2, 3, 4, 5, 6, 7, 8, 9]⟩,⟨some 90, .bin .eql (.t 89) (.c (.int .i64 1)), some (87, true), [], [0, 1, 2, 3, 4, 5, 6, 7, 8, 9, 10]⟩,⟨some 91, .pick (.t 87) (.t 90) (.c (.bool false)), none, [], [0, 1, 2, 3, 4, 5, 6, 7, 8, 9, 10, 11]⟩,⟨some 92, .mov (.t 91), none, [], [0, 1, 2, 3, 4, 5, 6, 7, 8, 9, 10, 11, 12]⟩,⟨some 93, .mov (.t 7), some (92, true), [], [0, 1, 2, 3, 4, 5, 6, 7, 8, 9, 10, 11, 12, 13]⟩,⟨some 94, .iad 16 (.t 93) (.c (.int .i64 0)), some (92, true), [], [0, 1, 2, 3, 4, 5, 6, 7, 8, 9, 10, 11, 12, 13, 14]⟩,⟨some 95, .fad 0 (.t 94), some (92, true), [], [0, 1, 2, 3, 4, 5, 6, 7, 8, 9, 10, 11, 12, 13, 14, 15]⟩,⟨some 96, .load false 1 (.t 95), some (92, true), [], [0, 1, 2, 3, 4, 5, 6, 7, 8, 9, 10, 11, 12, 13, 14, 15, 16]⟩,⟨some 97, .bin .eql (.t 96) (.c (.int .i64 3)), some (92, true), [], [0, 1, 2, 3, 4, 5, 6, 7, 8, 9, 10, 11, 12, 13, 14, 15, 16, 17]⟩,⟨some 98, .pick (.t 92) (.t 97) (.c (.bool false)), none, [], [0, 1, 2, 3, 4, 5, 6, 7, 8, 9, 10, 11, 12, 13, 14, 15, 16, 17, 18]⟩,⟨some 99, .mov (.t 98), none, [], [0, 1, 2, 3, 4, 5, 6, 7, 8, 9, 10, 11, 12, 13, 14, 15, 16, 17, 18, 19]⟩,⟨some 100, .mov (.t 7), some (99, true), [104, 105, 106], [0, 1, 2, 3, 4, 5, 6, 7, 8, 9, 10, 11, 12, 13, 14, 15, 16, 17, 18, 19, 20]⟩,⟨some 101, .iad 16 (.t 100) (.c (.int .i64 0)), some (99, true), [104, 105, 106], [0, 1, 2, 3, 4, 5, 6, 7, 8, 9, 10, 11, 12, 13, 14, 15, 16, 17, 18, 19, 20, 21]⟩,⟨some 102, .fad 3 (.t 101), some (99, true), [104, 105, 106], [0, 1, 2, 3, 4, 5, 6, 7, 8, 9, 10, 11, 12, 13, 14, 15, 16, 17, 18, 19, 20, 21, 22]⟩,⟨some 103, .load false 1 (.t 102), some (99, true), [104, 105, 106], [0, 1, 2, 3, 4, 5, 6, 7, 8, 9, 10, 11, 12, 13, 14, 15, 16, 17, 18, 19, 20, 21, 22, 23]⟩,⟨some 104, .mov (.t 4), some (99, true), [100, 101, 102, 103], [0, 1, 2, 3, 4, 5, 6, 7, 8, 9, 10, 11, 12, 13, 14, 15, 16, 17, 18, 19, 20]⟩,⟨some 105, .iad 1 (.t 104) (.c (.int .i64 0)), some (99, true), [100, 101, 102, 103], [0, 1, 2, 3, 4, 5, 6, 7, 8, 9, 10, 11, 12, 13, 14, 15, 16, 17, 18, 19, 20, 25]⟩,⟨some 106, .load false 1 (.t 105), some (99, true), [100, 101, 102, 103], [0, 1, 2, 3, 4, 5, 6, 7, 8, 9, 10, 11, 12, 13, 14, 15, 16, 17, 18, 19, 20, 25, 26]⟩,⟨some 107, .bin .eql (.t 103) (.t 106), some (99, true), [], [0, 1, 2, 3, 4, 5, 6, 7, 8, 9, 10, 11, 12, 13, 14, 15, 16, 17, 18, 19, 20, 21, 22, 23, 24, 25, 26, 27]⟩,⟨some 108, .pick (.t 99) (.t 107) (.c (.bool false)), none, [], [0, 1, 2, 3, 4, 5, 6, 7, 8, 9, 10, 11, 12, 13, 14, 15, 16, 17, 18, 19, 20, 21, 22, 23, 24, 25, 26, 27, 28]⟩,⟨some 109, .mov (.t 108), none, [], [0, 1, 2, 3, 4, 5, 6, 7, 8, 9, 10, 11, 12, 13, 14, 15, 16, 17, 18, 19, 20, 21, 22, 23, 24, 25, 26, 27, 28, 29]⟩,⟨some 110, .mov (.t 10), some (109, true), [], [0, 1, 2, 3, 4, 5, 6, 7, 8, 9, 10, 11, 12, 13, 14, 15, 16, 17, 18, 19, 20, 21, 22, 23, 24, 25, 26, 27, 28, 29, 30]⟩,⟨some 111, .bin .eql (.t 110) (.c (.int .i64 0)), some (109, true), [], [0, 1, 2, 3, 4, 5, 6, 7, 8, 9, 10, 11, 12, 13, 14, 15, 16, 17, 18, 19, 20, 21, 22, 23, 24, 25, 26, 27, 28, 29, 30, 31]⟩,⟨some 112, .pick (.t 109) (.t 111) (.c (.bool false)), none, [], [0, 1, 2, 3, 4, 5, 6, 7, 8, 9, 10, 11, 12, 13, 14, 15, 16, 17, 18, 19, 20, 21, 22, 23, 24, 25, 26, 27, 28, 29, 30, 31, 32]⟩,⟨some 113, .mov (.t 112), none, [], [0, 1, 2, 3, 4, 5, 6, 7, 8, 9, 10, 11, 12, 13, 14, 15, 16, 17, 18, 19, 20, 21, 22, 23, 24, 25, 26, 27, 28, 29, 30, 31, 32, 33]⟩,⟨some 114, .fad 4 (.t 9), some (113, true), [116, 117], [0, 1, 2, 3, 4, 5, 6, 7, 8, 9, 10, 11, 12, 13, 14, 15, 16, 17, 18, 19, 20, 21, 22, 23, 24, 25, 26, 27, 28, 29, 30, 31, 32, 33, 34]⟩,⟨some 115, .load false 1 (.t 114), some (113, true), [116, 117], [0, 1, 2, 3, 4, 5, 6, 7, 8, 9, 10, 11, 12, 13, 14, 15, 16, 17, 18, 19, 20, 21, 22, 23, 24, 25, 26, 27, 28, 29, 30, 31, 32, 33, 34, 35]⟩,⟨some 116, .mov (.t 2), some (113, true), [114, 115], [0, 1, 2, 3, 4, 5, 6, 7, 8, 9, 10, 11, 12, 13, 14, 15, 16, 17, 18, 19, 20, 21, 22, 23, 24, 25, 26, 27, 28, 29, 30, 31, 32, 33, 34]⟩,⟨some 117, .bin .add (.t 116) (.c (.int .i64 1)), some (113, true), [114, 115], [0, 1, 2, 3, 4, 5, 6, 7, 8, 9, 10, 11, 12, 13, 14, 15, 16, 17, 18, 19, 20, 21, 22, 23, 24, 25, 26, 27, 28, 29, 30, 31, 32, 33, 34, 37]⟩,⟨some 118, .bin .eql (.t 115) (.t 117), some (113, true), [], [0, 1, 2, 3, 4, 5, 6, 7, 8, 9, 10, 11, 12, 13, 14, 15, 16, 17, 18, 19, 20, 21, 22, 23, 24, 25, 26, 27, 28, 29, 30, 31, 32, 33, 34, 35, 36, 37, 38]⟩,⟨some 119, .pick (.t 113) (.t 118) (.c (.bool false)), none, [], [0, 1, 2, 3, 4, 5, 6, 7, 8, 9, 10, 11, 12, 13, 14, 15, 16, 17, 18, 19, 20, 21, 22, 23, 24, 25, 26, 27, 28, 29, 30, 31, 32, 33, 34, 35, 36, 37, 38, 39]⟩,⟨some 120, .mov (.t 119), none, [], [0, 1, 2, 3, 4, 5, 6, 7, 8, 9, 10, 11, 12, 13, 14, 15, 16, 17, 18, 19, 20, 21, 22, 23, 24, 25, 26, 27, 28, 29, 30, 31, 32, 33, 34, 35, 36, 37, 38, 39, 40]⟩,⟨some 121, .fad 8 (.t 9), some (120, true), [123, 124], [0, 1, 2, 3, 4, 5, 6, 7, 8, 9, 10, 11, 12, 13, 14, 15, 16, 17, 18, 19, 20, 21, 22, 23, 24, 25, 26, 27, 28, 29, 30, 31, 32, 33, 34, 35, 36, 37, 38, 39, 40, 41]⟩,⟨some 122, .load false 1 (.t 121), some (120, true), [123, 124], [0, 1, 2, 3, 4, 5, 6, 7, 8, 9, 10, 11, 12, 13, 14, 15, 16, 17, 18, 19, 20, 21, 22, 23, 24, 25, 26, 27, 28, 29, 30, 31, 32, 33, 34, 35, 36, 37, 38, 39, 40, 41, 42]⟩,⟨some 123, .mov (.t 2), some (120, true), [121, 122], [0, 1, 2, 3, 4, 5, 6, 7, 8, 9, 10, 11, 12, 13, 14, 15, 16, 17, 18, 19, 20, 21, 22, 23, 24, 25, 26, 27, 28, 29, 30, 31, 32, 33, 34, 35, 36, 37, 38, 39, 40, 41]⟩,⟨some 124, .bsr 3 1 1 [.int .i64 0] [(0, (.t 123))], some (120, true), [121, 122], [0, 1, 2, 3, 4, 5, 6, 7, 8, 9, 10, 11, 12, 13, 14, 15, 16, 17, 18, 19, 20, 21, 22, 23, 24, 25, 26, 27, 28, 29, 30, 31, 32, 33, 34, 35, 36, 37, 38, 39, 40, 41, 44]⟩,⟨some 125, .call false 34 [(.t 122), (.t 124)], some (120, true), [], [0, 1, 2, 3, 4, 5, 6, 7, 8, 9, 10, 11, 12, 13, 14, 15, 16, 17, 18, 19, 20, 21, 22, 23, 24, 25, 26, 27, 28, 29, 30, 31, 32, 33, 34, 35, 36, 37, 38, 39, 40, 41, 42, 43, 44, 45]⟩,⟨some 126, .pick (.t 120) (.t 125) (.c (.bool false)), none, [], [0, 1, 2, 3, 4, 5, 6, 7, 8, 9, 10, 11, 12, 13, 14, 15, 16, 17, 18, 19, 20, 21, 22, 23, 24, 25, 26, 27, 28, 29, 30, 31, 32, 33, 34, 35, 36, 37, 38, 39, 40, 41, 42, 43, 44, 45, 46]⟩,⟨some 127, .mov (.t 126), none, [], [0, 1, 2, 3, 4, 5, 6, 7, 8, 9, 10, 11, 12, 13, 14, 15, 16, 17, 18, 19, 20, 21, 22, 23, 24, 25, 26, 27, 28, 29, 30, 31, 32, 33, 34, 35, 36, 37, 38, 39, 40, 41, 42, 43, 44, 45, 46, 47]⟩,⟨some 128, .fad 10 (.t 9), some (127, true), [131, 132], [0, 1, 2, 3, 4, 5, 6, 7, 8, 9, 10, 11, 12, 13, 14, 15, 16, 17, 18, 19, 20, 21, 22, 23, 24, 25, 26, 27, 28, 29, 30, 31, 32, 33, 34, 35, 36, 37, 38, 39, 40, 41, 42, 43, 44, 45, 46, 47, 48]⟩,⟨some 129, .fad 0 (.t 128), some (127, true), [131, 132], [0, 1, 2, 3, 4, 5, 6, 7, 8, 9, 10, 11, 12, 13, 14, 15, 16, 17, 18, 19, 20, 21, 22, 23, 24, 25, 26, 27, 28, 29, 30, 31, 32, 33, 34, 35, 36, 37, 38, 39, 40, 41, 42, 43, 44, 45, 46, 47, 48, 49]⟩,⟨some 130, .load false 1 (.t 129), some (127, true), [131, 132], [0, 1, 2, 3, 4, 5, 6, 7, 8, 9, 10, 11, 12, 13, 14, 15, 16, 17, 18, 19, 20, 21, 22, 23, 24, 25, 26, 27, 28, 29, 30, 31, 32, 33, 34, 35, 36, 37, 38, 39, 40, 41, 42, 43, 44, 45, 46, 47, 48, 49, 50]⟩,⟨some 131, .mov (.t 2), some (127, true), [128, 129, 130], [0, 1, 2, 3, 4, 5, 6, 7, 8, 9, 10, 11, 12, 13, 14, 15, 16, 17, 18, 19, 20, 21, 22, 23, 24, 25, 26, 27, 28, 29, 30, 31, 32, 33, 34, 35, 36, 37, 38, 39, 40, 41, 42, 43, 44, 45, 46, 47, 48]⟩,⟨some 132, .bin .add (.c (.int .i64 32)) (.t 131), some (127, true), [128, 129, 130], [0, 1, 2, 3, 4, 5, 6, 7, 8, 9, 10, 11, 12, 13, 14, 15, 16, 17, 18, 19, 20, 21, 22, 23, 24, 25, 26, 27, 28, 29, 30, 31, 32, 33, 34, 35, 36, 37, 38, 39, 40, 41, 42, 43, 44, 45, 46, 47, 48, 52]⟩,⟨some 133, .bin .eql (.t 130) (.t 132), some (127, true), [], [0, 1, 2, 3, 4, 5, 6, 7, 8, 9, 10, 11, 12, 13, 14, 15, 16, 17, 18, 19, 20, 21, 22, 23, 24, 25, 26, 27, 28, 29, 30, 31, 32, 33, 34, 35, 36, 37, 38, 39, 40, 41, 42, 43, 44, 45, 46, 47, 48, 49, 50, 51, 52, 53]⟩,⟨some 134, .pick (.t 127) (.t 133) (.c (.bool false)), none, [], [0, 1, 2, 3, 4, 5, 6, 7, 8, 9, 10, 11, 12, 13, 14, 15, 16, 17, 18, 19, 20, 21, 22, 23, 24, 25, 26, 27, 28, 29, 30, 31, 32, 33, 34, 35, 36, 37, 38, 39, 40, 41, 42, 43, 44, 45, 46, 47, 48, 49, 50, 51, 52, 53, 54]⟩,⟨some 135, .mov (.t 134), none, [], [0, 1, 2, 3, 4, 5, 6, 7, 8, 9, 10, 11, 12, 13, 14, 15, 16, 17, 18, 19, 20, 21, 22, 23, 24, 25, 26, 27, 28, 29, 30, 31, 32, 33, 34, 35, 36, 37, 38, 39, 40, 41, 42, 43, 44, 45, 46, 47, 48, 49, 50, 51, 52, 53, 54, 55]⟩,⟨some 136, .mov (.t 12), some (135, true), [], [0, 1, 2, 3, 4, 5, 6, 7, 8, 9, 10, 11, 12, 13, 14, 15, 16, 17, 18, 19, 20, 21, 22, 23, 24, 25, 26, 27, 28, 29, 30, 31, 32, 33, 34, 35, 36, 37, 38, 39, 40, 41, 42, 43, 44, 45, 46, 47, 48, 49, 50, 51, 52, 53, 54, 55, 56]⟩,⟨some 137, .bin .eql (.t 136) (.c (.int .i64 0)), some (135, true), [], [0, 1, 2, 3, 4, 5, 6, 7, 8, 9, 10, 11, 12, 13, 14, 15, 16, 17, 18, 19, 20, 21, 22, 23, 24, 25, 26, 27, 28, 29, 30, 31, 32, 33, 34, 35, 36, 37, 38, 39, 40, 41, 42, 43, 44, 45, 46, 47, 48, 49, 50, 51, 52, 53, 54, 55, 56, 57]⟩,⟨some 138, .pick (.t 135) (.t 137) (.c (.bool false)), none, [], [0, 1, 2, 3, 4, 5, 6, 7, 8, 9, 10, 11, 12, 13, 14, 15, 16, 17, 18, 19, 20, 21, 22, 23, 24, 25, 26, 27, 28, 29, 30, 31, 32, 33, 34, 35, 36, 37, 38, 39, 40, 41, 42, 43, 44, 45, 46, 47, 48, 49, 50, 51, 52, 53, 54, 55, 56, 57, 58]⟩,⟨some 139, .mov (.t 138), none, [], [0, 1, 2, 3, 4, 5, 6, 7, 8, 9, 10, 11, 12, 13, 14, 15, 16, 17, 18, 19, 20, 21, 22, 23, 24, 25, 26, 27, 28, 29, 30, 31, 32, 33, 34, 35, 36, 37, 38, 39, 40, 41, 42, 43, 44, 45, 46, 47, 48, 49, 50, 51, 52, 53, 54, 55, 56, 57, 58, 59]⟩,⟨some 140, .fad 4 (.t 11), some (139, true), [], [0, 1, 2, 3, 4, 5, 6, 7, 8, 9, 10, 11, 12, 13, 14, 15, 16, 17, 18, 19, 20, 21, 22, 23, 24, 25, 26, 27, 28, 29, 30, 31, 32, 33, 34, 35, 36, 37, 38, 39, 40, 41, 42, 43, 44, 45, 46, 47, 48, 49, 50, 51, 52, 53, 54, 55, 56, 57, 58, 59, 60]⟩,⟨some 141, .load false 1 (.t 140), some (139, true), [], [0, 1, 2, 3, 4, 5, 6, 7, 8, 9, 10, 11, 12, 13, 14, 15, 16, 17, 18, 19, 20, 21, 22, 23, 24, 25, 26, 27, 28, 29, 30, 31, 32, 33, 34, 35, 36, 37, 38, 39, 40, 41, 42, 43, 44, 45, 46, 47, 48, 49, 50, 51, 52, 53, 54, 55, 56, 57, 58, 59, 60, 61]⟩,⟨some 142, .bin .eql (.t 141) (.c (.int .i64 0)), some (139, true), [], [0, 1, 2, 3, 4, 5, 6, 7, 8, 9, 10, 11, 12, 13, 14, 15, 16, 17, 18, 19, 20, 21, 22, 23, 24, 25, 26, 27, 28, 29, 30, 31, 32, 33, 34, 35, 36, 37, 38, 39, 40, 41, 42, 43, 44, 45, 46, 47, 48, 49, 50, 51, 52, 53, 54, 55, 56, 57, 58, 59, 60, 61, 62]⟩,⟨some 143, .pick (.t 139) (.t 142) (.c (.bool false)), none, [], [0, 1, 2, 3, 4, 5, 6, 7, 8, 9, 10, 11, 12, 13, 14, 15, 16, 17, 18, 19, 20, 21, 22, 23, 24, 25, 26, 27, 28, 29, 30, 31, 32, 33, 34, 35, 36, 37, 38, 39, 40, 41, 42, 43, 44, 45, 46, 47, 48, 49, 50, 51, 52, 53, 54, 55, 56, 57, 58, 59, 60, 61, 62, 63]⟩,⟨some 144, .mov (.t 143), none, [], [0, 1, 2, 3, 4, 5, 6, 7, 8, 9, 10, 11, 12, 13, 14, 15, 16, 17, 18, 19, 20, 21, 22, 23, 24, 25, 26, 27, 28, 29, 30, 31, 32, 33, 34, 35, 36, 37, 38, 39, 40, 41, 42, 43, 44, 45, 46, 47, 48, 49, 50, 51, 52, 53, 54, 55, 56, 57, 58, 59, 60, 61, 62, 63, 64]⟩,⟨some 145, .load true 7 (.t 1), some (144, true), [146, 147], [0, 1, 2, 3, 4, 5, 6, 7, 8, 9, 10, 11, 12, 13, 14, 15, 16, 17, 18, 19, 20, 21, 22, 23, 24, 25, 26, 27, 28, 29, 30, 31, 32, 33, 34, 35, 36, 37, 38, 39, 40, 41, 42, 43, 44, 45, 46, 47, 48, 49, 50, 51, 52, 53, 54, 55, 56, 57, 58, 59, 60, 61, 62, 63, 64, 65]⟩,⟨some 146, .mov (.t 2), some (144, true), [145, 147], [0, 1, 2, 3, 4, 5, 6, 7, 8, 9, 10, 11, 12, 13, 14, 15, 16, 17, 18, 19, 20, 21, 22, 23, 24, 25, 26, 27, 28, 29, 30, 31, 32, 33, 34, 35, 36, 37, 38, 39, 40, 41, 42, 43, 44, 45, 46, 47, 48, 49, 50, 51, 52, 53, 54, 55, 56, 57, 58, 59, 60, 61, 62, 63, 64, 65]⟩,⟨some 147, .load true 16 (.t 5), some (144, true), [145, 146], [0, 1, 2, 3, 4, 5, 6, 7, 8, 9, 10, 11, 12, 13, 14, 15, 16, 17, 18, 19, 20, 21, 22, 23, 24, 25, 26, 27, 28, 29, 30, 31, 32, 33, 34, 35, 36, 37, 38, 39, 40, 41, 42, 43, 44, 45, 46, 47, 48, 49, 50, 51, 52, 53, 54, 55, 56, 57, 58, 59, 60, 61, 62, 63, 64, 65]⟩,⟨some 148, .call false 18 [(.t 145), (.c (.int .i64 1)), (.t 146), (.t 147)], some (144, true), [], [0, 1, 2, 3, 4, 5, 6, 7, 8, 9, 10, 11, 12, 13, 14, 15, 16, 17, 18, 19, 20, 21, 22, 23, 24, 25, 26, 27, 28, 29, 30, 31, 32, 33, 34, 35, 36, 37, 38, 39, 40, 41, 42, 43, 44, 45, 46, 47, 48, 49, 50, 51, 52, 53, 54, 55, 56, 57, 58, 59, 60, 61, 62, 63, 64, 65, 66, 67, 68]⟩,⟨some 149, .bin .eql (.t 148) (.c (.int .i64 0)), some (144, true), [], [0, 1, 2, 3, 4, 5, 6, 7, 8, 9, 10, 11, 12, 13, 14, 15, 16, 17, 18, 19, 20, 21, 22, 23, 24, 25, 26, 27, 28, 29, 30, 31, 32, 33, 34, 35, 36, 37, 38, 39, 40, 41, 42, 43, 44, 45, 46, 47, 48, 49, 50, 51, 52, 53, 54, 55, 56, 57, 58, 59, 60, 61, 62, 63, 64, 65, 66, 67, 68, 69]⟩,⟨some 150, .pick (.t 144) (.t 149) (.c (.bool false)), none, [], [0, 1, 2, 3, 4, 5, 6, 7, 8, 9, 10, 11, 12, 13, 14, 15, 16, 17, 18, 19, 20, 21, 22, 23, 24, 25, 26, 27, 28, 29, 30, 31, 32, 33, 34, 35, 36, 37, 38, 39, 40, 41, 42, 43, 44, 45, 46, 47, 48, 49, 50, 51, 52, 53, 54, 55, 56, 57, 58, 59, 60, 61, 62, 63, 64, 65, 66, 67, 68, 69, 70]⟩,⟨some 151, .mov (.t 150), none, [], [0, 1, 2, 3, 4, 5, 6, 7, 8, 9, 10, 11, 12, 13, 14, 15, 16, 17, 18, 19, 20, 21, 22, 23, 24, 25, 26, 27, 28, 29, 30, 31, 32, 33, 34, 35, 36, 37, 38, 39, 40, 41, 42, 43, 44, 45, 46, 47, 48, 49, 50, 51, 52, 53, 54, 55, 56, 57, 58, 59, 60, 61, 62, 63, 64, 65, 66, 67, 68, 69, 70, 71]⟩,⟨some 152, .load true 7 (.t 1), some (151, true), [153, 154], [0, 1, 2, 3, 4, 5, 6, 7, 8, 9, 10, 11, 12, 13, 14, 15, 16, 17, 18, 19, 20, 21, 22, 23, 24, 25, 26, 27, 28, 29, 30, 31, 32, 33, 34, 35, 36, 37, 38, 39, 40, 41, 42, 43, 44, 45, 46, 47, 48, 49, 50, 51, 52, 53, 54, 55, 56, 57, 58, 59, 60, 61, 62, 63, 64, 65, 66, 67, 68, 69, 70, 71, 72]⟩,⟨some 153, .mov (.t 2), some (151, true), [152, 154], [0, 1, 2, 3, 4, 5, 6, 7, 8, 9, 10, 11, 12, 13, 14, 15, 16, 17, 18, 19, 20, 21, 22, 23, 24, 25, 26, 27, 28, 29, 30, 31, 32, 33, 34, 35, 36, 37, 38, 39, 40, 41, 42, 43, 44, 45, 46, 47, 48, 49, 50, 51, 52, 53, 54, 55, 56, 57, 58, 59, 60, 61, 62, 63, 64, 65, 66, 67, 68, 69, 70, 71, 72]⟩,⟨some 154, .build [.bool false, .bool false, .int .i64 0, .int .i64 0, .int .i64 0, .int .i64 0, .int .i64 0, .int .i64 0, .row [], .row [], .int .i64 0, .int .i64 0, .int .i64 0, .row [], .row [], .row []] [(2, 1, (.c (.int .i64 (-1))))], some (151, true), [152, 153], [0, 1, 2, 3, 4, 5, 6, 7, 8, 9, 10, 11, 12, 13, 14, 15, 16, 17, 18, 19, 20, 21, 22, 23, 24, 25, 26, 27, 28, 29, 30, 31, 32, 33, 34, 35, 36, 37, 38, 39, 40, 41, 42, 43, 44, 45, 46, 47, 48, 49, 50, 51, 52, 53, 54, 55, 56, 57, 58, 59, 60, 61, 62, 63, 64, 65, 66, 67, 68, 69, 70, 71, 72]⟩,⟨some 155, .call false 18 [(.t 152), (.c (.int .i64 1)), (.t 153), (.t 154)], some (151, true), [], [0, 1, 2, 3, 4, 5, 6, 7, 8, 9, 10, 11, 12, 13, 14, 15, 16, 17, 18, 19, 20, 21, 22, 23, 24, 25, 26, 27, 28, 29, 30, 31, 32, 33, 34, 35, 36, 37, 38, 39, 40, 41, 42, 43, 44, 45, 46, 47, 48, 49, 50, 51, 52, 53, 54, 55, 56, 57, 58, 59, 60, 61, 62, 63, 64, 65, 66, 67, 68, 69, 70, 71, 72, 73, 74, 75]⟩,⟨some 156, .bin .eql (.t 155) (.c (.int .i64 1)), some (151, true), [], [0, 1, 2, 3, 4, 5, 6, 7, 8, 9, 10, 11, 12, 13, 14, 15, 16, 17, 18, 19, 20, 21, 22, 23, 24, 25, 26, 27, 28, 29, 30, 31, 32, 33, 34, 35, 36, 37, 38, 39, 40, 41, 42, 43, 44, 45, 46, 47, 48, 49, 50, 51, 52, 53, 54, 55, 56, 57, 58, 59, 60, 61, 62, 63, 64, 65, 66, 67, 68, 69, 70, 71, 72, 73, 74, 75, 76]⟩,⟨some 157, .pick (.t 151) (.t 156) (.c (.bool false)), none, [], [0, 1, 2, 3, 4, 5, 6, 7, 8, 9, 10, 11, 12, 13, 14, 15, 16, 17, 18, 19, 20, 21, 22, 23, 24, 25, 26, 27, 28, 29, 30, 31, 32, 33, 34, 35, 36, 37, 38, 39, 40, 41, 42, 43, 44, 45, 46, 47, 48, 49, 50, 51, 52, 53, 54, 55, 56, 57, 58, 59, 60, 61, 62, 63, 64, 65, 66, 67, 68, 69, 70, 71, 72, 73, 74, 75, 76, 77]⟩,⟨some 0, .mov (.t 157), none, [], [0, 1, 2, 3, 4, 5, 6, 7, 8, 9, 10, 11, 12, 13, 14, 15, 16, 17, 18, 19, 20, 21, 22, 23, 24, 25, 26, 27, 28, 29, 30, 31, 32, 33, 34, 35, 36, 37, 38, 39, 40, 41, 42, 43, 44, 45, 46, 47, 48, 49, 50, 51, 52, 53, 54, 55, 56, 57, 58, 59, 60, 61, 62, 63, 64, 65, 66, 67, 68, 69, 70, 71, 72, 73, 74, 75, 76, 77, 78]⟩] true) .ret))))))))))
def i29 : F := ⟨0, 158, j29, [.t 0]⟩
theorem c29 : chkF Tryz.prog Tryz.f29 i29 = true := by kernel_rfl
theorem s29 {m E} (hE : HE E) (hm : HM i29 m E) : Sound Tryz.prog 29 m := sound_of i29 Tryz.func29 rfl c29 hE hm
def j30 : C := (.seq (.region [nO 3 (.box (.t 1)),
  nO 4 (.mov (.c (.bool false)))] false) (.seq (.frz [3] (.region [mO 5 0,
  nO 6 (.mkf 69 [(.t 3)]),
  nO 7 (.call false 68 [(.t 5), (.t 6)]),
  mO 4 7] false)) .ret))
def i30 : F := ⟨2, 8, j30, [.t 4]⟩
theorem b30 : i30.body = j30 := rfl
theorem q30 : i30.res = [.t 4] := rfl
theorem c30 : chkF Tryz.prog Tryz.f30 i30 = true := by kernel_rfl
theorem s30 {m E} (hE : HE E) (hm : HM i30 m E) : Sound Tryz.prog 30 m := sound_of i30 Tryz.func30 rfl c30 hE hm
def j31 : C := (.seq (.region [nO 8 (.mov (.c (.int .i64 0)))] false) (.seq (.region [mO 12 0,
  mO 13 1,
  nO 14 (.call false 65 [(.t 12), (.t 13)]),
  mO 11 14,
  nO 15 (.ext (.t 11) 0),
  nO 16 (.ext (.t 11) 1),
  mO 9 15,
  mO 10 16] false) (.seq (.block 0 (.seq (.region [mO 18 10,
  nO 19 (.bin .neq (.t 18) (.c (.int .i64 0))),
  mO 20 19,
  mG 21 3 20 false,
  gO 22 (.bin .lss (.t 21) (.c (.int .i64 1))) 20 false,
  nO 23 (.pick (.t 20) (.c (.bool true)) (.t 22)),
  mO 24 23,
  mG 25 3 24 false,
  gO 26 (.bin .gtr (.t 25) (.c (.int .i64 8))) 24 false,
  nO 27 (.pick (.t 24) (.c (.bool true)) (.t 26)),
  mO 28 27,
  mG 29 2 28 false,
  gO 30 (.call false 70 [(.t 29)]) 28 false,
  gO 31 (.un .not (.t 30)) 28 false,
  nO 32 (.pick (.t 28) (.c (.bool true)) (.t 31)),
  mO 17 32] false) (.cond (.t 17) (.seq (.region [nO 8 (.mov (.c (.int .i64 1)))] false) .ret) (.seq (.region [mO 34 2,
  nO 35 (.len (.t 34)),
  mO 36 3,
  nO 37 (.bin .gtr (.t 35) (.t 36)),
  mO 33 37] false) (.cond (.t 33) (.seq (.region [nO 8 (.mov (.c (.int .i64 12)))] false) .ret) (.seq (.region [mO 39 0,
  mO 40 1,
  mO 41 2,
  nO 42 (.call false 71 [(.t 39), (.t 40), (.t 41)]),
  nO 43 (.un .not (.t 42)),
  mO 38 43] false) (.cond (.t 38) (.seq (.region [nO 8 (.mov (.c (.int .i64 1)))] false) .ret) .skip))))))) (.seq (.region [nO 8 (.mov (.c (.int .i64 0)))] false) .ret))))
def i31 : F := ⟨4, 44, j31, [.t 8]⟩
theorem b31 : i31.body = j31 := rfl
theorem q31 : i31.res = [.t 8] := rfl
theorem c31 : chkF Tryz.prog Tryz.f31 i31 = true := by kernel_rfl
theorem s31 {m E} (hE : HE E) (hm : HM i31 m E) : Sound Tryz.prog 31 m := sound_of i31 Tryz.func31 rfl c31 hE hm
def j32 : C := (.seq (.region [nO 1 (.box (.t 0)),
  nO 2 (.mov (.c (.bool false)))] false) (.seq (.seq (.region [nO 5 (.fad 0 (.t 1)),
  nO 6 (.load false 1 (.t 5)),
  nO 7 (.call false 60 [(.t 6), (.c (.int .i64 1)), (.c (.int .i64 13))]),
  nO 8 (.un .not (.t 7)),
  mO 9 8,
  gO 10 (.fad 1 (.t 1)) 9 false,
  gO 11 (.load false 1 (.t 10)) 9 false,
  gO 12 (.call false 26 [(.t 11)]) 9 false,
  gO 13 (.un .not (.t 12)) 9 false,
  nO 14 (.pick (.t 9) (.c (.bool true)) (.t 13)),
  mO 15 14,
  gO 16 (.fad 3 (.t 1)) 15 false,
  gO 17 (.load false 1 (.t 16)) 15 false,
  gO 18 (.call false 26 [(.t 17)]) 15 false,
  gO 19 (.un .not (.t 18)) 15 false,
  nO 20 (.pick (.t 15) (.c (.bool true)) (.t 19)),
  mO 21 20,
  gO 22 (.fad 1 (.t 1)) 21 false,
  gO 23 (.load false 1 (.t 22)) 21 false,
  gO 24 (.fad 3 (.t 1)) 21 false,
  gO 25 (.load false 1 (.t 24)) 21 false,
  gO 26 (.bin .eql (.t 23) (.t 25)) 21 false,
  nO 27 (.pick (.t 21) (.c (.bool true)) (.t 26)),
  mO 28 27,
  gO 29 (.fad 2 (.t 1)) 28 false,
  gO 30 (.load false 1 (.t 29)) 28 false,
  gO 31 (.call false 72 [(.t 30)]) 28 false,
  gO 32 (.un .not (.t 31)) 28 false,
  nO 33 (.pick (.t 28) (.c (.bool true)) (.t 32))] false) (.cond (.t 33) (.seq (.region [nO 2 (.mov (.c (.bool false)))] false) .ret) .skip)) (.seq (.region [nO 34 (.fad 0 (.t 1)),
  nO 35 (.load false 1 (.t 34)),
  nO 36 (.fad 1 (.t 1)),
  nO 37 (.load false 1 (.t 36)),
  nO 38 (.fad 2 (.t 1)),
  nO 39 (.load false 1 (.t 38)),
  nO 40 (.fad 3 (.t 1)),
  nO 41 (.load false 1 (.t 40)),
  nO 42 (.fad 4 (.t 1)),
  nO 43 (.load false 1 (.t 42)),
  nO 44 (.fad 5 (.t 1)),
  nO 45 (.load false 1 (.t 44)),
  nO 46 (.build [.int .i64 0, .int .i64 0, .int .i64 0, .int .i64 0, .int .i64 0, .int .i64 0, .int .i64 0, .int .i64 0, .int .i64 0, .int .i64 0, .int .i64 0, .int .i64 0, .int .i64 0, .int .i64 0, .row [], .row []] [(0, 1, (.t 35)), (1, 1, (.t 37)), (2, 1, (.t 39)), (3, 1, (.t 41)), (4, 1, (.t 43)), (5, 1, (.t 45))]),
  nO 3 (.alloc [.int .i64 0, .int .i64 0, .int .i64 0, .int .i64 0, .int .i64 0, .int .i64 0, .int .i64 0, .int .i64 0, .int .i64 0, .int .i64 0, .int .i64 0, .int .i64 0, .int .i64 0, .int .i64 0, .row [], .row []]),⟨none, .store none 16 (.t 3) (.t 46), none, [], []⟩] false) (.seq (.seq (.region [nO 47 (.fad 0 (.t 1)),
  nO 48 (.load false 1 (.t 47)),
  nO 49 (.bin .eql (.t 48) (.c (.int .i64 1)))] false) (.cond (.t 49) (.region [nO 50 (.fad 4 (.t 3)),⟨none, .store none 1 (.t 50) (.c (.int .i64 0)), none, [], []⟩,
  nO 51 (.fad 5 (.t 3)),⟨none, .store none 1 (.t 51) (.c (.int .i64 0)), none, [], []⟩] false) (.seq (.region [nO 52 (.fad 4 (.t 1)),
  nO 53 (.load false 1 (.t 52)),
  nO 54 (.call false 72 [(.t 53)]),
  nO 55 (.un .not (.t 54)),
  mO 56 55,
  gO 57 (.fad 5 (.t 1)) 56 false,
  gO 58 (.load false 1 (.t 57)) 56 false,
  gO 59 (.call false 73 [(.t 58)]) 56 false,
  gO 60 (.un .not (.t 59)) 56 false,
  nO 61 (.pick (.t 56) (.c (.bool true)) (.t 60))] false) (.cond (.t 61) (.seq (.region [nO 2 (.mov (.c (.bool false)))] false) .ret) .skip)))) (.seq (.region [nO 4 (.mov (.c (.bool true)))] false) (.seq (.seq (.region [nO 62 (.fad 0 (.t 1)),
  nO 63 (.load false 1 (.t 62))] false) (.block 0 (.seq (.region [nO 65 (.bin .eql (.t 63) (.c (.int .i64 2))),
  mO 64 65] false) (.cond (.t 64) (.seq (.region [nO 66 (.fad 6 (.t 1)),
  nO 67 (.load false 1 (.t 66)),
  nO 68 (.call false 60 [(.t 67), (.c (.int .i64 0)), (.c (.int .i64 1073741824))]),
  mO 4 68] false) (.region [nO 69 (.fad 6 (.t 1)),
  nO 70 (.load false 1 (.t 69)),
  nO 71 (.fad 6 (.t 3)),⟨none, .store none 1 (.t 71) (.t 70), none, [], []⟩] false)) (.seq (.region [nO 73 (.bin .eql (.t 63) (.c (.int .i64 3))),
  mO 72 73] false) (.cond (.t 72) (.seq (.region [nO 74 (.fad 6 (.t 1)),⟨some 75, .load false 1 (.t 74), none, [], [0]⟩,⟨some 76, .call false 60 [(.t 75), (.c (.int .i64 0)), (.c (.int .i64 1073741824))], none, [], [0, 1]⟩,⟨some 77, .mov (.t 76), none, [], [0, 1, 2]⟩,⟨some 78, .fad 7 (.t 1), some (77, true), [], [0, 1, 2, 3]⟩,⟨some 79, .load false 1 (.t 78), some (77, true), [], [0, 1, 2, 3, 4]⟩,⟨some 80, .call false 72 [(.t 79)], some (77, true), [], [0, 1, 2, 3, 4, 5]⟩,⟨some 81, .pick (.t 77) (.t 80) (.c (.bool false)), none, [], [0, 1, 2, 3, 4, 5, 6]⟩,⟨some 82, .mov (.t 81), none, [], [0, 1, 2, 3, 4, 5, 6, 7]⟩,⟨some 83, .fad 8 (.t 1), some (82, true), [], [0, 1, 2, 3, 4, 5, 6, 7, 8]⟩,⟨some 84, .load false 1 (.t 83), some (82, true), [], [0, 1, 2, 3, 4, 5, 6, 7, 8, 9]⟩,⟨some 85, .call false 60 [(.t 84), (.c (.int .i64 0)), (.c (.int .i64 1073741824))], some (82, true), [], [0, 1, 2, 3, 4, 5, 6, 7, 8, 9, 10]⟩,⟨some 86, .pick (.t 82) (.t 85) (.c (.bool false)), none, [], [0, 1, 2, 3, 4, 5, 6, 7, 8, 9, 10, 11]⟩,⟨some 87, .mov (.t 86), none, [], [0, 1, 2, 3, 4, 5, 6, 7, 8, 9, 10, 11, 12]⟩,⟨some 88, .fad 14 (.t 1), some (87, true), [], [0, 1, 2, 3, 4, 5, 6, 7, 8, 9, 10, 11, 12, 13]⟩,⟨some 89, .load false 1 (.t 88), some (87, true), [], [0, 1, 2, 3, 4, 5, 6, 7, 8, 9, 10, 11, 12, 13, 14]⟩,⟨some 90, .len (.t 89), some (87, true), [], [0, 1, 2, 3, 4, 5, 6, 7, 8, 9, 10, 11, 12, 13, 14, 15]⟩,⟨some 91, .bin .gtr (.t 90) (.c (.int .i64 0)), some (87, true), [], [0, 1, 2, 3, 4, 5, 6, 7, 8, 9, 10, 11, 12, 13, 14, 15, 16]⟩,⟨some 92, .pick (.t 87) (.t 91) (.c (.bool false)), none, [], [0, 1, 2, 3, 4, 5, 6, 7, 8, 9, 10, 11, 12, 13, 14, 15, 16, 17]⟩,⟨some 93, .mov (.t 92), none, [], [0, 1, 2, 3, 4, 5, 6, 7, 8, 9, 10, 11, 12, 13, 14, 15, 16, 17, 18]⟩,⟨some 94, .fad 14 (.t 1), some (93, true), [], [0, 1, 2, 3, 4, 5, 6, 7, 8, 9, 10, 11, 12, 13, 14, 15, 16, 17, 18, 19]⟩,⟨some 95, .load false 1 (.t 94), some (93, true), [], [0, 1, 2, 3, 4, 5, 6, 7, 8, 9, 10, 11, 12, 13, 14, 15, 16, 17, 18, 19, 20]⟩,⟨some 96, .call false 74 [(.t 95)], some (93, true), [], [0, 1, 2, 3, 4, 5, 6, 7, 8, 9, 10, 11, 12, 13, 14, 15, 16, 17, 18, 19, 20, 21]⟩,⟨some 97, .pick (.t 93) (.t 96) (.c (.bool false)), none, [], [0, 1, 2, 3, 4, 5, 6, 7, 8, 9, 10, 11, 12, 13, 14, 15, 16, 17, 18, 19, 20, 21, 22]⟩,⟨some 98, .mov (.t 97), none, [], [0, 1, 2, 3, 4, 5, 6, 7, 8, 9, 10, 11, 12, 13, 14, 15, 16, 17, 18, 19, 20, 21, 22, 23]⟩,⟨some 99, .fad 14 (.t 1), some (98, true), [], [0, 1, 2, 3, 4, 5, 6, 7, 8, 9, 10, 11, 12, 13, 14, 15, 16, 17, 18, 19, 20, 21, 22, 23, 24]⟩,⟨some 100, .load false 1 (.t 99), some (98, true), [], [0, 1, 2, 3, 4, 5, 6, 7, 8, 9, 10, 11, 12, 13, 14, 15, 16, 17, 18, 19, 20, 21, 22, 23, 24, 25]⟩,⟨some 101, .call false 75 [(.t 100)], some (98, true), [], [0, 1, 2, 3, 4, 5, 6, 7, 8, 9, 10, 11, 12, 13, 14, 15, 16, 17, 18, 19, 20, 21, 22, 23, 24, 25, 26]⟩,⟨some 102, .pick (.t 98) (.t 101) (.c (.bool false)), none, [], [0, 1, 2, 3, 4, 5, 6, 7, 8, 9, 10, 11, 12, 13, 14, 15, 16, 17, 18, 19, 20, 21, 22, 23, 24, 25, 26, 27]⟩,⟨some 103, .mov (.t 102), none, [], [0, 1, 2, 3, 4, 5, 6, 7, 8, 9, 10, 11, 12, 13, 14, 15, 16, 17, 18, 19, 20, 21, 22, 23, 24, 25, 26, 27, 28]⟩,⟨some 104, .fad 14 (.t 1), some (103, true), [108, 109], [0, 1, 2, 3, 4, 5, 6, 7, 8, 9, 10, 11, 12, 13, 14, 15, 16, 17, 18, 19, 20, 21, 22, 23, 24, 25, 26, 27, 28, 29]⟩,⟨some 105, .load false 1 (.t 104), some (103, true), [108, 109], [0, 1, 2, 3, 4, 5, 6, 7, 8, 9, 10, 11, 12, 13, 14, 15, 16, 17, 18, 19, 20, 21, 22, 23, 24, 25, 26, 27, 28, 29, 30]⟩,⟨some 106, .iad 1 (.t 105) (.c (.int .i64 0)), some (103, true), [108, 109], [0, 1, 2, 3, 4, 5, 6, 7, 8, 9, 10, 11, 12, 13, 14, 15, 16, 17, 18, 19, 20, 21, 22, 23, 24, 25, 26, 27, 28, 29, 30, 31]⟩,⟨some 107, .load false 1 (.t 106), some (103, true), [108, 109], [0, 1, 2, 3, 4, 5, 6, 7, 8, 9, 10, 11, 12, 13, 14, 15, 16, 17, 18, 19, 20, 21, 22, 23, 24, 25, 26, 27, 28, 29, 30, 31, 32]⟩,⟨some 108, .fad 1 (.t 1), some (103, true), [104, 105, 106, 107], [0, 1, 2, 3, 4, 5, 6, 7, 8, 9, 10, 11, 12, 13, 14, 15, 16, 17, 18, 19, 20, 21, 22, 23, 24, 25, 26, 27, 28, 29]⟩,⟨some 109, .load false 1 (.t 108), some (103, true), [104, 105, 106, 107], [0, 1, 2, 3, 4, 5, 6, 7, 8, 9, 10, 11, 12, 13, 14, 15, 16, 17, 18, 19, 20, 21, 22, 23, 24, 25, 26, 27, 28, 29, 34]⟩,⟨some 110, .bin .eql (.t 107) (.t 109), some (103, true), [], [0, 1, 2, 3, 4, 5, 6, 7, 8, 9, 10, 11, 12, 13, 14, 15, 16, 17, 18, 19, 20, 21, 22, 23, 24, 25, 26, 27, 28, 29, 30, 31, 32, 33, 34, 35]⟩,⟨some 111, .pick (.t 103) (.t 110) (.c (.bool false)), none, [], [0, 1, 2, 3, 4, 5, 6, 7, 8, 9, 10, 11, 12, 13, 14, 15, 16, 17, 18, 19, 20, 21, 22, 23, 24, 25, 26, 27, 28, 29, 30, 31, 32, 33, 34, 35, 36]⟩,⟨some 4, .mov (.t 111), none, [], [0, 1, 2, 3, 4, 5, 6, 7, 8, 9, 10, 11, 12, 13, 14, 15, 16, 17, 18, 19, 20, 21, 22, 23, 24, 25, 26, 27, 28, 29, 30, 31, 32, 33, 34, 35, 36, 37]⟩] true) (.region [⟨some 112, .fad 6 (.t 1), none, [114, 115, 116, 117, 118, 119], []⟩,⟨some 113, .load false 1 (.t 112), none, [114, 115, 116, 117, 118, 119], [0]⟩,⟨some 114, .fad 7 (.t 1), none, [3, 112, 113, 116, 117, 118, 119, 120], []⟩,⟨some 115, .load false 1 (.t 114), none, [3, 112, 113, 116, 117, 118, 119, 120], [2]⟩,⟨some 116, .fad 8 (.t 1), none, [3, 112, 113, 114, 115, 118, 119, 120, 121], []⟩,⟨some 117, .load false 1 (.t 116), none, [3, 112, 113, 114, 115, 118, 119, 120, 121], [4]⟩,⟨some 118, .fad 14 (.t 1), none, [3, 112, 113, 114, 115, 116, 117, 120, 121, 122], []⟩,⟨some 119, .load false 1 (.t 118), none, [3, 112, 113, 114, 115, 116, 117, 120, 121, 122], [6]⟩,⟨some 120, .fad 6 (.t 3), none, [114, 115, 116, 117, 118, 119], [0, 1]⟩,⟨none, .store (some 3) 1 (.t 120) (.t 113), none, [114, 115, 116, 117, 118, 119], [0, 1, 8]⟩,⟨some 121, .fad 7 (.t 3), none, [116, 117, 118, 119], [0, 1, 2, 3, 8, 9]⟩,⟨none, .store (some 3) 1 (.t 121) (.t 115), none, [116, 117, 118, 119], [0, 1, 2, 3, 8, 9, 10]⟩,⟨some 122, .fad 8 (.t 3), none, [118, 119], [0, 1, 2, 3, 4, 5, 8, 9, 10, 11]⟩,⟨none, .store (some 3) 1 (.t 122) (.t 117), none, [118, 119], [0, 1, 2, 3, 4, 5, 8, 9, 10, 11, 12]⟩,⟨some 123, .fad 14 (.t 3), none, [], [0, 1, 2, 3, 4, 5, 6, 7, 8, 9, 10, 11, 12, 13]⟩,⟨none, .store none 1 (.t 123) (.t 119), none, [], [0, 1, 2, 3, 4, 5, 6, 7, 8, 9, 10, 11, 12, 13, 14]⟩] true)) (.seq (.region [nO 125 (.bin .eql (.t 63) (.c (.int .i64 4))),
  mO 124 125] false) (.cond (.t 124) (.seq (.region [nO 126 (.fad 10 (.t 1)),
  nO 127 (.load false 1 (.t 126)),
  nO 128 (.call false 26 [(.t 127)]),
  mO 129 128,
  gO 130 (.fad 10 (.t 1)) 129 true,
  gO 131 (.load false 1 (.t 130)) 129 true,
  gO 132 (.fad 1 (.t 1)) 129 true,
  gO 133 (.load false 1 (.t 132)) 129 true,
  gO 134 (.bin .neq (.t 131) (.t 133)) 129 true,
  nO 135 (.pick (.t 129) (.t 134) (.c (.bool false))),
  mO 136 135,
  gO 137 (.fad 10 (.t 1)) 136 true,
  gO 138 (.load false 1 (.t 137)) 136 true,
  gO 139 (.fad 3 (.t 1)) 136 true,
  gO 140 (.load false 1 (.t 139)) 136 true,
  gO 141 (.bin .neq (.t 138) (.t 140)) 136 true,
  nO 142 (.pick (.t 136) (.t 141) (.c (.bool false))),
  mO 4 142] false) (.region [nO 143 (.fad 10 (.t 1)),
  nO 144 (.load false 1 (.t 143)),
  nO 145 (.fad 10 (.t 3)),⟨none, .store none 1 (.t 145) (.t 144), none, [], []⟩] false)) (.seq (.region [nO 147 (.bin .eql (.t 63) (.c (.int .i64 7))),
  mO 146 147] false) (.cond (.t 146) (.seq (.region [nO 148 (.fad 6 (.t 1)),
  nO 149 (.load false 1 (.t 148)),
  nO 150 (.call false 60 [(.t 149), (.c (.int .i64 1)), (.c (.int .i64 1073741824))]),
  mO 151 150,
  gO 152 (.fad 7 (.t 1)) 151 true,
  gO 153 (.load false 1 (.t 152)) 151 true,
  gO 154 (.call false 72 [(.t 153)]) 151 true,
  nO 155 (.pick (.t 151) (.t 154) (.c (.bool false))),
  mO 156 155,
  gO 157 (.fad 9 (.t 1)) 156 true,
  gO 158 (.load false 1 (.t 157)) 156 true,
  gO 159 (.call false 76 [(.t 158)]) 156 true,
  nO 160 (.pick (.t 156) (.t 159) (.c (.bool false))),
  mO 4 160] false) (.region [⟨some 161, .fad 6 (.t 1), none, [163, 164, 165, 166], []⟩,⟨some 162, .load false 1 (.t 161), none, [163, 164, 165, 166], [0]⟩,⟨some 163, .fad 7 (.t 1), none, [3, 161, 162, 165, 166, 167], []⟩,⟨some 164, .load false 1 (.t 163), none, [3, 161, 162, 165, 166, 167], [2]⟩,⟨some 165, .fad 9 (.t 1), none, [3, 161, 162, 163, 164, 167, 168], []⟩,⟨some 166, .load false 1 (.t 165), none, [3, 161, 162, 163, 164, 167, 168], [4]⟩,⟨some 167, .fad 6 (.t 3), none, [163, 164, 165, 166], [0, 1]⟩,⟨none, .store (some 3) 1 (.t 167) (.t 162), none, [163, 164, 165, 166], [0, 1, 6]⟩,⟨some 168, .fad 7 (.t 3), none, [165, 166], [0, 1, 2, 3, 6, 7]⟩,⟨none, .store (some 3) 1 (.t 168) (.t 164), none, [165, 166], [0, 1, 2, 3, 6, 7, 8]⟩,⟨some 169, .fad 9 (.t 3), none, [], [0, 1, 2, 3, 4, 5, 6, 7, 8, 9]⟩,⟨none, .store none 1 (.t 169) (.t 166), none, [], [0, 1, 2, 3, 4, 5, 6, 7, 8, 9, 10]⟩] true)) (.seq (.region [nO 171 (.bin .eql (.t 63) (.c (.int .i64 8))),
  mO 170 171] false) (.cond (.t 170) (.seq (.region [nO 172 (.fad 6 (.t 1)),
  nO 173 (.load false 1 (.t 172)),
  nO 174 (.call false 60 [(.t 173), (.c (.int .i64 1)), (.c (.int .i64 1073741824))]),
  mO 175 174,
  gO 176 (.fad 7 (.t 1)) 175 true,
  gO 177 (.load false 1 (.t 176)) 175 true,
  gO 178 (.call false 72 [(.t 177)]) 175 true,
  nO 179 (.pick (.t 175) (.t 178) (.c (.bool false))),
  mO 4 179] false) (.region [⟨some 180, .fad 6 (.t 1), none, [182, 183], []⟩,⟨some 181, .load false 1 (.t 180), none, [182, 183], [0]⟩,⟨some 182, .fad 7 (.t 1), none, [3, 180, 181, 184], []⟩,⟨some 183, .load false 1 (.t 182), none, [3, 180, 181, 184], [2]⟩,⟨some 184, .fad 6 (.t 3), none, [182, 183], [0, 1]⟩,⟨none, .store (some 3) 1 (.t 184) (.t 181), none, [182, 183], [0, 1, 4]⟩,⟨some 185, .fad 7 (.t 3), none, [], [0, 1, 2, 3, 4, 5]⟩,⟨none, .store none 1 (.t 185) (.t 183), none, [], [0, 1, 2, 3, 4, 5, 6]⟩] true)) (.seq (.region [nO 187 (.bin .eql (.t 63) (.c (.int .i64 9))),
  mO 186 187] false) (.cond (.t 186) (.seq (.region [nO 188 (.fad 6 (.t 1)),
  nO 189 (.load false 1 (.t 188)),
  nO 190 (.call false 60 [(.t 189), (.c (.int .i64 1)), (.c (.int .i64 1073741824))]),
  mO 191 190,
  gO 192 (.fad 7 (.t 1)) 191 true,
  gO 193 (.load false 1 (.t 192)) 191 true,
  gO 194 (.call false 72 [(.t 193)]) 191 true,
  nO 195 (.pick (.t 191) (.t 194) (.c (.bool false))),
  mO 196 195,
  gO 197 (.fad 8 (.t 1)) 196 true,
  gO 198 (.load false 1 (.t 197)) 196 true,
  gO 199 (.fad 7 (.t 1)) 196 true,
  gO 200 (.load false 1 (.t 199)) 196 true,
  gO 201 (.call false 60 [(.t 198), (.t 200), (.c (.int .i64 1073741824))]) 196 true,
  nO 202 (.pick (.t 196) (.t 201) (.c (.bool false))),
  mO 4 202] false) (.region [⟨some 203, .fad 6 (.t 1), none, [205, 206, 207, 208], []⟩,⟨some 204, .load false 1 (.t 203), none, [205, 206, 207, 208], [0]⟩,⟨some 205, .fad 7 (.t 1), none, [3, 203, 204, 207, 208, 209], []⟩,⟨some 206, .load false 1 (.t 205), none, [3, 203, 204, 207, 208, 209], [2]⟩,⟨some 207, .fad 8 (.t 1), none, [3, 203, 204, 205, 206, 209, 210], []⟩,⟨some 208, .load false 1 (.t 207), none, [3, 203, 204, 205, 206, 209, 210], [4]⟩,⟨some 209, .fad 6 (.t 3), none, [205, 206, 207, 208], [0, 1]⟩,⟨none, .store (some 3) 1 (.t 209) (.t 204), none, [205, 206, 207, 208], [0, 1, 6]⟩,⟨some 210, .fad 7 (.t 3), none, [207, 208], [0, 1, 2, 3, 6, 7]⟩,⟨none, .store (some 3) 1 (.t 210) (.t 206), none, [207, 208], [0, 1, 2, 3, 6, 7, 8]⟩,⟨some 211, .fad 8 (.t 3), none, [], [0, 1, 2, 3, 4, 5, 6, 7, 8, 9]⟩,⟨none, .store none 1 (.t 211) (.t 208), none, [], [0, 1, 2, 3, 4, 5, 6, 7, 8, 9, 10]⟩] true)) (.seq (.region [nO 213 (.bin .eql (.t 63) (.c (.int .i64 10))),
  mO 212 213] false) (.cond (.t 212) (.seq (.region [nO 214 (.fad 10 (.t 1)),
  nO 215 (.load false 1 (.t 214)),
  nO 216 (.call false 26 [(.t 215)]),
  mO 217 216,
  gO 218 (.fad 11 (.t 1)) 217 true,
  gO 219 (.load false 1 (.t 218)) 217 true,
  gO 220 (.call false 72 [(.t 219)]) 217 true,
  nO 221 (.pick (.t 217) (.t 220) (.c (.bool false))),
  mO 222 221,
  gO 223 (.fad 12 (.t 1)) 222 true,
  gO 224 (.load false 1 (.t 223)) 222 true,
  gO 225 (.call false 72 [(.t 224)]) 222 true,
  nO 226 (.pick (.t 222) (.t 225) (.c (.bool false))),
  mO 227 226,
  gO 228 (.fad 9 (.t 1)) 227 true,
  gO 229 (.load false 1 (.t 228)) 227 true,
  gO 230 (.call false 76 [(.t 229)]) 227 true,
  nO 231 (.pick (.t 227) (.t 230) (.c (.bool false))),
  mO 232 231,
  gO 233 (.fad 13 (.t 1)) 232 true,
  gO 234 (.load false 1 (.t 233)) 232 true,
  gO 235 (.call false 60 [(.t 234), (.c (.int .i64 0)), (.c (.int .i64 16))]) 232 true,
  nO 236 (.pick (.t 232) (.t 235) (.c (.bool false))),
  mO 4 236] false) (.region [⟨some 237, .fad 10 (.t 1), none, [239, 240, 241, 242, 243, 244, 245, 246], []⟩,⟨some 238, .load false 1 (.t 237), none, [239, 240, 241, 242, 243, 244, 245, 246], [0]⟩,⟨some 239, .fad 11 (.t 1), none, [3, 237, 238, 241, 242, 243, 244, 245, 246, 247], []⟩,⟨some 240, .load false 1 (.t 239), none, [3, 237, 238, 241, 242, 243, 244, 245, 246, 247], [2]⟩,⟨some 241, .fad 12 (.t 1), none, [3, 237, 238, 239, 240, 243, 244, 245, 246, 247, 248], []⟩,⟨some 242, .load false 1 (.t 241), none, [3, 237, 238, 239, 240, 243, 244, 245, 246, 247, 248], [4]⟩,⟨some 243, .fad 9 (.t 1), none, [3, 237, 238, 239, 240, 241, 242, 245, 246, 247, 248, 249], []⟩,⟨some 244, .load false 1 (.t 243), none, [3, 237, 238, 239, 240, 241, 242, 245, 246, 247, 248, 249], [6]⟩,⟨some 245, .fad 13 (.t 1), none, [3, 237, 238, 239, 240, 241, 242, 243, 244, 247, 248, 249, 250], []⟩,⟨some 246, .load false 1 (.t 245), none, [3, 237, 238, 239, 240, 241, 242, 243, 244, 247, 248, 249, 250], [8]⟩,⟨some 247, .fad 10 (.t 3), none, [239, 240, 241, 242, 243, 244, 245, 246], [0, 1]⟩,⟨none, .store (some 3) 1 (.t 247) (.t 238), none, [239, 240, 241, 242, 243, 244, 245, 246], [0, 1, 10]⟩,⟨some 248, .fad 11 (.t 3), none, [241, 242, 243, 244, 245, 246], [0, 1, 2, 3, 10, 11]⟩,⟨none, .store (some 3) 1 (.t 248) (.t 240), none, [241, 242, 243, 244, 245, 246], [0, 1, 2, 3, 10, 11, 12]⟩,⟨some 249, .fad 12 (.t 3), none, [243, 244, 245, 246], [0, 1, 2, 3, 4, 5, 10, 11, 12, 13]⟩,⟨none, .store (some 3) 1 (.t 249) (.t 242), none, [243, 244, 245, 246], [0, 1, 2, 3, 4, 5, 10, 11, 12, 13, 14]⟩,⟨some 250, .fad 9 (.t 3), none, [245, 246], [0, 1, 2, 3, 4, 5, 6, 7, 10, 11, 12, 13, 14, 15]⟩,⟨none, .store (some 3) 1 (.t 250) (.t 244), none, [245, 246], [0, 1, 2, 3, 4, 5, 6, 7, 10, 11, 12, 13, 14, 15, 16]⟩,⟨some 251, .fad 13 (.t 3), none, [], [0, 1, 2, 3, 4, 5, 6, 7, 8, 9, 10, 11, 12, 13, 14, 15, 16, 17]⟩,⟨none, .store none 1 (.t 251) (.t 246), none, [], [0, 1, 2, 3, 4, 5, 6, 7, 8, 9, 10, 11, 12, 13, 14, 15, 16, 17, 18]⟩] true)) (.seq (.region [nO 253 (.bin .eql (.t 63) (.c (.int .i64 11))),
  mO 252 253] false) (.cond (.t 252) (.seq (.region [nO 254 (.fad 10 (.t 1)),⟨some 255, .load false 1 (.t 254), none, [], [0]⟩,⟨some 256, .call false 26 [(.t 255)], none, [], [0, 1]⟩,⟨some 257, .mov (.t 256), none, [], [0, 1, 2]⟩,⟨some 258, .fad 11 (.t 1), some (257, true), [], [0, 1, 2, 3]⟩,⟨some 259, .load false 1 (.t 258), some (257, true), [], [0, 1, 2, 3, 4]⟩,⟨some 260, .call false 72 [(.t 259)], some (257, true), [], [0, 1, 2, 3, 4, 5]⟩,⟨some 261, .pick (.t 257) (.t 260) (.c (.bool false)), none, [], [0, 1, 2, 3, 4, 5, 6]⟩,⟨some 262, .mov (.t 261), none, [], [0, 1, 2, 3, 4, 5, 6, 7]⟩,⟨some 263, .fad 12 (.t 1), some (262, true), [], [0, 1, 2, 3, 4, 5, 6, 7, 8]⟩,⟨some 264, .load false 1 (.t 263), some (262, true), [], [0, 1, 2, 3, 4, 5, 6, 7, 8, 9]⟩,⟨some 265, .call false 60 [(.t 264), (.c (.int .i64 1)), (.c (.int .i64 40))], some (262, true), [], [0, 1, 2, 3, 4, 5, 6, 7, 8, 9, 10]⟩,⟨some 266, .pick (.t 262) (.t 265) (.c (.bool false)), none, [], [0, 1, 2, 3, 4, 5, 6, 7, 8, 9, 10, 11]⟩,⟨some 267, .mov (.t 266), none, [], [0, 1, 2, 3, 4, 5, 6, 7, 8, 9, 10, 11, 12]⟩,⟨some 268, .fad 9 (.t 1), some (267, true), [], [0, 1, 2, 3, 4, 5, 6, 7, 8, 9, 10, 11, 12, 13]⟩,⟨some 269, .load false 1 (.t 268), some (267, true), [], [0, 1, 2, 3, 4, 5, 6, 7, 8, 9, 10, 11, 12, 13, 14]⟩,⟨some 270, .call false 76 [(.t 269)], some (267, true), [], [0, 1, 2, 3, 4, 5, 6, 7, 8, 9, 10, 11, 12, 13, 14, 15]⟩,⟨some 271, .pick (.t 267) (.t 270) (.c (.bool false)), none, [], [0, 1, 2, 3, 4, 5, 6, 7, 8, 9, 10, 11, 12, 13, 14, 15, 16]⟩,⟨some 272, .mov (.t 271), none, [], [0, 1, 2, 3, 4, 5, 6, 7, 8, 9, 10, 11, 12, 13, 14, 15, 16, 17]⟩,⟨some 273, .fad 13 (.t 1), some (272, true), [], [0, 1, 2, 3, 4, 5, 6, 7, 8, 9, 10, 11, 12, 13, 14, 15, 16, 17, 18]⟩,⟨some 274, .load false 1 (.t 273), some (272, true), [], [0, 1, 2, 3, 4, 5, 6, 7, 8, 9, 10, 11, 12, 13, 14, 15, 16, 17, 18, 19]⟩,⟨some 275, .call false 60 [(.t 274), (.c (.int .i64 0)), (.c (.int .i64 16))], some (272, true), [], [0, 1, 2, 3, 4, 5, 6, 7, 8, 9, 10, 11, 12, 13, 14, 15, 16, 17, 18, 19, 20]⟩,⟨some 276, .pick (.t 272) (.t 275) (.c (.bool false)), none, [], [0, 1, 2, 3, 4, 5, 6, 7, 8, 9, 10, 11, 12, 13, 14, 15, 16, 17, 18, 19, 20, 21]⟩,⟨some 277, .mov (.t 276), none, [], [0, 1, 2, 3, 4, 5, 6, 7, 8, 9, 10, 11, 12, 13, 14, 15, 16, 17, 18, 19, 20, 21, 22]⟩,⟨some 278, .fad 14 (.t 1), some (277, true), [], [0, 1, 2, 3, 4, 5, 6, 7, 8, 9, 10, 11, 12, 13, 14, 15, 16, 17, 18, 19, 20, 21, 22, 23]⟩,⟨some 279, .load false 1 (.t 278), some (277, true), [], [0, 1, 2, 3, 4, 5, 6, 7, 8, 9, 10, 11, 12, 13, 14, 15, 16, 17, 18, 19, 20, 21, 22, 23, 24]⟩,⟨some 280, .call false 74 [(.t 279)], some (277, true), [], [0, 1, 2, 3, 4, 5, 6, 7, 8, 9, 10, 11, 12, 13, 14, 15, 16, 17, 18, 19, 20, 21, 22, 23, 24, 25]⟩,⟨some 281, .pick (.t 277) (.t 280) (.c (.bool false)), none, [], [0, 1, 2, 3, 4, 5, 6, 7, 8, 9, 10, 11, 12, 13, 14, 15, 16, 17, 18, 19, 20, 21, 22, 23, 24, 25, 26]⟩,⟨some 282, .mov (.t 281), none, [], [0, 1, 2, 3, 4, 5, 6, 7, 8, 9, 10, 11, 12, 13, 14, 15, 16, 17, 18, 19, 20, 21, 22, 23, 24, 25, 26, 27]⟩,⟨some 283, .fad 15 (.t 1), some (282, true), [], [0, 1, 2, 3, 4, 5, 6, 7, 8, 9, 10, 11, 12, 13, 14, 15, 16, 17, 18, 19, 20, 21, 22, 23, 24, 25, 26, 27, 28]⟩,⟨some 284, .load false 1 (.t 283), some (282, true), [], [0, 1, 2, 3, 4, 5, 6, 7, 8, 9, 10, 11, 12, 13, 14, 15, 16, 17, 18, 19, 20, 21, 22, 23, 24, 25, 26, 27, 28, 29]⟩,⟨some 285, .call false 74 [(.t 284)], some (282, true), [], [0, 1, 2, 3, 4, 5, 6, 7, 8, 9, 10, 11, 12, 13, 14, 15, 16, 17, 18, 19, 20, 21, 22, 23, 24, 25, 26, 27, 28, 29, 30]⟩,⟨some 286, .pick (.t 282) (.t 285) (.c (.bool false)), none, [], [0, 1, 2, 3, 4, 5, 6, 7, 8, 9, 10, 11, 12, 13, 14, 15, 16, 17, 18, 19, 20, 21, 22, 23, 24, 25, 26, 27, 28, 29, 30, 31]⟩,⟨some 287, .mov (.t 286), none, [], [0, 1, 2, 3, 4, 5, 6, 7, 8, 9, 10, 11, 12, 13, 14, 15, 16, 17, 18, 19, 20, 21, 22, 23, 24, 25, 26, 27, 28, 29, 30, 31, 32]⟩,⟨some 288, .fad 14 (.t 1), some (287, true), [291, 292], [0, 1, 2, 3, 4, 5, 6, 7, 8, 9, 10, 11, 12, 13, 14, 15, 16, 17, 18, 19, 20, 21, 22, 23, 24, 25, 26, 27, 28, 29, 30, 31, 32, 33]⟩,⟨some 289, .load false 1 (.t 288), some (287, true), [291, 292], [0, 1, 2, 3, 4, 5, 6, 7, 8, 9, 10, 11, 12, 13, 14, 15, 16, 17, 18, 19, 20, 21, 22, 23, 24, 25, 26, 27, 28, 29, 30, 31, 32, 33, 34]⟩,⟨some 290, .call true 77 [(.t 289)], some (287, true), [291, 292], [0, 1, 2, 3, 4, 5, 6, 7, 8, 9, 10, 11, 12, 13, 14, 15, 16, 17, 18, 19, 20, 21, 22, 23, 24, 25, 26, 27, 28, 29, 30, 31, 32, 33, 34, 35]⟩,⟨some 291, .fad 15 (.t 1), some (287, true), [288, 289, 290], [0, 1, 2, 3, 4, 5, 6, 7, 8, 9, 10, 11, 12, 13, 14, 15, 16, 17, 18, 19, 20, 21, 22, 23, 24, 25, 26, 27, 28, 29, 30, 31, 32, 33]⟩,⟨some 292, .load false 1 (.t 291), some (287, true), [288, 289, 290], [0, 1, 2, 3, 4, 5, 6, 7, 8, 9, 10, 11, 12, 13, 14, 15, 16, 17, 18, 19, 20, 21, 22, 23, 24, 25, 26, 27, 28, 29, 30, 31, 32, 33, 37]⟩,⟨some 293, .app 3 1 8 (.t 290) (.t 292), some (287, true), [], [0, 1, 2, 3, 4, 5, 6, 7, 8, 9, 10, 11, 12, 13, 14, 15, 16, 17, 18, 19, 20, 21, 22, 23, 24, 25, 26, 27, 28, 29, 30, 31, 32, 33, 34, 35, 36, 37, 38]⟩,⟨some 294, .call false 75 [(.t 293)], some (287, true), [], [0, 1, 2, 3, 4, 5, 6, 7, 8, 9, 10, 11, 12, 13, 14, 15, 16, 17, 18, 19, 20, 21, 22, 23, 24, 25, 26, 27, 28, 29, 30, 31, 32, 33, 34, 35, 36, 37, 38, 39]⟩,⟨some 295, .pick (.t 287) (.t 294) (.c (.bool false)), none, [], [0, 1, 2, 3, 4, 5, 6, 7, 8, 9, 10, 11, 12, 13, 14, 15, 16, 17, 18, 19, 20, 21, 22, 23, 24, 25, 26, 27, 28, 29, 30, 31, 32, 33, 34, 35, 36, 37, 38, 39, 40]⟩,⟨some 4, .mov (.t 295), none, [], [0, 1, 2, 3, 4, 5, 6, 7, 8, 9, 10, 11, 12, 13, 14, 15, 16, 17, 18, 19, 20, 21, 22, 23, 24, 25, 26, 27, 28, 29, 30, 31, 32, 33, 34, 35, 36, 37, 38, 39, 40, 41]⟩] true) (.region [⟨some 296, .fad 10 (.t 1), none, [298, 299, 300, 301, 302, 303, 304, 305, 306, 307, 308, 309], []⟩,⟨some 297, .load false 1 (.t 296), none, [298, 299, 300, 301, 302, 303, 304, 305, 306, 307, 308, 309], [0]⟩,⟨some 298, .fad 11 (.t 1), none, [3, 296, 297, 300, 301, 302, 303, 304, 305, 306, 307, 308, 309, 310], []⟩,⟨some 299, .load false 1 (.t 298), none, [3, 296, 297, 300, 301, 302, 303, 304, 305, 306, 307, 308, 309, 310], [2]⟩,⟨some 300, .fad 12 (.t 1), none, [3, 296, 297, 298, 299, 302, 303, 304, 305, 306, 307, 308, 309, 310, 311], []⟩,⟨some 301, .load false 1 (.t 300), none, [3, 296, 297, 298, 299, 302, 303, 304, 305, 306, 307, 308, 309, 310, 311], [4]⟩,⟨some 302, .fad 9 (.t 1), none, [3, 296, 297, 298, 299, 300, 301, 304, 305, 306, 307, 308, 309, 310, 311, 312], []⟩,⟨some 303, .load false 1 (.t 302), none, [3, 296, 297, 298, 299, 300, 301, 304, 305, 306, 307, 308, 309, 310, 311, 312], [6]⟩,⟨some 304, .fad 13 (.t 1), none, [3, 296, 297, 298, 299, 300, 301, 302, 303, 306, 307, 308, 309, 310, 311, 312, 313], []⟩,⟨some 305, .load false 1 (.t 304), none, [3, 296, 297, 298, 299, 300, 301, 302, 303, 306, 307, 308, 309, 310, 311, 312, 313], [8]⟩,⟨some 306, .fad 14 (.t 1), none, [3, 296, 297, 298, 299, 300, 301, 302, 303, 304, 305, 308, 309, 310, 311, 312, 313, 314], []⟩,⟨some 307, .load false 1 (.t 306), none, [3, 296, 297, 298, 299, 300, 301, 302, 303, 304, 305, 308, 309, 310, 311, 312, 313, 314], [10]⟩,⟨some 308, .fad 15 (.t 1), none, [3, 296, 297, 298, 299, 300, 301, 302, 303, 304, 305, 306, 307, 310, 311, 312, 313, 314, 315], []⟩,⟨some 309, .load false 1 (.t 308), none, [3, 296, 297, 298, 299, 300, 301, 302, 303, 304, 305, 306, 307, 310, 311, 312, 313, 314, 315], [12]⟩,⟨some 310, .fad 10 (.t 3), none, [298, 299, 300, 301, 302, 303, 304, 305, 306, 307, 308, 309], [0, 1]⟩,⟨none, .store (some 3) 1 (.t 310) (.t 297), none, [298, 299, 300, 301, 302, 303, 304, 305, 306, 307, 308, 309], [0, 1, 14]⟩,⟨some 311, .fad 11 (.t 3), none, [300, 301, 302, 303, 304, 305, 306, 307, 308, 309], [0, 1, 2, 3, 14, 15]⟩,⟨none, .store (some 3) 1 (.t 311) (.t 299), none, [300, 301, 302, 303, 304, 305, 306, 307, 308, 309], [0, 1, 2, 3, 14, 15, 16]⟩,⟨some 312, .fad 12 (.t 3), none, [302, 303, 304, 305, 306, 307, 308, 309], [0, 1, 2, 3, 4, 5, 14, 15, 16, 17]⟩,⟨none, .store (some 3) 1 (.t 312) (.t 301), none, [302, 303, 304, 305, 306, 307, 308, 309], [0, 1, 2, 3, 4, 5, 14, 15, 16, 17, 18]⟩,⟨some 313, .fad 9 (.t 3), none, [304, 305, 306, 307, 308, 309], [0, 1, 2, 3, 4, 5, 6, 7, 14, 15, 16, 17, 18, 19]⟩,⟨none, .store (some 3) 1 (.t 313) (.t 303), none, [304, 305, 306, 307, 308, 309], [0, 1, 2, 3, 4, 5, 6, 7, 14, 15, 16, 17, 18, 19, 20]⟩,⟨some 314, .fad 13 (.t 3), none, [306, 307, 308, 309], [0, 1, 2, 3, 4, 5, 6, 7, 8, 9, 14, 15, 16, 17, 18, 19, 20, 21]⟩,⟨none, .store (some 3) 1 (.t 314) (.t 305), none, [306, 307, 308, 309], [0, 1, 2, 3, 4, 5, 6, 7, 8, 9, 14, 15, 16, 17, 18, 19, 20, 21, 22]⟩,⟨some 315, .fad 14 (.t 3), none, [308, 309], [0, 1, 2, 3, 4, 5, 6, 7, 8, 9, 10, 11, 14, 15, 16, 17, 18, 19, 20, 21, 22, 23]⟩,⟨none, .store (some 3) 1 (.t 315) (.t 307), none, [308, 309], [0, 1, 2, 3, 4, 5, 6, 7, 8, 9, 10, 11, 14, 15, 16, 17, 18, 19, 20, 21, 22, 23, 24]⟩,⟨some 316, .fad 15 (.t 3), none, [], [0, 1, 2, 3, 4, 5, 6, 7, 8, 9, 10, 11, 12, 13, 14, 15, 16, 17, 18, 19, 20, 21, 22, 23, 24, 25]⟩,⟨none, .store none 1 (.t 316) (.t 309), none, [], [0, 1, 2, 3, 4, 5, 6, 7, 8, 9, 10, 11, 12, 13, 14, 15, 16, 17, 18, 19, 20, 21, 22, 23, 24, 25, 26]⟩] true)) (.seq (.region [nO 318 (.bin .eql (.t 63) (.c (.int .i64 12))),
  mO 317 318] false) (.cond (.t 317) (.seq (.region [nO 319 (.fad 12 (.t 1)),
  nO 320 (.load false 1 (.t 319)),
  nO 321 (.call false 60 [(.t 320), (.c (.int .i64 1)), (.c (.int .i64 40))]),
  mO 322 321,
  gO 323 (.fad 9 (.t 1)) 322 true,
  gO 324 (.load false 1 (.t 323)) 322 true,
  gO 325 (.call false 26 [(.t 324)]) 322 true,
  nO 326 (.pick (.t 322) (.t 325) (.c (.bool false))),
  mO 4 326] false) (.region [⟨some 327, .fad 12 (.t 1), none, [329, 330], []⟩,⟨some 328, .load false 1 (.t 327), none, [329, 330], [0]⟩,⟨some 329, .fad 9 (.t 1), none, [3, 327, 328, 331], []⟩,⟨some 330, .load false 1 (.t 329), none, [3, 327, 328, 331], [2]⟩,⟨some 331, .fad 12 (.t 3), none, [329, 330], [0, 1]⟩,⟨none, .store (some 3) 1 (.t 331) (.t 328), none, [329, 330], [0, 1, 4]⟩,⟨some 332, .fad 9 (.t 3), none, [], [0, 1, 2, 3, 4, 5]⟩,⟨none, .store none 1 (.t 332) (.t 330), none, [], [0, 1, 2, 3, 4, 5, 6]⟩] true)) (.seq (.region [nO 334 (.bin .eql (.t 63) (.c (.int .i64 13))),
  mO 333 334] false) (.cond (.t 333) (.seq (.region [nO 335 (.fad 12 (.t 1)),
  nO 336 (.load false 1 (.t 335)),
  nO 337 (.call false 60 [(.t 336), (.c (.int .i64 1)), (.c (.int .i64 40))]),
  mO 4 337] false) (.region [nO 338 (.fad 12 (.t 1)),
  nO 339 (.load false 1 (.t 338)),
  nO 340 (.fad 12 (.t 3)),⟨none, .store none 1 (.t 340) (.t 339), none, [], []⟩] false)) .skip)))))))))))))))))))))) (.seq (.region [mO 341 4,
  mO 342 341,
  gO 343 (.load true 16 (.t 3)) 342 true,
  gO 344 (.load true 16 (.t 1)) 342 true,
  gO 345 (.call false 78 [(.t 343), (.t 344)]) 342 true,
  nO 346 (.pick (.t 342) (.t 345) (.c (.bool false))),
  mO 2 346] false) .ret)))))))
def i32 : F := ⟨1, 347, j32, [.t 2]⟩
theorem b32 : i32.body = j32 := rfl
theorem q32 : i32.res = [.t 2] := rfl
theorem c32 : chkF Tryz.prog Tryz.f32 i32 = true := by kernel_rfl
theorem s32 {m E} (hE : HE E) (hm : HM i32 m E) : Sound Tryz.prog 32 m := sound_of i32 Tryz.func32 rfl c32 hE hm
def j33 : C := (.seq (.region [nO 6 (.box (.t 0)),
  nO 9 (.box (.t 3)),
  nO 11 (.box (.t 5)),
  nO 12 (.alloc [.bool false, .bool false, .int .i64 0, .int .i64 0, .int .i64 0, .int .i64 0, .int .i64 0, .int .i64 0, .row [], .row [], .int .i64 0, .int .i64 0, .int .i64 0, .row [], .row [], .row []]),
  nO 13 (.mov (.c (.int .i64 0)))] false) (.seq (.region [nO 17 (.load true 7 (.t 6)),
  mO 18 1,
  mO 19 2,
  nO 20 (.load true 16 (.t 9)),
  nO 21 (.call false 18 [(.t 17), (.t 18), (.t 19), (.t 20)]),
  mO 14 21] false) (.seq (.block 0 (.seq (.region [mO 23 14,
  nO 24 (.bin .neq (.t 23) (.c (.int .i64 0))),
  mO 22 24] false) (.cond (.t 22) (.seq (.region [nO 25 (.build [.bool false, .bool false, .int .i64 0, .int .i64 0, .int .i64 0, .int .i64 0, .int .i64 0, .int .i64 0, .row [], .row [], .int .i64 0, .int .i64 0, .int .i64 0, .row [], .row [], .row []] []),
  mO 26 14,⟨none, .store none 16 (.t 12) (.t 25), none, [], []⟩,
  mO 13 26] false) .ret) (.seq (.region [nO 28 (.load true 16 (.t 11)),
  nO 29 (.call false 79 [(.t 28)]),
  nO 30 (.bin .neq (.t 29) (.c (.int .i64 0))),
  mO 31 30,
  gO 32 (.fad 0 (.t 11)) 31 false,
  gO 33 (.load false 1 (.t 32)) 31 false,
  gO 34 (.bin .neq (.t 33) (.c (.int .i64 3))) 31 false,
  nO 35 (.pick (.t 31) (.c (.bool true)) (.t 34)),
  mO 36 35,
  gO 37 (.fad 5 (.t 11)) 36 false,
  gO 38 (.load false 1 (.t 37)) 36 false,
  mG 39 1 36 false,
  gO 40 (.bin .neq (.t 38) (.t 39)) 36 false,
  nO 41 (.pick (.t 36) (.c (.bool true)) (.t 40)),
  mO 42 41,
  gO 43 (.fad 1 (.t 11)) 42 false,
  gO 44 (.load false 1 (.t 43)) 42 false,
  mG 45 4 42 false,
  gO 46 (.bin .neq (.t 44) (.t 45)) 42 false,
  nO 47 (.pick (.t 42) (.c (.bool true)) (.t 46)),
  mO 27 47] false) (.cond (.t 27) (.seq (.region [nO 48 (.build [.bool false, .bool false, .int .i64 0, .int .i64 0, .int .i64 0, .int .i64 0, .int .i64 0, .int .i64 0, .row [], .row [], .int .i64 0, .int .i64 0, .int .i64 0, .row [], .row [], .row []] []),⟨none, .store none 16 (.t 12) (.t 48), none, [], []⟩,
  nO 13 (.mov (.c (.int .i64 1)))] false) .ret) .skip))))) (.seq (.region [nO 49 (.load true 16 (.t 9)),
  nO 50 (.call false 50 [(.t 49)]),
  nO 15 (.alloc [.bool false, .bool false, .int .i64 0, .int .i64 0, .int .i64 0, .int .i64 0, .int .i64 0, .int .i64 0, .row [], .row [], .int .i64 0, .int .i64 0, .int .i64 0, .row [], .row [], .row []]),⟨none, .store none 16 (.t 15) (.t 50), none, [], []⟩] false) (.seq (.seq (.region [nO 51 (.fad 5 (.t 9)),
  nO 52 (.load false 1 (.t 51)),
  mO 53 4,
  nO 54 (.bin .add (.t 53) (.c (.int .i64 1))),
  nO 55 (.bin .neq (.t 52) (.t 54)),
  mO 56 55,
  gO 57 (.fad 3 (.t 9)) 56 false,
  gO 58 (.load false 1 (.t 57)) 56 false,
  gO 59 (.bin .neq (.t 58) (.c (.int .i64 0))) 56 false,
  nO 60 (.pick (.t 56) (.c (.bool true)) (.t 59)),
  mO 61 60,
  mG 62 1 61 false,
  mG 63 2 61 false,
  gO 64 (.fad 14 (.t 11)) 61 false,
  gO 65 (.load false 1 (.t 64)) 61 false,
  gO 66 (.fad 3 (.t 6)) 61 false,
  gO 67 (.load false 1 (.t 66)) 61 false,
  gO 68 (.call false 31 [(.t 62), (.t 63), (.t 65), (.t 67)]) 61 false,
  gO 69 (.bin .neq (.t 68) (.c (.int .i64 0))) 61 false,
  nO 70 (.pick (.t 61) (.c (.bool true)) (.t 69))] false) (.cond (.t 70) (.seq (.region [nO 71 (.load true 16 (.t 15)),⟨none, .store none 16 (.t 12) (.t 71), none, [], []⟩,
  nO 13 (.mov (.c (.int .i64 0)))] false) .ret) .skip)) (.seq (.region [mO 72 4,
  nO 73 (.bin .add (.t 72) (.c (.int .i64 1))),
  nO 74 (.fad 14 (.t 11)),
  nO 75 (.load false 1 (.t 74)),
  nO 76 (.call false 80 [(.t 75)]),
  nO 77 (.fad 4 (.t 15)),⟨none, .store none 1 (.t 77) (.t 73), none, [], []⟩,
  nO 78 (.fad 8 (.t 15)),⟨none, .store none 1 (.t 78) (.t 76), none, [], []⟩,
  nO 79 (.fad 7 (.t 15)),⟨none, .store none 1 (.t 79) (.c (.int .i64 0)), none, [], []⟩] false) (.seq (.region [nO 80 (.fad 2 (.t 15)),
  nO 81 (.load false 1 (.t 80)),
  nO 82 (.fad 8 (.t 11)),
  nO 83 (.load false 1 (.t 82)),
  nO 84 (.fad 6 (.t 11)),
  nO 85 (.load false 1 (.t 84)),
  nO 86 (.mx3 (.t 81) (.t 83) (.t 85)),
  nO 87 (.fad 2 (.t 15)),⟨none, .store none 1 (.t 87) (.t 86), none, [], []⟩] false) (.seq (.region [nO 89 (.load true 7 (.t 6)),
  nO 90 (.fad 10 (.t 9)),
  nO 91 (.load true 5 (.t 90)),
  nO 92 (.fad 6 (.t 11)),
  nO 93 (.load false 1 (.t 92)),
  nO 94 (.fad 7 (.t 11)),
  nO 95 (.load false 1 (.t 94)),
  nO 96 (.call false 81 [(.t 89), (.t 91), (.t 93), (.t 95)]),
  mO 88 96,
  nO 97 (.ext (.t 88) 0),
  nO 98 (.ext (.t 88) 1),
  nO 16 (.alloc [.int .i64 0, .int .i64 0, .int .i64 0, .row [], .row []]),⟨none, .store none 5 (.t 16) (.t 97), none, [], []⟩,
  mO 14 98] false) (.seq (.seq (.region [mO 99 14,
  nO 100 (.bin .eql (.t 99) (.c (.int .i64 0)))] false) (.cond (.t 100) (.region [nO 101 (.load true 5 (.t 16)),
  nO 102 (.fad 10 (.t 15)),⟨none, .store none 5 (.t 102) (.t 101), none, [], []⟩] false) .skip)) (.seq (.region [nO 103 (.load true 16 (.t 15)),⟨none, .store none 16 (.t 12) (.t 103), none, [], []⟩,
  nO 13 (.mov (.c (.int .i64 0)))] false) .ret))))))))))
def i33 : F := ⟨6, 104, j33, [.c 12 16 true, .t 13]⟩
theorem b33 : i33.body = j33 := rfl
theorem q33 : i33.res = [.c 12 16 true, .t 13] := rfl
theorem c33 : chkF Tryz.prog Tryz.f33 i33 = true := by kernel_rfl
theorem s33 {m E} (hE : HE E) (hm : HM i33 m E) : Sound Tryz.prog 33 m := sound_of i33 Tryz.func33 rfl c33 hE hm
def j34 : C := (.seq (.region [nO 4 (.mov (.c (.bool false)))] false) (.seq (.seq (.region [mO 6 0,
  nO 7 (.len (.t 6)),
  mO 8 1,
  nO 9 (.len (.t 8)),
  nO 10 (.bin .neq (.t 7) (.t 9))] false) (.cond (.t 10) (.seq (.region [nO 4 (.mov (.c (.bool false)))] false) .ret) .skip)) (.seq (.seq (.region [nO 5 (.mov (.c (.int .i64 0)))] false) (.block 0 (.loop (.keep [0, 1, 5] (.seq (.seq (.region [mO 11 5,
  mO 12 0,
  nO 13 (.len (.t 12)),
  nO 14 (.bin .lss (.t 11) (.t 13))] false) (.cond (.t 14) .skip (.exit 0))) (.seq (.block 1 (.seq (.region [⟨some 17, .mov (.t 0), none, [18, 21, 22, 23, 24], []⟩,⟨some 18, .mov (.t 5), none, [17, 21, 22, 23, 24], []⟩,⟨some 19, .iad 1 (.t 17) (.t 18), none, [21, 22, 23, 24], [0, 1]⟩,⟨some 20, .load false 1 (.t 19), none, [21, 22, 23, 24], [0, 1, 2]⟩,⟨some 21, .mov (.t 1), none, [17, 18, 19, 20, 22], []⟩,⟨some 22, .mov (.t 5), none, [17, 18, 19, 20, 21], []⟩,⟨some 23, .iad 1 (.t 21) (.t 22), none, [17, 18, 19, 20], [4, 5]⟩,⟨some 24, .load false 1 (.t 23), none, [17, 18, 19, 20], [4, 5, 6]⟩,⟨some 25, .bin .neq (.t 20) (.t 24), none, [], [0, 1, 2, 3, 4, 5, 6, 7]⟩] true) (.cond (.t 25) (.seq (.region [nO 4 (.mov (.c (.bool false)))] false) .ret) .skip))) (.region [mO 15 5,
  nO 16 (.bin .add (.t 15) (.c (.int .i64 1))),
  mO 5 16] false))))))) (.seq (.region [nO 4 (.mov (.c (.bool true)))] false) .ret))))
def i34 : F := ⟨2, 26, j34, [.t 4]⟩
theorem b34 : i34.body = j34 := rfl
theorem q34 : i34.res = [.t 4] := rfl
theorem c34 : chkF Tryz.prog Tryz.f34 i34 = true := by kernel_rfl
theorem s34 {m E} (hE : HE E) (hm : HM i34 m E) : Sound Tryz.prog 34 m := sound_of i34 Tryz.func34 rfl c34 hE hm
def j36 : C := (.seq (.region [nO 1 (.box (.t 0)),
  nO 2 (.mov (.c (.bool false)))] false) (.seq (.region [nO 3 (.fad 14 (.t 1)),
  nO 4 (.load false 1 (.t 3)),
  nO 5 (.len (.t 4)),
  nO 6 (.bin .gtr (.t 5) (.c (.int .i64 30))),
  mO 7 6,
  gO 8 (.fad 15 (.t 1)) 7 false,
  gO 9 (.load false 1 (.t 8)) 7 false,
  gO 10 (.len (.t 9)) 7 false,
  gO 11 (.bin .gtr (.t 10) (.c (.int .i64 30))) 7 false,
  nO 12 (.pick (.t 7) (.c (.bool true)) (.t 11)),
  mO 2 12] false) .ret))
def i36 : F := ⟨1, 13, j36, [.t 2]⟩
theorem b36 : i36.body = j36 := rfl
theorem q36 : i36.res = [.t 2] := rfl
theorem c36 : chkF Tryz.prog Tryz.f36 i36 = true := by kernel_rfl
theorem s36 {m E} (hE : HE E) (hm : HM i36 m E) : Sound Tryz.prog 36 m := sound_of i36 Tryz.func36 rfl c36 hE hm
def j37 : C := (.seq (.region [nO 1 (.box (.t 0)),
  nO 2 (.alloc [.bool false, .bool false, .int .i64 0, .int .i64 0, .int .i64 0, .int .i64 0, .int .i64 0, .int .i64 0, .row [], .row [], .int .i64 0, .int .i64 0, .int .i64 0, .row [], .row [], .row []])] false) (.seq (.region [⟨some 3, .fad 8 (.t 1), none, [6, 7, 9, 10, 12, 13], []⟩,⟨some 4, .load false 1 (.t 3), none, [6, 7, 9, 10, 12, 13], [0]⟩,⟨some 5, .call false 77 [(.t 4)], none, [6, 7, 9, 10, 12, 13], [0, 1]⟩,⟨some 6, .fad 9 (.t 1), none, [3, 4, 5, 9, 10, 12, 13], []⟩,⟨some 7, .load false 1 (.t 6), none, [3, 4, 5, 9, 10, 12, 13], [3]⟩,⟨some 8, .call false 82 [(.t 7)], none, [9, 10, 12, 13, 15], [0, 1, 2, 3, 4]⟩,⟨some 9, .fad 10 (.t 1), none, [3, 4, 5, 6, 7, 8, 12, 13], []⟩,⟨some 10, .load true 5 (.t 9), none, [3, 4, 5, 6, 7, 8, 12, 13], [6]⟩,⟨some 11, .call false 83 [(.t 10)], none, [12, 13, 15], [0, 1, 2, 3, 4, 5, 6, 7]⟩,⟨some 12, .fad 15 (.t 1), none, [3, 4, 5, 6, 7, 8, 9, 10, 11], []⟩,⟨some 13, .load false 1 (.t 12), none, [3, 4, 5, 6, 7, 8, 9, 10, 11], [9]⟩,⟨some 14, .call false 84 [(.t 13)], none, [15], [0, 1, 2, 3, 4, 5, 6, 7, 8, 9, 10]⟩,⟨some 15, .fad 8 (.t 1), none, [8, 11, 14], [0, 1, 2, 3, 4, 6, 7, 9, 10]⟩,⟨none, .store none 1 (.t 15) (.t 5), none, [], [0, 1, 2, 3, 4, 5, 6, 7, 8, 9, 10, 11, 12]⟩,⟨some 16, .fad 9 (.t 1), none, [], [0, 1, 2, 3, 4, 5, 6, 7, 8, 9, 10, 11, 12, 13]⟩,⟨none, .store none 1 (.t 16) (.t 8), none, [], [0, 1, 2, 3, 4, 5, 6, 7, 8, 9, 10, 11, 12, 13, 14]⟩,⟨some 17, .fad 10 (.t 1), none, [], [0, 1, 2, 3, 4, 5, 6, 7, 8, 9, 10, 11, 12, 13, 14, 15]⟩,⟨none, .store none 5 (.t 17) (.t 11), none, [], [0, 1, 2, 3, 4, 5, 6, 7, 8, 9, 10, 11, 12, 13, 14, 15, 16]⟩,⟨some 18, .fad 15 (.t 1), none, [], [0, 1, 2, 3, 4, 5, 6, 7, 8, 9, 10, 11, 12, 13, 14, 15, 16, 17]⟩,⟨none, .store none 1 (.t 18) (.t 14), none, [], [0, 1, 2, 3, 4, 5, 6, 7, 8, 9, 10, 11, 12, 13, 14, 15, 16, 17, 18]⟩] true) (.seq (.region [nO 19 (.load true 16 (.t 1)),⟨none, .store none 16 (.t 2) (.t 19), none, [], []⟩] false) .ret)))
def i37 : F := ⟨1, 20, j37, [.c 2 16 true]⟩
theorem b37 : i37.body = j37 := rfl
theorem q37 : i37.res = [.c 2 16 true] := rfl
theorem c37 : chkF Tryz.prog Tryz.f37 i37 = true := by kernel_rfl
theorem s37 {m E} (hE : HE E) (hm : HM i37 m E) : Sound Tryz.prog 37 m := sound_of i37 Tryz.func37 rfl c37 hE hm
def j38 : C := (.seq (.region [nO 6 (.box (.t 0)),
  nO 9 (.box (.t 3)),
  nO 12 (.alloc [.bool false, .bool false, .int .i64 0, .int .i64 0, .int .i64 0, .int .i64 0, .int .i64 0, .int .i64 0, .row [], .row [], .int .i64 0, .int .i64 0, .int .i64 0, .row [], .row [], .row []]),
  nO 13 (.mov (.c (.int .i64 0)))] false) (.seq (.region [nO 16 (.load true 7 (.t 6)),
  mO 17 1,
  mO 18 2,
  nO 19 (.load true 16 (.t 9)),
  nO 20 (.call false 18 [(.t 16), (.t 17), (.t 18), (.t 19)]),
  mO 14 20] false) (.seq (.block 0 (.seq (.region [mO 22 14,
  nO 23 (.bin .neq (.t 22) (.c (.int .i64 0))),
  mO 21 23] false) (.cond (.t 21) (.seq (.region [nO 24 (.build [.bool false, .bool false, .int .i64 0, .int .i64 0, .int .i64 0, .int .i64 0, .int .i64 0, .int .i64 0, .row [], .row [], .int .i64 0, .int .i64 0, .int .i64 0, .row [], .row [], .row []] []),
  mO 25 14,⟨none, .store none 16 (.t 12) (.t 24), none, [], []⟩,
  mO 13 25] false) .ret) (.seq (.region [mO 27 4,
  nO 28 (.call false 85 [(.t 27)]),
  nO 29 (.un .not (.t 28)),
  mO 30 29,
  mG 31 5 30 false,
  gO 32 (.call false 85 [(.t 31)]) 30 false,
  gO 33 (.un .not (.t 32)) 30 false,
  nO 34 (.pick (.t 30) (.c (.bool true)) (.t 33)),
  mO 26 34] false) (.cond (.t 26) (.seq (.region [nO 35 (.build [.bool false, .bool false, .int .i64 0, .int .i64 0, .int .i64 0, .int .i64 0, .int .i64 0, .int .i64 0, .row [], .row [], .int .i64 0, .int .i64 0, .int .i64 0, .row [], .row [], .row []] []),⟨none, .store none 16 (.t 12) (.t 35), none, [], []⟩,
  nO 13 (.mov (.c (.int .i64 1)))] false) .ret) (.seq (.region [nO 37 (.fad 5 (.t 9)),
  nO 38 (.load false 1 (.t 37)),
  mO 39 4,
  nO 40 (.bin .add (.t 39) (.c (.int .i64 1))),
  nO 41 (.bin .neq (.t 38) (.t 40)),
  mO 42 41,
  mG 43 1 42 false,
  mG 44 5 42 false,
  mG 45 2 42 false,
  gO 46 (.call false 28 [(.t 43), (.t 44), (.t 45)]) 42 false,
  gO 47 (.un .not (.t 46)) 42 false,
  nO 48 (.pick (.t 42) (.c (.bool true)) (.t 47)),
  mO 36 48] false) (.cond (.t 36) (.seq (.region [nO 49 (.load true 16 (.t 9)),
  nO 50 (.call false 50 [(.t 49)]),⟨none, .store none 16 (.t 12) (.t 50), none, [], []⟩,
  nO 13 (.mov (.c (.int .i64 0)))] false) .ret) .skip))))))) (.seq (.region [nO 51 (.load true 16 (.t 9)),
  nO 52 (.call false 86 [(.t 51)]),
  nO 15 (.alloc [.bool false, .bool false, .int .i64 0, .int .i64 0, .int .i64 0, .int .i64 0, .int .i64 0, .int .i64 0, .row [], .row [], .int .i64 0, .int .i64 0, .int .i64 0, .row [], .row [], .row []]),⟨none, .store none 16 (.t 15) (.t 52), none, [], []⟩] false) (.seq (.region [mO 53 5,
  nO 54 (.bin .add (.t 53) (.c (.int .i64 1))),
  nO 55 (.fad 6 (.t 15)),⟨none, .store none 1 (.t 55) (.t 54), none, [], []⟩] false) (.seq (.region [nO 56 (.load true 16 (.t 15)),⟨none, .store none 16 (.t 12) (.t 56), none, [], []⟩,
  nO 13 (.mov (.c (.int .i64 0)))] false) .ret))))))
def i38 : F := ⟨6, 57, j38, [.c 12 16 true, .t 13]⟩
theorem b38 : i38.body = j38 := rfl
theorem q38 : i38.res = [.c 12 16 true, .t 13] := rfl
theorem c38 : chkF Tryz.prog Tryz.f38 i38 = true := by kernel_rfl
theorem s38 {m E} (hE : HE E) (hm : HM i38 m E) : Sound Tryz.prog 38 m := sound_of i38 Tryz.func38 rfl c38 hE hm
def j39 : C := (.seq (.region [nO 4 (.box (.t 0)),
  nO 7 (.box (.t 3)),
  nO 8 (.alloc [.bool false, .bool false, .int .i64 0, .int .i64 0, .int .i64 0, .int .i64 0, .int .i64 0, .int .i64 0, .row [], .row [], .int .i64 0, .int .i64 0, .int .i64 0, .row [], .row [], .row []]),
  nO 9 (.mov (.c (.int .i64 0)))] false) (.seq (.region [nO 11 (.load true 7 (.t 4)),
  mO 12 1,
  mO 13 2,
  nO 14 (.load true 16 (.t 7)),
  nO 15 (.call false 18 [(.t 11), (.t 12), (.t 13), (.t 14)]),
  mO 10 15] false) (.seq (.seq (.region [mO 16 10,
  nO 17 (.bin .neq (.t 16) (.c (.int .i64 0)))] false) (.cond (.t 17) (.seq (.region [nO 18 (.build [.bool false, .bool false, .int .i64 0, .int .i64 0, .int .i64 0, .int .i64 0, .int .i64 0, .int .i64 0, .row [], .row [], .int .i64 0, .int .i64 0, .int .i64 0, .row [], .row [], .row []] []),
  mO 19 10,⟨none, .store none 16 (.t 8) (.t 18), none, [], []⟩,
  mO 9 19] false) .ret) .skip)) (.seq (.region [nO 20 (.load true 16 (.t 7)),
  nO 21 (.call false 86 [(.t 20)]),⟨none, .store none 16 (.t 8) (.t 21), none, [], []⟩,
  nO 9 (.mov (.c (.int .i64 0)))] false) .ret))))
def i39 : F := ⟨4, 22, j39, [.c 8 16 true, .t 9]⟩
theorem b39 : i39.body = j39 := rfl
theorem q39 : i39.res = [.c 8 16 true, .t 9] := rfl
theorem c39 : chkF Tryz.prog Tryz.f39 i39 = true := by kernel_rfl
theorem s39 {m E} (hE : HE E) (hm : HM i39 m E) : Sound Tryz.prog 39 m := sound_of i39 Tryz.func39 rfl c39 hE hm
def j40 : C := (.seq (.region [nO 1 (.box (.t 0)),
  nO 2 (.mov (.c (.bool false)))] false) (.seq (.region [nO 3 (.fad 0 (.t 1)),
  nO 4 (.load false 1 (.t 3)),
  nO 5 (.call false 60 [(.t 4), (.c (.int .i64 1)), (.c (.int .i64 8))]),
  mO 6 5,
  gO 7 (.fad 1 (.t 1)) 6 true,
  gO 8 (.load false 1 (.t 7)) 6 true,
  gO 9 (.call false 60 [(.t 8), (.c (.int .i64 1)), (.c (.int .i64 4))]) 6 true,
  nO 10 (.pick (.t 6) (.t 9) (.c (.bool false))),
  mO 11 10,
  gO 12 (.fad 2 (.t 1)) 11 true,
  gO 13 (.load false 1 (.t 12)) 11 true,
  gO 14 (.call false 60 [(.t 13), (.c (.int .i64 1)), (.c (.int .i64 4))]) 11 true,
  nO 15 (.pick (.t 11) (.t 14) (.c (.bool false))),
  mO 16 15,
  gO 17 (.fad 3 (.t 1)) 16 true,
  gO 18 (.load false 1 (.t 17)) 16 true,
  gO 19 (.call false 60 [(.t 18), (.c (.int .i64 1)), (.c (.int .i64 8))]) 16 true,
  nO 20 (.pick (.t 16) (.t 19) (.c (.bool false))),
  mO 21 20,
  gO 22 (.fad 4 (.t 1)) 21 true,
  gO 23 (.load false 1 (.t 22)) 21 true,
  gO 24 (.call false 60 [(.t 23), (.c (.int .i64 1)), (.c (.int .i64 16))]) 21 true,
  nO 25 (.pick (.t 21) (.t 24) (.c (.bool false))),
  mO 26 25,
  gO 27 (.fad 5 (.t 1)) 26 true,
  gO 28 (.load false 1 (.t 27)) 26 true,
  gO 29 (.call false 60 [(.t 28), (.c (.int .i64 1)), (.c (.int .i64 16))]) 26 true,
  nO 30 (.pick (.t 26) (.t 29) (.c (.bool false))),
  mO 31 30,
  gO 32 (.fad 6 (.t 1)) 31 true,
  gO 33 (.load false 1 (.t 32)) 31 true,
  gO 34 (.call false 60 [(.t 33), (.c (.int .i64 2)), (.c (.int .i64 32))]) 31 true,
  nO 35 (.pick (.t 31) (.t 34) (.c (.bool false))),
  mO 2 35] false) .ret))
def i40 : F := ⟨1, 36, j40, [.t 2]⟩
theorem b40 : i40.body = j40 := rfl
theorem q40 : i40.res = [.t 2] := rfl
theorem c40 : chkF Tryz.prog Tryz.f40 i40 = true := by kernel_rfl
theorem s40 {m E} (hE : HE E) (hm : HM i40 m E) : Sound Tryz.prog 40 m := sound_of i40 Tryz.func40 rfl c40 hE hm
def j41 : C := (.seq (.region [nO 3 (.box (.t 0)),
  nO 6 (.mov (.c (.bool false)))] false) (.seq (.region [mO 7 1,
  nO 8 (.fad 1 (.t 3)),
  nO 9 (.load false 1 (.t 8)),
  nO 10 (.bin .sub (.t 9) (.c (.int .i64 1))),
  nO 11 (.call false 87 [(.t 7), (.c (.int .i64 0)), (.t 10)]),
  mO 12 11,
  mG 13 2 12 true,
  gO 14 (.fad 0 (.t 3)) 12 true,
  gO 15 (.load false 1 (.t 14)) 12 true,
  gO 16 (.bin .sub (.t 15) (.c (.int .i64 1))) 12 true,
  gO 17 (.call false 87 [(.t 13), (.c (.int .i64 0)), (.t 16)]) 12 true,
  nO 18 (.pick (.t 12) (.t 17) (.c (.bool false))),
  mO 6 18] false) .ret))
def i41 : F := ⟨3, 19, j41, [.t 6]⟩
theorem b41 : i41.body = j41 := rfl
theorem q41 : i41.res = [.t 6] := rfl
theorem c41 : chkF Tryz.prog Tryz.f41 i41 = true := by kernel_rfl
theorem s41 {m E} (hE : HE E) (hm : HM i41 m E) : Sound Tryz.prog 41 m := sound_of i41 Tryz.func41 rfl c41 hE hm
def j42 : C := (.seq (.region [nO 4 (.box (.t 0)),
  nO 7 (.box (.t 3)),
  nO 8 (.mov (.c (.bool false)))] false) (.seq (.seq (.region [nO 9 (.fad 2 (.t 7)),
  nO 10 (.load false 1 (.t 9)),
  nO 11 (.call false 87 [(.t 10), (.c (.int .i64 0)), (.c (.int .i64 1073741824))]),
  nO 12 (.un .not (.t 11)),
  mO 13 12,
  gO 14 (.fad 3 (.t 7)) 13 false,
  gO 15 (.load false 1 (.t 14)) 13 false,
  gO 16 (.bin .neq (.t 15) (.c (.int .i64 0))) 13 false,
  mG 17 16 13 false,
  gO 18 (.fad 3 (.t 7)) 17 true,
  gO 19 (.load false 1 (.t 18)) 17 true,
  gO 20 (.call false 88 [(.t 19)]) 17 true,
  gO 21 (.un .not (.t 20)) 17 true,
  mG 22 21 17 true,
  gO 23 (.fad 3 (.t 7)) 22 false,
  gO 24 (.load false 1 (.t 23)) 22 false,
  gO 25 (.bin .rem (.t 24) (.c (.int .i64 16))) 22 false,
  mG 26 2 22 false,
  gO 27 (.bin .neq (.t 25) (.t 26)) 22 false,
  gO 28 (.pick (.t 22) (.c (.bool true)) (.t 27)) 17 true,
  mG 29 28 17 true,
  gO 30 (.fad 3 (.t 7)) 29 false,
  gO 31 (.load false 1 (.t 30)) 29 false,
  gO 32 (.fad 2 (.t 7)) 29 false,
  gO 33 (.load false 1 (.t 32)) 29 false,
  gO 34 (.bin .gtr (.t 31) (.t 33)) 29 false,
  gO 35 (.pick (.t 29) (.c (.bool true)) (.t 34)) 17 true,
  gO 36 (.pick (.t 17) (.t 35) (.c (.bool false))) 13 false,
  nO 37 (.pick (.t 13) (.c (.bool true)) (.t 36)),
  mO 38 37,
  mG 39 1 38 false,
  mG 40 2 38 false,
  gO 41 (.fad 4 (.t 7)) 38 false,
  gO 42 (.load false 1 (.t 41)) 38 false,
  gO 43 (.call false 89 [(.t 39), (.t 40), (.t 42)]) 38 false,
  gO 44 (.un .not (.t 43)) 38 false,
  nO 45 (.pick (.t 38) (.c (.bool true)) (.t 44)),
  mO 46 45,
  mG 47 1 46 false,
  mG 48 2 46 false,
  gO 49 (.fad 5 (.t 7)) 46 false,
  gO 50 (.load false 1 (.t 49)) 46 false,
  gO 51 (.call false 89 [(.t 47), (.t 48), (.t 50)]) 46 false,
  gO 52 (.un .not (.t 51)) 46 false,
  nO 53 (.pick (.t 46) (.c (.bool true)) (.t 52)),
  mO 54 53,
  mG 55 1 54 false,
  mG 56 2 54 false,
  gO 57 (.fad 6 (.t 7)) 54 false,
  gO 58 (.load false 1 (.t 57)) 54 false,
  gO 59 (.call false 89 [(.t 55), (.t 56), (.t 58)]) 54 false,
  gO 60 (.un .not (.t 59)) 54 false,
  nO 61 (.pick (.t 54) (.c (.bool true)) (.t 60)),
  mO 62 61,
  gO 63 (.fad 7 (.t 7)) 62 false,
  gO 64 (.load false 1 (.t 63)) 62 false,
  gO 65 (.call false 87 [(.t 64), (.c (.int .i64 0)), (.c (.int .i64 1000))]) 62 false,
  gO 66 (.un .not (.t 65)) 62 false,
  nO 67 (.pick (.t 62) (.c (.bool true)) (.t 66))] false) (.cond (.t 67) (.seq (.region [nO 8 (.mov (.c (.bool false)))] false) .ret) .skip)) (.seq (.seq (.region [⟨some 68, .mov (.t 1), none, [69, 70, 71, 72, 73], []⟩,⟨some 69, .mov (.t 2), none, [68, 70, 71, 72, 73], []⟩,⟨some 70, .fad 8 (.t 7), none, [68, 69, 72, 73], []⟩,⟨some 71, .load false 1 (.t 70), none, [68, 69, 72, 73], [2]⟩,⟨some 72, .fad 3 (.t 4), none, [68, 69, 70, 71], []⟩,⟨some 73, .load false 1 (.t 72), none, [68, 69, 70, 71], [4]⟩,⟨some 74, .call false 90 [(.t 68), (.t 69), (.t 71), (.t 73)], none, [], [0, 1, 2, 3, 4, 5]⟩,⟨some 75, .bin .neq (.t 74) (.c (.int .i64 0)), none, [], [0, 1, 2, 3, 4, 5, 6]⟩,⟨some 76, .mov (.t 75), none, [], [0, 1, 2, 3, 4, 5, 6, 7]⟩,⟨some 77, .fad 8 (.t 7), some (76, false), [81, 82, 83], [0, 1, 2, 3, 4, 5, 6, 7, 8]⟩,⟨some 78, .load false 1 (.t 77), some (76, false), [81, 82, 83], [0, 1, 2, 3, 4, 5, 6, 7, 8, 9]⟩,⟨some 79, .len (.t 78), some (76, false), [81, 82, 83], [0, 1, 2, 3, 4, 5, 6, 7, 8, 9, 10]⟩,⟨some 80, .bin .gtr (.t 79) (.c (.int .i64 0)), some (76, false), [81, 82, 83], [0, 1, 2, 3, 4, 5, 6, 7, 8, 9, 10, 11]⟩,⟨some 81, .fad 4 (.t 7), some (76, false), [77, 78, 79, 80], [0, 1, 2, 3, 4, 5, 6, 7, 8]⟩,⟨some 82, .load false 1 (.t 81), some (76, false), [77, 78, 79, 80], [0, 1, 2, 3, 4, 5, 6, 7, 8, 13]⟩,⟨some 83, .bin .gtr (.t 82) (.c (.int .i64 0)), some (76, false), [77, 78, 79, 80], [0, 1, 2, 3, 4, 5, 6, 7, 8, 13, 14]⟩,⟨some 84, .eqb true (.t 80) (.t 83), some (76, false), [], [0, 1, 2, 3, 4, 5, 6, 7, 8, 9, 10, 11, 12, 13, 14, 15]⟩,⟨some 85, .pick (.t 76) (.c (.bool true)) (.t 84), none, [], [0, 1, 2, 3, 4, 5, 6, 7, 8, 9, 10, 11, 12, 13, 14, 15, 16]⟩,⟨some 86, .mov (.t 85), none, [], [0, 1, 2, 3, 4, 5, 6, 7, 8, 9, 10, 11, 12, 13, 14, 15, 16, 17]⟩,⟨some 87, .fad 8 (.t 7), some (86, false), [], [0, 1, 2, 3, 4, 5, 6, 7, 8, 9, 10, 11, 12, 13, 14, 15, 16, 17, 18]⟩,⟨some 88, .load false 1 (.t 87), some (86, false), [], [0, 1, 2, 3, 4, 5, 6, 7, 8, 9, 10, 11, 12, 13, 14, 15, 16, 17, 18, 19]⟩,⟨some 89, .len (.t 88), some (86, false), [], [0, 1, 2, 3, 4, 5, 6, 7, 8, 9, 10, 11, 12, 13, 14, 15, 16, 17, 18, 19, 20]⟩,⟨some 90, .bin .gtr (.t 89) (.c (.int .i64 0)), some (86, false), [], [0, 1, 2, 3, 4, 5, 6, 7, 8, 9, 10, 11, 12, 13, 14, 15, 16, 17, 18, 19, 20, 21]⟩,⟨some 91, .mov (.t 90), some (86, false), [], [0, 1, 2, 3, 4, 5, 6, 7, 8, 9, 10, 11, 12, 13, 14, 15, 16, 17, 18, 19, 20, 21, 22]⟩,⟨some 92, .fad 8 (.t 7), some (91, true), [96, 97, 98], [0, 1, 2, 3, 4, 5, 6, 7, 8, 9, 10, 11, 12, 13, 14, 15, 16, 17, 18, 19, 20, 21, 22, 23]⟩,⟨some 93, .load false 1 (.t 92), some (91, true), [96, 97, 98], [0, 1, 2, 3, 4, 5, 6, 7, 8, 9, 10, 11, 12, 13, 14, 15, 16, 17, 18, 19, 20, 21, 22, 23, 24]⟩,⟨some 94, .iad 1 (.t 93) (.c (.int .i64 0)), some (91, true), [96, 97, 98], [0, 1, 2, 3, 4, 5, 6, 7, 8, 9, 10, 11, 12, 13, 14, 15, 16, 17, 18, 19, 20, 21, 22, 23, 24, 25]⟩,⟨some 95, .load false 1 (.t 94), some (91, true), [96, 97, 98], [0, 1, 2, 3, 4, 5, 6, 7, 8, 9, 10, 11, 12, 13, 14, 15, 16, 17, 18, 19, 20, 21, 22, 23, 24, 25, 26]⟩,⟨some 96, .fad 4 (.t 7), some (91, true), [92, 93, 94, 95], [0, 1, 2, 3, 4, 5, 6, 7, 8, 9, 10, 11, 12, 13, 14, 15, 16, 17, 18, 19, 20, 21, 22, 23]⟩,⟨some 97, .load false 1 (.t 96), some (91, true), [92, 93, 94, 95], [0, 1, 2, 3, 4, 5, 6, 7, 8, 9, 10, 11, 12, 13, 14, 15, 16, 17, 18, 19, 20, 21, 22, 23, 28]⟩,⟨some 98, .bin .sub (.t 97) (.c (.int .i64 1)), some (91, true), [92, 93, 94, 95], [0, 1, 2, 3, 4, 5, 6, 7, 8, 9, 10, 11, 12, 13, 14, 15, 16, 17, 18, 19, 20, 21, 22, 23, 28, 29]⟩,⟨some 99, .bin .neq (.t 95) (.t 98), some (91, true), [], [0, 1, 2, 3, 4, 5, 6, 7, 8, 9, 10, 11, 12, 13, 14, 15, 16, 17, 18, 19, 20, 21, 22, 23, 24, 25, 26, 27, 28, 29, 30]⟩,⟨some 100, .pick (.t 91) (.t 99) (.c (.bool false)), some (86, false), [], [0, 1, 2, 3, 4, 5, 6, 7, 8, 9, 10, 11, 12, 13, 14, 15, 16, 17, 18, 19, 20, 21, 22, 23, 24, 25, 26, 27, 28, 29, 30, 31]⟩,⟨some 101, .pick (.t 86) (.c (.bool true)) (.t 100), none, [], [0, 1, 2, 3, 4, 5, 6, 7, 8, 9, 10, 11, 12, 13, 14, 15, 16, 17, 18, 19, 20, 21, 22, 23, 24, 25, 26, 27, 28, 29, 30, 31, 32]⟩,⟨some 102, .mov (.t 101), none, [], [0, 1, 2, 3, 4, 5, 6, 7, 8, 9, 10, 11, 12, 13, 14, 15, 16, 17, 18, 19, 20, 21, 22, 23, 24, 25, 26, 27, 28, 29, 30, 31, 32, 33]⟩,⟨some 103, .fad 3 (.t 7), some (102, false), [], [0, 1, 2, 3, 4, 5, 6, 7, 8, 9, 10, 11, 12, 13, 14, 15, 16, 17, 18, 19, 20, 21, 22, 23, 24, 25, 26, 27, 28, 29, 30, 31, 32, 33, 34]⟩,⟨some 104, .load false 1 (.t 103), some (102, false), [], [0, 1, 2, 3, 4, 5, 6, 7, 8, 9, 10, 11, 12, 13, 14, 15, 16, 17, 18, 19, 20, 21, 22, 23, 24, 25, 26, 27, 28, 29, 30, 31, 32, 33, 34, 35]⟩,⟨some 105, .bin .neq (.t 104) (.c (.int .i64 0)), some (102, false), [], [0, 1, 2, 3, 4, 5, 6, 7, 8, 9, 10, 11, 12, 13, 14, 15, 16, 17, 18, 19, 20, 21, 22, 23, 24, 25, 26, 27, 28, 29, 30, 31, 32, 33, 34, 35, 36]⟩,⟨some 106, .mov (.t 105), some (102, false), [], [0, 1, 2, 3, 4, 5, 6, 7, 8, 9, 10, 11, 12, 13, 14, 15, 16, 17, 18, 19, 20, 21, 22, 23, 24, 25, 26, 27, 28, 29, 30, 31, 32, 33, 34, 35, 36, 37]⟩,⟨some 107, .fad 4 (.t 7), some (106, true), [], [0, 1, 2, 3, 4, 5, 6, 7, 8, 9, 10, 11, 12, 13, 14, 15, 16, 17, 18, 19, 20, 21, 22, 23, 24, 25, 26, 27, 28, 29, 30, 31, 32, 33, 34, 35, 36, 37, 38]⟩,⟨some 108, .load false 1 (.t 107), some (106, true), [], [0, 1, 2, 3, 4, 5, 6, 7, 8, 9, 10, 11, 12, 13, 14, 15, 16, 17, 18, 19, 20, 21, 22, 23, 24, 25, 26, 27, 28, 29, 30, 31, 32, 33, 34, 35, 36, 37, 38, 39]⟩,⟨some 109, .bin .neq (.t 108) (.c (.int .i64 0)), some (106, true), [], [0, 1, 2, 3, 4, 5, 6, 7, 8, 9, 10, 11, 12, 13, 14, 15, 16, 17, 18, 19, 20, 21, 22, 23, 24, 25, 26, 27, 28, 29, 30, 31, 32, 33, 34, 35, 36, 37, 38, 39, 40]⟩,⟨some 110, .mov (.t 109), some (106, true), [], [0, 1, 2, 3, 4, 5, 6, 7, 8, 9, 10, 11, 12, 13, 14, 15, 16, 17, 18, 19, 20, 21, 22, 23, 24, 25, 26, 27, 28, 29, 30, 31, 32, 33, 34, 35, 36, 37, 38, 39, 40, 41]⟩,⟨some 111, .fad 10 (.t 7), some (110, false), [114, 115], [0, 1, 2, 3, 4, 5, 6, 7, 8, 9, 10, 11, 12, 13, 14, 15, 16, 17, 18, 19, 20, 21, 22, 23, 24, 25, 26, 27, 28, 29, 30, 31, 32, 33, 34, 35, 36, 37, 38, 39, 40, 41, 42]⟩,⟨some 112, .fad 0 (.t 111), some (110, false), [114, 115], [0, 1, 2, 3, 4, 5, 6, 7, 8, 9, 10, 11, 12, 13, 14, 15, 16, 17, 18, 19, 20, 21, 22, 23, 24, 25, 26, 27, 28, 29, 30, 31, 32, 33, 34, 35, 36, 37, 38, 39, 40, 41, 42, 43]⟩,⟨some 113, .load false 1 (.t 112), some (110, false), [114, 115], [0, 1, 2, 3, 4, 5, 6, 7, 8, 9, 10, 11, 12, 13, 14, 15, 16, 17, 18, 19, 20, 21, 22, 23, 24, 25, 26, 27, 28, 29, 30, 31, 32, 33, 34, 35, 36, 37, 38, 39, 40, 41, 42, 43, 44]⟩,⟨some 114, .fad 3 (.t 7), some (110, false), [111, 112, 113], [0, 1, 2, 3, 4, 5, 6, 7, 8, 9, 10, 11, 12, 13, 14, 15, 16, 17, 18, 19, 20, 21, 22, 23, 24, 25, 26, 27, 28, 29, 30, 31, 32, 33, 34, 35, 36, 37, 38, 39, 40, 41, 42]⟩,⟨some 115, .load false 1 (.t 114), some (110, false), [111, 112, 113], [0, 1, 2, 3, 4, 5, 6, 7, 8, 9, 10, 11, 12, 13, 14, 15, 16, 17, 18, 19, 20, 21, 22, 23, 24, 25, 26, 27, 28, 29, 30, 31, 32, 33, 34, 35, 36, 37, 38, 39, 40, 41, 42, 46]⟩,⟨some 116, .bin .neq (.t 113) (.t 115), some (110, false), [], [0, 1, 2, 3, 4, 5, 6, 7, 8, 9, 10, 11, 12, 13, 14, 15, 16, 17, 18, 19, 20, 21, 22, 23, 24, 25, 26, 27, 28, 29, 30, 31, 32, 33, 34, 35, 36, 37, 38, 39, 40, 41, 42, 43, 44, 45, 46, 47]⟩,⟨some 117, .pick (.t 110) (.c (.bool true)) (.t 116), some (106, true), [], [0, 1, 2, 3, 4, 5, 6, 7, 8, 9, 10, 11, 12, 13, 14, 15, 16, 17, 18, 19, 20, 21, 22, 23, 24, 25, 26, 27, 28, 29, 30, 31, 32, 33, 34, 35, 36, 37, 38, 39, 40, 41, 42, 43, 44, 45, 46, 47, 48]⟩,⟨some 118, .pick (.t 106) (.t 117) (.c (.bool false)), some (102, false), [], [0, 1, 2, 3, 4, 5, 6, 7, 8, 9, 10, 11, 12, 13, 14, 15, 16, 17, 18, 19, 20, 21, 22, 23, 24, 25, 26, 27, 28, 29, 30, 31, 32, 33, 34, 35, 36, 37, 38, 39, 40, 41, 42, 43, 44, 45, 46, 47, 48, 49]⟩,⟨some 119, .pick (.t 102) (.c (.bool true)) (.t 118), none, [], [0, 1, 2, 3, 4, 5, 6, 7, 8, 9, 10, 11, 12, 13, 14, 15, 16, 17, 18, 19, 20, 21, 22, 23, 24, 25, 26, 27, 28, 29, 30, 31, 32, 33, 34, 35, 36, 37, 38, 39, 40, 41, 42, 43, 44, 45, 46, 47, 48, 49, 50]⟩] true) (.cond (.t 119) (.seq (.region [nO 8 (.mov (.c (.bool false)))] false) .ret) .skip)) (.seq (.region [mO 120 1,
  mO 121 2,
  nO 122 (.fad 2 (.t 4)),
  nO 123 (.load false 1 (.t 122)),
  nO 124 (.fad 9 (.t 7)),
  nO 125 (.load false 1 (.t 124)),
  nO 126 (.call false 91 [(.t 120), (.t 121), (.t 123), (.t 125)]),
  mO 127 126,
  gO 128 (.load true 7 (.t 4)) 127 true,
  gO 129 (.fad 10 (.t 7)) 127 true,
  gO 130 (.load true 5 (.t 129)) 127 true,
  gO 131 (.fad 15 (.t 7)) 127 true,
  gO 132 (.load false 1 (.t 131)) 127 true,
  gO 133 (.call false 92 [(.t 128), (.t 130), (.t 132)]) 127 true,
  nO 134 (.pick (.t 127) (.t 133) (.c (.bool false))),
  mO 8 134] false) .ret))))
def i42 : F := ⟨4, 135, j42, [.t 8]⟩
theorem b42 : i42.body = j42 := rfl
theorem q42 : i42.res = [.t 8] := rfl
theorem c42 : chkF Tryz.prog Tryz.f42 i42 = true := by kernel_rfl
theorem s42 {m E} (hE : HE E) (hm : HM i42 m E) : Sound Tryz.prog 42 m := sound_of i42 Tryz.func42 rfl c42 hE hm
def j43 : C := (.seq (.region [nO 1 (.box (.t 0)),
  nO 2 (.alloc [.bool false, .bool false, .int .i64 0, .int .i64 0, .int .i64 0, .int .i64 0, .int .i64 0, .int .i64 0, .row [], .row [], .int .i64 0, .int .i64 0, .int .i64 0, .row [], .row [], .row []])] false) (.seq (.region [nO 4 (.load true 16 (.t 1)),
  nO 5 (.call false 37 [(.t 4)]),
  nO 3 (.alloc [.bool false, .bool false, .int .i64 0, .int .i64 0, .int .i64 0, .int .i64 0, .int .i64 0, .int .i64 0, .row [], .row [], .int .i64 0, .int .i64 0, .int .i64 0, .row [], .row [], .row []]),⟨none, .store none 16 (.t 3) (.t 5), none, [], []⟩] false) (.seq (.region [nO 6 (.fad 4 (.t 3)),⟨none, .store none 1 (.t 6) (.c (.int .i64 0)), none, [], []⟩,
  nO 7 (.fad 5 (.t 3)),⟨none, .store none 1 (.t 7) (.c (.int .i64 0)), none, [], []⟩,
  nO 8 (.fad 6 (.t 3)),⟨none, .store none 1 (.t 8) (.c (.int .i64 0)), none, [], []⟩,
  nO 9 (.fad 7 (.t 3)),⟨none, .store none 1 (.t 9) (.c (.int .i64 0)), none, [], []⟩,
  nO 10 (.fad 8 (.t 3)),⟨none, .store none 1 (.t 10) (.c (.row [])), none, [], []⟩] false) (.seq (.region [nO 11 (.load true 16 (.t 3)),⟨none, .store none 16 (.t 2) (.t 11), none, [], []⟩] false) .ret))))
def i43 : F := ⟨1, 12, j43, [.c 2 16 true]⟩
theorem b43 : i43.body = j43 := rfl
theorem q43 : i43.res = [.c 2 16 true] := rfl
theorem c43 : chkF Tryz.prog Tryz.f43 i43 = true := by kernel_rfl
theorem s43 {m E} (hE : HE E) (hm : HM i43 m E) : Sound Tryz.prog 43 m := sound_of i43 Tryz.func43 rfl c43 hE hm
def j44 : C := (.seq (.region [nO 7 (.box (.t 0)),
  nO 10 (.box (.t 3)),
  nO 14 (.alloc [.bool false, .bool false, .int .i64 0, .int .i64 0, .int .i64 0, .int .i64 0, .int .i64 0, .int .i64 0, .row [], .row [], .int .i64 0, .int .i64 0, .int .i64 0, .row [], .row [], .row []]),
  nO 15 (.nilsl 49 16 0)] false) (.seq (.region [nO 22 (.load true 16 (.t 10)),
  nO 23 (.call false 37 [(.t 22)]),
  nO 16 (.alloc [.bool false, .bool false, .int .i64 0, .int .i64 0, .int .i64 0, .int .i64 0, .int .i64 0, .int .i64 0, .row [], .row [], .int .i64 0, .int .i64 0, .int .i64 0, .row [], .row [], .row []]),⟨none, .store none 16 (.t 16) (.t 23), none, [], []⟩] false) (.seq (.seq (.region [mO 24 1,
  mO 25 2,
  mO 26 4,
  mO 27 5,
  nO 28 (.call false 93 [(.t 24), (.t 25), (.t 26), (.t 27)]),
  nO 29 (.un .not (.t 28))] false) (.cond (.t 29) (.seq (.region [nO 30 (.load true 16 (.t 16)),⟨none, .store none 16 (.t 14) (.t 30), none, [], []⟩,
  nO 15 (.nilsl 49 16 1)] false) .ret) .skip)) (.seq (.region [nO 17 (.nilsl 49 16 0)] false) (.seq (.region [nO 31 (.fad 2 (.t 16)),
  nO 32 (.load false 1 (.t 31)),
  mO 33 6,
  nO 34 (.mx (.t 32) (.t 33)),
  nO 35 (.fad 2 (.t 16)),⟨none, .store none 1 (.t 35) (.t 34), none, [], []⟩] false) (.seq (.region [mO 37 1,
  nO 38 (.fad 2 (.t 7)),
  nO 39 (.load false 1 (.t 38)),
  nO 40 (.fad 9 (.t 10)),
  nO 41 (.load false 1 (.t 40)),
  mO 42 4,
  mO 43 5,
  nO 44 (.call false 94 [(.t 37), (.t 39), (.t 41), (.t 42), (.t 43)]),
  mO 36 44,
  nO 45 (.ext (.t 36) 0),
  nO 46 (.ext (.t 36) 1),
  nO 47 (.ext (.t 36) 2),
  mO 18 45,
  mO 19 46,
  mO 20 47] false) (.seq (.region [mO 48 18,
  nO 49 (.fad 9 (.t 16)),⟨none, .store none 1 (.t 49) (.t 48), none, [], []⟩] false) (.seq (.seq (.region [mO 50 19,
  nO 51 (.bin .gtr (.t 50) (.c (.int .i64 0)))] false) (.cond (.t 51) (.region [mO 52 17,
  mO 53 19,
  nO 54 (.bin .sub (.t 53) (.c (.int .i64 1))),
  mO 55 1,
  mO 56 20,
  nO 57 (.bin .sub (.t 56) (.c (.int .i64 1))),
  nO 58 (.build [.int .i64 0, .int .i64 0, .int .i64 0, .int .i64 0, .int .i64 0, .int .i64 0, .int .i64 0, .int .i64 0, .int .i64 0, .int .i64 0, .int .i64 0, .int .i64 0, .int .i64 0, .int .i64 0, .row [], .row []] [(0, 1, (.c (.int .i64 4))), (3, 1, (.t 54)), (5, 1, (.t 55)), (10, 1, (.t 57))]),
  nO 59 (.bsl 49 16 1 [.int .i64 0, .int .i64 0, .int .i64 0, .int .i64 0, .int .i64 0, .int .i64 0, .int .i64 0, .int .i64 0, .int .i64 0, .int .i64 0, .int .i64 0, .int .i64 0, .int .i64 0, .int .i64 0, .row [], .row []] [(0, (.t 58))]),
  nO 60 (.app 49 16 160 (.t 52) (.t 59)),
  mO 17 60] false) .skip)) (.seq (.seq (.region [mO 61 18,
  mO 62 4,
  nO 63 (.call false 95 [(.t 61), (.t 62)]),
  nO 64 (.un .not (.t 63)),
  mO 65 64,
  gO 66 (.load true 16 (.t 16)) 65 false,
  gO 67 (.call false 96 [(.t 66)]) 65 false,
  gO 68 (.un .not (.t 67)) 65 false,
  nO 69 (.pick (.t 65) (.c (.bool true)) (.t 68))] false) (.cond (.t 69) (.seq (.region [nO 70 (.load true 16 (.t 16)),
  mO 71 17,⟨none, .store none 16 (.t 14) (.t 70), none, [], []⟩,
  mO 15 71] false) .ret) .skip)) (.seq (.region [mO 72 2,
  nO 73 (.bsl 3 1 1 [.int .i64 0] [(0, (.t 72))]),
  nO 74 (.fad 8 (.t 16)),
  nO 75 (.load false 1 (.t 74)),
  nO 76 (.app 3 1 8 (.t 73) (.t 75)),
  mO 21 76] false) (.seq (.seq (.region [mO 77 21,
  nO 78 (.len (.t 77)),
  nO 79 (.fad 3 (.t 7)),
  nO 80 (.load false 1 (.t 79)),
  nO 81 (.bin .gtr (.t 78) (.t 80))] false) (.cond (.t 81) (.seq (.region [mO 82 18,
  mO 83 4,
  nO 84 (.call false 97 [(.t 82), (.t 83)]),
  nO 85 (.fad 9 (.t 16)),⟨none, .store none 1 (.t 85) (.t 84), none, [], []⟩] false) (.seq (.region [⟨some 86, .ldb true 16 (.t 16), none, [87, 88, 89, 90, 91, 92], []⟩,⟨some 87, .mov (.t 17), none, [86, 88, 89, 90, 91], []⟩,⟨some 88, .mov (.t 4), none, [86, 87, 89], []⟩,⟨some 89, .mov (.t 1), none, [86, 87, 88], []⟩,⟨some 90, .build [.int .i64 0, .int .i64 0, .int .i64 0, .int .i64 0, .int .i64 0, .int .i64 0, .int .i64 0, .int .i64 0, .int .i64 0, .int .i64 0, .int .i64 0, .int .i64 0, .int .i64 0, .int .i64 0, .row [], .row []] [(0, 1, (.c (.int .i64 5))), (3, 1, (.t 88)), (5, 1, (.t 89))], none, [86, 87], [2, 3]⟩,⟨some 91, .bsl 49 16 1 [.int .i64 0, .int .i64 0, .int .i64 0, .int .i64 0, .int .i64 0, .int .i64 0, .int .i64 0, .int .i64 0, .int .i64 0, .int .i64 0, .int .i64 0, .int .i64 0, .int .i64 0, .int .i64 0, .row [], .row []] [(0, (.t 90))], none, [86, 87], [2, 3, 4]⟩,⟨some 92, .app 49 16 160 (.t 87) (.t 91), none, [86], [1, 2, 3, 4, 5]⟩,⟨none, .store none 16 (.t 14) (.t 86), none, [], [0, 1, 2, 3, 4, 5, 6]⟩,⟨some 15, .mov (.t 92), none, [], [0, 1, 2, 3, 4, 5, 6, 7]⟩] true) .ret)) .skip)) (.seq (.frz [21] (.region [⟨some 93, .ldb true 16 (.t 16), none, [94, 95, 96, 97, 98, 99, 100, 101, 102, 103, 104, 105, 106, 107, 108, 109], []⟩,⟨some 94, .mov (.t 17), none, [93, 95, 96, 97, 98, 99, 100, 101, 102, 103, 104, 105, 106, 107, 108], []⟩,⟨some 95, .mov (.t 4), none, [93, 94, 96, 97, 98, 99, 100, 101, 102, 103, 104, 105, 106], []⟩,⟨some 96, .mov (.t 1), none, [93, 94, 95, 97, 98, 99, 100, 101, 102, 103, 104, 105, 106], []⟩,⟨some 97, .fad 10 (.t 16), none, [93, 94, 95, 96, 100, 101, 102, 103, 104, 105, 106], []⟩,⟨some 98, .fad 0 (.t 97), none, [93, 94, 95, 96, 100, 101, 102, 103, 104, 105, 106], [4]⟩,⟨some 99, .load false 1 (.t 98), none, [93, 94, 95, 96, 100, 101, 102, 103, 104, 105, 106], [4, 5]⟩,⟨some 100, .fad 10 (.t 16), none, [93, 94, 95, 96, 97, 98, 99, 104, 105, 106], []⟩,⟨some 101, .fad 1 (.t 100), none, [93, 94, 95, 96, 97, 98, 99, 104, 105, 106], [7]⟩,⟨some 102, .load false 1 (.t 101), none, [93, 94, 95, 96, 97, 98, 99, 104, 105, 106], [7, 8]⟩,⟨some 103, .mx (.t 102) (.c (.int .i64 1)), none, [93, 94, 95, 96, 97, 98, 99, 104, 105, 106], [7, 8, 9]⟩,⟨some 104, .fad 2 (.t 16), none, [93, 94, 95, 96, 97, 98, 99, 100, 101, 102, 103, 106], []⟩,⟨some 105, .load false 1 (.t 104), none, [93, 94, 95, 96, 97, 98, 99, 100, 101, 102, 103, 106], [11]⟩,⟨some 106, .mov (.t 21), none, [93, 94, 95, 96, 97, 98, 99, 100, 101, 102, 103, 104, 105], []⟩,⟨some 107, .build [.int .i64 0, .int .i64 0, .int .i64 0, .int .i64 0, .int .i64 0, .int .i64 0, .int .i64 0, .int .i64 0, .int .i64 0, .int .i64 0, .int .i64 0, .int .i64 0, .int .i64 0, .int .i64 0, .row [], .row []] [(0, 1, (.c (.int .i64 3))), (3, 1, (.t 95)), (5, 1, (.t 96)), (6, 1, (.t 99)), (7, 1, (.t 103)), (8, 1, (.t 105)), (14, 1, (.t 106))], none, [93, 94], [2, 3, 4, 5, 6, 7, 8, 9, 10, 11, 12, 13]⟩,⟨some 108, .bsl 49 16 1 [.int .i64 0, .int .i64 0, .int .i64 0, .int .i64 0, .int .i64 0, .int .i64 0, .int .i64 0, .int .i64 0, .int .i64 0, .int .i64 0, .int .i64 0, .int .i64 0, .int .i64 0, .int .i64 0, .row [], .row []] [(0, (.t 107))], none, [93, 94], [2, 3, 4, 5, 6, 7, 8, 9, 10, 11, 12, 13, 14]⟩,⟨some 109, .app 49 16 160 (.t 94) (.t 108), none, [93], [1, 2, 3, 4, 5, 6, 7, 8, 9, 10, 11, 12, 13, 14, 15]⟩,⟨none, .store none 16 (.t 14) (.t 93), none, [], [0, 1, 2, 3, 4, 5, 6, 7, 8, 9, 10, 11, 12, 13, 14, 15, 16]⟩,⟨some 15, .mov (.t 109), none, [], [0, 1, 2, 3, 4, 5, 6, 7, 8, 9, 10, 11, 12, 13, 14, 15, 16, 17]⟩] true)) .ret))))))))))))
def i44 : F := ⟨7, 110, j44, [.c 14 16 true, .t 15]⟩
theorem b44 : i44.body = j44 := rfl
theorem q44 : i44.res = [.c 14 16 true, .t 15] := rfl
theorem c44 : chkF Tryz.prog Tryz.f44 i44 = true := by kernel_rfl
theorem s44 {m E} (hE : HE E) (hm : HM i44 m E) : Sound Tryz.prog 44 m := sound_of i44 Tryz.func44 rfl c44 hE hm
def j45 : C := (.seq (.region [nO 4 (.mov (.c (.bool false)))] false) (.seq (.seq (.region [mO 6 0,
  nO 7 (.len (.t 6)),
  mO 8 1,
  nO 9 (.len (.t 8)),
  nO 10 (.bin .neq (.t 7) (.t 9))] false) (.cond (.t 10) (.seq (.region [nO 4 (.mov (.c (.bool false)))] false) .ret) .skip)) (.seq (.seq (.region [nO 5 (.mov (.c (.int .i64 0)))] false) (.block 0 (.loop (.keep [0, 1, 5] (.seq (.seq (.region [mO 11 5,
  mO 12 0,
  nO 13 (.len (.t 12)),
  nO 14 (.bin .lss (.t 11) (.t 13))] false) (.cond (.t 14) .skip (.exit 0))) (.seq (.block 1 (.seq (.region [⟨some 17, .mov (.t 0), none, [18, 21, 22, 23, 24], []⟩,⟨some 18, .mov (.t 5), none, [17, 21, 22, 23, 24], []⟩,⟨some 19, .iad 16 (.t 17) (.t 18), none, [21, 22, 23, 24], [0, 1]⟩,⟨some 20, .load true 16 (.t 19), none, [21, 22, 23, 24], [0, 1, 2]⟩,⟨some 21, .mov (.t 1), none, [17, 18, 19, 20, 22], []⟩,⟨some 22, .mov (.t 5), none, [17, 18, 19, 20, 21], []⟩,⟨some 23, .iad 16 (.t 21) (.t 22), none, [17, 18, 19, 20], [4, 5]⟩,⟨some 24, .load true 16 (.t 23), none, [17, 18, 19, 20], [4, 5, 6]⟩,⟨some 25, .call false 78 [(.t 20), (.t 24)], none, [], [0, 1, 2, 3, 4, 5, 6, 7]⟩,⟨some 26, .un .not (.t 25), none, [], [0, 1, 2, 3, 4, 5, 6, 7, 8]⟩] true) (.cond (.t 26) (.seq (.region [nO 4 (.mov (.c (.bool false)))] false) .ret) .skip))) (.region [mO 15 5,
  nO 16 (.bin .add (.t 15) (.c (.int .i64 1))),
  mO 5 16] false))))))) (.seq (.region [nO 4 (.mov (.c (.bool true)))] false) .ret))))
def i45 : F := ⟨2, 27, j45, [.t 4]⟩
theorem b45 : i45.body = j45 := rfl
theorem q45 : i45.res = [.t 4] := rfl
theorem c45 : chkF Tryz.prog Tryz.f45 i45 = true := by kernel_rfl
theorem s45 {m E} (hE : HE E) (hm : HM i45 m E) : Sound Tryz.prog 45 m := sound_of i45 Tryz.func45 rfl c45 hE hm
def j46 : C := (.seq (.region [nO 5 (.box (.t 0)),
  nO 8 (.box (.t 3)),
  nO 9 (.box (.t 4)),
  nO 10 (.alloc [.bool false, .bool false, .int .i64 0, .int .i64 0, .int .i64 0, .int .i64 0, .int .i64 0, .int .i64 0, .row [], .row [], .int .i64 0, .int .i64 0, .int .i64 0, .row [], .row [], .row []])] false) (.seq (.region [nO 12 (.load true 16 (.t 8)),
  nO 13 (.call false 37 [(.t 12)]),
  nO 11 (.alloc [.bool false, .bool false, .int .i64 0, .int .i64 0, .int .i64 0, .int .i64 0, .int .i64 0, .int .i64 0, .row [], .row [], .int .i64 0, .int .i64 0, .int .i64 0, .row [], .row [], .row []]),⟨none, .store none 16 (.t 11) (.t 13), none, [], []⟩] false) (.seq (.seq (.region [nO 14 (.fad 5 (.t 8)),
  nO 15 (.load false 1 (.t 14)),
  nO 16 (.fad 1 (.t 9)),
  nO 17 (.load false 1 (.t 16)),
  nO 18 (.bin .add (.t 17) (.c (.int .i64 1))),
  nO 19 (.bin .neq (.t 15) (.t 18)),
  mO 20 19,
  gO 21 (.fad 3 (.t 8)) 20 false,
  gO 22 (.load false 1 (.t 21)) 20 false,
  gO 23 (.bin .neq (.t 22) (.c (.int .i64 0))) 20 false,
  nO 24 (.pick (.t 20) (.c (.bool true)) (.t 23)),
  mO 25 24,
  mG 26 1 25 false,
  mG 27 2 25 false,
  gO 28 (.fad 14 (.t 9)) 25 false,
  gO 29 (.load false 1 (.t 28)) 25 false,
  gO 30 (.fad 3 (.t 5)) 25 false,
  gO 31 (.load false 1 (.t 30)) 25 false,
  gO 32 (.call false 90 [(.t 26), (.t 27), (.t 29), (.t 31)]) 25 false,
  gO 33 (.bin .neq (.t 32) (.c (.int .i64 0))) 25 false,
  nO 34 (.pick (.t 25) (.c (.bool true)) (.t 33))] false) (.cond (.t 34) (.seq (.region [nO 35 (.load true 16 (.t 11)),⟨none, .store none 16 (.t 10) (.t 35), none, [], []⟩] false) .ret) .skip)) (.seq (.region [⟨some 36, .fad 1 (.t 9), none, [39, 40, 41], []⟩,⟨some 37, .load false 1 (.t 36), none, [39, 40, 41], [0]⟩,⟨some 38, .bin .add (.t 37) (.c (.int .i64 1)), none, [39, 40, 41], [0, 1]⟩,⟨some 39, .fad 14 (.t 9), none, [36, 37, 38, 42], []⟩,⟨some 40, .load false 1 (.t 39), none, [36, 37, 38, 42], [3]⟩,⟨some 41, .call false 77 [(.t 40)], none, [36, 37, 38, 42], [3, 4]⟩,⟨some 42, .fad 4 (.t 11), none, [39, 40, 41], [0, 1, 2]⟩,⟨none, .store none 1 (.t 42) (.t 38), none, [], [0, 1, 2, 3, 4, 5, 6]⟩,⟨some 43, .fad 8 (.t 11), none, [], [0, 1, 2, 3, 4, 5, 6, 7]⟩,⟨none, .store none 1 (.t 43) (.t 41), none, [], [0, 1, 2, 3, 4, 5, 6, 7, 8]⟩,⟨some 44, .fad 7 (.t 11), none, [], [0, 1, 2, 3, 4, 5, 6, 7, 8, 9]⟩,⟨none, .store none 1 (.t 44) (.c (.int .i64 0)), none, [], [0, 1, 2, 3, 4, 5, 6, 7, 8, 9, 10]⟩] true) (.seq (.region [nO 45 (.fad 2 (.t 11)),
  nO 46 (.load false 1 (.t 45)),
  nO 47 (.fad 8 (.t 9)),
  nO 48 (.load false 1 (.t 47)),
  nO 49 (.fad 6 (.t 9)),
  nO 50 (.load false 1 (.t 49)),
  nO 51 (.mx3 (.t 46) (.t 48) (.t 50)),
  nO 52 (.fad 2 (.t 11)),⟨none, .store none 1 (.t 52) (.t 51), none, [], []⟩] false) (.seq (.seq (.region [nO 53 (.fad 6 (.t 9)),
  nO 54 (.load false 1 (.t 53)),
  nO 55 (.call false 88 [(.t 54)])] false) (.cond (.t 55) (.region [nO 56 (.fad 10 (.t 11)),
  nO 57 (.load true 5 (.t 56)),
  nO 58 (.fad 6 (.t 9)),
  nO 59 (.load false 1 (.t 58)),
  nO 60 (.fad 7 (.t 9)),
  nO 61 (.load false 1 (.t 60)),
  nO 62 (.call false 98 [(.t 57), (.t 59), (.t 61)]),
  nO 63 (.fad 10 (.t 11)),⟨none, .store none 5 (.t 63) (.t 62), none, [], []⟩] false) .skip)) (.seq (.region [nO 64 (.load true 16 (.t 11)),⟨none, .store none 16 (.t 10) (.t 64), none, [], []⟩] false) .ret)))))))
def i46 : F := ⟨5, 65, j46, [.c 10 16 true]⟩
theorem b46 : i46.body = j46 := rfl
theorem q46 : i46.res = [.c 10 16 true] := rfl
theorem c46 : chkF Tryz.prog Tryz.f46 i46 = true := by kernel_rfl
theorem s46 {m E} (hE : HE E) (hm : HM i46 m E) : Sound Tryz.prog 46 m := sound_of i46 Tryz.func46 rfl c46 hE hm
def j47 : C := (.seq (.region [nO 7 (.box (.t 2)),
  nO 10 (.alloc [.bool false, .bool false, .int .i64 0, .int .i64 0, .int .i64 0, .int .i64 0, .int .i64 0, .int .i64 0, .row [], .row [], .int .i64 0, .int .i64 0, .int .i64 0, .row [], .row [], .row []])] false) (.seq (.region [nO 12 (.load true 16 (.t 7)),
  nO 13 (.call false 37 [(.t 12)]),
  nO 11 (.alloc [.bool false, .bool false, .int .i64 0, .int .i64 0, .int .i64 0, .int .i64 0, .int .i64 0, .int .i64 0, .row [], .row [], .int .i64 0, .int .i64 0, .int .i64 0, .row [], .row [], .row []]),⟨none, .store none 16 (.t 11) (.t 13), none, [], []⟩] false) (.seq (.seq (.region [nO 14 (.fad 5 (.t 7)),
  nO 15 (.load false 1 (.t 14)),
  mO 16 3,
  nO 17 (.bin .add (.t 16) (.c (.int .i64 1))),
  nO 18 (.bin .neq (.t 15) (.t 17)),
  mO 19 18,
  mG 20 0 19 false,
  mG 21 4 19 false,
  mG 22 1 19 false,
  gO 23 (.call false 99 [(.t 20), (.t 21), (.t 22)]) 19 false,
  gO 24 (.un .not (.t 23)) 19 false,
  nO 25 (.pick (.t 19) (.c (.bool true)) (.t 24))] false) (.cond (.t 25) (.seq (.region [nO 26 (.load true 16 (.t 11)),⟨none, .store none 16 (.t 10) (.t 26), none, [], []⟩] false) .ret) .skip)) (.seq (.region [nO 27 (.load true 16 (.t 11)),
  nO 28 (.call false 43 [(.t 27)]),⟨none, .store none 16 (.t 11) (.t 28), none, [], []⟩] false) (.seq (.region [mO 29 4,
  nO 30 (.bin .add (.t 29) (.c (.int .i64 1))),
  nO 31 (.fad 6 (.t 11)),⟨none, .store none 1 (.t 31) (.t 30), none, [], []⟩] false) (.seq (.region [nO 32 (.load true 16 (.t 11)),⟨none, .store none 16 (.t 10) (.t 32), none, [], []⟩] false) .ret))))))
def i47 : F := ⟨5, 33, j47, [.c 10 16 true]⟩
theorem b47 : i47.body = j47 := rfl
theorem q47 : i47.res = [.c 10 16 true] := rfl
theorem c47 : chkF Tryz.prog Tryz.f47 i47 = true := by kernel_rfl
theorem s47 {m E} (hE : HE E) (hm : HM i47 m E) : Sound Tryz.prog 47 m := sound_of i47 Tryz.func47 rfl c47 hE hm
def j48 : C := (.seq (.region [nO 8 (.mov (.c (.int .i64 0)))] false) (.seq (.region [mO 14 0,
  mO 15 1,
  nO 16 (.call false 65 [(.t 14), (.t 15)]),
  mO 13 16,
  nO 17 (.ext (.t 13) 0),
  nO 18 (.ext (.t 13) 1),
  mO 9 17,
  mO 10 18] false) (.seq (.seq (.region [mO 19 10,
  nO 20 (.bin .neq (.t 19) (.c (.int .i64 0))),
  mO 21 20,
  mG 22 2 21 false,
  gO 23 (.bin .lss (.t 22) (.c (.int .i64 1))) 21 false,
  nO 24 (.pick (.t 21) (.c (.bool true)) (.t 23)),
  mO 25 24,
  mG 26 2 25 false,
  gO 27 (.bin .gtr (.t 26) (.c (.int .i64 4))) 25 false,
  nO 28 (.pick (.t 25) (.c (.bool true)) (.t 27)),
  mO 29 28,
  mG 30 3 29 false,
  gO 31 (.len (.t 30)) 29 false,
  mG 32 2 29 false,
  gO 33 (.bin .gtr (.t 31) (.t 32)) 29 false,
  nO 34 (.pick (.t 29) (.c (.bool true)) (.t 33))] false) (.cond (.t 34) (.seq (.region [nO 8 (.mov (.c (.int .i64 1)))] false) .ret) .skip)) (.seq (.seq (.region [mO 35 3,
  nO 36 (.len (.t 35)),
  nO 37 (.mov (.c (.int .i64 0)))] false) (.block 0 (.loop (.keep [0, 1, 3, 35, 36, 37] (.seq (.region [nO 38 (.bin .lss (.t 37) (.t 36))] false) (.seq (.cond (.t 38) .skip (.exit 0)) (.seq (.block 1 (.seq (.region [mO 39 37,
  nO 40 (.iad 3 (.t 35) (.t 37)),
  nO 41 (.load true 3 (.t 40)),
  nO 12 (.alloc [.int .i64 0, .int .i64 0, .int .i64 0]),
  mO 11 39,⟨none, .store none 3 (.t 12) (.t 41), none, [], []⟩] false) (.seq (.region [⟨some 42, .mov (.t 0), none, [43, 44], []⟩,⟨some 43, .mov (.t 1), none, [42, 44], []⟩,⟨some 44, .load true 3 (.t 12), none, [42, 43], []⟩,⟨some 45, .call false 100 [(.t 42), (.t 43), (.t 44)], none, [], [0, 1, 2]⟩,⟨some 46, .un .not (.t 45), none, [], [0, 1, 2, 3]⟩,⟨some 47, .mov (.t 46), none, [], [0, 1, 2, 3, 4]⟩,⟨some 48, .mov (.t 11), some (47, false), [], [0, 1, 2, 3, 4, 5]⟩,⟨some 49, .bin .gtr (.t 48) (.c (.int .i64 0)), some (47, false), [], [0, 1, 2, 3, 4, 5, 6]⟩,⟨some 50, .mov (.t 49), some (47, false), [], [0, 1, 2, 3, 4, 5, 6, 7]⟩,⟨some 51, .mov (.t 0), some (50, true), [52, 53, 54, 55, 56, 57, 58, 59], [0, 1, 2, 3, 4, 5, 6, 7, 8]⟩,⟨some 52, .mov (.t 3), some (50, true), [51, 53, 54, 58, 59], [0, 1, 2, 3, 4, 5, 6, 7, 8]⟩,⟨some 53, .mov (.t 11), some (50, true), [51, 52, 58, 59], [0, 1, 2, 3, 4, 5, 6, 7, 8]⟩,⟨some 54, .bin .sub (.t 53) (.c (.int .i64 1)), some (50, true), [51, 52, 58, 59], [0, 1, 2, 3, 4, 5, 6, 7, 8, 11]⟩,⟨some 55, .iad 3 (.t 52) (.t 54), some (50, true), [51, 58, 59], [0, 1, 2, 3, 4, 5, 6, 7, 8, 10, 11, 12]⟩,⟨some 56, .fad 0 (.t 55), some (50, true), [51, 58, 59], [0, 1, 2, 3, 4, 5, 6, 7, 8, 10, 11, 12, 13]⟩,⟨some 57, .load false 1 (.t 56), some (50, true), [51, 58, 59], [0, 1, 2, 3, 4, 5, 6, 7, 8, 10, 11, 12, 13, 14]⟩,⟨some 58, .fad 0 (.t 12), some (50, true), [51, 52, 53, 54, 55, 56, 57], [0, 1, 2, 3, 4, 5, 6, 7, 8]⟩,⟨some 59, .load false 1 (.t 58), some (50, true), [51, 52, 53, 54, 55, 56, 57], [0, 1, 2, 3, 4, 5, 6, 7, 8, 16]⟩,⟨some 60, .call false 28 [(.t 51), (.t 57), (.t 59)], some (50, true), [], [0, 1, 2, 3, 4, 5, 6, 7, 8, 9, 10, 11, 12, 13, 14, 15, 16, 17]⟩,⟨some 61, .un .not (.t 60), some (50, true), [], [0, 1, 2, 3, 4, 5, 6, 7, 8, 9, 10, 11, 12, 13, 14, 15, 16, 17, 18]⟩,⟨some 62, .pick (.t 50) (.t 61) (.c (.bool false)), some (47, false), [], [0, 1, 2, 3, 4, 5, 6, 7, 8, 9, 10, 11, 12, 13, 14, 15, 16, 17, 18, 19]⟩,⟨some 63, .pick (.t 47) (.c (.bool true)) (.t 62), none, [], [0, 1, 2, 3, 4, 5, 6, 7, 8, 9, 10, 11, 12, 13, 14, 15, 16, 17, 18, 19, 20]⟩] true) (.cond (.t 63) (.seq (.region [nO 8 (.mov (.c (.int .i64 1)))] false) .ret) .skip)))) (.region [nO 64 (.bin .add (.t 37) (.c (.int .i64 1))),
  mO 37 64] false)))))))) (.seq (.region [nO 8 (.mov (.c (.int .i64 0)))] false) .ret)))))
def i48 : F := ⟨4, 65, j48, [.t 8]⟩
theorem b48 : i48.body = j48 := rfl
theorem q48 : i48.res = [.t 8] := rfl
theorem c48 : chkF Tryz.prog Tryz.f48 i48 = true := by kernel_rfl
theorem s48 {m E} (hE : HE E) (hm : HM i48 m E) : Sound Tryz.prog 48 m := sound_of i48 Tryz.func48 rfl c48 hE hm
def j49 : C := (.seq (.region [nO 2 (.box (.t 0)),
  nO 4 (.mov (.c (.bool false)))] false) (.seq (.region [nO 5 (.fad 3 (.t 2)),
  nO 6 (.load false 1 (.t 5)),
  nO 7 (.len (.t 6)),
  nO 8 (.bin .gtr (.t 7) (.c (.int .i64 30))),
  mO 9 8,
  gO 10 (.fad 4 (.t 2)) 9 false,
  gO 11 (.load false 1 (.t 10)) 9 false,
  gO 12 (.len (.t 11)) 9 false,
  gO 13 (.bin .gtr (.t 12) (.c (.int .i64 30))) 9 false,
  nO 14 (.pick (.t 9) (.c (.bool true)) (.t 13)),
  mO 15 14,
  mG 16 1 15 false,
  gO 17 (.len (.t 16)) 15 false,
  gO 18 (.bin .gtr (.t 17) (.c (.int .i64 50))) 15 false,
  nO 19 (.pick (.t 15) (.c (.bool true)) (.t 18)),
  mO 4 19] false) .ret))
def i49 : F := ⟨2, 20, j49, [.t 4]⟩
theorem b49 : i49.body = j49 := rfl
theorem q49 : i49.res = [.t 4] := rfl
theorem c49 : chkF Tryz.prog Tryz.f49 i49 = true := by kernel_rfl
theorem s49 {m E} (hE : HE E) (hm : HM i49 m E) : Sound Tryz.prog 49 m := sound_of i49 Tryz.func49 rfl c49 hE hm
def j50 : C := (.seq (.region [nO 1 (.box (.t 0)),
  nO 2 (.alloc [.bool false, .bool false, .int .i64 0, .int .i64 0, .int .i64 0, .int .i64 0, .int .i64 0, .int .i64 0, .row [], .row [], .int .i64 0, .int .i64 0, .int .i64 0, .row [], .row [], .row []])] false) (.seq (.region [⟨some 3, .fad 8 (.t 1), none, [6, 7, 9, 10], []⟩,⟨some 4, .load false 1 (.t 3), none, [6, 7, 9, 10], [0]⟩,⟨some 5, .call false 80 [(.t 4)], none, [6, 7, 9, 10], [0, 1]⟩,⟨some 6, .fad 9 (.t 1), none, [3, 4, 5, 9, 10], []⟩,⟨some 7, .load false 1 (.t 6), none, [3, 4, 5, 9, 10], [3]⟩,⟨some 8, .call false 101 [(.t 7)], none, [9, 10, 12], [0, 1, 2, 3, 4]⟩,⟨some 9, .fad 15 (.t 1), none, [3, 4, 5, 6, 7, 8], []⟩,⟨some 10, .load false 1 (.t 9), none, [3, 4, 5, 6, 7, 8], [6]⟩,⟨some 11, .call false 102 [(.t 10)], none, [12], [0, 1, 2, 3, 4, 5, 6, 7]⟩,⟨some 12, .fad 8 (.t 1), none, [8, 11], [0, 1, 2, 3, 4, 6, 7]⟩,⟨none, .store none 1 (.t 12) (.t 5), none, [], [0, 1, 2, 3, 4, 5, 6, 7, 8, 9]⟩,⟨some 13, .fad 9 (.t 1), none, [], [0, 1, 2, 3, 4, 5, 6, 7, 8, 9, 10]⟩,⟨none, .store none 1 (.t 13) (.t 8), none, [], [0, 1, 2, 3, 4, 5, 6, 7, 8, 9, 10, 11]⟩,⟨some 14, .fad 15 (.t 1), none, [], [0, 1, 2, 3, 4, 5, 6, 7, 8, 9, 10, 11, 12]⟩,⟨none, .store none 1 (.t 14) (.t 11), none, [], [0, 1, 2, 3, 4, 5, 6, 7, 8, 9, 10, 11, 12, 13]⟩] true) (.seq (.region [nO 15 (.fad 10 (.t 1)),
  nO 16 (.load true 5 (.t 15)),
  nO 17 (.call false 103 [(.t 16)]),
  nO 18 (.fad 10 (.t 1)),⟨none, .store none 5 (.t 18) (.t 17), none, [], []⟩] false) (.seq (.region [nO 19 (.load true 16 (.t 1)),⟨none, .store none 16 (.t 2) (.t 19), none, [], []⟩] false) .ret))))
def i50 : F := ⟨1, 20, j50, [.c 2 16 true]⟩
theorem b50 : i50.body = j50 := rfl
theorem q50 : i50.res = [.c 2 16 true] := rfl
theorem c50 : chkF Tryz.prog Tryz.f50 i50 = true := by kernel_rfl
theorem s50 {m E} (hE : HE E) (hm : HM i50 m E) : Sound Tryz.prog 50 m := sound_of i50 Tryz.func50 rfl c50 hE hm
def j52 : C := (.seq (.region [nO 4 (.alloc [.int .i64 0, .int .i64 0, .int .i64 0, .row [], .row []])] false) (.seq (.region [mO 5 0,
  mO 6 1,
  mO 7 1,
  nO 8 (.build [.int .i64 0, .int .i64 0, .int .i64 0, .row [], .row []] [(0, 1, (.t 5)), (1, 1, (.t 6)), (2, 1, (.t 7))]),⟨none, .store none 5 (.t 4) (.t 8), none, [], []⟩] false) .ret))
def i52 : F := ⟨2, 9, j52, [.c 4 5 true]⟩
theorem b52 : i52.body = j52 := rfl
theorem q52 : i52.res = [.c 4 5 true] := rfl
theorem c52 : chkF Tryz.prog Tryz.f52 i52 = true := by kernel_rfl
theorem s52 {m E} (hE : HE E) (hm : HM i52 m E) : Sound Tryz.prog 52 m := sound_of i52 Tryz.func52 rfl c52 hE hm
def j53 : C := (.seq (.region [nO 2 (.mov (.c (.int .i64 0)))] false) (.seq (.seq (.region [mO 3 0,
  nO 4 (.bin .lss (.t 3) (.c (.int .i64 1))),
  mO 5 4,
  mG 6 0 5 false,
  gO 7 (.bin .gtr (.t 6) (.c (.int .i64 1073741824))) 5 false,
  nO 8 (.pick (.t 5) (.c (.bool true)) (.t 7)),
  mO 9 8,
  mG 10 0 9 false,
  gO 11 (.bin .rem (.t 10) (.c (.int .i64 16))) 9 false,
  gO 12 (.call false 85 [(.t 11)]) 9 false,
  gO 13 (.un .not (.t 12)) 9 false,
  nO 14 (.pick (.t 9) (.c (.bool true)) (.t 13))] false) (.cond (.t 14) (.seq (.region [nO 2 (.mov (.c (.int .i64 1)))] false) .ret) .skip)) (.seq (.region [nO 2 (.mov (.c (.int .i64 0)))] false) .ret)))
def i53 : F := ⟨1, 15, j53, [.t 2]⟩
theorem b53 : i53.body = j53 := rfl
theorem q53 : i53.res = [.t 2] := rfl
theorem c53 : chkF Tryz.prog Tryz.f53 i53 = true := by kernel_rfl
theorem s53 {m E} (hE : HE E) (hm : HM i53 m E) : Sound Tryz.prog 53 m := sound_of i53 Tryz.func53 rfl c53 hE hm
def j54 : C := (.seq (.region [nO 1 (.box (.t 0)),
  nO 2 (.mov (.c (.int .i64 0)))] false) (.seq (.region [nO 3 (.load true 7 (.t 1)),
  nO 4 (.call false 105 [(.t 3)]),
  nO 5 (.call false 104 [(.t 4)]),
  mO 2 5] false) .ret))
def i54 : F := ⟨1, 6, j54, [.t 2]⟩
theorem b54 : i54.body = j54 := rfl
theorem q54 : i54.res = [.t 2] := rfl
theorem c54 : chkF Tryz.prog Tryz.f54 i54 = true := by kernel_rfl
theorem s54 {m E} (hE : HE E) (hm : HM i54 m E) : Sound Tryz.prog 54 m := sound_of i54 Tryz.func54 rfl c54 hE hm
def j55 : C := (.seq (.region [nO 4 (.box (.t 0)),
  nO 7 (.box (.t 3)),
  nO 8 (.mov (.c (.bool false)))] false) (.seq (.seq (.region [nO 10 (.fad 2 (.t 7)),
  nO 11 (.load false 1 (.t 10)),
  nO 12 (.bin .lss (.t 11) (.c (.int .i64 0))),
  mO 13 12,
  gO 14 (.fad 2 (.t 7)) 13 false,
  gO 15 (.load false 1 (.t 14)) 13 false,
  gO 16 (.bin .gtr (.t 15) (.c (.int .i64 1073741824))) 13 false,
  nO 17 (.pick (.t 13) (.c (.bool true)) (.t 16)),
  mO 18 17,
  gO 19 (.fad 7 (.t 7)) 18 false,
  gO 20 (.load false 1 (.t 19)) 18 false,
  gO 21 (.bin .lss (.t 20) (.c (.int .i64 0))) 18 false,
  nO 22 (.pick (.t 18) (.c (.bool true)) (.t 21)),
  mO 23 22,
  gO 24 (.fad 7 (.t 7)) 23 false,
  gO 25 (.load false 1 (.t 24)) 23 false,
  gO 26 (.bin .gtr (.t 25) (.c (.int .i64 1000))) 23 false,
  nO 27 (.pick (.t 23) (.c (.bool true)) (.t 26))] false) (.cond (.t 27) (.seq (.region [nO 8 (.mov (.c (.bool false)))] false) .ret) .skip)) (.seq (.region [mO 28 1,
  mO 29 2,
  nO 30 (.fad 4 (.t 7)),
  nO 31 (.load false 1 (.t 30)),
  nO 32 (.call false 106 [(.t 28), (.t 29), (.t 31)]),
  mO 33 32,
  mG 34 1 33 true,
  mG 35 2 33 true,
  gO 36 (.fad 5 (.t 7)) 33 true,
  gO 37 (.load false 1 (.t 36)) 33 true,
  gO 38 (.call false 106 [(.t 34), (.t 35), (.t 37)]) 33 true,
  nO 39 (.pick (.t 33) (.t 38) (.c (.bool false))),
  mO 40 39,
  mG 41 1 40 true,
  mG 42 2 40 true,
  gO 43 (.fad 6 (.t 7)) 40 true,
  gO 44 (.load false 1 (.t 43)) 40 true,
  gO 45 (.call false 106 [(.t 41), (.t 42), (.t 44)]) 40 true,
  nO 46 (.pick (.t 40) (.t 45) (.c (.bool false))),
  mO 9 46] false) (.seq (.region [mO 47 9,
  mO 48 47,
  mG 49 2 48 true,
  gO 50 (.load true 16 (.t 7)) 48 true,
  gO 51 (.call false 107 [(.t 49), (.t 50)]) 48 true,
  nO 52 (.pick (.t 48) (.t 51) (.c (.bool false))),
  mO 53 52,
  gO 54 (.load true 16 (.t 7)) 53 true,
  gO 55 (.call false 108 [(.t 54)]) 53 true,
  nO 56 (.pick (.t 53) (.t 55) (.c (.bool false))),
  mO 57 56,
  mG 58 1 57 true,
  mG 59 2 57 true,
  gO 60 (.fad 8 (.t 7)) 57 true,
  gO 61 (.load false 1 (.t 60)) 57 true,
  gO 62 (.fad 3 (.t 4)) 57 true,
  gO 63 (.load false 1 (.t 62)) 57 true,
  gO 64 (.call false 31 [(.t 58), (.t 59), (.t 61), (.t 63)]) 57 true,
  gO 65 (.bin .eql (.t 64) (.c (.int .i64 0))) 57 true,
  nO 66 (.pick (.t 57) (.t 65) (.c (.bool false))),
  mO 67 66,
  mG 68 1 67 true,
  mG 69 2 67 true,
  gO 70 (.fad 2 (.t 4)) 67 true,
  gO 71 (.load false 1 (.t 70)) 67 true,
  gO 72 (.fad 9 (.t 7)) 67 true,
  gO 73 (.load false 1 (.t 72)) 67 true,
  gO 74 (.call false 48 [(.t 68), (.t 69), (.t 71), (.t 73)]) 67 true,
  gO 75 (.bin .eql (.t 74) (.c (.int .i64 0))) 67 true,
  nO 76 (.pick (.t 67) (.t 75) (.c (.bool false))),
  mO 77 76,
  gO 78 (.load true 7 (.t 4)) 77 true,
  gO 79 (.fad 10 (.t 7)) 77 true,
  gO 80 (.load true 5 (.t 79)) 77 true,
  gO 81 (.fad 15 (.t 7)) 77 true,
  gO 82 (.load false 1 (.t 81)) 77 true,
  gO 83 (.call false 109 [(.t 78), (.t 80), (.t 82)]) 77 true,
  gO 84 (.bin .eql (.t 83) (.c (.int .i64 0))) 77 true,
  nO 85 (.pick (.t 77) (.t 84) (.c (.bool false))),
  mO 8 85] false) .ret))))
def i55 : F := ⟨4, 86, j55, [.t 8]⟩
theorem b55 : i55.body = j55 := rfl
theorem q55 : i55.res = [.t 8] := rfl
theorem c55 : chkF Tryz.prog Tryz.f55 i55 = true := by kernel_rfl
theorem s55 {m E} (hE : HE E) (hm : HM i55 m E) : Sound Tryz.prog 55 m := sound_of i55 Tryz.func55 rfl c55 hE hm
def j56 : C := (.seq (.region [nO 2 (.mov (.c (.bool false)))] false) (.seq (.region [mO 3 0,
  nO 4 (.call false 110 [(.t 3), (.c (.int .i64 0)), (.c (.int .i64 2147483647))]),
  mO 2 4] false) .ret))
def i56 : F := ⟨1, 5, j56, [.t 2]⟩
theorem b56 : i56.body = j56 := rfl
theorem q56 : i56.res = [.t 2] := rfl
theorem c56 : chkF Tryz.prog Tryz.f56 i56 = true := by kernel_rfl
theorem s56 {m E} (hE : HE E) (hm : HM i56 m E) : Sound Tryz.prog 56 m := sound_of i56 Tryz.func56 rfl c56 hE hm
def j59 : C := (.seq (.region [nO 4 (.mov (.c (.bool false)))] false) (.seq (.seq (.region [mO 6 0,
  nO 7 (.len (.t 6)),
  mO 8 1,
  nO 9 (.len (.t 8)),
  nO 10 (.bin .neq (.t 7) (.t 9))] false) (.cond (.t 10) (.seq (.region [nO 4 (.mov (.c (.bool false)))] false) .ret) .skip)) (.seq (.seq (.region [nO 5 (.mov (.c (.int .i64 0)))] false) (.block 0 (.loop (.keep [0, 1, 5] (.seq (.seq (.region [mO 11 5,
  mO 12 0,
  nO 13 (.len (.t 12)),
  nO 14 (.bin .lss (.t 11) (.t 13))] false) (.cond (.t 14) .skip (.exit 0))) (.seq (.block 1 (.seq (.region [⟨some 17, .mov (.t 0), none, [18, 21, 22, 23, 24], []⟩,⟨some 18, .mov (.t 5), none, [17, 21, 22, 23, 24], []⟩,⟨some 19, .iad 2 (.t 17) (.t 18), none, [21, 22, 23, 24], [0, 1]⟩,⟨some 20, .load true 2 (.t 19), none, [21, 22, 23, 24], [0, 1, 2]⟩,⟨some 21, .mov (.t 1), none, [17, 18, 19, 20, 22], []⟩,⟨some 22, .mov (.t 5), none, [17, 18, 19, 20, 21], []⟩,⟨some 23, .iad 2 (.t 21) (.t 22), none, [17, 18, 19, 20], [4, 5]⟩,⟨some 24, .load true 2 (.t 23), none, [17, 18, 19, 20], [4, 5, 6]⟩,⟨some 25, .eqs true [true, true] (.t 20) (.t 24), none, [], [0, 1, 2, 3, 4, 5, 6, 7]⟩] true) (.cond (.t 25) (.seq (.region [nO 4 (.mov (.c (.bool false)))] false) .ret) .skip))) (.region [mO 15 5,
  nO 16 (.bin .add (.t 15) (.c (.int .i64 1))),
  mO 5 16] false))))))) (.seq (.region [nO 4 (.mov (.c (.bool true)))] false) .ret))))
def i59 : F := ⟨2, 26, j59, [.t 4]⟩
theorem b59 : i59.body = j59 := rfl
theorem q59 : i59.res = [.t 4] := rfl
theorem c59 : chkF Tryz.prog Tryz.f59 i59 = true := by kernel_rfl
theorem s59 {m E} (hE : HE E) (hm : HM i59 m E) : Sound Tryz.prog 59 m := sound_of i59 Tryz.func59 rfl c59 hE hm
def j60 : C := (.seq (.region [nO 6 (.mov (.c (.bool false)))] false) (.seq (.region [mO 7 0,
  mO 8 1,
  nO 9 (.bin .geq (.t 7) (.t 8)),
  mO 10 9,
  mG 11 0 10 true,
  mG 12 2 10 true,
  gO 13 (.bin .leq (.t 11) (.t 12)) 10 true,
  nO 14 (.pick (.t 10) (.t 13) (.c (.bool false))),
  mO 6 14] false) .ret))
def i60 : F := ⟨3, 15, j60, [.t 6]⟩
theorem b60 : i60.body = j60 := rfl
theorem q60 : i60.res = [.t 6] := rfl
theorem c60 : chkF Tryz.prog Tryz.f60 i60 = true := by kernel_rfl
theorem s60 {m E} (hE : HE E) (hm : HM i60 m E) : Sound Tryz.prog 60 m := sound_of i60 Tryz.func60 rfl c60 hE hm
def j61 : C := (.seq (.region [nO 10 (.box (.t 4)),
  nO 12 (.nilsl 51 3 0),
  nO 13 (.mov (.c (.int .i64 0))),
  nO 14 (.mov (.c (.int .i64 0))),
  nO 15 (.mov (.c (.int .i64 0)))] false) (.seq (.region [mO 19 0,
  mO 20 1,
  mO 21 2,
  mO 22 3,
  nO 23 (.call true 48 [(.t 19), (.t 20), (.t 21), (.t 22)]),
  mO 15 23] false) (.seq (.seq (.region [mO 24 15,
  nO 25 (.bin .neq (.t 24) (.c (.int .i64 0))),
  mO 26 25,
  mG 27 0 26 false,
  mG 28 1 26 false,
  gO 29 (.load false 1 (.t 10)) 26 false,
  gO 30 (.call false 28 [(.t 27), (.t 28), (.t 29)]) 26 false,
  gO 31 (.un .not (.t 30)) 26 false,
  nO 32 (.pick (.t 26) (.c (.bool true)) (.t 31)),
  mO 33 32,
  mG 34 5 33 false,
  gO 35 (.call false 116 [(.t 34)]) 33 false,
  gO 36 (.un .not (.t 35)) 33 false,
  nO 37 (.pick (.t 33) (.c (.bool true)) (.t 36))] false) (.cond (.t 37) (.seq (.region [nO 12 (.nilsl 51 3 1),
  nO 13 (.mov (.c (.int .i64 0))),
  nO 14 (.mov (.c (.int .i64 0))),
  nO 15 (.mov (.c (.int .i64 1)))] false) .ret) .skip)) (.seq (.region [nO 38 (.load false 1 (.t 10)),
  mO 39 5,
  nO 40 (.build [.int .i64 0, .int .i64 0, .int .i64 0] [(0, 1, (.t 38)), (1, 1, (.t 39))]),
  nO 16 (.alloc [.int .i64 0, .int .i64 0, .int .i64 0]),⟨none, .store none 3 (.t 16) (.t 40), none, [], []⟩] false) (.seq (.frz [10] (.region [mO 41 3,
  nO 42 (.mkf 118 [(.t 10)]),
  nO 43 (.call false 117 [(.t 41), (.t 42)]),
  mO 17 43] false)) (.seq (.block 0 (.seq (.region [mO 45 17,
  nO 46 (.bin .geq (.t 45) (.c (.int .i64 0))),
  mO 44 46] false) (.cond (.t 44) (.seq (.region [mO 47 3,
  nO 48 (.call true 101 [(.t 47)]),
  mO 12 48] false) (.seq (.region [mO 49 12,
  mO 50 17,
  nO 51 (.load true 3 (.t 16)),
  nO 52 (.iad 3 (.t 49) (.t 50)),⟨none, .store none 3 (.t 52) (.t 51), none, [], []⟩] false) (.seq (.region [mO 53 12,
  mO 12 53,
  nO 13 (.mov (.c (.int .i64 0))),
  nO 14 (.mov (.c (.int .i64 0))),
  nO 15 (.mov (.c (.int .i64 0)))] false) .ret))) (.seq (.region [mO 55 3,
  nO 56 (.len (.t 55)),
  mO 57 2,
  nO 58 (.bin .lss (.t 56) (.t 57)),
  mO 54 58] false) (.cond (.t 54) (.seq (.region [mO 59 0,
  mO 60 3,
  nO 61 (.load true 3 (.t 16)),
  nO 62 (.call true 119 [(.t 59), (.t 60), (.t 61)]),
  mO 12 62,
  nO 13 (.mov (.c (.int .i64 0))),
  nO 14 (.mov (.c (.int .i64 0))),
  nO 15 (.mov (.c (.int .i64 0)))] false) .ret) (.seq (.region [⟨some 64, .mov (.t 0), none, [65, 66, 67, 68, 69], []⟩,⟨some 65, .mov (.t 3), none, [64, 69], []⟩,⟨some 66, .iad 3 (.t 65) (.c (.int .i64 0)), none, [64, 69], [1]⟩,⟨some 67, .fad 0 (.t 66), none, [64, 69], [1, 2]⟩,⟨some 68, .load false 1 (.t 67), none, [64, 69], [1, 2, 3]⟩,⟨some 69, .load false 1 (.t 10), none, [64, 65, 66, 67, 68], []⟩,⟨some 70, .call false 28 [(.t 64), (.t 68), (.t 69)], none, [], [0, 1, 2, 3, 4, 5]⟩,⟨some 63, .mov (.t 70), none, [], [0, 1, 2, 3, 4, 5, 6]⟩] true) (.cond (.t 63) (.seq (.region [⟨some 71, .mov (.t 3), none, [73, 74, 75, 76, 77, 78, 79], []⟩,⟨some 72, .call true 101 [(.t 71)], none, [73, 74, 75, 76, 77, 78, 79], [0]⟩,⟨some 73, .load false 1 (.t 10), none, [12, 71, 72, 75, 76, 77, 78, 79], []⟩,⟨some 74, .bin .add (.t 73) (.c (.int .i64 1)), none, [12, 71, 72, 75, 76, 77, 78, 79], [2]⟩,⟨some 75, .mov (.t 3), none, [12, 13, 71, 72, 73, 74], []⟩,⟨some 76, .iad 3 (.t 75) (.c (.int .i64 0)), none, [12, 13, 71, 72, 73, 74], [4]⟩,⟨some 77, .fad 0 (.t 76), none, [12, 13, 71, 72, 73, 74], [4, 5]⟩,⟨some 78, .load false 1 (.t 77), none, [12, 13, 71, 72, 73, 74], [4, 5, 6]⟩,⟨some 79, .bin .add (.t 78) (.c (.int .i64 1)), none, [12, 13, 71, 72, 73, 74], [4, 5, 6, 7]⟩,⟨some 12, .mov (.t 72), none, [73, 74, 75, 76, 77, 78, 79], [0, 1]⟩,⟨some 13, .mov (.t 74), none, [75, 76, 77, 78, 79], [0, 1, 2, 3, 9]⟩,⟨some 14, .mov (.t 79), none, [], [0, 1, 2, 3, 4, 5, 6, 7, 8, 9, 10]⟩,⟨some 15, .mov (.c (.int .i64 0)), none, [], [0, 1, 2, 3, 4, 5, 6, 7, 8, 9, 10, 11]⟩] true) .ret) .skip))))))) (.seq (.region [mO 80 3,
  mO 81 3,
  nO 82 (.len (.t 81)),
  nO 83 (.bin .sub (.t 82) (.c (.int .i64 1))),
  nO 84 (.iad 3 (.t 80) (.t 83)),
  nO 85 (.fad 0 (.t 84)),
  nO 86 (.load false 1 (.t 85)),
  mO 18 86] false) (.seq (.region [⟨some 87, .mov (.t 0), none, [88, 89, 90, 91, 92, 93, 95, 96, 97, 98], []⟩,⟨some 88, .mov (.t 3), none, [87, 89, 90, 91, 93, 95, 96, 97, 98], []⟩,⟨some 89, .mov (.t 3), none, [87, 88, 93, 95, 96, 97, 98], []⟩,⟨some 90, .len (.t 89), none, [87, 88, 93, 95, 96, 97, 98], [2]⟩,⟨some 91, .bin .sub (.t 90) (.c (.int .i64 1)), none, [87, 88, 93, 95, 96, 97, 98], [2, 3]⟩,⟨some 92, .cut 3 (.t 88) none (some (.t 91)), none, [87, 93, 95, 96, 97, 98], [1, 2, 3, 4]⟩,⟨some 93, .load true 3 (.t 16), none, [87, 88, 89, 90, 91, 92, 95, 96, 97, 98], []⟩,⟨some 94, .call true 119 [(.t 87), (.t 92), (.t 93)], none, [95, 96, 97, 98], [0, 1, 2, 3, 4, 5, 6]⟩,⟨some 95, .mov (.t 18), none, [12, 87, 88, 89, 90, 91, 92, 93, 94, 97, 98], []⟩,⟨some 96, .bin .add (.t 95) (.c (.int .i64 1)), none, [12, 87, 88, 89, 90, 91, 92, 93, 94, 97, 98], [8]⟩,⟨some 97, .load false 1 (.t 10), none, [12, 13, 87, 88, 89, 90, 91, 92, 93, 94, 95, 96], []⟩,⟨some 98, .bin .add (.t 97) (.c (.int .i64 1)), none, [12, 13, 87, 88, 89, 90, 91, 92, 93, 94, 95, 96], [10]⟩,⟨some 12, .mov (.t 94), none, [95, 96, 97, 98], [0, 1, 2, 3, 4, 5, 6, 7]⟩,⟨some 13, .mov (.t 96), none, [97, 98], [0, 1, 2, 3, 4, 5, 6, 7, 8, 9, 12]⟩,⟨some 14, .mov (.t 98), none, [], [0, 1, 2, 3, 4, 5, 6, 7, 8, 9, 10, 11, 12, 13]⟩,⟨some 15, .mov (.c (.int .i64 0)), none, [], [0, 1, 2, 3, 4, 5, 6, 7, 8, 9, 10, 11, 12, 13, 14]⟩] true) .ret))))))))
def i61 : F := ⟨6, 99, j61, [.t 12, .t 13, .t 14, .t 15]⟩
theorem b61 : i61.body = j61 := rfl
theorem q61 : i61.res = [.t 12, .t 13, .t 14, .t 15] := rfl
theorem c61 : chkF Tryz.prog Tryz.f61 i61 = true := by kernel_rfl
theorem s61 {m E} (hE : HE E) (hm : HM i61 m E) : Sound Tryz.prog 61 m := sound_of i61 Tryz.func61 rfl c61 hE hm
def j62 : C := (.seq (.region [nO 1 (.box (.t 0)),
  nO 2 (.mov (.c (.bool false)))] false) (.seq (.region [nO 3 (.fad 3 (.t 1)),
  nO 4 (.load false 1 (.t 3)),
  nO 5 (.bin .neq (.t 4) (.c (.int .i64 0))),
  mO 6 5,
  gO 7 (.fad 8 (.t 1)) 6 false,
  gO 8 (.load false 1 (.t 7)) 6 false,
  gO 9 (.len (.t 8)) 6 false,
  gO 10 (.bin .gtr (.t 9) (.c (.int .i64 0))) 6 false,
  nO 11 (.pick (.t 6) (.c (.bool true)) (.t 10)),
  mO 2 11] false) .ret))
def i62 : F := ⟨1, 12, j62, [.t 2]⟩
theorem b62 : i62.body = j62 := rfl
theorem q62 : i62.res = [.t 2] := rfl
theorem c62 : chkF Tryz.prog Tryz.f62 i62 = true := by kernel_rfl
theorem s62 {m E} (hE : HE E) (hm : HM i62 m E) : Sound Tryz.prog 62 m := sound_of i62 Tryz.func62 rfl c62 hE hm
def j63 : C := (.seq (.region [nO 3 (.box (.t 1)),
  nO 4 (.mov (.c (.row [])))] false) (.seq (.frz [3] (.region [mO 5 0,
  nO 6 (.call true 101 [(.t 5)]),
  nO 7 (.mkf 121 [(.t 3)]),
  nO 8 (.callo 120 [(.t 6), (.t 7)]),
  mO 4 8] false)) .ret))
def i63 : F := ⟨2, 9, j63, [.t 4]⟩
theorem b63 : i63.body = j63 := rfl
theorem q63 : i63.res = [.t 4] := rfl
theorem c63 : chkF Tryz.prog Tryz.f63 i63 = true := by kernel_rfl
theorem s63 {m E} (hE : HE E) (hm : HM i63 m E) : Sound Tryz.prog 63 m := sound_of i63 Tryz.func63 rfl c63 hE hm
def j64 : C := (.seq (.region [nO 6 (.box (.t 2)),
  nO 8 (.alloc [.int .i64 0, .int .i64 0, .int .i64 0, .int .i64 0, .int .i64 0, .int .i64 0, .int .i64 0, .int .i64 0, .int .i64 0, .int .i64 0, .int .i64 0, .int .i64 0, .int .i64 0, .int .i64 0, .row [], .row []])] false) (.seq (.region [⟨some 9, .mov (.t 3), none, [10, 11, 12, 13, 14, 15, 16, 17, 18, 19, 20, 21, 22], []⟩,⟨some 10, .mov (.t 0), none, [9, 11, 12, 13, 14, 15, 16, 17, 18, 19, 20, 21, 22], []⟩,⟨some 11, .fad 10 (.t 6), none, [9, 10, 14, 15, 16, 17, 18, 19, 20, 21, 22], []⟩,⟨some 12, .fad 0 (.t 11), none, [9, 10, 14, 15, 16, 17, 18, 19, 20, 21, 22], [2]⟩,⟨some 13, .load false 1 (.t 12), none, [9, 10, 14, 15, 16, 17, 18, 19, 20, 21, 22], [2, 3]⟩,⟨some 14, .fad 10 (.t 6), none, [9, 10, 11, 12, 13, 18, 19, 20, 21, 22], []⟩,⟨some 15, .fad 1 (.t 14), none, [9, 10, 11, 12, 13, 18, 19, 20, 21, 22], [5]⟩,⟨some 16, .load false 1 (.t 15), none, [9, 10, 11, 12, 13, 18, 19, 20, 21, 22], [5, 6]⟩,⟨some 17, .mx (.t 16) (.c (.int .i64 1)), none, [9, 10, 11, 12, 13, 18, 19, 20, 21, 22], [5, 6, 7]⟩,⟨some 18, .fad 2 (.t 6), none, [9, 10, 11, 12, 13, 14, 15, 16, 17, 20, 21, 22], []⟩,⟨some 19, .load false 1 (.t 18), none, [9, 10, 11, 12, 13, 14, 15, 16, 17, 20, 21, 22], [9]⟩,⟨some 20, .mov (.t 1), none, [9, 10, 11, 12, 13, 14, 15, 16, 17, 18, 19, 21], []⟩,⟨some 21, .load true 16 (.t 6), none, [9, 10, 11, 12, 13, 14, 15, 16, 17, 18, 19, 20], []⟩,⟨some 22, .call false 122 [(.t 20), (.t 21)], none, [9, 10, 11, 12, 13, 14, 15, 16, 17, 18, 19], [11, 12]⟩,⟨some 23, .build [.int .i64 0, .int .i64 0, .int .i64 0, .int .i64 0, .int .i64 0, .int .i64 0, .int .i64 0, .int .i64 0, .int .i64 0, .int .i64 0, .int .i64 0, .int .i64 0, .int .i64 0, .int .i64 0, .row [], .row []] [(0, 1, (.c (.int .i64 3))), (3, 1, (.t 9)), (5, 1, (.t 10)), (6, 1, (.t 13)), (7, 1, (.t 17)), (8, 1, (.t 19)), (14, 1, (.t 22))], none, [], [0, 1, 2, 3, 4, 5, 6, 7, 8, 9, 10, 11, 12, 13]⟩,⟨none, .store none 16 (.t 8) (.t 23), none, [], [0, 1, 2, 3, 4, 5, 6, 7, 8, 9, 10, 11, 12, 13, 14]⟩] true) .ret))
def i64 : F := ⟨4, 24, j64, [.c 8 16 true]⟩
theorem b64 : i64.body = j64 := rfl
theorem q64 : i64.res = [.c 8 16 true] := rfl
theorem c64 : chkF Tryz.prog Tryz.f64 i64 = true := by kernel_rfl
theorem s64 {m E} (hE : HE E) (hm : HM i64 m E) : Sound Tryz.prog 64 m := sound_of i64 Tryz.func64 rfl c64 hE hm
def j65 : C := (.seq (.region [nO 4 (.mov (.c (.int .i64 0))),
  nO 5 (.mov (.c (.int .i64 0)))] false) (.seq (.region [mO 10 0,
  nO 11 (.call false 123 [(.t 10)]),
  mO 9 11,
  nO 12 (.ext (.t 9) 0),
  nO 13 (.ext (.t 9) 1),
  mO 6 12,
  mO 7 13] false) (.seq (.seq (.region [mO 14 7,
  nO 15 (.bin .neq (.t 14) (.c (.int .i64 0)))] false) (.cond (.t 15) (.seq (.region [mO 16 7,
  nO 4 (.mov (.c (.int .i64 0))),
  mO 5 16] false) .ret) .skip)) (.seq (.region [mO 18 1,
  nO 19 (.call false 124 [(.t 18)]),
  mO 17 19,
  nO 20 (.ext (.t 17) 0),
  nO 21 (.ext (.t 17) 1),
  mO 8 20,
  mO 7 21] false) (.seq (.seq (.region [mO 22 7,
  nO 23 (.bin .neq (.t 22) (.c (.int .i64 0)))] false) (.cond (.t 23) (.seq (.region [mO 24 7,
  nO 4 (.mov (.c (.int .i64 0))),
  mO 5 24] false) .ret) .skip)) (.seq (.region [mO 25 6,
  mO 26 8,
  nO 27 (.call false 125 [(.t 25), (.t 26)]),
  mO 4 27,
  nO 5 (.mov (.c (.int .i64 0)))] false) .ret))))))
def i65 : F := ⟨2, 28, j65, [.t 4, .t 5]⟩
theorem b65 : i65.body = j65 := rfl
theorem q65 : i65.res = [.t 4, .t 5] := rfl
theorem c65 : chkF Tryz.prog Tryz.f65 i65 = true := by kernel_rfl
theorem s65 {m E} (hE : HE E) (hm : HM i65 m E) : Sound Tryz.prog 65 m := sound_of i65 Tryz.func65 rfl c65 hE hm
def j66 : C := (.seq (.region [nO 4 (.mov (.c (.int .i64 0))),
  nO 5 (.mov (.c (.int .i64 0)))] false) (.seq (.region [mO 12 0,
  nO 13 (.call false 123 [(.t 12)]),
  mO 11 13,
  nO 14 (.ext (.t 11) 0),
  nO 15 (.ext (.t 11) 1),
  mO 6 14,
  mO 7 15] false) (.seq (.block 0 (.seq (.region [mO 17 7,
  nO 18 (.bin .neq (.t 17) (.c (.int .i64 0))),
  mO 16 18] false) (.cond (.t 16) (.seq (.region [mO 19 7,
  nO 4 (.mov (.c (.int .i64 0))),
  mO 5 19] false) .ret) (.seq (.region [mO 21 1,
  nO 22 (.call false 70 [(.t 21)]),
  nO 23 (.un .not (.t 22)),
  mO 20 23] false) (.cond (.t 20) (.seq (.region [nO 4 (.mov (.c (.int .i64 0))),
  nO 5 (.mov (.c (.int .i64 1)))] false) .ret) (.seq (.region [mO 25 1,
  nO 26 (.len (.t 25)),
  nO 27 (.bin .eql (.t 26) (.c (.int .i64 0))),
  mO 24 27] false) (.cond (.t 24) (.seq (.region [nO 4 (.mov (.c (.int .i64 0))),
  nO 5 (.mov (.c (.int .i64 7)))] false) .ret) .skip))))))) (.seq (.region [mO 28 1,
  nO 29 (.iad 1 (.t 28) (.c (.int .i64 0))),
  nO 30 (.load false 1 (.t 29)),
  mO 8 30] false) (.seq (.seq (.region [mO 31 1,
  nO 32 (.len (.t 31)),
  nO 33 (.mov (.c (.int .i64 0)))] false) (.block 1 (.loop (.keep [0, 8, 31, 32, 33] (.seq (.region [nO 34 (.bin .lss (.t 33) (.t 32))] false) (.seq (.cond (.t 34) .skip (.exit 1)) (.seq (.block 2 (.seq (.region [nO 35 (.iad 1 (.t 31) (.t 33)),
  nO 36 (.load false 1 (.t 35)),
  mO 10 36] false) (.seq (.region [mO 37 0,
  mO 38 10,
  mO 39 8,
  nO 40 (.call false 28 [(.t 37), (.t 38), (.t 39)])] false) (.cond (.t 40) (.region [mO 41 10,
  mO 8 41] false) .skip)))) (.region [nO 42 (.bin .add (.t 33) (.c (.int .i64 1))),
  mO 33 42] false)))))))) (.seq (.region [mO 43 8,
  mO 4 43,
  nO 5 (.mov (.c (.int .i64 0)))] false) .ret))))))
def i66 : F := ⟨2, 44, j66, [.t 4, .t 5]⟩
theorem c66 : chkF Tryz.prog Tryz.f66 i66 = true := by kernel_rfl
theorem s66 {m E} (hE : HE E) (hm : HM i66 m E) : Sound Tryz.prog 66 m := sound_of i66 Tryz.func66 rfl c66 hE hm
def j67 : C := (.seq (.region [nO 4 (.mov (.c (.row [])))] false) (.seq (.region [nO 5 (.mov (.c (.row [])))] false) (.seq (.seq (.region [nO 6 (.mov (.c (.int .i64 0)))] false) (.block 0 (.loop (.keep [0, 1, 5, 6] (.seq (.seq (.region [mO 8 6,
  nO 9 (.bin .lss (.t 8) (.c (.int .i64 8)))] false) (.cond (.t 9) .skip (.exit 0))) (.seq (.block 1 (.seq (.seq (.region [mO 12 0,
  mO 13 1,
  mO 14 6,
  nO 15 (.call false 28 [(.t 12), (.t 13), (.t 14)]),
  nO 16 (.un .not (.t 15))] false) (.cond (.t 16) (.exit 1) .skip)) (.seq (.region [mO 17 5,
  nO 18 (.len (.t 17)),
  mO 7 18] false) (.seq (.block 2 (.loop (.keep [0, 1, 5, 6, 7] (.seq (.seq (.region [mO 19 7,
  nO 20 (.bin .gtr (.t 19) (.c (.int .i64 0))),
  mO 21 20,
  mG 22 0 21 true,
  mG 23 6 21 true,
  mG 24 5 21 true,
  mG 25 7 21 true,
  gO 26 (.bin .sub (.t 25) (.c (.int .i64 1))) 21 true,
  gO 27 (.iad 1 (.t 24) (.t 26)) 21 true,
  gO 28 (.load false 1 (.t 27)) 21 true,
  gO 29 (.call false 28 [(.t 22), (.t 23), (.t 28)]) 21 true,
  nO 30 (.pick (.t 21) (.t 29) (.c (.bool false)))] false) (.cond (.t 30) .skip (.exit 2))) (.block 3 (.region [mO 31 7,
  nO 32 (.bin .sub (.t 31) (.c (.int .i64 1))),
  mO 7 32] false)))))) (.region [⟨some 33, .bsl 3 1 0 [.int .i64 0] [], none, [34, 35, 36, 38, 39, 41, 42, 43], []⟩,⟨some 34, .mov (.t 5), none, [33, 35, 38, 39, 41, 42, 43], []⟩,⟨some 35, .mov (.t 7), none, [33, 34, 38, 39, 41, 42, 43], []⟩,⟨some 36, .cut 1 (.t 34) none (some (.t 35)), none, [33, 38, 39, 41, 42, 43], [1, 2]⟩,⟨some 37, .app 3 1 8 (.t 33) (.t 36), none, [38, 39, 41, 42, 43], [0, 1, 2, 3]⟩,⟨some 38, .mov (.t 6), none, [33, 34, 35, 36, 37, 41, 42, 43], []⟩,⟨some 39, .bsl 3 1 1 [.int .i64 0] [(0, (.t 38))], none, [33, 34, 35, 36, 37, 41, 42, 43], [5]⟩,⟨some 40, .app 3 1 8 (.t 37) (.t 39), none, [41, 42, 43], [0, 1, 2, 3, 4, 5, 6]⟩,⟨some 41, .mov (.t 5), none, [33, 34, 35, 36, 37, 38, 39, 40, 42], []⟩,⟨some 42, .mov (.t 7), none, [33, 34, 35, 36, 37, 38, 39, 40, 41], []⟩,⟨some 43, .cut 1 (.t 41) (some (.t 42)) none, none, [33, 34, 35, 36, 37, 38, 39, 40], [8, 9]⟩,⟨some 44, .app 3 1 8 (.t 40) (.t 43), none, [], [0, 1, 2, 3, 4, 5, 6, 7, 8, 9, 10]⟩,⟨some 5, .mov (.t 44), none, [], [0, 1, 2, 3, 4, 5, 6, 7, 8, 9, 10, 11]⟩] true))))) (.frz [5] (.region [mO 10 6,
  nO 11 (.bin .add (.t 10) (.c (.int .i64 1))),
  mO 6 11] false)))))))) (.seq (.region [mO 45 5,
  mO 4 45] false) .ret))))
def i67 : F := ⟨2, 46, j67, [.t 4]⟩
theorem c67 : chkF Tryz.prog Tryz.f67 i67 = true := by kernel_rfl
theorem s67 {m E} (hE : HE E) (hm : HM i67 m E) : Sound Tryz.prog 67 m := sound_of i67 Tryz.func67 rfl c67 hE hm
def j68 : C := (.seq (.region [nO 4 (.mov (.c (.bool false)))] false) (.seq (.region [mO 5 0,
  mO 6 1,
  nO 7 (.call false 117 [(.t 5), (.t 6)]),
  nO 8 (.bin .geq (.t 7) (.c (.int .i64 0))),
  mO 4 8] false) .ret))
def i68 : F := ⟨2, 9, j68, [.t 4]⟩
theorem b68 : i68.body = j68 := rfl
theorem q68 : i68.res = [.t 4] := rfl
theorem c68 : chkF Tryz.prog Tryz.f68 i68 = true := by kernel_rfl
theorem s68 {m E} (hE : HE E) (hm : HM i68 m E) : Sound Tryz.prog 68 m := sound_of i68 Tryz.func68 rfl c68 hE hm
def j69 : C := (.seq (.region [nO 2 (.box (.t 0)),
  nO 3 (.mov (.c (.bool false)))] false) (.seq (.region [nO 4 (.fad 0 (.t 2)),
  nO 5 (.load false 1 (.t 4)),
  nO 6 (.load false 1 (.t 1)),
  nO 7 (.bin .eql (.t 5) (.t 6)),
  mO 3 7] false) .ret))
def i69 : F := ⟨2, 8, j69, [.t 3]⟩
theorem b69 : i69.body = j69 := rfl
theorem q69 : i69.res = [.t 3] := rfl
theorem c69 : chkF Tryz.prog Tryz.f69 i69 = true := by kernel_rfl
theorem s69 {m E} (hE : HE E) (hm : HM i69 m E) : Sound Tryz.prog 69 m := sound_of i69 Tryz.func69 rfl c69 hE hm
def j70 : C := (.seq (.region [nO 2 (.mov (.c (.bool false)))] false) (.seq (.region [mO 3 0,
  nO 4 (.call false 126 [(.t 3), (.c (.fn 127 []))]),
  nO 5 (.un .not (.t 4)),
  mO 2 5] false) .ret))
def i70 : F := ⟨1, 6, j70, [.t 2]⟩
theorem b70 : i70.body = j70 := rfl
theorem q70 : i70.res = [.t 2] := rfl
theorem c70 : chkF Tryz.prog Tryz.f70 i70 = true := by kernel_rfl
theorem s70 {m E} (hE : HE E) (hm : HM i70 m E) : Sound Tryz.prog 70 m := sound_of i70 Tryz.func70 rfl c70 hE hm
def j71 : C := (.seq (.region [nO 6 (.mov (.c (.bool false)))] false) (.seq (.seq (.region [mO 9 2,
  nO 10 (.len (.t 9)),
  nO 11 (.mov (.c (.int .i64 0)))] false) (.block 0 (.loop (.keep [0, 1, 9, 10, 11] (.seq (.region [nO 12 (.bin .lss (.t 11) (.t 10))] false) (.seq (.cond (.t 12) .skip (.exit 0)) (.seq (.block 1 (.seq (.region [nO 13 (.iad 1 (.t 9) (.t 11)),
  nO 14 (.load false 1 (.t 13)),
  mO 8 14] false) (.seq (.seq (.region [mO 15 0,
  mO 16 8,
  mO 17 1,
  nO 18 (.call false 28 [(.t 15), (.t 16), (.t 17)]),
  nO 19 (.un .not (.t 18))] false) (.cond (.t 19) (.seq (.region [nO 6 (.mov (.c (.bool false)))] false) .ret) .skip)) (.region [mO 20 8,
  mO 1 20] false)))) (.region [nO 21 (.bin .add (.t 11) (.c (.int .i64 1))),
  mO 11 21] false)))))))) (.seq (.region [nO 6 (.mov (.c (.bool true)))] false) .ret)))
def i71 : F := ⟨3, 22, j71, [.t 6]⟩
theorem b71 : i71.body = j71 := rfl
theorem q71 : i71.res = [.t 6] := rfl
theorem c71 : chkF Tryz.prog Tryz.f71 i71 = true := by kernel_rfl
theorem s71 {m E} (hE : HE E) (hm : HM i71 m E) : Sound Tryz.prog 71 m := sound_of i71 Tryz.func71 rfl c71 hE hm
def j72 : C := (.seq (.region [nO 2 (.mov (.c (.bool false)))] false) (.seq (.region [mO 3 0,
  nO 4 (.call false 60 [(.t 3), (.c (.int .i64 1)), (.c (.int .i64 1073741824))]),
  mO 2 4] false) .ret))
def i72 : F := ⟨1, 5, j72, [.t 2]⟩
theorem b72 : i72.body = j72 := rfl
theorem q72 : i72.res = [.t 2] := rfl
theorem c72 : chkF Tryz.prog Tryz.f72 i72 = true := by kernel_rfl
theorem s72 {m E} (hE : HE E) (hm : HM i72 m E) : Sound Tryz.prog 72 m := sound_of i72 Tryz.func72 rfl c72 hE hm
def j73 : C := (.seq (.region [nO 2 (.mov (.c (.bool false)))] false) (.seq (.region [mO 3 0,
  nO 4 (.call false 60 [(.t 3), (.c (.int .i64 0)), (.c (.int .i64 3))]),
  mO 2 4] false) .ret))
def i73 : F := ⟨1, 5, j73, [.t 2]⟩
theorem b73 : i73.body = j73 := rfl
theorem q73 : i73.res = [.t 2] := rfl
theorem c73 : chkF Tryz.prog Tryz.f73 i73 = true := by kernel_rfl
theorem s73 {m E} (hE : HE E) (hm : HM i73 m E) : Sound Tryz.prog 73 m := sound_of i73 Tryz.func73 rfl c73 hE hm
def j74 : C := (.seq (.region [nO 2 (.mov (.c (.bool false)))] false) (.seq (.seq (.region [nO 3 (.mov (.c (.int .i64 0)))] false) (.block 0 (.loop (.keep [0, 3] (.seq (.seq (.region [mO 4 3,
  mO 5 0,
  nO 6 (.len (.t 5)),
  nO 7 (.bin .lss (.t 4) (.t 6))] false) (.cond (.t 7) .skip (.exit 0))) (.seq (.block 1 (.seq (.region [mO 10 0,
  mO 11 3,
  nO 12 (.iad 1 (.t 10) (.t 11)),
  nO 13 (.load false 1 (.t 12)),
  nO 14 (.call false 26 [(.t 13)]),
  nO 15 (.un .not (.t 14))] false) (.cond (.t 15) (.seq (.region [nO 2 (.mov (.c (.bool false)))] false) .ret) .skip))) (.region [mO 8 3,
  nO 9 (.bin .add (.t 8) (.c (.int .i64 1))),
  mO 3 9] false))))))) (.seq (.region [mO 16 0,
  nO 17 (.len (.t 16)),
  nO 18 (.bin .leq (.t 17) (.c (.int .i64 8))),
  mO 2 18] false) .ret)))
def i74 : F := ⟨1, 19, j74, [.t 2]⟩
theorem b74 : i74.body = j74 := rfl
theorem q74 : i74.res = [.t 2] := rfl
theorem c74 : chkF Tryz.prog Tryz.f74 i74 = true := by kernel_rfl
theorem s74 {m E} (hE : HE E) (hm : HM i74 m E) : Sound Tryz.prog 74 m := sound_of i74 Tryz.func74 rfl c74 hE hm
def j75 : C := (.seq (.region [nO 2 (.mov (.c (.bool false)))] false) (.seq (.seq (.region [nO 3 (.mov (.c (.int .i64 0)))] false) (.block 0 (.loop (.keep [0, 3] (.seq (.seq (.region [mO 5 3,
  mO 6 0,
  nO 7 (.len (.t 6)),
  nO 8 (.bin .lss (.t 5) (.t 7))] false) (.cond (.t 8) .skip (.exit 0))) (.seq (.block 1 (.seq (.region [nO 4 (.mov (.c (.int .i64 0)))] false) (.block 2 (.loop (.keep [0, 3, 4] (.seq (.seq (.region [mO 11 4,
  mO 12 3,
  nO 13 (.bin .lss (.t 11) (.t 12))] false) (.cond (.t 13) .skip (.exit 2))) (.seq (.block 3 (.seq (.region [⟨some 16, .mov (.t 0), none, [17, 20, 21, 22, 23], []⟩,⟨some 17, .mov (.t 4), none, [16, 20, 21, 22, 23], []⟩,⟨some 18, .iad 1 (.t 16) (.t 17), none, [20, 21, 22, 23], [0, 1]⟩,⟨some 19, .load false 1 (.t 18), none, [20, 21, 22, 23], [0, 1, 2]⟩,⟨some 20, .mov (.t 0), none, [16, 17, 18, 19, 21], []⟩,⟨some 21, .mov (.t 3), none, [16, 17, 18, 19, 20], []⟩,⟨some 22, .iad 1 (.t 20) (.t 21), none, [16, 17, 18, 19], [4, 5]⟩,⟨some 23, .load false 1 (.t 22), none, [16, 17, 18, 19], [4, 5, 6]⟩,⟨some 24, .bin .eql (.t 19) (.t 23), none, [], [0, 1, 2, 3, 4, 5, 6, 7]⟩] true) (.cond (.t 24) (.seq (.region [nO 2 (.mov (.c (.bool false)))] false) .ret) .skip))) (.region [mO 14 4,
  nO 15 (.bin .add (.t 14) (.c (.int .i64 1))),
  mO 4 15] false)))))))) (.region [mO 9 3,
  nO 10 (.bin .add (.t 9) (.c (.int .i64 1))),
  mO 3 10] false))))))) (.seq (.region [nO 2 (.mov (.c (.bool true)))] false) .ret)))
def i75 : F := ⟨1, 25, j75, [.t 2]⟩
theorem b75 : i75.body = j75 := rfl
theorem q75 : i75.res = [.t 2] := rfl
theorem c75 : chkF Tryz.prog Tryz.f75 i75 = true := by kernel_rfl
theorem s75 {m E} (hE : HE E) (hm : HM i75 m E) : Sound Tryz.prog 75 m := sound_of i75 Tryz.func75 rfl c75 hE hm
def j76 : C := (.seq (.region [nO 2 (.mov (.c (.bool false)))] false) (.seq (.region [mO 3 0,
  nO 4 (.call false 60 [(.t 3), (.c (.int .i64 0)), (.c (.int .i64 2147483647))]),
  mO 2 4] false) .ret))
def i76 : F := ⟨1, 5, j76, [.t 2]⟩
theorem b76 : i76.body = j76 := rfl
theorem q76 : i76.res = [.t 2] := rfl
theorem c76 : chkF Tryz.prog Tryz.f76 i76 = true := by kernel_rfl
theorem s76 {m E} (hE : HE E) (hm : HM i76 m E) : Sound Tryz.prog 76 m := sound_of i76 Tryz.func76 rfl c76 hE hm
def j77 : C := (.seq (.region [nO 2 (.nilsl 3 1 0)] false) (.seq (.region [nO 3 (.nilsl 3 1 0)] false) (.seq (.region [mO 4 3,
  mO 5 0,
  nO 6 (.app 3 1 8 (.t 4) (.t 5)),
  mO 2 6] false) .ret)))
def i77 : F := ⟨1, 7, j77, [.t 2]⟩
theorem b77 : i77.body = j77 := rfl
theorem q77 : i77.res = [.t 2] := rfl
theorem c77 : chkF Tryz.prog Tryz.f77 i77 = true := by kernel_rfl
theorem s77 {m E} (hE : HE E) (hm : HM i77 m E) : Sound Tryz.prog 77 m := sound_of i77 Tryz.func77 rfl c77 hE hm
def j78 : C := (.seq (.region [nO 2 (.box (.t 0)),
  nO 3 (.box (.t 1)),
  nO 4 (.mov (.c (.bool false)))] false) (.seq (.region [nO 5 (.fad 0 (.t 2)),
  nO 6 (.load false 1 (.t 5)),
  nO 7 (.fad 0 (.t 3)),
  nO 8 (.load false 1 (.t 7)),
  nO 9 (.bin .eql (.t 6) (.t 8)),
  mO 10 9,
  gO 11 (.fad 1 (.t 2)) 10 true,
  gO 12 (.load false 1 (.t 11)) 10 true,
  gO 13 (.fad 1 (.t 3)) 10 true,
  gO 14 (.load false 1 (.t 13)) 10 true,
  gO 15 (.bin .eql (.t 12) (.t 14)) 10 true,
  nO 16 (.pick (.t 10) (.t 15) (.c (.bool false))),
  mO 17 16,
  gO 18 (.fad 2 (.t 2)) 17 true,
  gO 19 (.load false 1 (.t 18)) 17 true,
  gO 20 (.fad 2 (.t 3)) 17 true,
  gO 21 (.load false 1 (.t 20)) 17 true,
  gO 22 (.bin .eql (.t 19) (.t 21)) 17 true,
  nO 23 (.pick (.t 17) (.t 22) (.c (.bool false))),
  mO 24 23,
  gO 25 (.fad 3 (.t 2)) 24 true,
  gO 26 (.load false 1 (.t 25)) 24 true,
  gO 27 (.fad 3 (.t 3)) 24 true,
  gO 28 (.load false 1 (.t 27)) 24 true,
  gO 29 (.bin .eql (.t 26) (.t 28)) 24 true,
  nO 30 (.pick (.t 24) (.t 29) (.c (.bool false))),
  mO 31 30,
  gO 32 (.fad 4 (.t 2)) 31 true,
  gO 33 (.load false 1 (.t 32)) 31 true,
  gO 34 (.fad 4 (.t 3)) 31 true,
  gO 35 (.load false 1 (.t 34)) 31 true,
  gO 36 (.bin .eql (.t 33) (.t 35)) 31 true,
  nO 37 (.pick (.t 31) (.t 36) (.c (.bool false))),
  mO 38 37,
  gO 39 (.fad 5 (.t 2)) 38 true,
  gO 40 (.load false 1 (.t 39)) 38 true,
  gO 41 (.fad 5 (.t 3)) 38 true,
  gO 42 (.load false 1 (.t 41)) 38 true,
  gO 43 (.bin .eql (.t 40) (.t 42)) 38 true,
  nO 44 (.pick (.t 38) (.t 43) (.c (.bool false))),
  mO 45 44,
  gO 46 (.fad 6 (.t 2)) 45 true,
  gO 47 (.load false 1 (.t 46)) 45 true,
  gO 48 (.fad 6 (.t 3)) 45 true,
  gO 49 (.load false 1 (.t 48)) 45 true,
  gO 50 (.bin .eql (.t 47) (.t 49)) 45 true,
  nO 51 (.pick (.t 45) (.t 50) (.c (.bool false))),
  mO 52 51,
  gO 53 (.fad 7 (.t 2)) 52 true,
  gO 54 (.load false 1 (.t 53)) 52 true,
  gO 55 (.fad 7 (.t 3)) 52 true,
  gO 56 (.load false 1 (.t 55)) 52 true,
  gO 57 (.bin .eql (.t 54) (.t 56)) 52 true,
  nO 58 (.pick (.t 52) (.t 57) (.c (.bool false))),
  mO 59 58,
  gO 60 (.fad 8 (.t 2)) 59 true,
  gO 61 (.load false 1 (.t 60)) 59 true,
  gO 62 (.fad 8 (.t 3)) 59 true,
  gO 63 (.load false 1 (.t 62)) 59 true,
  gO 64 (.bin .eql (.t 61) (.t 63)) 59 true,
  nO 65 (.pick (.t 59) (.t 64) (.c (.bool false))),
  mO 66 65,
  gO 67 (.fad 9 (.t 2)) 66 true,
  gO 68 (.load false 1 (.t 67)) 66 true,
  gO 69 (.fad 9 (.t 3)) 66 true,
  gO 70 (.load false 1 (.t 69)) 66 true,
  gO 71 (.bin .eql (.t 68) (.t 70)) 66 true,
  nO 72 (.pick (.t 66) (.t 71) (.c (.bool false))),
  mO 73 72,
  gO 74 (.fad 10 (.t 2)) 73 true,
  gO 75 (.load false 1 (.t 74)) 73 true,
  gO 76 (.fad 10 (.t 3)) 73 true,
  gO 77 (.load false 1 (.t 76)) 73 true,
  gO 78 (.bin .eql (.t 75) (.t 77)) 73 true,
  nO 79 (.pick (.t 73) (.t 78) (.c (.bool false))),
  mO 80 79,
  gO 81 (.fad 11 (.t 2)) 80 true,
  gO 82 (.load false 1 (.t 81)) 80 true,
  gO 83 (.fad 11 (.t 3)) 80 true,
  gO 84 (.load false 1 (.t 83)) 80 true,
  gO 85 (.bin .eql (.t 82) (.t 84)) 80 true,
  nO 86 (.pick (.t 80) (.t 85) (.c (.bool false))),
  mO 87 86,
  gO 88 (.fad 12 (.t 2)) 87 true,
  gO 89 (.load false 1 (.t 88)) 87 true,
  gO 90 (.fad 12 (.t 3)) 87 true,
  gO 91 (.load false 1 (.t 90)) 87 true,
  gO 92 (.bin .eql (.t 89) (.t 91)) 87 true,
  nO 93 (.pick (.t 87) (.t 92) (.c (.bool false))),
  mO 94 93,
  gO 95 (.fad 13 (.t 2)) 94 true,
  gO 96 (.load false 1 (.t 95)) 94 true,
  gO 97 (.fad 13 (.t 3)) 94 true,
  gO 98 (.load false 1 (.t 97)) 94 true,
  gO 99 (.bin .eql (.t 96) (.t 98)) 94 true,
  nO 100 (.pick (.t 94) (.t 99) (.c (.bool false))),
  mO 101 100,
  gO 102 (.fad 14 (.t 2)) 101 true,
  gO 103 (.load false 1 (.t 102)) 101 true,
  gO 104 (.fad 14 (.t 3)) 101 true,
  gO 105 (.load false 1 (.t 104)) 101 true,
  gO 106 (.call false 34 [(.t 103), (.t 105)]) 101 true,
  nO 107 (.pick (.t 101) (.t 106) (.c (.bool false))),
  mO 108 107,
  gO 109 (.fad 15 (.t 2)) 108 true,
  gO 110 (.load false 1 (.t 109)) 108 true,
  gO 111 (.fad 15 (.t 3)) 108 true,
  gO 112 (.load false 1 (.t 111)) 108 true,
  gO 113 (.call false 34 [(.t 110), (.t 112)]) 108 true,
  nO 114 (.pick (.t 108) (.t 113) (.c (.bool false))),
  mO 4 114] false) .ret))
def i78 : F := ⟨2, 115, j78, [.t 4]⟩
theorem b78 : i78.body = j78 := rfl
theorem q78 : i78.res = [.t 4] := rfl
theorem c78 : chkF Tryz.prog Tryz.f78 i78 = true := by kernel_rfl
theorem s78 {m E} (hE : HE E) (hm : HM i78 m E) : Sound Tryz.prog 78 m := sound_of i78 Tryz.func78 rfl c78 hE hm
def j79 : C := (.seq (.region [nO 1 (.box (.t 0)),
  nO 2 (.mov (.c (.int .i64 0)))] false) (.seq (.region [nO 8 (.load true 16 (.t 1)),
  nO 9 (.call false 128 [(.t 8)]),
  mO 7 9,
  nO 10 (.ext (.t 7) 0),
  nO 11 (.ext (.t 7) 1),
  nO 3 (.alloc [.int .i64 0, .int .i64 0, .int .i64 0, .int .i64 0, .int .i64 0, .int .i64 0, .int .i64 0, .int .i64 0, .int .i64 0, .int .i64 0, .int .i64 0, .int .i64 0, .int .i64 0, .int .i64 0, .row [], .row []]),⟨none, .store none 16 (.t 3) (.t 10), none, [], []⟩,
  mO 4 11] false) (.seq (.region [nO 12 (.load true 16 (.t 1)),
  nO 13 (.call false 129 [(.t 12)]),
  mO 5 13] false) (.seq (.seq (.region [nO 14 (.fad 0 (.t 1)),
  nO 15 (.load false 1 (.t 14)),
  nO 16 (.bin .eql (.t 15) (.c (.int .i64 1)))] false) (.cond (.t 16) (.region [mO 17 5,
  mO 18 17,
  gO 19 (.fad 4 (.t 1)) 18 true,
  gO 20 (.load false 1 (.t 19)) 18 true,
  gO 21 (.bin .eql (.t 20) (.c (.int .i64 0))) 18 true,
  nO 22 (.pick (.t 18) (.t 21) (.c (.bool false))),
  mO 23 22,
  gO 24 (.fad 5 (.t 1)) 23 true,
  gO 25 (.load false 1 (.t 24)) 23 true,
  gO 26 (.bin .eql (.t 25) (.c (.int .i64 0))) 23 true,
  nO 27 (.pick (.t 23) (.t 26) (.c (.bool false))),
  mO 5 27] false) (.region [mO 28 5,
  mO 29 28,
  gO 30 (.fad 4 (.t 1)) 29 true,
  gO 31 (.load false 1 (.t 30)) 29 true,
  gO 32 (.call false 116 [(.t 31)]) 29 true,
  nO 33 (.pick (.t 29) (.t 32) (.c (.bool false))),
  mO 34 33,
  gO 35 (.fad 5 (.t 1)) 34 true,
  gO 36 (.load false 1 (.t 35)) 34 true,
  gO 37 (.call false 110 [(.t 36), (.c (.int .i64 0)), (.c (.int .i64 3))]) 34 true,
  nO 38 (.pick (.t 34) (.t 37) (.c (.bool false))),
  mO 5 38] false))) (.seq (.region [nO 39 (.fad 6 (.t 3)),
  nO 40 (.load false 1 (.t 39)),
  nO 41 (.bin .neq (.t 40) (.c (.int .i64 0))),
  mO 42 41,
  gO 43 (.fad 7 (.t 3)) 42 false,
  gO 44 (.load false 1 (.t 43)) 42 false,
  gO 45 (.bin .neq (.t 44) (.c (.int .i64 0))) 42 false,
  nO 46 (.pick (.t 42) (.c (.bool true)) (.t 45)),
  mO 47 46,
  gO 48 (.fad 8 (.t 3)) 47 false,
  gO 49 (.load false 1 (.t 48)) 47 false,
  gO 50 (.bin .neq (.t 49) (.c (.int .i64 0))) 47 false,
  nO 51 (.pick (.t 47) (.c (.bool true)) (.t 50)),
  mO 52 51,
  gO 53 (.fad 9 (.t 3)) 52 false,
  gO 54 (.load false 1 (.t 53)) 52 false,
  gO 55 (.bin .neq (.t 54) (.c (.int .i64 0))) 52 false,
  nO 56 (.pick (.t 52) (.c (.bool true)) (.t 55)),
  mO 57 56,
  gO 58 (.fad 10 (.t 3)) 57 false,
  gO 59 (.load false 1 (.t 58)) 57 false,
  gO 60 (.bin .neq (.t 59) (.c (.int .i64 0))) 57 false,
  nO 61 (.pick (.t 57) (.c (.bool true)) (.t 60)),
  mO 62 61,
  gO 63 (.fad 11 (.t 3)) 62 false,
  gO 64 (.load false 1 (.t 63)) 62 false,
  gO 65 (.bin .neq (.t 64) (.c (.int .i64 0))) 62 false,
  nO 66 (.pick (.t 62) (.c (.bool true)) (.t 65)),
  mO 67 66,
  gO 68 (.fad 12 (.t 3)) 67 false,
  gO 69 (.load false 1 (.t 68)) 67 false,
  gO 70 (.bin .neq (.t 69) (.c (.int .i64 0))) 67 false,
  nO 71 (.pick (.t 67) (.c (.bool true)) (.t 70)),
  mO 72 71,
  gO 73 (.fad 13 (.t 3)) 72 false,
  gO 74 (.load false 1 (.t 73)) 72 false,
  gO 75 (.bin .neq (.t 74) (.c (.int .i64 0))) 72 false,
  nO 76 (.pick (.t 72) (.c (.bool true)) (.t 75)),
  mO 6 76] false) (.seq (.seq (.region [mO 77 4,
  nO 78 (.un .not (.t 77)),
  mO 79 78,
  mG 80 5 79 false,
  gO 81 (.un .not (.t 80)) 79 false,
  nO 82 (.pick (.t 79) (.c (.bool true)) (.t 81)),
  mO 83 82,
  mG 84 6 83 false,
  nO 85 (.pick (.t 83) (.c (.bool true)) (.t 84)),
  mO 86 85,
  gO 87 (.fad 14 (.t 3)) 86 false,
  gO 88 (.load false 1 (.t 87)) 86 false,
  gO 89 (.len (.t 88)) 86 false,
  gO 90 (.bin .gtr (.t 89) (.c (.int .i64 0))) 86 false,
  nO 91 (.pick (.t 86) (.c (.bool true)) (.t 90)),
  mO 92 91,
  gO 93 (.fad 15 (.t 3)) 92 false,
  gO 94 (.load false 1 (.t 93)) 92 false,
  gO 95 (.len (.t 94)) 92 false,
  gO 96 (.bin .gtr (.t 95) (.c (.int .i64 0))) 92 false,
  nO 97 (.pick (.t 92) (.c (.bool true)) (.t 96))] false) (.cond (.t 97) (.seq (.region [nO 2 (.mov (.c (.int .i64 5)))] false) .ret) .skip)) (.seq (.region [nO 2 (.mov (.c (.int .i64 0)))] false) .ret)))))))
def i79 : F := ⟨1, 98, j79, [.t 2]⟩
theorem b79 : i79.body = j79 := rfl
theorem q79 : i79.res = [.t 2] := rfl
theorem c79 : chkF Tryz.prog Tryz.f79 i79 = true := by kernel_rfl
theorem s79 {m E} (hE : HE E) (hm : HM i79 m E) : Sound Tryz.prog 79 m := sound_of i79 Tryz.func79 rfl c79 hE hm
def j80 : C := (.seq (.region [nO 2 (.nilsl 3 1 0)] false) (.seq (.seq (.region [mO 3 0,
  nO 4 (.isnil false (.t 3))] false) (.cond (.t 4) (.seq (.region [nO 2 (.nilsl 3 1 1)] false) .ret) .skip)) (.seq (.region [nO 5 (.bsl 3 1 0 [.int .i64 0] []),
  mO 6 0,
  nO 7 (.app 3 1 8 (.t 5) (.t 6)),
  mO 2 7] false) .ret)))
def i80 : F := ⟨1, 8, j80, [.t 2]⟩
theorem b80 : i80.body = j80 := rfl
theorem q80 : i80.res = [.t 2] := rfl
theorem c80 : chkF Tryz.prog Tryz.f80 i80 = true := by kernel_rfl
theorem s80 {m E} (hE : HE E) (hm : HM i80 m E) : Sound Tryz.prog 80 m := sound_of i80 Tryz.func80 rfl c80 hE hm
theorem x80 : Sound Tryz.prog 80 (cloneM 3 1 8) := by
  refine clone_ok (r := fun _ => (.undef, [])) (s80 (E := fun _ _ => none) (fun f => Sound.no) fun args r h => ?_) (sound_nil (fun m hm => s80 (E := fun _ _ => none) (fun f => Sound.no) hm) fun A c => ⟨0, ?_⟩)
  · split at h
    · rename_i y ys
      split at h
      · rename_i hc
        cases h
        refine ⟨0, ?_⟩
        rw [F_ev rfl]
        simp only [j80, b80, q80, ww, simprocAttr, List.replicate, fillR, evE, V.pur1, asRow, List.map_append]
        rw [if_pos ⟨hc.1, by simpa using hc.2⟩]
        simp only [j80, b80, q80, ww, simprocAttr, S.kill, V.kill, Blk.kill, hand, handSs, handS, handVs, handV, List.contains_nil]
        try simp
      · cases h
    · cases h
  · cases A
    · rw [F_ev rfl]
      simp only [j80, b80, q80, ww, simprocAttr, hand, handSs, handS, handVs, handV, List.contains_nil, Bool.not_false]
      try simp
    · rw [F_ev rfl]
      simp only [j80, b80, q80, ww, simprocAttr, List.replicate, fillR, evE, V.pur1, asRow]
      try (rw [if_pos (by simp)]; simp only [j80, b80, q80, ww, simprocAttr, S.kill, V.kill, Blk.kill, hand, handSs, handS, handVs, handV, List.contains_nil])
      try simp
def j81 : C := (.seq (.region [nO 4 (.box (.t 0)),
  nO 5 (.box (.t 1)),
  nO 8 (.alloc [.int .i64 0, .int .i64 0, .int .i64 0, .row [], .row []]),
  nO 9 (.mov (.c (.int .i64 0)))] false) (.seq (.region [nO 12 (.load true 7 (.t 4)),
  nO 13 (.load true 5 (.t 5)),
  nO 14 (.call false 109 [(.t 12), (.t 13), (.c (.row []))]),
  mO 10 14] false) (.seq (.block 0 (.seq (.region [mO 16 10,
  nO 17 (.bin .neq (.t 16) (.c (.int .i64 0))),
  mO 15 17] false) (.cond (.t 15) (.seq (.region [nO 18 (.build [.int .i64 0, .int .i64 0, .int .i64 0, .row [], .row []] []),
  mO 19 10,⟨none, .store none 5 (.t 8) (.t 18), none, [], []⟩,
  mO 9 19] false) .ret) (.seq (.region [mO 21 2,
  nO 22 (.call false 53 [(.t 21)]),
  nO 23 (.bin .neq (.t 22) (.c (.int .i64 0))),
  mO 24 23,
  mG 25 3 24 false,
  gO 26 (.call false 116 [(.t 25)]) 24 false,
  gO 27 (.un .not (.t 26)) 24 false,
  nO 28 (.pick (.t 24) (.c (.bool true)) (.t 27)),
  mO 20 28] false) (.cond (.t 20) (.seq (.region [nO 29 (.build [.int .i64 0, .int .i64 0, .int .i64 0, .row [], .row []] []),⟨none, .store none 5 (.t 8) (.t 29), none, [], []⟩,
  nO 9 (.mov (.c (.int .i64 1)))] false) .ret) (.seq (.region [mO 31 2,
  nO 32 (.fad 0 (.t 5)),
  nO 33 (.load false 1 (.t 32)),
  nO 34 (.bin .gtr (.t 31) (.t 33)),
  mO 30 34] false) (.cond (.t 30) (.seq (.region [mO 35 2,
  mO 36 3,
  nO 37 (.call false 52 [(.t 35), (.t 36)]),⟨none, .store none 5 (.t 8) (.t 37), none, [], []⟩,
  nO 9 (.mov (.c (.int .i64 0)))] false) .ret) .skip))))))) (.seq (.region [nO 38 (.load true 5 (.t 5)),
  nO 39 (.call false 103 [(.t 38)]),
  nO 11 (.alloc [.int .i64 0, .int .i64 0, .int .i64 0, .row [], .row []]),⟨none, .store none 5 (.t 11) (.t 39), none, [], []⟩] false) (.seq (.seq (.region [mO 40 2,
  nO 41 (.fad 0 (.t 5)),
  nO 42 (.load false 1 (.t 41)),
  nO 43 (.bin .eql (.t 40) (.t 42))] false) (.cond (.t 43) (.region [nO 44 (.fad 2 (.t 11)),
  nO 45 (.load false 1 (.t 44)),
  mO 46 3,
  nO 47 (.mx (.t 45) (.t 46)),
  nO 48 (.fad 2 (.t 11)),⟨none, .store none 1 (.t 48) (.t 47), none, [], []⟩] false) .skip)) (.seq (.region [nO 49 (.load true 5 (.t 11)),⟨none, .store none 5 (.t 8) (.t 49), none, [], []⟩,
  nO 9 (.mov (.c (.int .i64 0)))] false) .ret))))))
def i81 : F := ⟨4, 50, j81, [.c 8 5 true, .t 9]⟩
theorem b81 : i81.body = j81 := rfl
theorem q81 : i81.res = [.c 8 5 true, .t 9] := rfl
theorem c81 : chkF Tryz.prog Tryz.f81 i81 = true := by kernel_rfl
theorem s81 {m E} (hE : HE E) (hm : HM i81 m E) : Sound Tryz.prog 81 m := sound_of i81 Tryz.func81 rfl c81 hE hm
def j82 : C := (.seq (.region [nO 2 (.nilsl 51 3 0)] false) (.seq (.region [nO 3 (.nilsl 51 3 0)] false) (.seq (.region [mO 4 3,
  mO 5 0,
  nO 6 (.app 51 3 24 (.t 4) (.t 5)),
  mO 2 6] false) .ret)))
def i82 : F := ⟨1, 7, j82, [.t 2]⟩
theorem b82 : i82.body = j82 := rfl
theorem q82 : i82.res = [.t 2] := rfl
theorem c82 : chkF Tryz.prog Tryz.f82 i82 = true := by kernel_rfl
theorem s82 {m E} (hE : HE E) (hm : HM i82 m E) : Sound Tryz.prog 82 m := sound_of i82 Tryz.func82 rfl c82 hE hm
def j83 : C := (.seq (.region [nO 1 (.box (.t 0)),
  nO 2 (.alloc [.int .i64 0, .int .i64 0, .int .i64 0, .row [], .row []])] false) (.seq (.region [⟨some 3, .fad 3 (.t 1), none, [6, 7], []⟩,⟨some 4, .load false 1 (.t 3), none, [6, 7], [0]⟩,⟨some 5, .call false 130 [(.t 4)], none, [6, 7], [0, 1]⟩,⟨some 6, .fad 4 (.t 1), none, [3, 4, 5], []⟩,⟨some 7, .load false 1 (.t 6), none, [3, 4, 5], [3]⟩,⟨some 8, .call false 130 [(.t 7)], none, [9], [0, 1, 2, 3, 4]⟩,⟨some 9, .fad 3 (.t 1), none, [8], [0, 1, 2, 3, 4]⟩,⟨none, .store none 1 (.t 9) (.t 5), none, [], [0, 1, 2, 3, 4, 5, 6]⟩,⟨some 10, .fad 4 (.t 1), none, [], [0, 1, 2, 3, 4, 5, 6, 7]⟩,⟨none, .store none 1 (.t 10) (.t 8), none, [], [0, 1, 2, 3, 4, 5, 6, 7, 8]⟩] true) (.seq (.region [nO 11 (.load true 5 (.t 1)),⟨none, .store none 5 (.t 2) (.t 11), none, [], []⟩] false) .ret)))
def i83 : F := ⟨1, 12, j83, [.c 2 5 true]⟩
theorem b83 : i83.body = j83 := rfl
theorem q83 : i83.res = [.c 2 5 true] := rfl
theorem c83 : chkF Tryz.prog Tryz.f83 i83 = true := by kernel_rfl
theorem s83 {m E} (hE : HE E) (hm : HM i83 m E) : Sound Tryz.prog 83 m := sound_of i83 Tryz.func83 rfl c83 hE hm
def j84 : C := (.seq (.region [nO 2 (.nilsl 84 6 0)] false) (.seq (.region [nO 3 (.nilsl 84 6 0)] false) (.seq (.region [mO 4 3,
  mO 5 0,
  nO 6 (.app 84 6 48 (.t 4) (.t 5)),
  mO 2 6] false) .ret)))
def i84 : F := ⟨1, 7, j84, [.t 2]⟩
theorem b84 : i84.body = j84 := rfl
theorem q84 : i84.res = [.t 2] := rfl
theorem c84 : chkF Tryz.prog Tryz.f84 i84 = true := by kernel_rfl
theorem s84 {m E} (hE : HE E) (hm : HM i84 m E) : Sound Tryz.prog 84 m := sound_of i84 Tryz.func84 rfl c84 hE hm
def j85 : C := (.seq (.region [nO 2 (.mov (.c (.bool false)))] false) (.seq (.region [mO 3 0,
  nO 4 (.call false 131 [(.t 3), (.c (.int .i64 8))]),
  mO 2 4] false) .ret))
def i85 : F := ⟨1, 5, j85, [.t 2]⟩
theorem b85 : i85.body = j85 := rfl
theorem q85 : i85.res = [.t 2] := rfl
theorem c85 : chkF Tryz.prog Tryz.f85 i85 = true := by kernel_rfl
theorem s85 {m E} (hE : HE E) (hm : HM i85 m E) : Sound Tryz.prog 85 m := sound_of i85 Tryz.func85 rfl c85 hE hm
def j86 : C := (.seq (.region [nO 1 (.box (.t 0)),
  nO 2 (.alloc [.bool false, .bool false, .int .i64 0, .int .i64 0, .int .i64 0, .int .i64 0, .int .i64 0, .int .i64 0, .row [], .row [], .int .i64 0, .int .i64 0, .int .i64 0, .row [], .row [], .row []])] false) (.seq (.region [nO 4 (.load true 16 (.t 1)),
  nO 5 (.call false 50 [(.t 4)]),
  nO 3 (.alloc [.bool false, .bool false, .int .i64 0, .int .i64 0, .int .i64 0, .int .i64 0, .int .i64 0, .int .i64 0, .row [], .row [], .int .i64 0, .int .i64 0, .int .i64 0, .row [], .row [], .row []]),⟨none, .store none 16 (.t 3) (.t 5), none, [], []⟩] false) (.seq (.region [nO 6 (.fad 4 (.t 3)),⟨none, .store none 1 (.t 6) (.c (.int .i64 0)), none, [], []⟩,
  nO 7 (.fad 5 (.t 3)),⟨none, .store none 1 (.t 7) (.c (.int .i64 0)), none, [], []⟩,
  nO 8 (.fad 6 (.t 3)),⟨none, .store none 1 (.t 8) (.c (.int .i64 0)), none, [], []⟩,
  nO 9 (.fad 8 (.t 3)),⟨none, .store none 1 (.t 9) (.c (.row [])), none, [], []⟩,
  nO 10 (.fad 7 (.t 3)),⟨none, .store none 1 (.t 10) (.c (.int .i64 0)), none, [], []⟩] false) (.seq (.region [nO 11 (.load true 16 (.t 3)),⟨none, .store none 16 (.t 2) (.t 11), none, [], []⟩] false) .ret))))
def i86 : F := ⟨1, 12, j86, [.c 2 16 true]⟩
theorem b86 : i86.body = j86 := rfl
theorem q86 : i86.res = [.c 2 16 true] := rfl
theorem c86 : chkF Tryz.prog Tryz.f86 i86 = true := by kernel_rfl
theorem s86 {m E} (hE : HE E) (hm : HM i86 m E) : Sound Tryz.prog 86 m := sound_of i86 Tryz.func86 rfl c86 hE hm
def j87 : C := (.seq (.region [nO 6 (.mov (.c (.bool false)))] false) (.seq (.region [mO 7 0,
  mO 8 1,
  nO 9 (.bin .geq (.t 7) (.t 8)),
  mO 10 9,
  mG 11 0 10 true,
  mG 12 2 10 true,
  gO 13 (.bin .leq (.t 11) (.t 12)) 10 true,
  nO 14 (.pick (.t 10) (.t 13) (.c (.bool false))),
  mO 6 14] false) .ret))
def i87 : F := ⟨3, 15, j87, [.t 6]⟩
theorem b87 : i87.body = j87 := rfl
theorem q87 : i87.res = [.t 6] := rfl
theorem c87 : chkF Tryz.prog Tryz.f87 i87 = true := by kernel_rfl
theorem s87 {m E} (hE : HE E) (hm : HM i87 m E) : Sound Tryz.prog 87 m := sound_of i87 Tryz.func87 rfl c87 hE hm
def j88 : C := (.seq (.region [nO 2 (.mov (.c (.bool false)))] false) (.seq (.region [mO 3 0,
  nO 4 (.call false 87 [(.t 3), (.c (.int .i64 1)), (.c (.int .i64 1073741824))]),
  mO 5 4,
  mG 6 0 5 true,
  gO 7 (.bin .rem (.t 6) (.c (.int .i64 16))) 5 true,
  gO 8 (.bin .lss (.t 7) (.c (.int .i64 8))) 5 true,
  nO 9 (.pick (.t 5) (.t 8) (.c (.bool false))),
  mO 2 9] false) .ret))
def i88 : F := ⟨1, 10, j88, [.t 2]⟩
theorem b88 : i88.body = j88 := rfl
theorem q88 : i88.res = [.t 2] := rfl
theorem c88 : chkF Tryz.prog Tryz.f88 i88 = true := by kernel_rfl
theorem s88 {m E} (hE : HE E) (hm : HM i88 m E) : Sound Tryz.prog 88 m := sound_of i88 Tryz.func88 rfl c88 hE hm
def j89 : C := (.seq (.region [nO 6 (.mov (.c (.bool false)))] false) (.seq (.region [mO 7 2,
  nO 8 (.bin .eql (.t 7) (.c (.int .i64 0))),
  mO 9 8,
  mG 10 2 9 false,
  gO 11 (.call false 87 [(.t 10), (.c (.int .i64 1)), (.c (.int .i64 8))]) 9 false,
  mG 12 11 9 false,
  mG 13 0 12 true,
  mG 14 2 12 true,
  gO 15 (.bin .sub (.t 14) (.c (.int .i64 1))) 12 true,
  mG 16 1 12 true,
  gO 17 (.call false 99 [(.t 13), (.t 15), (.t 16)]) 12 true,
  gO 18 (.pick (.t 12) (.t 17) (.c (.bool false))) 9 false,
  nO 19 (.pick (.t 9) (.c (.bool true)) (.t 18)),
  mO 6 19] false) .ret))
def i89 : F := ⟨3, 20, j89, [.t 6]⟩
theorem b89 : i89.body = j89 := rfl
theorem q89 : i89.res = [.t 6] := rfl
theorem c89 : chkF Tryz.prog Tryz.f89 i89 = true := by kernel_rfl
theorem s89 {m E} (hE : HE E) (hm : HM i89 m E) : Sound Tryz.prog 89 m := sound_of i89 Tryz.func89 rfl c89 hE hm
def j90 : C := (.seq (.region [nO 8 (.mov (.c (.int .i64 0)))] false) (.seq (.seq (.region [nO 9 (.mov (.c (.int .i64 0)))] false) (.block 0 (.loop (.keep [0, 1, 2, 3, 9] (.seq (.seq (.region [mO 12 9,
  mO 13 2,
  nO 14 (.len (.t 13)),
  nO 15 (.bin .lss (.t 12) (.t 14))] false) (.cond (.t 15) .skip (.exit 0))) (.seq (.block 1 (.seq (.region [mO 18 2,
  mO 19 9,
  nO 20 (.iad 1 (.t 18) (.t 19)),
  nO 21 (.load false 1 (.t 20)),
  nO 22 (.call false 26 [(.t 21)]),
  nO 23 (.un .not (.t 22))] false) (.cond (.t 23) (.seq (.region [nO 8 (.mov (.c (.int .i64 1)))] false) .ret) .skip))) (.region [mO 16 9,
  nO 17 (.bin .add (.t 16) (.c (.int .i64 1))),
  mO 9 17] false))))))) (.seq (.seq (.region [mO 24 2,
  nO 25 (.len (.t 24)),
  mO 26 3,
  nO 27 (.bin .gtr (.t 25) (.t 26))] false) (.cond (.t 27) (.seq (.region [nO 8 (.mov (.c (.int .i64 12)))] false) .ret) .skip)) (.seq (.region [mO 28 1,
  mO 10 28] false) (.seq (.seq (.region [nO 11 (.mov (.c (.int .i64 0)))] false) (.block 2 (.loop (.keep [0, 2, 10, 11] (.seq (.seq (.region [mO 29 11,
  mO 30 2,
  nO 31 (.len (.t 30)),
  nO 32 (.bin .lss (.t 29) (.t 31))] false) (.cond (.t 32) .skip (.exit 2))) (.seq (.block 3 (.seq (.seq (.region [mO 35 0,
  mO 36 2,
  mO 37 11,
  nO 38 (.iad 1 (.t 36) (.t 37)),
  nO 39 (.load false 1 (.t 38)),
  mO 40 10,
  nO 41 (.call false 99 [(.t 35), (.t 39), (.t 40)]),
  nO 42 (.un .not (.t 41))] false) (.cond (.t 42) (.seq (.region [nO 8 (.mov (.c (.int .i64 1)))] false) .ret) .skip)) (.region [mO 43 2,
  mO 44 11,
  nO 45 (.iad 1 (.t 43) (.t 44)),
  nO 46 (.load false 1 (.t 45)),
  mO 10 46] false))) (.region [mO 33 11,
  nO 34 (.bin .add (.t 33) (.c (.int .i64 1))),
  mO 11 34] false))))))) (.seq (.region [nO 8 (.mov (.c (.int .i64 0)))] false) .ret))))))
def i90 : F := ⟨4, 47, j90, [.t 8]⟩
theorem b90 : i90.body = j90 := rfl
theorem q90 : i90.res = [.t 8] := rfl
theorem c90 : chkF Tryz.prog Tryz.f90 i90 = true := by kernel_rfl
theorem s90 {m E} (hE : HE E) (hm : HM i90 m E) : Sound Tryz.prog 90 m := sound_of i90 Tryz.func90 rfl c90 hE hm
def j91 : C := (.seq (.region [nO 8 (.mov (.c (.bool false)))] false) (.seq (.seq (.region [mO 11 0,
  nO 12 (.call false 73 [(.t 11)]),
  nO 13 (.un .not (.t 12)),
  mO 14 13,
  mG 15 1 14 false,
  gO 16 (.call false 26 [(.t 15)]) 14 false,
  gO 17 (.un .not (.t 16)) 14 false,
  nO 18 (.pick (.t 14) (.c (.bool true)) (.t 17)),
  mO 19 18,
  mG 20 2 19 false,
  gO 21 (.call false 87 [(.t 20), (.c (.int .i64 1)), (.c (.int .i64 4))]) 19 false,
  gO 22 (.un .not (.t 21)) 19 false,
  nO 23 (.pick (.t 19) (.c (.bool true)) (.t 22)),
  mO 24 23,
  mG 25 3 24 false,
  gO 26 (.len (.t 25)) 24 false,
  mG 27 2 24 false,
  gO 28 (.bin .gtr (.t 26) (.t 27)) 24 false,
  nO 29 (.pick (.t 24) (.c (.bool true)) (.t 28))] false) (.cond (.t 29) (.seq (.region [nO 8 (.mov (.c (.bool false)))] false) .ret) .skip)) (.seq (.region [mO 30 1,
  mO 9 30] false) (.seq (.seq (.region [nO 10 (.mov (.c (.int .i64 0)))] false) (.block 0 (.loop (.keep [0, 3, 9, 10] (.seq (.seq (.region [mO 31 10,
  mO 32 3,
  nO 33 (.len (.t 32)),
  nO 34 (.bin .lss (.t 31) (.t 33))] false) (.cond (.t 34) .skip (.exit 0))) (.seq (.block 1 (.seq (.seq (.region [mO 37 3,
  mO 38 10,
  nO 39 (.iad 3 (.t 37) (.t 38)),
  nO 40 (.fad 0 (.t 39)),
  nO 41 (.load false 1 (.t 40)),
  nO 42 (.call false 26 [(.t 41)]),
  nO 43 (.un .not (.t 42)),
  mO 44 43,
  mG 45 0 44 false,
  mG 46 9 44 false,
  mG 47 3 44 false,
  mG 48 10 44 false,
  gO 49 (.iad 3 (.t 47) (.t 48)) 44 false,
  gO 50 (.fad 0 (.t 49)) 44 false,
  gO 51 (.load false 1 (.t 50)) 44 false,
  gO 52 (.call false 99 [(.t 45), (.t 46), (.t 51)]) 44 false,
  gO 53 (.un .not (.t 52)) 44 false,
  nO 54 (.pick (.t 44) (.c (.bool true)) (.t 53)),
  mO 55 54,
  mG 56 3 55 false,
  mG 57 10 55 false,
  gO 58 (.iad 3 (.t 56) (.t 57)) 55 false,
  gO 59 (.fad 1 (.t 58)) 55 false,
  gO 60 (.load false 1 (.t 59)) 55 false,
  gO 61 (.call false 87 [(.t 60), (.c (.int .i64 1)), (.c (.int .i64 1073741824))]) 55 false,
  gO 62 (.un .not (.t 61)) 55 false,
  nO 63 (.pick (.t 55) (.c (.bool true)) (.t 62)),
  mO 64 63,
  mG 65 3 64 false,
  mG 66 10 64 false,
  gO 67 (.iad 3 (.t 65) (.t 66)) 64 false,
  gO 68 (.fad 2 (.t 67)) 64 false,
  gO 69 (.load false 1 (.t 68)) 64 false,
  gO 70 (.call false 87 [(.t 69), (.c (.int .i64 0)), (.c (.int .i64 6))]) 64 false,
  gO 71 (.un .not (.t 70)) 64 false,
  nO 72 (.pick (.t 64) (.c (.bool true)) (.t 71))] false) (.cond (.t 72) (.seq (.region [nO 8 (.mov (.c (.bool false)))] false) .ret) .skip)) (.region [mO 73 3,
  mO 74 10,
  nO 75 (.iad 3 (.t 73) (.t 74)),
  nO 76 (.fad 0 (.t 75)),
  nO 77 (.load false 1 (.t 76)),
  mO 9 77] false))) (.region [mO 35 10,
  nO 36 (.bin .add (.t 35) (.c (.int .i64 1))),
  mO 10 36] false))))))) (.seq (.region [nO 8 (.mov (.c (.bool true)))] false) .ret)))))
def i91 : F := ⟨4, 78, j91, [.t 8]⟩
theorem b91 : i91.body = j91 := rfl
theorem q91 : i91.res = [.t 8] := rfl
theorem c91 : chkF Tryz.prog Tryz.f91 i91 = true := by kernel_rfl
theorem s91 {m E} (hE : HE E) (hm : HM i91 m E) : Sound Tryz.prog 91 m := sound_of i91 Tryz.func91 rfl c91 hE hm
def j92 : C := (.seq (.region [nO 3 (.box (.t 0)),
  nO 4 (.box (.t 1)),
  nO 6 (.mov (.c (.bool false)))] false) (.seq (.region [nO 7 (.load true 7 (.t 3)),
  nO 8 (.load true 5 (.t 4)),
  nO 9 (.call false 132 [(.t 7), (.t 8)]),
  mO 10 9,
  mG 11 2 10 true,
  gO 12 (.fad 6 (.t 3)) 10 true,
  gO 13 (.load false 1 (.t 12)) 10 true,
  gO 14 (.call false 133 [(.t 11), (.t 13)]) 10 true,
  nO 15 (.pick (.t 10) (.t 14) (.c (.bool false))),
  mO 6 15] false) .ret))
def i92 : F := ⟨3, 16, j92, [.t 6]⟩
theorem b92 : i92.body = j92 := rfl
theorem q92 : i92.res = [.t 6] := rfl
theorem c92 : chkF Tryz.prog Tryz.f92 i92 = true := by kernel_rfl
theorem s92 {m E} (hE : HE E) (hm : HM i92 m E) : Sound Tryz.prog 92 m := sound_of i92 Tryz.func92 rfl c92 hE hm
def j93 : C := (.seq (.region [nO 8 (.mov (.c (.bool false)))] false) (.seq (.region [mO 9 2,
  nO 10 (.call false 26 [(.t 9)]),
  mO 11 10,
  mG 12 0 11 true,
  mG 13 1 11 true,
  mG 14 2 11 true,
  gO 15 (.call false 99 [(.t 12), (.t 13), (.t 14)]) 11 true,
  nO 16 (.pick (.t 11) (.t 15) (.c (.bool false))),
  mO 17 16,
  mG 18 3 17 true,
  gO 19 (.call false 87 [(.t 18), (.c (.int .i64 1)), (.c (.int .i64 1073741824))]) 17 true,
  nO 20 (.pick (.t 17) (.t 19) (.c (.bool false))),
  mO 8 20] false) .ret))
def i93 : F := ⟨4, 21, j93, [.t 8]⟩
theorem b93 : i93.body = j93 := rfl
theorem q93 : i93.res = [.t 8] := rfl
theorem c93 : chkF Tryz.prog Tryz.f93 i93 = true := by kernel_rfl
theorem s93 {m E} (hE : HE E) (hm : HM i93 m E) : Sound Tryz.prog 93 m := sound_of i93 Tryz.func93 rfl c93 hE hm
def j94 : C := (.seq (.region [nO 10 (.mov (.c (.row []))),
  nO 11 (.mov (.c (.int .i64 0))),
  nO 12 (.mov (.c (.int .i64 0)))] false) (.seq (.region [mO 15 3,
  mO 16 4,
  nO 17 (.build [.int .i64 0, .int .i64 0, .int .i64 0] [(0, 1, (.t 15)), (1, 1, (.t 16))]),
  nO 13 (.alloc [.int .i64 0, .int .i64 0, .int .i64 0]),⟨none, .store none 3 (.t 13) (.t 17), none, [], []⟩] false) (.seq (.seq (.region [mO 18 2,
  mO 19 3,
  nO 20 (.call false 95 [(.t 18), (.t 19)])] false) (.cond (.t 20) (.seq (.region [⟨some 21, .mov (.t 0), none, [22, 23, 24, 25], []⟩,⟨some 22, .mov (.t 2), none, [21, 23, 25], []⟩,⟨some 23, .mov (.t 3), none, [21, 22, 25], []⟩,⟨some 24, .call false 97 [(.t 22), (.t 23)], none, [21, 25], [1, 2]⟩,⟨some 25, .load true 3 (.t 13), none, [21, 22, 23, 24], []⟩,⟨some 26, .call false 134 [(.t 21), (.t 24), (.t 25)], none, [], [0, 1, 2, 3, 4]⟩,⟨some 10, .mov (.t 26), none, [], [0, 1, 2, 3, 4, 5]⟩,⟨some 11, .mov (.c (.int .i64 0)), none, [], [0, 1, 2, 3, 4, 5, 6]⟩,⟨some 12, .mov (.c (.int .i64 0)), none, [], [0, 1, 2, 3, 4, 5, 6, 7]⟩] true) .ret) .skip)) (.seq (.seq (.region [mO 27 2,
  nO 28 (.len (.t 27)),
  mO 29 1,
  nO 30 (.bin .lss (.t 28) (.t 29))] false) (.cond (.t 30) (.seq (.region [mO 31 0,
  mO 32 2,
  nO 33 (.load true 3 (.t 13)),
  nO 34 (.call false 134 [(.t 31), (.t 32), (.t 33)]),
  mO 10 34,
  nO 11 (.mov (.c (.int .i64 0))),
  nO 12 (.mov (.c (.int .i64 0)))] false) .ret) .skip)) (.seq (.seq (.region [mO 35 0,
  mO 36 2,
  nO 37 (.iad 3 (.t 36) (.c (.int .i64 0))),
  nO 38 (.fad 0 (.t 37)),
  nO 39 (.load false 1 (.t 38)),
  mO 40 3,
  nO 41 (.call false 99 [(.t 35), (.t 39), (.t 40)])] false) (.cond (.t 41) (.seq (.region [⟨some 42, .mov (.t 2), none, [44, 45, 46, 47, 48, 49, 50], []⟩,⟨some 43, .call false 82 [(.t 42)], none, [44, 45, 46, 47, 48, 49, 50], [0]⟩,⟨some 44, .mov (.t 3), none, [10, 42, 43, 46, 47, 48, 49, 50], []⟩,⟨some 45, .bin .add (.t 44) (.c (.int .i64 1)), none, [10, 42, 43, 46, 47, 48, 49, 50], [2]⟩,⟨some 46, .mov (.t 2), none, [10, 11, 42, 43, 44, 45], []⟩,⟨some 47, .iad 3 (.t 46) (.c (.int .i64 0)), none, [10, 11, 42, 43, 44, 45], [4]⟩,⟨some 48, .fad 0 (.t 47), none, [10, 11, 42, 43, 44, 45], [4, 5]⟩,⟨some 49, .load false 1 (.t 48), none, [10, 11, 42, 43, 44, 45], [4, 5, 6]⟩,⟨some 50, .bin .add (.t 49) (.c (.int .i64 1)), none, [10, 11, 42, 43, 44, 45], [4, 5, 6, 7]⟩,⟨some 10, .mov (.t 43), none, [44, 45, 46, 47, 48, 49, 50], [0, 1]⟩,⟨some 11, .mov (.t 45), none, [46, 47, 48, 49, 50], [0, 1, 2, 3, 9]⟩,⟨some 12, .mov (.t 50), none, [], [0, 1, 2, 3, 4, 5, 6, 7, 8, 9, 10]⟩] true) .ret) .skip)) (.seq (.region [mO 51 2,
  mO 52 2,
  nO 53 (.len (.t 52)),
  nO 54 (.bin .sub (.t 53) (.c (.int .i64 1))),
  nO 55 (.iad 3 (.t 51) (.t 54)),
  nO 56 (.fad 0 (.t 55)),
  nO 57 (.load false 1 (.t 56)),
  mO 14 57] false) (.seq (.region [⟨some 58, .mov (.t 0), none, [59, 60, 61, 62, 63, 64, 66, 67, 68, 69], []⟩,⟨some 59, .mov (.t 2), none, [58, 60, 61, 62, 64, 66, 67, 68, 69], []⟩,⟨some 60, .mov (.t 2), none, [58, 59, 64, 66, 67, 68, 69], []⟩,⟨some 61, .len (.t 60), none, [58, 59, 64, 66, 67, 68, 69], [2]⟩,⟨some 62, .bin .sub (.t 61) (.c (.int .i64 1)), none, [58, 59, 64, 66, 67, 68, 69], [2, 3]⟩,⟨some 63, .cut 3 (.t 59) none (some (.t 62)), none, [58, 64, 66, 67, 68, 69], [1, 2, 3, 4]⟩,⟨some 64, .load true 3 (.t 13), none, [58, 59, 60, 61, 62, 63, 66, 67, 68, 69], []⟩,⟨some 65, .call false 134 [(.t 58), (.t 63), (.t 64)], none, [66, 67, 68, 69], [0, 1, 2, 3, 4, 5, 6]⟩,⟨some 66, .mov (.t 14), none, [10, 58, 59, 60, 61, 62, 63, 64, 65, 68, 69], []⟩,⟨some 67, .bin .add (.t 66) (.c (.int .i64 1)), none, [10, 58, 59, 60, 61, 62, 63, 64, 65, 68, 69], [8]⟩,⟨some 68, .mov (.t 3), none, [10, 11, 58, 59, 60, 61, 62, 63, 64, 65, 66, 67], []⟩,⟨some 69, .bin .add (.t 68) (.c (.int .i64 1)), none, [10, 11, 58, 59, 60, 61, 62, 63, 64, 65, 66, 67], [10]⟩,⟨some 10, .mov (.t 65), none, [66, 67, 68, 69], [0, 1, 2, 3, 4, 5, 6, 7]⟩,⟨some 11, .mov (.t 67), none, [68, 69], [0, 1, 2, 3, 4, 5, 6, 7, 8, 9, 12]⟩,⟨some 12, .mov (.t 69), none, [], [0, 1, 2, 3, 4, 5, 6, 7, 8, 9, 10, 11, 12, 13]⟩] true) .ret)))))))
def i94 : F := ⟨5, 70, j94, [.t 10, .t 11, .t 12]⟩
theorem b94 : i94.body = j94 := rfl
theorem q94 : i94.res = [.t 10, .t 11, .t 12] := rfl
theorem c94 : chkF Tryz.prog Tryz.f94 i94 = true := by kernel_rfl
theorem s94 {m E} (hE : HE E) (hm : HM i94 m E) : Sound Tryz.prog 94 m := sound_of i94 Tryz.func94 rfl c94 hE hm
def j95 : C := (.seq (.region [nO 4 (.mov (.c (.bool false)))] false) (.seq (.seq (.region [nO 5 (.mov (.c (.int .i64 0)))] false) (.block 0 (.loop (.keep [0, 1, 5] (.seq (.seq (.region [mO 6 5,
  mO 7 0,
  nO 8 (.len (.t 7)),
  nO 9 (.bin .lss (.t 6) (.t 8))] false) (.cond (.t 9) .skip (.exit 0))) (.seq (.block 1 (.seq (.region [mO 12 0,
  mO 13 5,
  nO 14 (.iad 3 (.t 12) (.t 13)),
  nO 15 (.fad 0 (.t 14)),
  nO 16 (.load false 1 (.t 15)),
  mO 17 1,
  nO 18 (.bin .eql (.t 16) (.t 17))] false) (.cond (.t 18) (.seq (.region [nO 4 (.mov (.c (.bool true)))] false) .ret) .skip))) (.region [mO 10 5,
  nO 11 (.bin .add (.t 10) (.c (.int .i64 1))),
  mO 5 11] false))))))) (.seq (.region [nO 4 (.mov (.c (.bool false)))] false) .ret)))
def i95 : F := ⟨2, 19, j95, [.t 4]⟩
theorem b95 : i95.body = j95 := rfl
theorem q95 : i95.res = [.t 4] := rfl
theorem c95 : chkF Tryz.prog Tryz.f95 i95 = true := by kernel_rfl
theorem s95 {m E} (hE : HE E) (hm : HM i95 m E) : Sound Tryz.prog 95 m := sound_of i95 Tryz.func95 rfl c95 hE hm
def j96 : C := (.seq (.region [nO 1 (.box (.t 0)),
  nO 2 (.mov (.c (.bool false)))] false) (.seq (.region [nO 3 (.fad 3 (.t 1)),
  nO 4 (.load false 1 (.t 3)),
  nO 5 (.bin .neq (.t 4) (.c (.int .i64 0))),
  mO 6 5,
  gO 7 (.fad 8 (.t 1)) 6 false,
  gO 8 (.load false 1 (.t 7)) 6 false,
  gO 9 (.len (.t 8)) 6 false,
  gO 10 (.bin .gtr (.t 9) (.c (.int .i64 0))) 6 false,
  nO 11 (.pick (.t 6) (.c (.bool true)) (.t 10)),
  mO 2 11] false) .ret))
def i96 : F := ⟨1, 12, j96, [.t 2]⟩
theorem b96 : i96.body = j96 := rfl
theorem q96 : i96.res = [.t 2] := rfl
theorem c96 : chkF Tryz.prog Tryz.f96 i96 = true := by kernel_rfl
theorem s96 {m E} (hE : HE E) (hm : HM i96 m E) : Sound Tryz.prog 96 m := sound_of i96 Tryz.func96 rfl c96 hE hm
def j97 : C := (.seq (.region [nO 4 (.nilsl 51 3 0)] false) (.seq (.region [nO 5 (.nilsl 51 3 0)] false) (.seq (.seq (.region [nO 6 (.mov (.c (.int .i64 0)))] false) (.block 0 (.loop (.keep [0, 1, 5, 6] (.seq (.seq (.region [mO 7 6,
  mO 8 0,
  nO 9 (.len (.t 8)),
  nO 10 (.bin .lss (.t 7) (.t 9))] false) (.cond (.t 10) .skip (.exit 0))) (.seq (.block 1 (.seq (.region [mO 13 0,
  mO 14 6,
  nO 15 (.iad 3 (.t 13) (.t 14)),
  nO 16 (.fad 0 (.t 15)),
  nO 17 (.load false 1 (.t 16)),
  mO 18 1,
  nO 19 (.bin .neq (.t 17) (.t 18))] false) (.cond (.t 19) (.region [mO 20 5,
  mO 21 0,
  mO 22 6,
  nO 23 (.iad 3 (.t 21) (.t 22)),
  nO 24 (.load true 3 (.t 23)),
  nO 25 (.bsl 51 3 1 [.int .i64 0, .int .i64 0, .int .i64 0] [(0, (.t 24))]),
  nO 26 (.app 51 3 24 (.t 20) (.t 25)),
  mO 5 26] false) .skip))) (.region [mO 11 6,
  nO 12 (.bin .add (.t 11) (.c (.int .i64 1))),
  mO 6 12] false))))))) (.seq (.region [mO 27 5,
  mO 4 27] false) .ret))))
def i97 : F := ⟨2, 28, j97, [.t 4]⟩
theorem b97 : i97.body = j97 := rfl
theorem q97 : i97.res = [.t 4] := rfl
theorem c97 : chkF Tryz.prog Tryz.f97 i97 = true := by kernel_rfl
theorem s97 {m E} (hE : HE E) (hm : HM i97 m E) : Sound Tryz.prog 97 m := sound_of i97 Tryz.func97 rfl c97 hE hm
def j98 : C := (.seq (.region [nO 3 (.box (.t 0)),
  nO 6 (.alloc [.int .i64 0, .int .i64 0, .int .i64 0, .row [], .row []])] false) (.seq (.region [nO 8 (.load true 5 (.t 3)),
  nO 9 (.call false 83 [(.t 8)]),
  nO 7 (.alloc [.int .i64 0, .int .i64 0, .int .i64 0, .row [], .row []]),⟨none, .store none 5 (.t 7) (.t 9), none, [], []⟩] false) (.seq (.block 0 (.seq (.region [mO 11 1,
  nO 12 (.fad 0 (.t 3)),
  nO 13 (.load false 1 (.t 12)),
  nO 14 (.bin .gtr (.t 11) (.t 13)),
  mO 10 14] false) (.cond (.t 10) (.seq (.region [mO 15 1,
  mO 16 2,
  nO 17 (.call false 135 [(.t 15), (.t 16)]),⟨none, .store none 5 (.t 6) (.t 17), none, [], []⟩] false) .ret) (.seq (.region [mO 19 1,
  nO 20 (.fad 0 (.t 3)),
  nO 21 (.load false 1 (.t 20)),
  nO 22 (.bin .eql (.t 19) (.t 21)),
  mO 18 22] false) (.cond (.t 18) (.region [nO 23 (.fad 2 (.t 7)),
  nO 24 (.load false 1 (.t 23)),
  mO 25 2,
  nO 26 (.mx (.t 24) (.t 25)),
  nO 27 (.fad 2 (.t 7)),⟨none, .store none 1 (.t 27) (.t 26), none, [], []⟩] false) .skip))))) (.seq (.region [nO 28 (.load true 5 (.t 7)),⟨none, .store none 5 (.t 6) (.t 28), none, [], []⟩] false) .ret))))
def i98 : F := ⟨3, 29, j98, [.c 6 5 true]⟩
theorem b98 : i98.body = j98 := rfl
theorem q98 : i98.res = [.c 6 5 true] := rfl
theorem c98 : chkF Tryz.prog Tryz.f98 i98 = true := by kernel_rfl
theorem s98 {m E} (hE : HE E) (hm : HM i98 m E) : Sound Tryz.prog 98 m := sound_of i98 Tryz.func98 rfl c98 hE hm
def j99 : C := (.seq (.region [nO 6 (.mov (.c (.bool false)))] false) (.seq (.region [mO 7 0,
  nO 8 (.call false 73 [(.t 7)]),
  mO 9 8,
  mG 10 1 9 true,
  gO 11 (.call false 26 [(.t 10)]) 9 true,
  nO 12 (.pick (.t 9) (.t 11) (.c (.bool false))),
  mO 13 12,
  mG 14 2 13 true,
  gO 15 (.call false 26 [(.t 14)]) 13 true,
  nO 16 (.pick (.t 13) (.t 15) (.c (.bool false))),
  mO 17 16,
  mG 18 0 17 true,
  mG 19 1 17 true,
  gO 20 (.call false 136 [(.t 18), (.t 19)]) 17 true,
  mG 21 0 17 true,
  mG 22 2 17 true,
  gO 23 (.call false 136 [(.t 21), (.t 22)]) 17 true,
  gO 24 (.bin .lss (.t 20) (.t 23)) 17 true,
  nO 25 (.pick (.t 17) (.t 24) (.c (.bool false))),
  mO 6 25] false) .ret))
def i99 : F := ⟨3, 26, j99, [.t 6]⟩
theorem b99 : i99.body = j99 := rfl
theorem q99 : i99.res = [.t 6] := rfl
theorem c99 : chkF Tryz.prog Tryz.f99 i99 = true := by kernel_rfl
theorem s99 {m E} (hE : HE E) (hm : HM i99 m E) : Sound Tryz.prog 99 m := sound_of i99 Tryz.func99 rfl c99 hE hm
def j100 : C := (.seq (.region [nO 5 (.box (.t 2)),
  nO 6 (.mov (.c (.bool false)))] false) (.seq (.region [mO 7 0,
  mO 8 1,
  nO 9 (.fad 0 (.t 5)),
  nO 10 (.load false 1 (.t 9)),
  nO 11 (.call false 28 [(.t 7), (.t 8), (.t 10)]),
  mO 12 11,
  gO 13 (.fad 1 (.t 5)) 12 true,
  gO 14 (.load false 1 (.t 13)) 12 true,
  gO 15 (.call false 116 [(.t 14)]) 12 true,
  nO 16 (.pick (.t 12) (.t 15) (.c (.bool false))),
  mO 17 16,
  gO 18 (.fad 2 (.t 5)) 17 true,
  gO 19 (.load false 1 (.t 18)) 17 true,
  gO 20 (.bin .geq (.t 19) (.c (.int .i64 0))) 17 true,
  nO 21 (.pick (.t 17) (.t 20) (.c (.bool false))),
  mO 22 21,
  gO 23 (.fad 2 (.t 5)) 22 true,
  gO 24 (.load false 1 (.t 23)) 22 true,
  gO 25 (.bin .leq (.t 24) (.c (.int .i64 6))) 22 true,
  nO 26 (.pick (.t 22) (.t 25) (.c (.bool false))),
  mO 6 26] false) .ret))
def i100 : F := ⟨3, 27, j100, [.t 6]⟩
theorem b100 : i100.body = j100 := rfl
theorem q100 : i100.res = [.t 6] := rfl
theorem c100 : chkF Tryz.prog Tryz.f100 i100 = true := by kernel_rfl
theorem s100 {m E} (hE : HE E) (hm : HM i100 m E) : Sound Tryz.prog 100 m := sound_of i100 Tryz.func100 rfl c100 hE hm
def j101 : C := (.seq (.region [nO 2 (.nilsl 51 3 0)] false) (.seq (.seq (.region [mO 3 0,
  nO 4 (.isnil false (.t 3))] false) (.cond (.t 4) (.seq (.region [nO 2 (.nilsl 51 3 1)] false) .ret) .skip)) (.seq (.region [nO 5 (.bsl 51 3 0 [.int .i64 0, .int .i64 0, .int .i64 0] []),
  mO 6 0,
  nO 7 (.app 51 3 24 (.t 5) (.t 6)),
  mO 2 7] false) .ret)))
def i101 : F := ⟨1, 8, j101, [.t 2]⟩
theorem b101 : i101.body = j101 := rfl
theorem q101 : i101.res = [.t 2] := rfl
theorem c101 : chkF Tryz.prog Tryz.f101 i101 = true := by kernel_rfl
theorem s101 {m E} (hE : HE E) (hm : HM i101 m E) : Sound Tryz.prog 101 m := sound_of i101 Tryz.func101 rfl c101 hE hm
theorem x101 : Sound Tryz.prog 101 (cloneM 51 3 24) := by
  refine clone_ok (r := fun _ => (.undef, [])) (s101 (E := fun _ _ => none) (fun f => Sound.no) fun args r h => ?_) (sound_nil (fun m hm => s101 (E := fun _ _ => none) (fun f => Sound.no) hm) fun A c => ⟨0, ?_⟩)
  · split at h
    · rename_i y ys
      split at h
      · rename_i hc
        cases h
        refine ⟨0, ?_⟩
        rw [F_ev rfl]
        simp only [j101, b101, q101, ww, simprocAttr, List.replicate, fillR, evE, V.pur1, asRow, List.map_append]
        rw [if_pos ⟨hc.1, by simpa using hc.2⟩]
        simp only [j101, b101, q101, ww, simprocAttr, S.kill, V.kill, Blk.kill, hand, handSs, handS, handVs, handV, List.contains_nil]
        try simp
      · cases h
    · cases h
  · cases A
    · rw [F_ev rfl]
      simp only [j101, b101, q101, ww, simprocAttr, hand, handSs, handS, handVs, handV, List.contains_nil, Bool.not_false]
      try simp
    · rw [F_ev rfl]
      simp only [j101, b101, q101, ww, simprocAttr, List.replicate, fillR, evE, V.pur1, asRow]
      try (rw [if_pos (by simp)]; simp only [j101, b101, q101, ww, simprocAttr, S.kill, V.kill, Blk.kill, hand, handSs, handS, handVs, handV, List.contains_nil])
      try simp
def j102 : C := (.seq (.region [nO 2 (.nilsl 84 6 0)] false) (.seq (.seq (.region [mO 3 0,
  nO 4 (.isnil false (.t 3))] false) (.cond (.t 4) (.seq (.region [nO 2 (.nilsl 84 6 1)] false) .ret) .skip)) (.seq (.region [nO 5 (.bsl 84 6 0 [.int .i64 0, .int .i64 0, .int .i64 0, .int .i64 0, .int .i64 0, .int .i64 0] []),
  mO 6 0,
  nO 7 (.app 84 6 48 (.t 5) (.t 6)),
  mO 2 7] false) .ret)))
def i102 : F := ⟨1, 8, j102, [.t 2]⟩
theorem b102 : i102.body = j102 := rfl
theorem q102 : i102.res = [.t 2] := rfl
theorem c102 : chkF Tryz.prog Tryz.f102 i102 = true := by kernel_rfl
theorem s102 {m E} (hE : HE E) (hm : HM i102 m E) : Sound Tryz.prog 102 m := sound_of i102 Tryz.func102 rfl c102 hE hm
theorem x102 : Sound Tryz.prog 102 (cloneM 84 6 48) := by
  refine clone_ok (r := fun _ => (.undef, [])) (s102 (E := fun _ _ => none) (fun f => Sound.no) fun args r h => ?_) (sound_nil (fun m hm => s102 (E := fun _ _ => none) (fun f => Sound.no) hm) fun A c => ⟨0, ?_⟩)
  · split at h
    · rename_i y ys
      split at h
      · rename_i hc
        cases h
        refine ⟨0, ?_⟩
        rw [F_ev rfl]
        simp only [j102, b102, q102, ww, simprocAttr, List.replicate, fillR, evE, V.pur1, asRow, List.map_append]
        rw [if_pos ⟨hc.1, by simpa using hc.2⟩]
        simp only [j102, b102, q102, ww, simprocAttr, S.kill, V.kill, Blk.kill, hand, handSs, handS, handVs, handV, List.contains_nil]
        try simp
      · cases h
    · cases h
  · cases A
    · rw [F_ev rfl]
      simp only [j102, b102, q102, ww, simprocAttr, hand, handSs, handS, handVs, handV, List.contains_nil, Bool.not_false]
      try simp
    · rw [F_ev rfl]
      simp only [j102, b102, q102, ww, simprocAttr, List.replicate, fillR, evE, V.pur1, asRow]
      try (rw [if_pos (by simp)]; simp only [j102, b102, q102, ww, simprocAttr, S.kill, V.kill, Blk.kill, hand, handSs, handS, handVs, handV, List.contains_nil])
      try simp
def j103 : C := (.seq (.region [nO 1 (.box (.t 0)),
  nO 2 (.alloc [.int .i64 0, .int .i64 0, .int .i64 0, .row [], .row []])] false) (.seq (.region [⟨some 3, .fad 3 (.t 1), none, [6, 7], []⟩,⟨some 4, .load false 1 (.t 3), none, [6, 7], [0]⟩,⟨some 5, .call false 137 [(.t 4)], none, [6, 7], [0, 1]⟩,⟨some 6, .fad 4 (.t 1), none, [3, 4, 5], []⟩,⟨some 7, .load false 1 (.t 6), none, [3, 4, 5], [3]⟩,⟨some 8, .call false 137 [(.t 7)], none, [9], [0, 1, 2, 3, 4]⟩,⟨some 9, .fad 3 (.t 1), none, [8], [0, 1, 2, 3, 4]⟩,⟨none, .store none 1 (.t 9) (.t 5), none, [], [0, 1, 2, 3, 4, 5, 6]⟩,⟨some 10, .fad 4 (.t 1), none, [], [0, 1, 2, 3, 4, 5, 6, 7]⟩,⟨none, .store none 1 (.t 10) (.t 8), none, [], [0, 1, 2, 3, 4, 5, 6, 7, 8]⟩] true) (.seq (.region [nO 11 (.load true 5 (.t 1)),⟨none, .store none 5 (.t 2) (.t 11), none, [], []⟩] false) .ret)))
def i103 : F := ⟨1, 12, j103, [.c 2 5 true]⟩
theorem b103 : i103.body = j103 := rfl
theorem q103 : i103.res = [.c 2 5 true] := rfl
theorem c103 : chkF Tryz.prog Tryz.f103 i103 = true := by kernel_rfl
theorem s103 {m E} (hE : HE E) (hm : HM i103 m E) : Sound Tryz.prog 103 m := sound_of i103 Tryz.func103 rfl c103 hE hm
theorem x104 : Sound Tryz.prog 104 XE.errnoM := XE.errno_ok
def j105 : C := (.seq (.region [nO 1 (.box (.t 0)),
  nO 2 (.mov (.c (.k .nilIface)))] false) (.seq (.region [⟨some 3, .fad 0 (.t 1), none, [6, 7, 9, 10, 12, 13, 15, 16, 18, 19, 21, 22], []⟩,⟨some 4, .load false 1 (.t 3), none, [6, 7, 9, 10, 12, 13, 15, 16, 18, 19, 21, 22], [0]⟩,⟨some 5, .call false 141 [(.c (.k (.string ⟨#[110, 111, 100, 101, 115]⟩))), (.t 4), (.c (.int .i64 1)), (.c (.int .i64 8)), (.c (.int .i64 13))], none, [6, 7, 9, 10, 12, 13, 15, 16, 18, 19, 21, 22], [0, 1]⟩,⟨some 6, .fad 1 (.t 1), none, [3, 4, 5, 9, 10, 12, 13, 15, 16, 18, 19, 21, 22], []⟩,⟨some 7, .load false 1 (.t 6), none, [3, 4, 5, 9, 10, 12, 13, 15, 16, 18, 19, 21, 22], [3]⟩,⟨some 8, .call false 141 [(.c (.k (.string ⟨#[116, 111, 112, 105, 99, 115]⟩))), (.t 7), (.c (.int .i64 1)), (.c (.int .i64 4)), (.c (.int .i64 13))], none, [9, 10, 12, 13, 15, 16, 18, 19, 21, 22], [0, 1, 2, 3, 4]⟩,⟨some 9, .fad 2 (.t 1), none, [3, 4, 5, 6, 7, 8, 12, 13, 15, 16, 18, 19, 21, 22], []⟩,⟨some 10, .load false 1 (.t 9), none, [3, 4, 5, 6, 7, 8, 12, 13, 15, 16, 18, 19, 21, 22], [6]⟩,⟨some 11, .call false 141 [(.c (.k (.string ⟨#[107, 105, 100, 115]⟩))), (.t 10), (.c (.int .i64 1)), (.c (.int .i64 4)), (.c (.int .i64 13))], none, [12, 13, 15, 16, 18, 19, 21, 22], [0, 1, 2, 3, 4, 5, 6, 7]⟩,⟨some 12, .fad 3 (.t 1), none, [3, 4, 5, 6, 7, 8, 9, 10, 11, 15, 16, 18, 19, 21, 22], []⟩,⟨some 13, .load false 1 (.t 12), none, [3, 4, 5, 6, 7, 8, 9, 10, 11, 15, 16, 18, 19, 21, 22], [9]⟩,⟨some 14, .call false 141 [(.c (.k (.string ⟨#[100, 101, 112, 116, 104]⟩))), (.t 13), (.c (.int .i64 1)), (.c (.int .i64 8)), (.c (.int .i64 13))], none, [15, 16, 18, 19, 21, 22], [0, 1, 2, 3, 4, 5, 6, 7, 8, 9, 10]⟩,⟨some 15, .fad 4 (.t 1), none, [3, 4, 5, 6, 7, 8, 9, 10, 11, 12, 13, 14, 18, 19, 21, 22], []⟩,⟨some 16, .load false 1 (.t 15), none, [3, 4, 5, 6, 7, 8, 9, 10, 11, 12, 13, 14, 18, 19, 21, 22], [12]⟩,⟨some 17, .call false 141 [(.c (.k (.string ⟨#[107, 101, 101, 112]⟩))), (.t 16), (.c (.int .i64 1)), (.c (.int .i64 16)), (.c (.int .i64 13))], none, [18, 19, 21, 22], [0, 1, 2, 3, 4, 5, 6, 7, 8, 9, 10, 11, 12, 13]⟩,⟨some 18, .fad 5 (.t 1), none, [3, 4, 5, 6, 7, 8, 9, 10, 11, 12, 13, 14, 15, 16, 17, 21, 22], []⟩,⟨some 19, .load false 1 (.t 18), none, [3, 4, 5, 6, 7, 8, 9, 10, 11, 12, 13, 14, 15, 16, 17, 21, 22], [15]⟩,⟨some 20, .call false 141 [(.c (.k (.string ⟨#[119, 105, 110, 100, 111, 119]⟩))), (.t 19), (.c (.int .i64 1)), (.c (.int .i64 16)), (.c (.int .i64 13))], none, [21, 22], [0, 1, 2, 3, 4, 5, 6, 7, 8, 9, 10, 11, 12, 13, 14, 15, 16]⟩,⟨some 21, .fad 6 (.t 1), none, [3, 4, 5, 6, 7, 8, 9, 10, 11, 12, 13, 14, 15, 16, 17, 18, 19, 20], []⟩,⟨some 22, .load false 1 (.t 21), none, [3, 4, 5, 6, 7, 8, 9, 10, 11, 12, 13, 14, 15, 16, 17, 18, 19, 20], [18]⟩,⟨some 23, .call false 141 [(.c (.k (.string ⟨#[113, 117, 101, 117, 101]⟩))), (.t 22), (.c (.int .i64 2)), (.c (.int .i64 32)), (.c (.int .i64 13))], none, [], [0, 1, 2, 3, 4, 5, 6, 7, 8, 9, 10, 11, 12, 13, 14, 15, 16, 17, 18, 19]⟩,⟨some 24, .bsr 119 1 7 [.k .nilIface] [(0, (.t 5)), (1, (.t 8)), (2, (.t 11)), (3, (.t 14)), (4, (.t 17)), (5, (.t 20)), (6, (.t 23))], none, [], [0, 1, 2, 3, 4, 5, 6, 7, 8, 9, 10, 11, 12, 13, 14, 15, 16, 17, 18, 19, 20]⟩,⟨some 25, .call false 140 [(.t 24)], none, [], [0, 1, 2, 3, 4, 5, 6, 7, 8, 9, 10, 11, 12, 13, 14, 15, 16, 17, 18, 19, 20, 21]⟩,⟨some 2, .mov (.t 25), none, [], [0, 1, 2, 3, 4, 5, 6, 7, 8, 9, 10, 11, 12, 13, 14, 15, 16, 17, 18, 19, 20, 21, 22]⟩] true) .ret))
def i105 : F := ⟨1, 26, j105, [.t 2]⟩
theorem b105 : i105.body = j105 := rfl
theorem q105 : i105.res = [.t 2] := rfl
theorem c105 : chkF Tryz.prog Tryz.f105 i105 = true := by kernel_rfl
theorem s105 {m E} (hE : HE E) (hm : HM i105 m E) : Sound Tryz.prog 105 m := sound_of i105 Tryz.func105 rfl c105 hE hm
def j106 : C := (.seq (.region [nO 6 (.mov (.c (.bool false)))] false) (.seq (.region [mO 7 2,
  nO 8 (.bin .eql (.t 7) (.c (.int .i64 0))),
  mO 9 8,
  mG 10 2 9 false,
  gO 11 (.bin .gtr (.t 10) (.c (.int .i64 0))) 9 false,
  mG 12 11 9 false,
  mG 13 0 12 true,
  mG 14 2 12 true,
  gO 15 (.bin .sub (.t 14) (.c (.int .i64 1))) 12 true,
  mG 16 1 12 true,
  gO 17 (.call false 28 [(.t 13), (.t 15), (.t 16)]) 12 true,
  gO 18 (.pick (.t 12) (.t 17) (.c (.bool false))) 9 false,
  nO 19 (.pick (.t 9) (.c (.bool true)) (.t 18)),
  mO 6 19] false) .ret))
def i106 : F := ⟨3, 20, j106, [.t 6]⟩
theorem b106 : i106.body = j106 := rfl
theorem q106 : i106.res = [.t 6] := rfl
theorem c106 : chkF Tryz.prog Tryz.f106 i106 = true := by kernel_rfl
theorem s106 {m E} (hE : HE E) (hm : HM i106 m E) : Sound Tryz.prog 106 m := sound_of i106 Tryz.func106 rfl c106 hE hm
end Go.Proofs.YtdflglehippoiaaGreatDoor.IG
