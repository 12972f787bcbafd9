/- Texts joined: IG1. -/
import Derived.Test.YtdflglehippoiaaGreatDoorZX1
import Derived.Test.YtdflglehippoiaaGreatDoorProg
set_option linter.unusedVariables false
set_option linter.unusedSimpArgs false
set_option maxRecDepth 100000
namespace Go.Proofs.YtdflglehippoiaaGreatDoor.IG
open Go Go.Proofs.YtdflglehippoiaaGreatDoorR
abbrev mO (d n : Nat) : IO := ⟨some d, .mov (.t n), none, [], []⟩
abbrev mG (d n k : Nat) (b : Bool) : IO := ⟨some d, .mov (.t n), some (k, b), [], []⟩
abbrev HE (E : Nat → Model) : Prop := ∀ f, Sound Tryz.prog f (E f)
abbrev HM (i : F) (m : Model) (E : Nat → Model) : Prop := ∀ args r, m args = some r → ∃ N, i.ev E N args = some r
def j13 : C := (.seq (.region [nO 1 (.box (.t 0)),
  nO 2 (.mov (.c (.bool false)))] false) (.seq (.region [nO 3 (.fad 8 (.t 1)),
  nO 4 (.load false 1 (.t 3)),
  nO 5 (.len (.t 4)),
  nO 6 (.bin .gtr (.t 5) (.c (.int .i64 20))),
  mO 7 6,
  gO 8 (.fad 9 (.t 1)) 7 false,
  gO 9 (.load false 1 (.t 8)) 7 false,
  gO 10 (.len (.t 9)) 7 false,
  gO 11 (.bin .gtr (.t 10) (.c (.int .i64 20))) 7 false,
  nO 12 (.pick (.t 7) (.c (.bool true)) (.t 11)),
  mO 13 12,
  gO 14 (.fad 10 (.t 1)) 13 false,
  gO 15 (.load true 5 (.t 14)) 13 false,
  gO 16 (.fad 15 (.t 1)) 13 false,
  gO 17 (.load false 1 (.t 16)) 13 false,
  gO 18 (.call false 49 [(.t 15), (.t 17)]) 13 false,
  nO 19 (.pick (.t 13) (.c (.bool true)) (.t 18)),
  mO 2 19] false) .ret))
def i13 : F := ⟨1, 20, j13, [.t 2]⟩
theorem b13 : i13.body = j13 := rfl
theorem q13 : i13.res = [.t 2] := rfl
theorem c13 : chkF Tryz.prog Tryz.f13 i13 = true := by kernel_rfl
theorem s13 {m E} (hE : HE E) (hm : HM i13 m E) : Sound Tryz.prog 13 m := sound_of i13 Tryz.func13 rfl c13 hE hm
def j14 : C := (.seq (.region [nO 4 (.box (.t 0)),
  nO 7 (.box (.t 3)),
  nO 8 (.mov (.c (.bool false)))] false) (.seq (.region [nO 9 (.load true 7 (.t 4)),
  nO 10 (.call false 40 [(.t 9)]),
  mO 11 10,
  gO 12 (.load true 7 (.t 4)) 11 true,
  mG 13 1 11 true,
  mG 14 2 11 true,
  gO 15 (.call false 41 [(.t 12), (.t 13), (.t 14)]) 11 true,
  nO 16 (.pick (.t 11) (.t 15) (.c (.bool false))),
  mO 17 16,
  gO 18 (.load true 7 (.t 4)) 17 true,
  mG 19 1 17 true,
  mG 20 2 17 true,
  gO 21 (.load true 16 (.t 7)) 17 true,
  gO 22 (.call false 42 [(.t 18), (.t 19), (.t 20), (.t 21)]) 17 true,
  nO 23 (.pick (.t 17) (.t 22) (.c (.bool false))),
  mO 8 23] false) .ret))
def i14 : F := ⟨4, 24, j14, [.t 8]⟩
theorem b14 : i14.body = j14 := rfl
theorem q14 : i14.res = [.t 8] := rfl
theorem c14 : chkF Tryz.prog Tryz.f14 i14 = true := by kernel_rfl
theorem s14 {m E} (hE : HE E) (hm : HM i14 m E) : Sound Tryz.prog 14 m := sound_of i14 Tryz.func14 rfl c14 hE hm
def j17 : C := (.seq (.region [nO 2 (.mov (.c (.int .i64 0))),
  nO 3 (.mov (.c (.int .i64 0)))] false) (.seq (.region [mO 5 0,
  nO 6 (.call false 53 [(.t 5)]),
  mO 4 6] false) (.seq (.seq (.region [mO 7 4,
  nO 8 (.bin .neq (.t 7) (.c (.int .i64 0)))] false) (.cond (.t 8) (.seq (.region [mO 9 4,
  nO 2 (.mov (.c (.int .i64 0))),
  mO 3 9] false) .ret) .skip)) (.seq (.region [mO 10 0,
  nO 11 (.bin .rem (.t 10) (.c (.int .i64 16))),
  mO 2 11,
  nO 3 (.mov (.c (.int .i64 0)))] false) .ret))))
def i17 : F := ⟨1, 12, j17, [.t 2, .t 3]⟩
theorem b17 : i17.body = j17 := rfl
theorem q17 : i17.res = [.t 2, .t 3] := rfl
theorem c17 : chkF Tryz.prog Tryz.f17 i17 = true := by kernel_rfl
theorem s17 {m E} (hE : HE E) (hm : HM i17 m E) : Sound Tryz.prog 17 m := sound_of i17 Tryz.func17 rfl c17 hE hm
def j18 : C := (.seq (.region [nO 4 (.box (.t 0)),
  nO 7 (.box (.t 3)),
  nO 8 (.mov (.c (.int .i64 0)))] false) (.seq (.region [nO 10 (.load true 7 (.t 4)),
  nO 11 (.call false 54 [(.t 10)]),
  mO 9 11] false) (.seq (.block 0 (.seq (.region [mO 13 9,
  nO 14 (.bin .neq (.t 13) (.c (.int .i64 0))),
  mO 12 14] false) (.cond (.t 12) (.seq (.region [mO 15 9,
  mO 8 15] false) .ret) (.seq (.region [mO 17 1,
  nO 18 (.bin .lss (.t 17) (.c (.int .i64 0))),
  mO 19 18,
  mG 20 1 19 false,
  gO 21 (.fad 1 (.t 4)) 19 false,
  gO 22 (.load false 1 (.t 21)) 19 false,
  gO 23 (.bin .geq (.t 20) (.t 22)) 19 false,
  nO 24 (.pick (.t 19) (.c (.bool true)) (.t 23)),
  mO 25 24,
  mG 26 2 25 false,
  gO 27 (.bin .lss (.t 26) (.c (.int .i64 0))) 25 false,
  nO 28 (.pick (.t 25) (.c (.bool true)) (.t 27)),
  mO 29 28,
  mG 30 2 29 false,
  gO 31 (.fad 0 (.t 4)) 29 false,
  gO 32 (.load false 1 (.t 31)) 29 false,
  gO 33 (.bin .geq (.t 30) (.t 32)) 29 false,
  nO 34 (.pick (.t 29) (.c (.bool true)) (.t 33)),
  mO 35 34,
  gO 36 (.load true 7 (.t 4)) 35 false,
  mG 37 1 35 false,
  mG 38 2 35 false,
  gO 39 (.load true 16 (.t 7)) 35 false,
  gO 40 (.call false 55 [(.t 36), (.t 37), (.t 38), (.t 39)]) 35 false,
  gO 41 (.un .not (.t 40)) 35 false,
  nO 42 (.pick (.t 35) (.c (.bool true)) (.t 41)),
  mO 16 42] false) (.cond (.t 16) (.seq (.region [nO 8 (.mov (.c (.int .i64 1)))] false) .ret) .skip))))) (.seq (.region [nO 8 (.mov (.c (.int .i64 0)))] false) .ret))))
def i18 : F := ⟨4, 43, j18, [.t 8]⟩
theorem b18 : i18.body = j18 := rfl
theorem q18 : i18.res = [.t 8] := rfl
theorem c18 : chkF Tryz.prog Tryz.f18 i18 = true := by kernel_rfl
theorem s18 {m E} (hE : HE E) (hm : HM i18 m E) : Sound Tryz.prog 18 m := sound_of i18 Tryz.func18 rfl c18 hE hm
def j19 : C := (.seq (.region [nO 2 (.box (.t 0)),
  nO 3 (.box (.t 1)),
  nO 4 (.mov (.c (.bool false)))] false) (.seq (.region [nO 5 (.fad 0 (.t 2)),
  nO 6 (.load false 1 (.t 5)),
  nO 7 (.fad 0 (.t 3)),
  nO 8 (.load false 1 (.t 7)),
  nO 9 (.eqb false (.t 6) (.t 8)),
  mO 10 9,
  gO 11 (.fad 1 (.t 2)) 10 true,
  gO 12 (.load false 1 (.t 11)) 10 true,
  gO 13 (.fad 1 (.t 3)) 10 true,
  gO 14 (.load false 1 (.t 13)) 10 true,
  gO 15 (.eqb false (.t 12) (.t 14)) 10 true,
  nO 16 (.pick (.t 10) (.t 15) (.c (.bool false))),
  mO 17 16,
  gO 18 (.fad 2 (.t 2)) 17 true,
  gO 19 (.load false 1 (.t 18)) 17 true,
  gO 20 (.fad 2 (.t 3)) 17 true,
  gO 21 (.load false 1 (.t 20)) 17 true,
  gO 22 (.bin .eql (.t 19) (.t 21)) 17 true,
  nO 23 (.pick (.t 17) (.t 22) (.c (.bool false))),
  mO 24 23,
  gO 25 (.fad 3 (.t 2)) 24 true,
  gO 26 (.load false 1 (.t 25)) 24 true,
  gO 27 (.fad 3 (.t 3)) 24 true,
  gO 28 (.load false 1 (.t 27)) 24 true,
  gO 29 (.bin .eql (.t 26) (.t 28)) 24 true,
  nO 30 (.pick (.t 24) (.t 29) (.c (.bool false))),
  mO 31 30,
  gO 32 (.fad 4 (.t 2)) 31 true,
  gO 33 (.load false 1 (.t 32)) 31 true,
  gO 34 (.fad 4 (.t 3)) 31 true,
  gO 35 (.load false 1 (.t 34)) 31 true,
  gO 36 (.bin .eql (.t 33) (.t 35)) 31 true,
  nO 37 (.pick (.t 31) (.t 36) (.c (.bool false))),
  mO 38 37,
  gO 39 (.fad 5 (.t 2)) 38 true,
  gO 40 (.load false 1 (.t 39)) 38 true,
  gO 41 (.fad 5 (.t 3)) 38 true,
  gO 42 (.load false 1 (.t 41)) 38 true,
  gO 43 (.bin .eql (.t 40) (.t 42)) 38 true,
  nO 44 (.pick (.t 38) (.t 43) (.c (.bool false))),
  mO 45 44,
  gO 46 (.fad 6 (.t 2)) 45 true,
  gO 47 (.load false 1 (.t 46)) 45 true,
  gO 48 (.fad 6 (.t 3)) 45 true,
  gO 49 (.load false 1 (.t 48)) 45 true,
  gO 50 (.bin .eql (.t 47) (.t 49)) 45 true,
  nO 51 (.pick (.t 45) (.t 50) (.c (.bool false))),
  mO 52 51,
  gO 53 (.fad 7 (.t 2)) 52 true,
  gO 54 (.load false 1 (.t 53)) 52 true,
  gO 55 (.fad 7 (.t 3)) 52 true,
  gO 56 (.load false 1 (.t 55)) 52 true,
  gO 57 (.bin .eql (.t 54) (.t 56)) 52 true,
  nO 58 (.pick (.t 52) (.t 57) (.c (.bool false))),
  mO 59 58,
  gO 60 (.fad 8 (.t 2)) 59 true,
  gO 61 (.load false 1 (.t 60)) 59 true,
  gO 62 (.fad 8 (.t 3)) 59 true,
  gO 63 (.load false 1 (.t 62)) 59 true,
  gO 64 (.call false 34 [(.t 61), (.t 63)]) 59 true,
  nO 65 (.pick (.t 59) (.t 64) (.c (.bool false))),
  mO 66 65,
  gO 67 (.fad 9 (.t 2)) 66 true,
  gO 68 (.load false 1 (.t 67)) 66 true,
  gO 69 (.fad 9 (.t 3)) 66 true,
  gO 70 (.load false 1 (.t 69)) 66 true,
  gO 71 (.call false 20 [(.t 68), (.t 70)]) 66 true,
  nO 72 (.pick (.t 66) (.t 71) (.c (.bool false))),
  mO 73 72,
  gO 74 (.fad 10 (.t 2)) 73 true,
  gO 75 (.load true 5 (.t 74)) 73 true,
  gO 76 (.fad 10 (.t 3)) 73 true,
  gO 77 (.load true 5 (.t 76)) 73 true,
  gO 78 (.call false 25 [(.t 75), (.t 77)]) 73 true,
  nO 79 (.pick (.t 73) (.t 78) (.c (.bool false))),
  mO 80 79,
  gO 81 (.fad 15 (.t 2)) 80 true,
  gO 82 (.load false 1 (.t 81)) 80 true,
  gO 83 (.fad 15 (.t 3)) 80 true,
  gO 84 (.load false 1 (.t 83)) 80 true,
  gO 85 (.call false 21 [(.t 82), (.t 84)]) 80 true,
  nO 86 (.pick (.t 80) (.t 85) (.c (.bool false))),
  mO 4 86] false) .ret))
def i19 : F := ⟨2, 87, j19, [.t 4]⟩
theorem b19 : i19.body = j19 := rfl
theorem q19 : i19.res = [.t 4] := rfl
theorem c19 : chkF Tryz.prog Tryz.f19 i19 = true := by kernel_rfl
theorem s19 {m E} (hE : HE E) (hm : HM i19 m E) : Sound Tryz.prog 19 m := sound_of i19 Tryz.func19 rfl c19 hE hm
def j20 : C := (.seq (.region [nO 4 (.mov (.c (.bool false)))] false) (.seq (.seq (.region [mO 6 0,
  nO 7 (.len (.t 6)),
  mO 8 1,
  nO 9 (.len (.t 8)),
  nO 10 (.bin .neq (.t 7) (.t 9))] false) (.cond (.t 10) (.seq (.region [nO 4 (.mov (.c (.bool false)))] false) .ret) .skip)) (.seq (.seq (.region [nO 5 (.mov (.c (.int .i64 0)))] false) (.block 0 (.loop (.keep [0, 1, 5] (.seq (.seq (.region [mO 11 5,
  mO 12 0,
  nO 13 (.len (.t 12)),
  nO 14 (.bin .lss (.t 11) (.t 13))] false) (.cond (.t 14) .skip (.exit 0))) (.seq (.block 1 (.seq (.region [⟨some 17, .mov (.t 0), none, [18, 21, 22, 23, 24], []⟩,⟨some 18, .mov (.t 5), none, [17, 21, 22, 23, 24], []⟩,⟨some 19, .iad 3 (.t 17) (.t 18), none, [21, 22, 23, 24], [0, 1]⟩,⟨some 20, .load true 3 (.t 19), none, [21, 22, 23, 24], [0, 1, 2]⟩,⟨some 21, .mov (.t 1), none, [17, 18, 19, 20, 22], []⟩,⟨some 22, .mov (.t 5), none, [17, 18, 19, 20, 21], []⟩,⟨some 23, .iad 3 (.t 21) (.t 22), none, [17, 18, 19, 20], [4, 5]⟩,⟨some 24, .load true 3 (.t 23), none, [17, 18, 19, 20], [4, 5, 6]⟩,⟨some 25, .eqs true [true, true, true] (.t 20) (.t 24), none, [], [0, 1, 2, 3, 4, 5, 6, 7]⟩] true) (.cond (.t 25) (.seq (.region [nO 4 (.mov (.c (.bool false)))] false) .ret) .skip))) (.region [mO 15 5,
  nO 16 (.bin .add (.t 15) (.c (.int .i64 1))),
  mO 5 16] false))))))) (.seq (.region [nO 4 (.mov (.c (.bool true)))] false) .ret))))
def i20 : F := ⟨2, 26, j20, [.t 4]⟩
theorem b20 : i20.body = j20 := rfl
theorem q20 : i20.res = [.t 4] := rfl
theorem c20 : chkF Tryz.prog Tryz.f20 i20 = true := by kernel_rfl
theorem s20 {m E} (hE : HE E) (hm : HM i20 m E) : Sound Tryz.prog 20 m := sound_of i20 Tryz.func20 rfl c20 hE hm
def j21 : C := (.seq (.region [nO 4 (.mov (.c (.bool false)))] false) (.seq (.seq (.region [mO 6 0,
  nO 7 (.len (.t 6)),
  mO 8 1,
  nO 9 (.len (.t 8)),
  nO 10 (.bin .neq (.t 7) (.t 9))] false) (.cond (.t 10) (.seq (.region [nO 4 (.mov (.c (.bool false)))] false) .ret) .skip)) (.seq (.seq (.region [nO 5 (.mov (.c (.int .i64 0)))] false) (.block 0 (.loop (.keep [0, 1, 5] (.seq (.seq (.region [mO 11 5,
  mO 12 0,
  nO 13 (.len (.t 12)),
  nO 14 (.bin .lss (.t 11) (.t 13))] false) (.cond (.t 14) .skip (.exit 0))) (.seq (.block 1 (.seq (.region [⟨some 17, .mov (.t 0), none, [18, 21, 22, 23, 24], []⟩,⟨some 18, .mov (.t 5), none, [17, 21, 22, 23, 24], []⟩,⟨some 19, .iad 6 (.t 17) (.t 18), none, [21, 22, 23, 24], [0, 1]⟩,⟨some 20, .load true 6 (.t 19), none, [21, 22, 23, 24], [0, 1, 2]⟩,⟨some 21, .mov (.t 1), none, [17, 18, 19, 20, 22], []⟩,⟨some 22, .mov (.t 5), none, [17, 18, 19, 20, 21], []⟩,⟨some 23, .iad 6 (.t 21) (.t 22), none, [17, 18, 19, 20], [4, 5]⟩,⟨some 24, .load true 6 (.t 23), none, [17, 18, 19, 20], [4, 5, 6]⟩,⟨some 25, .eqs true [true, true, true, true, true, true] (.t 20) (.t 24), none, [], [0, 1, 2, 3, 4, 5, 6, 7]⟩] true) (.cond (.t 25) (.seq (.region [nO 4 (.mov (.c (.bool false)))] false) .ret) .skip))) (.region [mO 15 5,
  nO 16 (.bin .add (.t 15) (.c (.int .i64 1))),
  mO 5 16] false))))))) (.seq (.region [nO 4 (.mov (.c (.bool true)))] false) .ret))))
def i21 : F := ⟨2, 26, j21, [.t 4]⟩
theorem b21 : i21.body = j21 := rfl
theorem q21 : i21.res = [.t 4] := rfl
theorem c21 : chkF Tryz.prog Tryz.f21 i21 = true := by kernel_rfl
theorem s21 {m E} (hE : HE E) (hm : HM i21 m E) : Sound Tryz.prog 21 m := sound_of i21 Tryz.func21 rfl c21 hE hm
def j23 : C := (.seq (.region [nO 0 (.alloc [.int .i64 0, .int .i64 0, .int .i64 0, .int .i64 0, .int .i64 0, .int .i64 0, .int .i64 0])] false) (.seq (.region [nO 1 (.build [.int .i64 0, .int .i64 0, .int .i64 0, .int .i64 0, .int .i64 0, .int .i64 0, .int .i64 0] [(0, 1, (.c (.int .i64 8))), (1, 1, (.c (.int .i64 4))), (2, 1, (.c (.int .i64 2))), (3, 1, (.c (.int .i64 8))), (4, 1, (.c (.int .i64 8))), (5, 1, (.c (.int .i64 8))), (6, 1, (.c (.int .i64 16)))]),⟨none, .store none 7 (.t 0) (.t 1), none, [], []⟩] false) .ret))
def i23 : F := ⟨0, 2, j23, [.c 0 7 true]⟩
theorem c23 : chkF Tryz.prog Tryz.f23 i23 = true := by kernel_rfl
theorem s23 {m E} (hE : HE E) (hm : HM i23 m E) : Sound Tryz.prog 23 m := sound_of i23 Tryz.func23 rfl c23 hE hm
def j25 : C := (.seq (.region [nO 2 (.box (.t 0)),
  nO 3 (.box (.t 1)),
  nO 4 (.mov (.c (.bool false)))] false) (.seq (.region [nO 5 (.fad 0 (.t 2)),
  nO 6 (.load false 1 (.t 5)),
  nO 7 (.fad 0 (.t 3)),
  nO 8 (.load false 1 (.t 7)),
  nO 9 (.bin .eql (.t 6) (.t 8)),
  mO 10 9,
  gO 11 (.fad 1 (.t 2)) 10 true,
  gO 12 (.load false 1 (.t 11)) 10 true,
  gO 13 (.fad 1 (.t 3)) 10 true,
  gO 14 (.load false 1 (.t 13)) 10 true,
  gO 15 (.bin .eql (.t 12) (.t 14)) 10 true,
  nO 16 (.pick (.t 10) (.t 15) (.c (.bool false))),
  mO 17 16,
  gO 18 (.fad 2 (.t 2)) 17 true,
  gO 19 (.load false 1 (.t 18)) 17 true,
  gO 20 (.fad 2 (.t 3)) 17 true,
  gO 21 (.load false 1 (.t 20)) 17 true,
  gO 22 (.bin .eql (.t 19) (.t 21)) 17 true,
  nO 23 (.pick (.t 17) (.t 22) (.c (.bool false))),
  mO 24 23,
  gO 25 (.fad 3 (.t 2)) 24 true,
  gO 26 (.load false 1 (.t 25)) 24 true,
  gO 27 (.fad 3 (.t 3)) 24 true,
  gO 28 (.load false 1 (.t 27)) 24 true,
  gO 29 (.call false 59 [(.t 26), (.t 28)]) 24 true,
  nO 30 (.pick (.t 24) (.t 29) (.c (.bool false))),
  mO 31 30,
  gO 32 (.fad 4 (.t 2)) 31 true,
  gO 33 (.load false 1 (.t 32)) 31 true,
  gO 34 (.fad 4 (.t 3)) 31 true,
  gO 35 (.load false 1 (.t 34)) 31 true,
  gO 36 (.call false 59 [(.t 33), (.t 35)]) 31 true,
  nO 37 (.pick (.t 31) (.t 36) (.c (.bool false))),
  mO 4 37] false) .ret))
def i25 : F := ⟨2, 38, j25, [.t 4]⟩
theorem b25 : i25.body = j25 := rfl
theorem q25 : i25.res = [.t 4] := rfl
theorem c25 : chkF Tryz.prog Tryz.f25 i25 = true := by kernel_rfl
theorem s25 {m E} (hE : HE E) (hm : HM i25 m E) : Sound Tryz.prog 25 m := sound_of i25 Tryz.func25 rfl c25 hE hm
def j26 : C := (.seq (.region [nO 2 (.mov (.c (.bool false)))] false) (.seq (.region [mO 3 0,
  nO 4 (.call false 60 [(.t 3), (.c (.int .i64 0)), (.c (.int .i64 7))]),
  mO 2 4] false) .ret))
def i26 : F := ⟨1, 5, j26, [.t 2]⟩
theorem b26 : i26.body = j26 := rfl
theorem q26 : i26.res = [.t 2] := rfl
theorem c26 : chkF Tryz.prog Tryz.f26 i26 = true := by kernel_rfl
theorem s26 {m E} (hE : HE E) (hm : HM i26 m E) : Sound Tryz.prog 26 m := sound_of i26 Tryz.func26 rfl c26 hE hm
def j27 : C := (.seq (.region [nO 7 (.box (.t 0)),
  nO 10 (.box (.t 3)),
  nO 14 (.alloc [.bool false, .bool false, .int .i64 0, .int .i64 0, .int .i64 0, .int .i64 0, .int .i64 0, .int .i64 0, .row [], .row [], .int .i64 0, .int .i64 0, .int .i64 0, .row [], .row [], .row []]),
  nO 15 (.nilsl 49 16 0),
  nO 16 (.mov (.c (.int .i64 0)))] false) (.seq (.region [nO 20 (.load true 7 (.t 7)),
  mO 21 1,
  mO 22 2,
  nO 23 (.load true 16 (.t 10)),
  nO 24 (.call false 18 [(.t 20), (.t 21), (.t 22), (.t 23)]),
  mO 16 24] false) (.seq (.block 0 (.seq (.region [mO 26 16,
  nO 27 (.bin .neq (.t 26) (.c (.int .i64 0))),
  mO 25 27] false) (.cond (.t 25) (.seq (.region [nO 28 (.build [.bool false, .bool false, .int .i64 0, .int .i64 0, .int .i64 0, .int .i64 0, .int .i64 0, .int .i64 0, .row [], .row [], .int .i64 0, .int .i64 0, .int .i64 0, .row [], .row [], .row []] []),
  mO 29 16,⟨none, .store none 16 (.t 14) (.t 28), none, [], []⟩,
  nO 15 (.nilsl 49 16 1),
  mO 16 29] false) .ret) (.seq (.region [mO 31 6,
  nO 32 (.bin .lss (.t 31) (.c (.int .i64 0))),
  mO 33 32,
  mG 34 6 33 false,
  gO 35 (.bin .gtr (.t 34) (.c (.int .i64 1073741824))) 33 false,
  nO 36 (.pick (.t 33) (.c (.bool true)) (.t 35)),
  mO 30 36] false) (.cond (.t 30) (.seq (.region [nO 37 (.build [.bool false, .bool false, .int .i64 0, .int .i64 0, .int .i64 0, .int .i64 0, .int .i64 0, .int .i64 0, .row [], .row [], .int .i64 0, .int .i64 0, .int .i64 0, .row [], .row [], .row []] []),⟨none, .store none 16 (.t 14) (.t 37), none, [], []⟩,
  nO 15 (.nilsl 49 16 2),
  nO 16 (.mov (.c (.int .i64 1)))] false) .ret) .skip))))) (.seq (.region [nO 38 (.load true 16 (.t 10)),
  nO 39 (.call false 50 [(.t 38)]),⟨none, .store none 16 (.t 14) (.t 39), none, [], []⟩] false) (.seq (.region [mO 41 1,
  mO 42 2,
  nO 43 (.fad 2 (.t 7)),
  nO 44 (.load false 1 (.t 43)),
  nO 45 (.fad 9 (.t 10)),
  nO 46 (.load false 1 (.t 45)),
  mO 47 4,
  mO 48 5,
  nO 49 (.call false 61 [(.t 41), (.t 42), (.t 44), (.t 46), (.t 47), (.t 48)]),
  mO 40 49,
  nO 50 (.ext (.t 40) 0),
  nO 51 (.ext (.t 40) 1),
  nO 52 (.ext (.t 40) 2),
  nO 53 (.ext (.t 40) 3),
  mO 17 50,
  mO 18 51,
  mO 19 52,
  mO 16 53] false) (.seq (.seq (.region [mO 54 16,
  nO 55 (.bin .neq (.t 54) (.c (.int .i64 0)))] false) (.cond (.t 55) (.seq (.region [nO 56 (.load true 16 (.t 14)),⟨none, .store none 16 (.t 14) (.t 56), none, [], []⟩,
  nO 15 (.nilsl 49 16 3),
  nO 16 (.mov (.c (.int .i64 0)))] false) .ret) .skip)) (.seq (.region [nO 57 (.fad 2 (.t 14)),
  nO 58 (.load false 1 (.t 57)),
  mO 59 6,
  nO 60 (.mx (.t 58) (.t 59)),
  mO 61 17,
  nO 62 (.fad 2 (.t 14)),⟨none, .store none 1 (.t 62) (.t 60), none, [], []⟩,
  nO 63 (.fad 9 (.t 14)),⟨none, .store none 1 (.t 63) (.t 61), none, [], []⟩] false) (.seq (.seq (.region [mO 64 18,
  nO 65 (.bin .gtr (.t 64) (.c (.int .i64 0)))] false) (.cond (.t 65) (.region [mO 66 15,
  mO 67 18,
  nO 68 (.bin .sub (.t 67) (.c (.int .i64 1))),
  mO 69 1,
  mO 70 19,
  nO 71 (.bin .sub (.t 70) (.c (.int .i64 1))),
  nO 72 (.build [.int .i64 0, .int .i64 0, .int .i64 0, .int .i64 0, .int .i64 0, .int .i64 0, .int .i64 0, .int .i64 0, .int .i64 0, .int .i64 0, .int .i64 0, .int .i64 0, .int .i64 0, .int .i64 0, .row [], .row []] [(0, 1, (.c (.int .i64 4))), (3, 1, (.t 68)), (5, 1, (.t 69)), (10, 1, (.t 71))]),
  nO 73 (.bsl 49 16 1 [.int .i64 0, .int .i64 0, .int .i64 0, .int .i64 0, .int .i64 0, .int .i64 0, .int .i64 0, .int .i64 0, .int .i64 0, .int .i64 0, .int .i64 0, .int .i64 0, .int .i64 0, .int .i64 0, .row [], .row []] [(0, (.t 72))]),
  nO 74 (.app 49 16 160 (.t 66) (.t 73)),
  mO 15 74] false) .skip)) (.seq (.seq (.region [mO 75 17,
  mO 76 4,
  nO 77 (.call false 30 [(.t 75), (.t 76)]),
  nO 78 (.un .not (.t 77)),
  mO 79 78,
  gO 80 (.load true 16 (.t 14)) 79 false,
  gO 81 (.call false 62 [(.t 80)]) 79 false,
  gO 82 (.un .not (.t 81)) 79 false,
  nO 83 (.pick (.t 79) (.c (.bool true)) (.t 82))] false) (.cond (.t 83) (.seq (.region [nO 84 (.load true 16 (.t 14)),
  mO 85 15,⟨none, .store none 16 (.t 14) (.t 84), none, [], []⟩,
  mO 15 85,
  nO 16 (.mov (.c (.int .i64 0)))] false) .ret) .skip)) (.seq (.seq (.region [nO 86 (.fad 8 (.t 14)),
  nO 87 (.load false 1 (.t 86)),
  nO 88 (.len (.t 87)),
  nO 89 (.bin .add (.t 88) (.c (.int .i64 1))),
  nO 90 (.fad 3 (.t 7)),
  nO 91 (.load false 1 (.t 90)),
  nO 92 (.bin .gtr (.t 89) (.t 91))] false) (.cond (.t 92) (.seq (.region [mO 93 17,
  mO 94 4,
  nO 95 (.call false 63 [(.t 93), (.t 94)]),
  nO 96 (.fad 9 (.t 14)),⟨none, .store none 1 (.t 96) (.t 95), none, [], []⟩] false) (.seq (.region [⟨some 97, .ldb true 16 (.t 14), none, [98, 99, 100, 101, 102, 103], []⟩,⟨some 98, .mov (.t 15), none, [97, 99, 100, 101, 102], []⟩,⟨some 99, .mov (.t 4), none, [97, 98, 100], []⟩,⟨some 100, .mov (.t 1), none, [97, 98, 99], []⟩,⟨some 101, .build [.int .i64 0, .int .i64 0, .int .i64 0, .int .i64 0, .int .i64 0, .int .i64 0, .int .i64 0, .int .i64 0, .int .i64 0, .int .i64 0, .int .i64 0, .int .i64 0, .int .i64 0, .int .i64 0, .row [], .row []] [(0, 1, (.c (.int .i64 5))), (3, 1, (.t 99)), (5, 1, (.t 100))], none, [97, 98], [2, 3]⟩,⟨some 102, .bsl 49 16 1 [.int .i64 0, .int .i64 0, .int .i64 0, .int .i64 0, .int .i64 0, .int .i64 0, .int .i64 0, .int .i64 0, .int .i64 0, .int .i64 0, .int .i64 0, .int .i64 0, .int .i64 0, .int .i64 0, .row [], .row []] [(0, (.t 101))], none, [97, 98], [2, 3, 4]⟩,⟨some 103, .app 49 16 160 (.t 98) (.t 102), none, [97], [1, 2, 3, 4, 5]⟩,⟨none, .store none 16 (.t 14) (.t 97), none, [], [0, 1, 2, 3, 4, 5, 6]⟩,⟨some 15, .mov (.t 103), none, [], [0, 1, 2, 3, 4, 5, 6, 7]⟩,⟨some 16, .mov (.c (.int .i64 0)), none, [], [0, 1, 2, 3, 4, 5, 6, 7, 8]⟩] true) .ret)) .skip)) (.seq (.region [⟨some 104, .ldb true 16 (.t 14), none, [105, 106, 107, 108, 109, 110, 111, 112], []⟩,⟨some 105, .mov (.t 15), none, [104, 106, 107, 108, 109, 110, 111], []⟩,⟨some 106, .mov (.t 1), none, [104, 105, 107, 108, 109], []⟩,⟨some 107, .mov (.t 2), none, [104, 105, 106, 108, 109], []⟩,⟨some 108, .load true 16 (.t 14), none, [104, 105, 106, 107, 109], []⟩,⟨some 109, .mov (.t 4), none, [104, 105, 106, 107, 108], []⟩,⟨some 110, .call false 64 [(.t 106), (.t 107), (.t 108), (.t 109)], none, [104, 105], [2, 3, 4, 5]⟩,⟨some 111, .bsl 49 16 1 [.int .i64 0, .int .i64 0, .int .i64 0, .int .i64 0, .int .i64 0, .int .i64 0, .int .i64 0, .int .i64 0, .int .i64 0, .int .i64 0, .int .i64 0, .int .i64 0, .int .i64 0, .int .i64 0, .row [], .row []] [(0, (.t 110))], none, [104, 105], [2, 3, 4, 5, 6]⟩,⟨some 112, .app 49 16 160 (.t 105) (.t 111), none, [104], [1, 2, 3, 4, 5, 6, 7]⟩,⟨none, .store none 16 (.t 14) (.t 104), none, [], [0, 1, 2, 3, 4, 5, 6, 7, 8]⟩,⟨some 15, .mov (.t 112), none, [], [0, 1, 2, 3, 4, 5, 6, 7, 8, 9]⟩,⟨some 16, .mov (.c (.int .i64 0)), none, [], [0, 1, 2, 3, 4, 5, 6, 7, 8, 9, 10]⟩] true) .ret)))))))))))
def i27 : F := ⟨7, 113, j27, [.c 14 16 true, .t 15, .t 16]⟩
theorem b27 : i27.body = j27 := rfl
theorem q27 : i27.res = [.c 14 16 true, .t 15, .t 16] := rfl
theorem c27 : chkF Tryz.prog Tryz.f27 i27 = true := by kernel_rfl
theorem s27 {m E} (hE : HE E) (hm : HM i27 m E) : Sound Tryz.prog 27 m := sound_of i27 Tryz.func27 rfl c27 hE hm
def j28 : C := (.seq (.region [nO 6 (.mov (.c (.bool false)))] false) (.seq (.region [mO 12 0,
  mO 13 1,
  nO 14 (.call false 65 [(.t 12), (.t 13)]),
  mO 11 14,
  nO 15 (.ext (.t 11) 0),
  nO 16 (.ext (.t 11) 1),
  mO 7 15,
  mO 8 16] false) (.seq (.region [mO 18 0,
  mO 19 2,
  nO 20 (.call false 65 [(.t 18), (.t 19)]),
  mO 17 20,
  nO 21 (.ext (.t 17) 0),
  nO 22 (.ext (.t 17) 1),
  mO 9 21,
  mO 10 22] false) (.seq (.region [mO 23 8,
  nO 24 (.bin .eql (.t 23) (.c (.int .i64 0))),
  mO 25 24,
  mG 26 10 25 true,
  gO 27 (.bin .eql (.t 26) (.c (.int .i64 0))) 25 true,
  nO 28 (.pick (.t 25) (.t 27) (.c (.bool false))),
  mO 29 28,
  mG 30 7 29 true,
  mG 31 9 29 true,
  gO 32 (.bin .lss (.t 30) (.t 31)) 29 true,
  nO 33 (.pick (.t 29) (.t 32) (.c (.bool false))),
  mO 6 33] false) .ret))))
def i28 : F := ⟨3, 34, j28, [.t 6]⟩
theorem b28 : i28.body = j28 := rfl
theorem q28 : i28.res = [.t 6] := rfl
theorem c28 : chkF Tryz.prog Tryz.f28 i28 = true := by kernel_rfl
theorem s28 {m E} (hE : HE E) (hm : HM i28 m E) : Sound Tryz.prog 28 m := sound_of i28 Tryz.func28 rfl c28 hE hm
def j29 : C := (.seq (.region [nO 0 (.mov (.c (.bool false)))] false) (.seq (.region [nO 13 (.call false 23 []),
  nO 1 (.alloc [.int .i64 0, .int .i64 0, .int .i64 0, .int .i64 0, .int .i64 0, .int .i64 0, .int .i64 0]),⟨none, .store none 7 (.t 1) (.t 13), none, [], []⟩] false) (.seq (.region [nO 15 (.bsr 3 1 8 [.int .i64 0] [(0, (.c (.int .i64 0))), (1, (.c (.int .i64 1))), (2, (.c (.int .i64 2))), (3, (.c (.int .i64 3))), (4, (.c (.int .i64 4))), (5, (.c (.int .i64 5))), (6, (.c (.int .i64 6))), (7, (.c (.int .i64 7)))]),
  nO 16 (.call false 66 [(.c (.int .i64 1)), (.t 15)]),
  mO 14 16,
  nO 17 (.ext (.t 14) 0),
  nO 18 (.ext (.t 14) 1),
  mO 2 17,
  mO 3 18] false) (.seq (.region [mO 19 2,
  nO 20 (.call false 67 [(.c (.int .i64 1)), (.t 19)]),
  mO 4 20] false) (.seq (.seq (.region [mO 21 3,
  nO 22 (.bin .neq (.t 21) (.c (.int .i64 0))),
  mO 23 22,
  mG 24 4 23 false,
  gO 25 (.len (.t 24)) 23 false,
  gO 26 (.bin .neq (.t 25) (.c (.int .i64 7))) 23 false,
  nO 27 (.pick (.t 23) (.c (.bool true)) (.t 26))] false) (.cond (.t 27) (.seq (.region [nO 0 (.mov (.c (.bool false)))] false) .ret) .skip)) (.seq (.region [mO 28 2,
  nO 29 (.bin .add (.c (.int .i64 32)) (.t 28)),
  mO 30 2,
  nO 31 (.bin .add (.c (.int .i64 32)) (.t 30)),
  mO 32 2,
  nO 33 (.bin .add (.c (.int .i64 32)) (.t 32)),
  nO 34 (.build [.int .i64 0, .int .i64 0, .int .i64 0, .row [], .row []] [(0, 1, (.t 33)), (1, 1, (.c (.int .i64 1))), (2, 1, (.c (.int .i64 1)))]),
  nO 35 (.build [.bool false, .bool false, .int .i64 0, .int .i64 0, .int .i64 0, .int .i64 0, .int .i64 0, .int .i64 0, .row [], .row [], .int .i64 0, .int .i64 0, .int .i64 0, .row [], .row [], .row []] [(3, 1, (.t 29)), (2, 1, (.t 31)), (10, 5, (.t 34))]),
  nO 5 (.alloc [.bool false, .bool false, .int .i64 0, .int .i64 0, .int .i64 0, .int .i64 0, .int .i64 0, .int .i64 0, .row [], .row [], .int .i64 0, .int .i64 0, .int .i64 0, .row [], .row [], .row []]),⟨none, .store none 16 (.t 5) (.t 35), none, [], []⟩] false) (.seq (.region [⟨some 37, .load true 7 (.t 1), none, [6, 38, 39, 40, 41, 42], []⟩,⟨some 38, .mov (.t 2), none, [6, 37, 39, 40, 41, 42], []⟩,⟨some 39, .load true 16 (.t 5), none, [6, 37, 38, 40, 41, 42], []⟩,⟨some 40, .mov (.t 4), none, [6, 37, 38, 39], []⟩,⟨some 41, .iad 1 (.t 40) (.c (.int .i64 0)), none, [6, 37, 38, 39], [3]⟩,⟨some 42, .load false 1 (.t 41), none, [6, 37, 38, 39], [3, 4]⟩,⟨some 43, .call false 27 [(.t 37), (.c (.int .i64 1)), (.t 38), (.t 39), (.t 42), (.c (.int .i64 3)), (.c (.int .i64 7))], none, [6], [0, 1, 2, 3, 4, 5]⟩,⟨some 36, .mov (.t 43), none, [6], [0, 1, 2, 3, 4, 5, 6]⟩,⟨some 44, .ext (.t 36) 0, none, [6, 45, 46], [0, 1, 2, 3, 4, 5, 6, 7]⟩,⟨some 45, .ext (.t 36) 1, none, [6, 44, 46], [0, 1, 2, 3, 4, 5, 6, 7]⟩,⟨some 46, .ext (.t 36) 2, none, [6, 7, 44, 45], [0, 1, 2, 3, 4, 5, 6, 7]⟩,⟨some 6, .alloc [.bool false, .bool false, .int .i64 0, .int .i64 0, .int .i64 0, .int .i64 0, .int .i64 0, .int .i64 0, .row [], .row [], .int .i64 0, .int .i64 0, .int .i64 0, .row [], .row [], .row []], none, [36, 37, 38, 39, 40, 41, 42, 43, 44, 45, 46], []⟩,⟨none, .store (some 6) 16 (.t 6) (.t 44), none, [45, 46], [0, 1, 2, 3, 4, 5, 6, 7, 8, 11]⟩,⟨some 7, .mov (.t 45), none, [46], [0, 1, 2, 3, 4, 5, 6, 7, 8, 9, 11, 12]⟩,⟨some 8, .mov (.t 46), none, [], [0, 1, 2, 3, 4, 5, 6, 7, 8, 9, 10, 11, 12, 13]⟩] true) (.seq (.region [⟨some 48, .load true 7 (.t 1), none, [9, 49, 50, 51, 52, 53, 54, 55, 56, 57, 58, 59, 60, 61, 62, 63, 64, 65, 66], []⟩,⟨some 49, .mov (.t 4), none, [9, 48, 52, 53, 54, 55, 56, 57, 58, 59, 60, 61, 62, 63, 64, 65, 66], []⟩,⟨some 50, .iad 1 (.t 49) (.c (.int .i64 0)), none, [9, 48, 52, 53, 54, 55, 56, 57, 58, 59, 60, 61, 62, 63, 64, 65, 66], [1]⟩,⟨some 51, .load false 1 (.t 50), none, [9, 48, 52, 53, 54, 55, 56, 57, 58, 59, 60, 61, 62, 63, 64, 65, 66], [1, 2]⟩,⟨some 52, .mov (.t 2), none, [9, 48, 49, 50, 51, 55, 56, 57, 58, 59, 60, 61, 62, 63, 64, 65, 66], []⟩,⟨some 53, .bin .add (.t 52) (.c (.int .i64 1)), none, [9, 48, 49, 50, 51, 55, 56, 57, 58, 59, 60, 61, 62, 63, 64, 65, 66], [4]⟩,⟨some 54, .build [.bool false, .bool false, .int .i64 0, .int .i64 0, .int .i64 0, .int .i64 0, .int .i64 0, .int .i64 0, .row [], .row [], .int .i64 0, .int .i64 0, .int .i64 0, .row [], .row [], .row []] [(5, 1, (.t 53))], none, [9, 48, 49, 50, 51, 55, 56, 57, 58, 59, 60, 61, 62, 63, 64, 65, 66], [4, 5]⟩,⟨some 55, .mov (.t 2), none, [9, 48, 49, 50, 51, 52, 53, 54, 56, 57, 58, 59, 60, 61, 62, 63, 64, 65, 66], []⟩,⟨some 56, .mov (.t 2), none, [9, 48, 49, 50, 51, 52, 53, 54, 55, 57, 58, 59, 60, 61, 62, 63, 64, 65], []⟩,⟨some 57, .mov (.t 4), none, [9, 48, 49, 50, 51, 52, 53, 54, 55, 56, 60, 61, 62, 63, 64, 65], []⟩,⟨some 58, .iad 1 (.t 57) (.c (.int .i64 0)), none, [9, 48, 49, 50, 51, 52, 53, 54, 55, 56, 60, 61, 62, 63, 64, 65], [9]⟩,⟨some 59, .load false 1 (.t 58), none, [9, 48, 49, 50, 51, 52, 53, 54, 55, 56, 60, 61, 62, 63, 64, 65], [9, 10]⟩,⟨some 60, .mov (.t 2), none, [9, 48, 49, 50, 51, 52, 53, 54, 55, 56, 57, 58, 59, 62, 63, 64, 65], []⟩,⟨some 61, .bin .add (.c (.int .i64 32)) (.t 60), none, [9, 48, 49, 50, 51, 52, 53, 54, 55, 56, 57, 58, 59, 62, 63, 64, 65], [12]⟩,⟨some 62, .mov (.t 2), none, [9, 48, 49, 50, 51, 52, 53, 54, 55, 56, 57, 58, 59, 60, 61, 64, 65], []⟩,⟨some 63, .bin .add (.c (.int .i64 32)) (.t 62), none, [9, 48, 49, 50, 51, 52, 53, 54, 55, 56, 57, 58, 59, 60, 61, 64, 65], [14]⟩,⟨some 64, .mov (.t 2), none, [9, 48, 49, 50, 51, 52, 53, 54, 55, 56, 57, 58, 59, 60, 61, 62, 63], []⟩,⟨some 65, .bsr 3 1 1 [.int .i64 0] [(0, (.t 64))], none, [9, 48, 49, 50, 51, 52, 53, 54, 55, 56, 57, 58, 59, 60, 61, 62, 63], [16]⟩,⟨some 66, .build [.int .i64 0, .int .i64 0, .int .i64 0, .int .i64 0, .int .i64 0, .int .i64 0, .int .i64 0, .int .i64 0, .int .i64 0, .int .i64 0, .int .i64 0, .int .i64 0, .int .i64 0, .int .i64 0, .row [], .row []] [(0, 1, (.c (.int .i64 3))), (1, 1, (.t 56)), (2, 1, (.c (.int .i64 1))), (3, 1, (.t 59)), (4, 1, (.c (.int .i64 3))), (5, 1, (.c (.int .i64 1))), (6, 1, (.t 61)), (7, 1, (.c (.int .i64 1))), (8, 1, (.t 63)), (14, 1, (.t 65))], none, [9, 48, 49, 50, 51, 52, 53, 54, 55], [8, 9, 10, 11, 12, 13, 14, 15, 16, 17]⟩,⟨some 67, .call false 33 [(.t 48), (.c (.int .i64 1)), (.t 51), (.t 54), (.t 55), (.t 66)], none, [9], [0, 1, 2, 3, 4, 5, 6, 7, 8, 9, 10, 11, 12, 13, 14, 15, 16, 17, 18]⟩,⟨some 47, .mov (.t 67), none, [9], [0, 1, 2, 3, 4, 5, 6, 7, 8, 9, 10, 11, 12, 13, 14, 15, 16, 17, 18, 19]⟩,⟨some 68, .ext (.t 47) 0, none, [9, 69], [0, 1, 2, 3, 4, 5, 6, 7, 8, 9, 10, 11, 12, 13, 14, 15, 16, 17, 18, 19, 20]⟩,⟨some 69, .ext (.t 47) 1, none, [9, 68], [0, 1, 2, 3, 4, 5, 6, 7, 8, 9, 10, 11, 12, 13, 14, 15, 16, 17, 18, 19, 20]⟩,⟨some 9, .alloc [.bool false, .bool false, .int .i64 0, .int .i64 0, .int .i64 0, .int .i64 0, .int .i64 0, .int .i64 0, .row [], .row [], .int .i64 0, .int .i64 0, .int .i64 0, .row [], .row [], .row []], none, [47, 48, 49, 50, 51, 52, 53, 54, 55, 56, 57, 58, 59, 60, 61, 62, 63, 64, 65, 66, 67, 68, 69], []⟩,⟨none, .store (some 9) 16 (.t 9) (.t 68), none, [69], [0, 1, 2, 3, 4, 5, 6, 7, 8, 9, 10, 11, 12, 13, 14, 15, 16, 17, 18, 19, 20, 21, 23]⟩,⟨some 10, .mov (.t 69), none, [], [0, 1, 2, 3, 4, 5, 6, 7, 8, 9, 10, 11, 12, 13, 14, 15, 16, 17, 18, 19, 20, 21, 22, 23, 24]⟩] true) (.seq (.region [⟨some 71, .load true 7 (.t 1), none, [11, 72, 73, 74, 75], []⟩,⟨some 72, .mov (.t 4), none, [11, 71, 75], []⟩,⟨some 73, .iad 1 (.t 72) (.c (.int .i64 0)), none, [11, 71, 75], [1]⟩,⟨some 74, .load false 1 (.t 73), none, [11, 71, 75], [1, 2]⟩,⟨some 75, .load true 16 (.t 9), none, [11, 71, 72, 73, 74], []⟩,⟨some 76, .call false 39 [(.t 71), (.c (.int .i64 1)), (.t 74), (.t 75)], none, [11], [0, 1, 2, 3, 4]⟩,⟨some 70, .mov (.t 76), none, [11], [0, 1, 2, 3, 4, 5]⟩,⟨some 77, .ext (.t 70) 0, none, [11, 78], [0, 1, 2, 3, 4, 5, 6]⟩,⟨some 78, .ext (.t 70) 1, none, [11, 77], [0, 1, 2, 3, 4, 5, 6]⟩,⟨some 11, .alloc [.bool false, .bool false, .int .i64 0, .int .i64 0, .int .i64 0, .int .i64 0, .int .i64 0, .int .i64 0, .row [], .row [], .int .i64 0, .int .i64 0, .int .i64 0, .row [], .row [], .row []], none, [70, 71, 72, 73, 74, 75, 76, 77, 78], []⟩,⟨none, .store (some 11) 16 (.t 11) (.t 77), none, [78], [0, 1, 2, 3, 4, 5, 6, 7, 9]⟩,⟨some 12, .mov (.t 78), none, [], [0, 1, 2, 3, 4, 5, 6, 7, 8, 9, 10]⟩] true) (.seq (.region [mO 79 8,⟨some 80, .bin .eql (.t 79) (.c (.int .i64 0)), none, [], [0]⟩,⟨some 81, .mov (.t 80), none, [], [0, 1]⟩,⟨some 82, .fad 9 (.t 6), some (81, true), [], [0, 1, 2]⟩,⟨some 83, .load false 1 (.t 82), some (81, true), [], [0, 1, 2, 3]⟩,⟨some 84, .len (.t 83), some (81, true), [], [0, 1, 2, 3, 4]⟩,⟨some 85, .bin .eql (.t 84) (.c (.int .i64 1)), some (81, true), [], [0, 1, 2, 3, 4, 5]⟩,⟨some 86, .pick (.t 81) (.t 85) (.c (.bool false)), none, [], [0, 1, 2, 3, 4, 5, 6]⟩,⟨some 87, .mov (.t 86), none, [], [0, 1, 2, 3, 4, 5, 6, 7]⟩,⟨some 88, .mov (.t 7), some (87, true), [], [0, 1, 2, 3, 4, 5, 6, 7, 8]⟩,⟨some 89, .len (.t 88), some (87, true), [], [0, 1, 2, 3, 4, 5, 6, 7, 8, 9]⟩,⟨some 90, .bin .eql (.t 89) (.c (.int .i64 1)), some (87, true), [], [0, 1, 2, 3, 4, 5, 6, 7, 8, 9, 10]⟩,⟨some 91, .pick (.t 87) (.t 90) (.c (.bool false)), none, [], [0, 1, 2, 3, 4, 5, 6, 7, 8, 9, 10, 11]⟩,⟨some 92, .mov (.t 91), none, [], [0, 1, 2, 3, 4, 5, 6, 7, 8, 9, 10, 11, 12]⟩,⟨some 93, .mov (.t 7), some (92, true), [], [0, 1, 2, 3, 4, 5, 6, 7, 8, 9, 10, 11, 12, 13]⟩,⟨some 94, .iad 16 (.t 93) (.c (.int .i64 0)), some (92, true), [], [0, 1, 2, 3, 4, 5, 6, 7, 8, 9, 10, 11, 12, 13, 14]⟩,⟨some 95, .fad 0 (.t 94), some (92, true), [], [0, 1, 2, 3, 4, 5, 6, 7, 8, 9, 10, 11, 12, 13, 14, 15]⟩,⟨some 96, .load false 1 (.t 95), some (92, true), [], [0, 1, 2, 3, 4, 5, 6, 7, 8, 9, 10, 11, 12, 13, 14, 15, 16]⟩,⟨some 97, .bin .eql (.t 96) (.c (.int .i64 3)), some (92, true), [], [0, 1, 2, 3, 4, 5, 6, 7, 8, 9, 10, 11, 12, 13, 14, 15, 16, 17]⟩,⟨some 98, .pick (.t 92) (.t 97) (.c (.bool false)), none, [], [0, 1, 2, 3, 4, 5, 6, 7, 8, 9, 10, 11, 12, 13, 14, 15, 16, 17, 18]⟩,⟨some 99, .mov (.t 98), none, [], [0, 1, 2, 3, 4, 5, 6, 7, 8, 9, 10, 11, 12, 13, 14, 15, 16, 17, 18, 19]⟩,⟨some 100, .mov (.t 7), some (99, true), [104, 105, 106], [0, 1, 2, 3, 4, 5, 6, 7, 8, 9, 10, 11, 12, 13, 14, 15, 16, 17, 18, 19, 20]⟩,⟨some 101, .iad 16 (.t 100) (.c (.int .i64 0)), some (99, true), [104, 105, 106], [0, 1, 2, 3, 4, 5, 6, 7, 8, 9, 10, 11, 12, 13, 14, 15, 16, 17, 18, 19, 20, 21]⟩,⟨some 102, .fad 3 (.t 101), some (99, true), [104, 105, 106], [0, 1, 2, 3, 4, 5, 6, 7, 8, 9, 10, 11, 12, 13, 14, 15, 16, 17, 18, 19, 20, 21, 22]⟩,⟨some 103, .load false 1 (.t 102), some (99, true), [104, 105, 106], [0, 1, 2, 3, 4, 5, 6, 7, 8, 9, 10, 11, 12, 13, 14, 15, 16, 17, 18, 19, 20, 21, 22, 23]⟩,⟨some 104, .mov (.t 4), some (99, true), [100, 101, 102, 103], [0, 1, 2, 3, 4, 5, 6, 7, 8, 9, 10, 11, 12, 13, 14, 15, 16, 17, 18, 19, 20]⟩,⟨some 105, .iad 1 (.t 104) (.c (.int .i64 0)), some (99, true), [100, 101, 102, 103], [0, 1, 2, 3, 4, 5, 6, 7, 8, 9, 10, 11, 12, 13, 14, 15, 16, 17, 18, 19, 20, 25]⟩,⟨some 106, .load false 1 (.t 105), some (99, true), [100, 101, 102, 103], [0, 1, 2, 3, 4, 5, 6, 7, 8, 9, 10, 11, 12, 13, 14, 15, 16, 17, 18, 19, 20, 25, 26]⟩,⟨some 107, .bin .eql (.t 103) (.t 106), some (99, true), [], [0, 1, 2, 3, 4, 5, 6, 7, 8, 9, 10, 11, 12, 13, 14, 15, 16, 17, 18, 19, 20, 21, 22, 23, 24, 25, 26, 27]⟩,⟨some 108, .pick (.t 99) (.t 107) (.c (.bool false)), none, [], [0, 1, 2, 3, 4, 5, 6, 7, 8, 9, 10, 11, 12, 13, 14, 15, 16, 17, 18, 19, 20, 21, 22, 23, 24, 25, 26, 27, 28]⟩,⟨some 109, .mov (.t 108), none, [], [0, 1, 2, 3, 4, 5, 6, 7, 8, 9, 10, 11, 12, 13, 14, 15, 16, 17, 18, 19, 20, 21, 22, 23, 24, 25, 26, 27, 28, 29]⟩,⟨some 110, .mov (.t 10), some (109, true), [], [0, 1, 2, 3, 4, 5, 6, 7, 8, 9, 10, 11, 12, 13, 14, 15, 16, 17, 18, 19, 20, 21, 22, 23, 24, 25, 26, 27, 28, 29, 30]⟩,⟨some 111, .bin .eql (.t 110) (.c (.int .i64 0)), some (109, true), [], [0, 1, 2, 3, 4, 5, 6, 7, 8, 9, 10, 11, 12, 13, 14, 15, 16, 17, 18, 19, 20, 21, 22, 23, 24, 25, 26, 27, 28, 29, 30, 31]⟩,⟨some 112, .pick (.t 109) (.t 111) (.c (.bool false)), none, [], [0, 1, 2, 3, 4, 5, 6, 7, 8, 9, 10, 11, 12, 13, 14, 15, 16, 17, 18, 19, 20, 21, 22, 23, 24, 25, 26, 27, 28, 29, 30, 31, 32]⟩,⟨some 113, .mov (.t 112), none, [], [0, 1, 2, 3, 4, 5, 6, 7, 8, 9, 10, 11, 12, 13, 14, 15, 16, 17, 18, 19, 20, 21, 22, 23, 24, 25, 26, 27, 28, 29, 30, 31, 32, 33]⟩,⟨some 114, .fad 4 (.t 9), some (113, true), [116, 117], [0, 1, 2, 3, 4, 5, 6, 7, 8, 9, 10, 11, 12, 13, 14, 15, 16, 17, 18, 19, 20, 21, 22, 23, 24, 25, 26, 27, 28, 29, 30, 31, 32, 33, 34]⟩,⟨some 115, .load false 1 (.t 114), some (113, true), [116, 117], [0, 1, 2, 3, 4, 5, 6, 7, 8, 9, 10, 11, 12, 13, 14, 15, 16, 17, 18, 19, 20, 21, 22, 23, 24, 25, 26, 27, 28, 29, 30, 31, 32, 33, 34, 35]⟩,⟨some 116, .mov (.t 2), some (113, true), [114, 115], [0, 1, 2, 3, 4, 5, 6, 7, 8, 9, 10, 11, 12, 13, 14, 15, 16, 17, 18, 19, 20, 21, 22, 23, 24, 25, 26, 27, 28, 29, 30, 31, 32, 33, 34]⟩,⟨some 117, .bin .add (.t 116) (.c (.int .i64 1)), some (113, true), [114, 115], [0, 1, 2, 3, 4, 5, 6, 7, 8, 9, 10, 11, 12, 13, 14, 15, 16, 17, 18, 19, 20, 21, 22, 23, 24, 25, 26, 27, 28, 29, 30, 31, 32, 33, 34, 37]⟩,⟨some 118, .bin .eql (.t 115) (.t 117), some (113, true), [], [0, 1, 2, 3, 4, 5, 6, 7, 8, 9, 10, 11, 12, 13, 14, 15, 16, 17, 18, 19, 20, 21, 22, 23, 24, 25, 26, 27, 28, 29, 30, 31, 32, 33, 34, 35, 36, 37, 38]⟩,⟨some 119, .pick (.t 113) (.t 118) (.c (.bool false)), none, [], [0, 1, 2, 3, 4, 5, 6, 7, 8, 9, 10, 11, 12, 13, 14, 15, 16, 17, 18, 19, 20, 21, 22, 23, 24, 25, 26, 27, 28, 29, 30, 31, 32, 33, 34, 35, 36, 37, 38, 39]⟩,⟨some 120, .mov (.t 119), none, [], [0, 1, 2, 3, 4, 5, 6, 7, 8, 9, 10, 11, 12, 13, 14, 15, 16, 17, 18, 19, 20, 21, 22, 23, 24, 25, 26, 27, 28, 29, 30, 31, 32, 33, 34, 35, 36, 37, 38, 39, 40]⟩,⟨some 121, .fad 8 (.t 9), some (120, true), [123, 124], [0, 1, 2, 3, 4, 5, 6, 7, 8, 9, 10, 11, 12, 13, 14, 15, 16, 17, 18, 19, 20, 21, 22, 23, 24, 25, 26, 27, 28, 29, 30, 31, 32, 33, 34, 35, 36, 37, 38, 39, 40, 41]⟩,⟨some 122, .load false 1 (.t 121), some (120, true), [123, 124], [0, 1, 2, 3, 4, 5, 6, 7, 8, 9, 10, 11, 12, 13, 14, 15, 16, 17, 18, 19, 20, 21, 22, 23, 24, 25, 26, 27, 28, 29, 30, 31, 32, 33, 34, 35, 36, 37, 38, 39, 40, 41, 42]⟩,⟨some 123, .mov (.t 2), some (120, true), [121, 122], [0, 1, 2, 3, 4, 5, 6, 7, 8, 9, 10, 11, 12, 13, 14, 15, 16, 17, 18, 19, 20, 21, 22, 23, 24, 25, 26, 27, 28, 29, 30, 31, 32, 33, 34, 35, 36, 37, 38, 39, 40, 41]⟩,⟨some 124, .bsr 3 1 1 [.int .i64 0] [(0, (.t 123))], some (120, true), [121, 122], [0, 1, 2, 3, 4, 5, 6, 7, 8, 9, 10, 11, 12, 13, 14, 15, 16, 17, 18, 19, 20, 21, 22, 23, 24, 25, 26, 27, 28, 29, 30, 31, 32, 33, 34, 35, 36, 37, 38, 39, 40, 41, 44]⟩,⟨some 125, .call false 34 [(.t 122), (.t 124)], some (120, true), [], [0, 1, 2, 3, 4, 5, 6, 7, 8, 9, 10, 11, 12, 13, 14, 15, 16, 17, 18, 19, 20, 21, 22, 23, 24, 25, 26, 27, 28, 29, 30, 31, 32, 33, 34, 35, 36, 37, 38, 39, 40, 41, 42, 43, 44, 45]⟩,⟨some 126, .pick (.t 120) (.t 125) (.c (.bool false)), none, [], [0, 1, 2, 3, 4, 5, 6, 7, 8, 9, 10, 11, 12, 13, 14, 15, 16, 17, 18, 19, 20, 21, 22, 23, 24, 25, 26, 27, 28, 29, 30, 31, 32, 33, 34, 35, 36, 37, 38, 39, 40, 41, 42, 43, 44, 45, 46]⟩,⟨some 127, .mov (.t 126), none, [], [0, 1, 2, 3, 4, 5, 6, 7, 8, 9, 10, 11, 12, 13, 14, 15, 16, 17, 18, 19, 20, 21, 22, 23, 24, 25, 26, 27, 28, 29, 30, 31, 32, 33, 34, 35, 36, 37, 38, 39, 40, 41, 42, 43, 44, 45, 46, 47]⟩,⟨some 128, .fad 10 (.t 9), some (127, true), [131, 132], [0, 1, 2, 3, 4, 5, 6, 7, 8, 9, 10, 11, 12, 13, 14, 15, 16, 17, 18, 19, 20, 21, 22, 23, 24, 25, 26, 27, 28, 29, 30, 31, 32, 33, 34, 35, 36, 37, 38, 39, 40, 41, 42, 43, 44, 45, 46, 47, 48]⟩,⟨some 129, .fad 0 (.t 128), some (127, true), [131, 132], [0, 1, 2, 3, 4, 5, 6, 7, 8, 9, 10, 11, 12, 13, 14, 15, 16, 17, 18, 19, 20, 21, 22, 23, 24, 25, 26, 27, 28, 29, 30, 31, 32, 33, 34, 35, 36, 37, 38, 39, 40, 41, 42, 43, 44, 45, 46, 47, 48, 49]⟩,⟨some 130, .load false 1 (.t 129), some (127, true), [131, 132], [0, 1, 2, 3, 4, 5, 6, 7, 8, 9, 10, 11, 12, 13, 14, 15, 16, 17, 18, 19, 20, 21, 22, 23, 24, 25, 26, 27, 28, 29, 30, 31, 32, 33, 34, 35, 36, 37, 38, 39, 40, 41, 42, 43, 44, 45, 46, 47, 48, 49, 50]⟩,⟨some 131, .mov (.t 2), some (127, true), [128, 129, 130], [0, 1, 2, 3, 4, 5, 6, 7, 8, 9, 10, 11, 12, 13, 14, 15, 16, 17, 18, 19, 20, 21, 22, 23, 24, 25, 26, 27, 28, 29, 30, 31, 32, 33, 34, 35, 36, 37, 38, 39, 40, 41, 42, 43, 44, 45, 46, 47, 48]⟩,⟨some 132, .bin .add (.c (.int .i64 32)) (.t 131), some (127, true), [128, 129, 130], [0, 1, 2, 3, 4, 5, 6, 7, 8, 9, 10, 11, 12, 13, 14, 15, 16, 17, 18, 19, 20, 21, 22, 23, 24, 25, 26, 27, 28, 29, 30, 31, 32, 33, 34, 35, 36, 37, 38, 39, 40, 41, 42, 43, 44, 45, 46, 47, 48, 52]⟩,⟨some 133, .bin .eql (.t 130) (.t 132), some (127, true), [], [0, 1, 2, 3, 4, 5, 6, 7, 8, 9, 10, 11, 12, 13, 14, 15, 16, 17, 18, 19, 20, 21, 22, 23, 24, 25, 26, 27, 28, 29, 30, 31, 32, 33, 34, 35, 36, 37, 38, 39, 40, 41, 42, 43, 44, 45, 46, 47, 48, 49, 50, 51, 52, 53]⟩,⟨some 134, .pick (.t 127) (.t 133) (.c (.bool false)), none, [], [0, 1, 2, 3, 4, 5, 6, 7, 8, 9, 10, 11, 12, 13, 14, 15, 16, 17, 18, 19, 20, 21, 22, 23, 24, 25, 26, 27, 28, 29, 30, 31, 32, 33, 34, 35, 36, 37, 38, 39, 40, 41, 42, 43, 44, 45, 46, 47, 48, 49, 50, 51, 52, 53, 54]⟩,⟨some 135, .mov (.t 134), none, [], [0, 1, 2, 3, 4, 5, 6, 7, 8, 9, 10, 11, 12, 13, 14, 15, 16, 17, 18, 19, 20, 21, 22, 23, 24, 25, 26, 27, 28, 29, 30, 31, 32, 33, 34, 35, 36, 37, 38, 39, 40, 41, 42, 43, 44, 45, 46, 47, 48, 49, 50, 51, 52, 53, 54, 55]⟩,⟨some 136, .mov (.t 12), some (135, true), [], [0, 1, 2, 3, 4, 5, 6, 7, 8, 9, 10, 11, 12, 13, 14, 15, 16, 17, 18, 19, 20, 21, 22, 23, 24, 25, 26, 27, 28, 29, 30, 31, 32, 33, 34, 35, 36, 37, 38, 39, 40, 41, 42, 43, 44, 45, 46, 47, 48, 49, 50, 51, 52, 53, 54, 55, 56]⟩,⟨some 137, .bin .eql (.t 136) (.c (.int .i64 0)), some (135, true), [], [0, 1, 2, 3, 4, 5, 6, 7, 8, 9, 10, 11, 12, 13, 14, 15, 16, 17, 18, 19, 20, 21, 22, 23, 24, 25, 26, 27, 28, 29, 30, 31, 32, 33, 34, 35, 36, 37, 38, 39, 40, 41, 42, 43, 44, 45, 46, 47, 48, 49, 50, 51, 52, 53, 54, 55, 56, 57]⟩,⟨some 138, .pick (.t 135) (.t 137) (.c (.bool false)), none, [], [0, 1, 2, 3, 4, 5, 6, 7, 8, 9, 10, 11, 12, 13, 14, 15, 16, 17, 18, 19, 20, 21, 22, 23, 24, 25, 26, 27, 28, 29, 30, 31, 32, 33, 34, 35, 36, 37, 38, 39, 40, 41, 42, 43, 44, 45, 46, 47, 48, 49, 50, 51, 52, 53, 54, 55, 56, 57, 58]⟩,⟨some 139, .mov (.t 138), none, [], [0, 1, 2, 3, 4, 5, 6, 7, 8, 9, 10, 11, 12, 13, 14, 15, 16, 17, 18, 19, 20, 21, 22, 23, 24, 25, 26, 27, 28, 29, 30, 31, 32, 33, 34, 35, 36, 37, 38, 39, 40, 41, 42, 43, 44, 45, 46, 47, 48, 49, 50, 51, 52, 53, 54, 55, 56, 57, 58, 59]⟩,⟨some 140, .fad 4 (.t 11), some (139, true), [], [0, 1, 2, 3, 4, 5, 6, 7, 8, 9, 10, 11, 12, 13, 14, 15, 16, 17, 18, 19, 20, 21, 22, 23, 24, 25, 26, 27, 28, 29, 30, 31, 32, 33, 34, 35, 36, 37, 38, 39, 40, 41, 42, 43, 44, 45, 46, 47, 48, 49, 50, 51, 52, 53, 54, 55, 56, 57, 58, 59, 60]⟩,⟨some 141, .load false 1 (.t 140), some (139, true), [], [0, 1, 2, 3, 4, 5, 6, 7, 8, 9, 10, 11, 12, 13, 14, 15, 16, 17, 18, 19, 20, 21, 22, 23, 24, 25, 26, 27, 28, 29, 30, 31, 32, 33, 34, 35, 36, 37, 38, 39, 40, 41, 42, 43, 44, 45, 46, 47, 48, 49, 50, 51, 52, 53, 54, 55, 56, 57, 58, 59, 60, 61]⟩,⟨some 142, .bin .eql (.t 141) (.c (.int .i64 0)), some (139, true), [], [0, 1, 2, 3, 4, 5, 6, 7, 8, 9, 10, 11, 12, 13, 14, 15, 16, 17, 18, 19, 20, 21, 22, 23, 24, 25, 26, 27, 28, 29, 30, 31, 32, 33, 34, 35, 36, 37, 38, 39, 40, 41, 42, 43, 44, 45, 46, 47, 48, 49, 50, 51, 52, 53, 54, 55, 56, 57, 58, 59, 60, 61, 62]⟩,⟨some 143, .pick (.t 139) (.t 142) (.c (.bool false)), none, [], [0, 1, 2, 3, 4, 5, 6, 7, 8, 9, 10, 11, 12, 13, 14, 15, 16, 17, 18, 19, 20, 21, 22, 23, 24, 25, 26, 27, 28, 29, 30, 31, 32, 33, 34, 35, 36, 37, 38, 39, 40, 41, 42, 43, 44, 45, 46, 47, 48, 49, 50, 51, 52, 53, 54, 55, 56, 57, 58, 59, 60, 61, 62, 63]⟩,⟨some 144, .mov (.t 143), none, [], [0, 1, 2, 3, 4, 5, 6, 7, 8, 9, 10, 11, 12, 13, 14, 15, 16, 17, 18, 19, 20, 21, 22, 23, 24, 25, 26, 27, 28, 29, 30, 31, 32, 33, 34, 35, 36, 37, 38, 39, 40, 41, 42, 43, 44, 45, 46, 47, 48, 49, 50, 51, 52, 53, 54, 55, 56, 57, 58, 59, 60, 61, 62, 63, 64]⟩,⟨some 145, .load true 7 (.t 1), some (144, true), [146, 147], [0, 1, 2, 3, 4, 5, 6, 7, 8, 9, 10, 11, 12, 13, 14, 15, 16, 17, 18, 19, 20, 21, 22, 23, 24, 25, 26, 27, 28, 29, 30, 31, 32, 33, 34, 35, 36, 37, 38, 39, 40, 41, 42, 43, 44, 45, 46, 47, 48, 49, 50, 51, 52, 53, 54, 55, 56, 57, 58, 59, 60, 61, 62, 63, 64, 65]⟩,⟨some 146, .mov (.t 2), some (144, true), [145, 147], [0, 1, 2, 3, 4, 5, 6, 7, 8, 9, 10, 11, 12, 13, 14, 15, 16, 17, 18, 19, 20, 21, 22, 23, 24, 25, 26, 27, 28, 29, 30, 31, 32, 33, 34, 35, 36, 37, 38, 39, 40, 41, 42, 43, 44, 45, 46, 47, 48, 49, 50, 51, 52, 53, 54, 55, 56, 57, 58, 59, 60, 61, 62, 63, 64, 65]⟩,⟨some 147, .load true 16 (.t 5), some (144, true), [145, 146], [0, 1, 2, 3, 4, 5, 6, 7, 8, 9, 10, 11, 12, 13, 14, 15, 16, 17, 18, 19, 20, 21, 22, 23, 24, 25, 26, 27, 28, 29, 30, 31, 32, 33, 34, 35, 36, 37, 38, 39, 40, 41, 42, 43, 44, 45, 46, 47, 48, 49, 50, 51, 52, 53, 54, 55, 56, 57, 58, 59, 60, 61, 62, 63, 64, 65]⟩,⟨some 148, .call false 18 [(.t 145), (.c (.int .i64 1)), (.t 146), (.t 147)], some (144, true), [], [0, 1, 2, 3, 4, 5, 6, 7, 8, 9, 10, 11, 12, 13, 14, 15, 16, 17, 18, 19, 20, 21, 22, 23, 24, 25, 26, 27, 28, 29, 30, 31, 32, 33, 34, 35, 36, 37, 38, 39, 40, 41, 42, 43, 44, 45, 46, 47, 48, 49, 50, 51, 52, 53, 54, 55, 56, 57, 58, 59, 60, 61, 62, 63, 64, 65, 66, 67, 68]⟩,⟨some 149, .bin .eql (.t 148) (.c (.int .i64 0)), some (144, true), [], [0, 1, 2, 3, 4, 5, 6, 7, 8, 9, 10, 11, 12, 13, 14, 15, 16, 17, 18, 19, 20, 21, 22, 23, 24, 25, 26, 27, 28, 29, 30, 31, 32, 33, 34, 35, 36, 37, 38, 39, 40, 41, 42, 43, 44, 45, 46, 47, 48, 49, 50, 51, 52, 53, 54, 55, 56, 57, 58, 59, 60, 61, 62, 63, 64, 65, 66, 67, 68, 69]⟩,⟨some 150, .pick (.t 144) (.t 149) (.c (.bool false)), none, [], [0, 1, 2, 3, 4, 5, 6, 7, 8, 9, 10, 11, 12, 13, 14, 15, 16, 17, 18, 19, 20, 21, 22, 23, 24, 25, 26, 27, 28, 29, 30, 31, 32, 33, 34, 35, 36, 37, 38, 39, 40, 41, 42, 43, 44, 45, 46, 47, 48, 49, 50, 51, 52, 53, 54, 55, 56, 57, 58, 59, 60, 61, 62, 63, 64, 65, 66, 67, 68, 69, 70]⟩,⟨some 151, .mov (.t 150), none, [], [0, 1, 2, 3, 4, 5, 6, 7, 8, 9, 10, 11, 12, 13, 14, 15, 16, 17, 18, 19, 20, 21, 22, 23, 24, 25, 26, 27, 28, 29, 30, 31, 32, 33, 34, 35, 36, 37, 38, 39, 40, 41, 42, 43, 44, 45, 46, 47, 48, 49, 50, 51, 52, 53, 54, 55, 56, 57, 58, 59, 60, 61, 62, 63, 64, 65, 66, 67, 68, 69, 70, 71]⟩,⟨some 152, .load true 7 (.t 1), some (151, true), [153, 154], [0, 1, 2, 3, 4, 5, 6, 7, 8, 9, 10, 11, 12, 13, 14, 15, 16, 17, 18, 19, 20, 21, 22, 23, 24, 25, 26, 27, 28, 29, 30, 31, 32, 33, 34, 35, 36, 37, 38, 39, 40, 41, 42, 43, 44, 45, 46, 47, 48, 49, 50, 51, 52, 53, 54, 55, 56, 57, 58, 59, 60, 61, 62, 63, 64, 65, 66, 67, 68, 69, 70, 71, 72]⟩,⟨some 153, .mov (.t 2), some (151, true), [152, 154], [0, 1, 2, 3, 4, 5, 6, 7, 8, 9, 10, 11, 12, 13, 14, 15, 16, 17, 18, 19, 20, 21, 22, 23, 24, 25, 26, 27, 28, 29, 30, 31, 32, 33, 34, 35, 36, 37, 38, 39, 40, 41, 42, 43, 44, 45, 46, 47, 48, 49, 50, 51, 52, 53, 54, 55, 56, 57, 58, 59, 60, 61, 62, 63, 64, 65, 66, 67, 68, 69, 70, 71, 72]⟩,⟨some 154, .build [.bool false, .bool false, .int .i64 0, .int .i64 0, .int .i64 0, .int .i64 0, .int .i64 0, .int .i64 0, .row [], .row [], .int .i64 0, .int .i64 0, .int .i64 0, .row [], .row [], .row []] [(2, 1, (.c (.int .i64 (-1))))], some (151, true), [152, 153], [0, 1, 2, 3, 4, 5, 6, 7, 8, 9, 10, 11, 12, 13, 14, 15, 16, 17, 18, 19, 20, 21, 22, 23, 24, 25, 26, 27, 28, 29, 30, 31, 32, 33, 34, 35, 36, 37, 38, 39, 40, 41, 42, 43, 44, 45, 46, 47, 48, 49, 50, 51, 52, 53, 54, 55, 56, 57, 58, 59, 60, 61, 62, 63, 64, 65, 66, 67, 68, 69, 70, 71, 72]⟩,⟨some 155, .call false 18 [(.t 152), (.c (.int .i64 1)), (.t 153), (.t 154)], some (151, true), [], [0, 1, 2, 3, 4, 5, 6, 7, 8, 9, 10, 11, 12, 13, 14, 15, 16, 17, 18, 19, 20, 21, 22, 23, 24, 25, 26, 27, 28, 29, 30, 31, 32, 33, 34, 35, 36, 37, 38, 39, 40, 41, 42, 43, 44, 45, 46, 47, 48, 49, 50, 51, 52, 53, 54, 55, 56, 57, 58, 59, 60, 61, 62, 63, 64, 65, 66, 67, 68, 69, 70, 71, 72, 73, 74, 75]⟩,⟨some 156, .bin .eql (.t 155) (.c (.int .i64 1)), some (151, true), [], [0, 1, 2, 3, 4, 5, 6, 7, 8, 9, 10, 11, 12, 13, 14, 15, 16, 17, 18, 19, 20, 21, 22, 23, 24, 25, 26, 27, 28, 29, 30, 31, 32, 33, 34, 35, 36, 37, 38, 39, 40, 41, 42, 43, 44, 45, 46, 47, 48, 49, 50, 51, 52, 53, 54, 55, 56, 57, 58, 59, 60, 61, 62, 63, 64, 65, 66, 67, 68, 69, 70, 71, 72, 73, 74, 75, 76]⟩,⟨some 157, .pick (.t 151) (.t 156) (.c (.bool false)), none, [], [0, 1, 2, 3, 4, 5, 6, 7, 8, 9, 10, 11, 12, 13, 14, 15, 16, 17, 18, 19, 20, 21, 22, 23, 24, 25, 26, 27, 28, 29, 30, 31, 32, 33, 34, 35, 36, 37, 38, 39, 40, 41, 42, 43, 44, 45, 46, 47, 48, 49, 50, 51, 52, 53, 54, 55, 56, 57, 58, 59, 60, 61, 62, 63, 64, 65, 66, 67, 68, 69, 70, 71, 72, 73, 74, 75, 76, 77]⟩,⟨some 0, .mov (.t 157), none, [], [0, 1, 2, 3, 4, 5, 6, 7, 8, 9, 10, 11, 12, 13, 14, 15, 16, 17, 18, 19, 20, 21, 22, 23, 24, 25, 26, 27, 28, 29, 30, 31, 32, 33, 34, 35, 36, 37, 38, 39, 40, 41, 42, 43, 44, 45, 46, 47, 48, 49, 50, 51, 52, 53, 54, 55, 56, 57, 58, 59, 60, 61, 62, 63, 64, 65, 66, 67, 68, 69, 70, 71, 72, 73, 74, 75, 76, 77, 78]⟩] true) .ret))))))))))
def i29 : F := ⟨0, 158, j29, [.t 0]⟩
theorem c29 : chkF Tryz.prog Tryz.f29 i29 = true := by kernel_rfl
theorem s29 {m E} (hE : HE E) (hm : HM i29 m E) : Sound Tryz.prog 29 m := sound_of i29 Tryz.func29 rfl c29 hE hm
def j30 : C := (.seq (.region [nO 3 (.box (.t 1)),
  nO 4 (.mov (.c (.bool false)))] false) (.seq (.frz [3] (.region [mO 5 0,
  nO 6 (.mkf 69 [(.t 3)]),
  nO 7 (.call false 68 [(.t 5), (.t 6)]),
  mO 4 7] false)) .ret))
def i30 : F := ⟨2, 8, j30, [.t 4]⟩
theorem b30 : i30.body = j30 := rfl
theorem q30 : i30.res = [.t 4] := rfl
theorem c30 : chkF Tryz.prog Tryz.f30 i30 = true := by kernel_rfl
theorem s30 {m E} (hE : HE E) (hm : HM i30 m E) : Sound Tryz.prog 30 m := sound_of i30 Tryz.func30 rfl c30 hE hm
def j31 : C := (.seq (.region [nO 8 (.mov (.c (.int .i64 0)))] false) (.seq (.region [mO 12 0,
  mO 13 1,
  nO 14 (.call false 65 [(.t 12), (.t 13)]),
  mO 11 14,
  nO 15 (.ext (.t 11) 0),
  nO 16 (.ext (.t 11) 1),
  mO 9 15,
  mO 10 16] false) (.seq (.block 0 (.seq (.region [mO 18 10,
  nO 19 (.bin .neq (.t 18) (.c (.int .i64 0))),
  mO 20 19,
  mG 21 3 20 false,
  gO 22 (.bin .lss (.t 21) (.c (.int .i64 1))) 20 false,
  nO 23 (.pick (.t 20) (.c (.bool true)) (.t 22)),
  mO 24 23,
  mG 25 3 24 false,
  gO 26 (.bin .gtr (.t 25) (.c (.int .i64 8))) 24 false,
  nO 27 (.pick (.t 24) (.c (.bool true)) (.t 26)),
  mO 28 27,
  mG 29 2 28 false,
  gO 30 (.call false 70 [(.t 29)]) 28 false,
  gO 31 (.un .not (.t 30)) 28 false,
  nO 32 (.pick (.t 28) (.c (.bool true)) (.t 31)),
  mO 17 32] false) (.cond (.t 17) (.seq (.region [nO 8 (.mov (.c (.int .i64 1)))] false) .ret) (.seq (.region [mO 34 2,
  nO 35 (.len (.t 34)),
  mO 36 3,
  nO 37 (.bin .gtr (.t 35) (.t 36)),
  mO 33 37] false) (.cond (.t 33) (.seq (.region [nO 8 (.mov (.c (.int .i64 12)))] false) .ret) (.seq (.region [mO 39 0,
  mO 40 1,
  mO 41 2,
  nO 42 (.call false 71 [(.t 39), (.t 40), (.t 41)]),
  nO 43 (.un .not (.t 42)),
  mO 38 43] false) (.cond (.t 38) (.seq (.region [nO 8 (.mov (.c (.int .i64 1)))] false) .ret) .skip))))))) (.seq (.region [nO 8 (.mov (.c (.int .i64 0)))] false) .ret))))
def i31 : F := ⟨4, 44, j31, [.t 8]⟩
theorem b31 : i31.body = j31 := rfl
theorem q31 : i31.res = [.t 8] := rfl
theorem c31 : chkF Tryz.prog Tryz.f31 i31 = true := by kernel_rfl
theorem s31 {m E} (hE : HE E) (hm : HM i31 m E) : Sound Tryz.prog 31 m := sound_of i31 Tryz.func31 rfl c31 hE hm
def j33 : C := (.seq (.region [nO 6 (.box (.t 0)),
  nO 9 (.box (.t 3)),
  nO 11 (.box (.t 5)),
  nO 12 (.alloc [.bool false, .bool false, .int .i64 0, .int .i64 0, .int .i64 0, .int .i64 0, .int .i64 0, .int .i64 0, .row [], .row [], .int .i64 0, .int .i64 0, .int .i64 0, .row [], .row [], .row []]),
  nO 13 (.mov (.c (.int .i64 0)))] false) (.seq (.region [nO 17 (.load true 7 (.t 6)),
  mO 18 1,
  mO 19 2,
  nO 20 (.load true 16 (.t 9)),
  nO 21 (.call false 18 [(.t 17), (.t 18), (.t 19), (.t 20)]),
  mO 14 21] false) (.seq (.block 0 (.seq (.region [mO 23 14,
  nO 24 (.bin .neq (.t 23) (.c (.int .i64 0))),
  mO 22 24] false) (.cond (.t 22) (.seq (.region [nO 25 (.build [.bool false, .bool false, .int .i64 0, .int .i64 0, .int .i64 0, .int .i64 0, .int .i64 0, .int .i64 0, .row [], .row [], .int .i64 0, .int .i64 0, .int .i64 0, .row [], .row [], .row []] []),
  mO 26 14,⟨none, .store none 16 (.t 12) (.t 25), none, [], []⟩,
  mO 13 26] false) .ret) (.seq (.region [nO 28 (.load true 16 (.t 11)),
  nO 29 (.call false 79 [(.t 28)]),
  nO 30 (.bin .neq (.t 29) (.c (.int .i64 0))),
  mO 31 30,
  gO 32 (.fad 0 (.t 11)) 31 false,
  gO 33 (.load false 1 (.t 32)) 31 false,
  gO 34 (.bin .neq (.t 33) (.c (.int .i64 3))) 31 false,
  nO 35 (.pick (.t 31) (.c (.bool true)) (.t 34)),
  mO 36 35,
  gO 37 (.fad 5 (.t 11)) 36 false,
  gO 38 (.load false 1 (.t 37)) 36 false,
  mG 39 1 36 false,
  gO 40 (.bin .neq (.t 38) (.t 39)) 36 false,
  nO 41 (.pick (.t 36) (.c (.bool true)) (.t 40)),
  mO 42 41,
  gO 43 (.fad 1 (.t 11)) 42 false,
  gO 44 (.load false 1 (.t 43)) 42 false,
  mG 45 4 42 false,
  gO 46 (.bin .neq (.t 44) (.t 45)) 42 false,
  nO 47 (.pick (.t 42) (.c (.bool true)) (.t 46)),
  mO 27 47] false) (.cond (.t 27) (.seq (.region [nO 48 (.build [.bool false, .bool false, .int .i64 0, .int .i64 0, .int .i64 0, .int .i64 0, .int .i64 0, .int .i64 0, .row [], .row [], .int .i64 0, .int .i64 0, .int .i64 0, .row [], .row [], .row []] []),⟨none, .store none 16 (.t 12) (.t 48), none, [], []⟩,
  nO 13 (.mov (.c (.int .i64 1)))] false) .ret) .skip))))) (.seq (.region [nO 49 (.load true 16 (.t 9)),
  nO 50 (.call false 50 [(.t 49)]),
  nO 15 (.alloc [.bool false, .bool false, .int .i64 0, .int .i64 0, .int .i64 0, .int .i64 0, .int .i64 0, .int .i64 0, .row [], .row [], .int .i64 0, .int .i64 0, .int .i64 0, .row [], .row [], .row []]),⟨none, .store none 16 (.t 15) (.t 50), none, [], []⟩] false) (.seq (.seq (.region [nO 51 (.fad 5 (.t 9)),
  nO 52 (.load false 1 (.t 51)),
  mO 53 4,
  nO 54 (.bin .add (.t 53) (.c (.int .i64 1))),
  nO 55 (.bin .neq (.t 52) (.t 54)),
  mO 56 55,
  gO 57 (.fad 3 (.t 9)) 56 false,
  gO 58 (.load false 1 (.t 57)) 56 false,
  gO 59 (.bin .neq (.t 58) (.c (.int .i64 0))) 56 false,
  nO 60 (.pick (.t 56) (.c (.bool true)) (.t 59)),
  mO 61 60,
  mG 62 1 61 false,
  mG 63 2 61 false,
  gO 64 (.fad 14 (.t 11)) 61 false,
  gO 65 (.load false 1 (.t 64)) 61 false,
  gO 66 (.fad 3 (.t 6)) 61 false,
  gO 67 (.load false 1 (.t 66)) 61 false,
  gO 68 (.call false 31 [(.t 62), (.t 63), (.t 65), (.t 67)]) 61 false,
  gO 69 (.bin .neq (.t 68) (.c (.int .i64 0))) 61 false,
  nO 70 (.pick (.t 61) (.c (.bool true)) (.t 69))] false) (.cond (.t 70) (.seq (.region [nO 71 (.load true 16 (.t 15)),⟨none, .store none 16 (.t 12) (.t 71), none, [], []⟩,
  nO 13 (.mov (.c (.int .i64 0)))] false) .ret) .skip)) (.seq (.region [mO 72 4,
  nO 73 (.bin .add (.t 72) (.c (.int .i64 1))),
  nO 74 (.fad 14 (.t 11)),
  nO 75 (.load false 1 (.t 74)),
  nO 76 (.call false 80 [(.t 75)]),
  nO 77 (.fad 4 (.t 15)),⟨none, .store none 1 (.t 77) (.t 73), none, [], []⟩,
  nO 78 (.fad 8 (.t 15)),⟨none, .store none 1 (.t 78) (.t 76), none, [], []⟩,
  nO 79 (.fad 7 (.t 15)),⟨none, .store none 1 (.t 79) (.c (.int .i64 0)), none, [], []⟩] false) (.seq (.region [nO 80 (.fad 2 (.t 15)),
  nO 81 (.load false 1 (.t 80)),
  nO 82 (.fad 8 (.t 11)),
  nO 83 (.load false 1 (.t 82)),
  nO 84 (.fad 6 (.t 11)),
  nO 85 (.load false 1 (.t 84)),
  nO 86 (.mx3 (.t 81) (.t 83) (.t 85)),
  nO 87 (.fad 2 (.t 15)),⟨none, .store none 1 (.t 87) (.t 86), none, [], []⟩] false) (.seq (.region [nO 89 (.load true 7 (.t 6)),
  nO 90 (.fad 10 (.t 9)),
  nO 91 (.load true 5 (.t 90)),
  nO 92 (.fad 6 (.t 11)),
  nO 93 (.load false 1 (.t 92)),
  nO 94 (.fad 7 (.t 11)),
  nO 95 (.load false 1 (.t 94)),
  nO 96 (.call false 81 [(.t 89), (.t 91), (.t 93), (.t 95)]),
  mO 88 96,
  nO 97 (.ext (.t 88) 0),
  nO 98 (.ext (.t 88) 1),
  nO 16 (.alloc [.int .i64 0, .int .i64 0, .int .i64 0, .row [], .row []]),⟨none, .store none 5 (.t 16) (.t 97), none, [], []⟩,
  mO 14 98] false) (.seq (.seq (.region [mO 99 14,
  nO 100 (.bin .eql (.t 99) (.c (.int .i64 0)))] false) (.cond (.t 100) (.region [nO 101 (.load true 5 (.t 16)),
  nO 102 (.fad 10 (.t 15)),⟨none, .store none 5 (.t 102) (.t 101), none, [], []⟩] false) .skip)) (.seq (.region [nO 103 (.load true 16 (.t 15)),⟨none, .store none 16 (.t 12) (.t 103), none, [], []⟩,
  nO 13 (.mov (.c (.int .i64 0)))] false) .ret))))))))))
def i33 : F := ⟨6, 104, j33, [.c 12 16 true, .t 13]⟩
theorem c33 : chkF Tryz.prog Tryz.f33 i33 = true := by kernel_rfl
theorem s33 {m E} (hE : HE E) (hm : HM i33 m E) : Sound Tryz.prog 33 m := sound_of i33 Tryz.func33 rfl c33 hE hm
def j34 : C := (.seq (.region [nO 4 (.mov (.c (.bool false)))] false) (.seq (.seq (.region [mO 6 0,
  nO 7 (.len (.t 6)),
  mO 8 1,
  nO 9 (.len (.t 8)),
  nO 10 (.bin .neq (.t 7) (.t 9))] false) (.cond (.t 10) (.seq (.region [nO 4 (.mov (.c (.bool false)))] false) .ret) .skip)) (.seq (.seq (.region [nO 5 (.mov (.c (.int .i64 0)))] false) (.block 0 (.loop (.keep [0, 1, 5] (.seq (.seq (.region [mO 11 5,
  mO 12 0,
  nO 13 (.len (.t 12)),
  nO 14 (.bin .lss (.t 11) (.t 13))] false) (.cond (.t 14) .skip (.exit 0))) (.seq (.block 1 (.seq (.region [⟨some 17, .mov (.t 0), none, [18, 21, 22, 23, 24], []⟩,⟨some 18, .mov (.t 5), none, [17, 21, 22, 23, 24], []⟩,⟨some 19, .iad 1 (.t 17) (.t 18), none, [21, 22, 23, 24], [0, 1]⟩,⟨some 20, .load false 1 (.t 19), none, [21, 22, 23, 24], [0, 1, 2]⟩,⟨some 21, .mov (.t 1), none, [17, 18, 19, 20, 22], []⟩,⟨some 22, .mov (.t 5), none, [17, 18, 19, 20, 21], []⟩,⟨some 23, .iad 1 (.t 21) (.t 22), none, [17, 18, 19, 20], [4, 5]⟩,⟨some 24, .load false 1 (.t 23), none, [17, 18, 19, 20], [4, 5, 6]⟩,⟨some 25, .bin .neq (.t 20) (.t 24), none, [], [0, 1, 2, 3, 4, 5, 6, 7]⟩] true) (.cond (.t 25) (.seq (.region [nO 4 (.mov (.c (.bool false)))] false) .ret) .skip))) (.region [mO 15 5,
  nO 16 (.bin .add (.t 15) (.c (.int .i64 1))),
  mO 5 16] false))))))) (.seq (.region [nO 4 (.mov (.c (.bool true)))] false) .ret))))
def i34 : F := ⟨2, 26, j34, [.t 4]⟩
theorem b34 : i34.body = j34 := rfl
theorem q34 : i34.res = [.t 4] := rfl
theorem c34 : chkF Tryz.prog Tryz.f34 i34 = true := by kernel_rfl
theorem s34 {m E} (hE : HE E) (hm : HM i34 m E) : Sound Tryz.prog 34 m := sound_of i34 Tryz.func34 rfl c34 hE hm
def j39 : C := (.seq (.region [nO 4 (.box (.t 0)),
  nO 7 (.box (.t 3)),
  nO 8 (.alloc [.bool false, .bool false, .int .i64 0, .int .i64 0, .int .i64 0, .int .i64 0, .int .i64 0, .int .i64 0, .row [], .row [], .int .i64 0, .int .i64 0, .int .i64 0, .row [], .row [], .row []]),
  nO 9 (.mov (.c (.int .i64 0)))] false) (.seq (.region [nO 11 (.load true 7 (.t 4)),
  mO 12 1,
  mO 13 2,
  nO 14 (.load true 16 (.t 7)),
  nO 15 (.call false 18 [(.t 11), (.t 12), (.t 13), (.t 14)]),
  mO 10 15] false) (.seq (.seq (.region [mO 16 10,
  nO 17 (.bin .neq (.t 16) (.c (.int .i64 0)))] false) (.cond (.t 17) (.seq (.region [nO 18 (.build [.bool false, .bool false, .int .i64 0, .int .i64 0, .int .i64 0, .int .i64 0, .int .i64 0, .int .i64 0, .row [], .row [], .int .i64 0, .int .i64 0, .int .i64 0, .row [], .row [], .row []] []),
  mO 19 10,⟨none, .store none 16 (.t 8) (.t 18), none, [], []⟩,
  mO 9 19] false) .ret) .skip)) (.seq (.region [nO 20 (.load true 16 (.t 7)),
  nO 21 (.call false 86 [(.t 20)]),⟨none, .store none 16 (.t 8) (.t 21), none, [], []⟩,
  nO 9 (.mov (.c (.int .i64 0)))] false) .ret))))
def i39 : F := ⟨4, 22, j39, [.c 8 16 true, .t 9]⟩
theorem c39 : chkF Tryz.prog Tryz.f39 i39 = true := by kernel_rfl
theorem s39 {m E} (hE : HE E) (hm : HM i39 m E) : Sound Tryz.prog 39 m := sound_of i39 Tryz.func39 rfl c39 hE hm
def j40 : C := (.seq (.region [nO 1 (.box (.t 0)),
  nO 2 (.mov (.c (.bool false)))] false) (.seq (.region [nO 3 (.fad 0 (.t 1)),
  nO 4 (.load false 1 (.t 3)),
  nO 5 (.call false 60 [(.t 4), (.c (.int .i64 1)), (.c (.int .i64 8))]),
  mO 6 5,
  gO 7 (.fad 1 (.t 1)) 6 true,
  gO 8 (.load false 1 (.t 7)) 6 true,
  gO 9 (.call false 60 [(.t 8), (.c (.int .i64 1)), (.c (.int .i64 4))]) 6 true,
  nO 10 (.pick (.t 6) (.t 9) (.c (.bool false))),
  mO 11 10,
  gO 12 (.fad 2 (.t 1)) 11 true,
  gO 13 (.load false 1 (.t 12)) 11 true,
  gO 14 (.call false 60 [(.t 13), (.c (.int .i64 1)), (.c (.int .i64 4))]) 11 true,
  nO 15 (.pick (.t 11) (.t 14) (.c (.bool false))),
  mO 16 15,
  gO 17 (.fad 3 (.t 1)) 16 true,
  gO 18 (.load false 1 (.t 17)) 16 true,
  gO 19 (.call false 60 [(.t 18), (.c (.int .i64 1)), (.c (.int .i64 8))]) 16 true,
  nO 20 (.pick (.t 16) (.t 19) (.c (.bool false))),
  mO 21 20,
  gO 22 (.fad 4 (.t 1)) 21 true,
  gO 23 (.load false 1 (.t 22)) 21 true,
  gO 24 (.call false 60 [(.t 23), (.c (.int .i64 1)), (.c (.int .i64 16))]) 21 true,
  nO 25 (.pick (.t 21) (.t 24) (.c (.bool false))),
  mO 26 25,
  gO 27 (.fad 5 (.t 1)) 26 true,
  gO 28 (.load false 1 (.t 27)) 26 true,
  gO 29 (.call false 60 [(.t 28), (.c (.int .i64 1)), (.c (.int .i64 16))]) 26 true,
  nO 30 (.pick (.t 26) (.t 29) (.c (.bool false))),
  mO 31 30,
  gO 32 (.fad 6 (.t 1)) 31 true,
  gO 33 (.load false 1 (.t 32)) 31 true,
  gO 34 (.call false 60 [(.t 33), (.c (.int .i64 2)), (.c (.int .i64 32))]) 31 true,
  nO 35 (.pick (.t 31) (.t 34) (.c (.bool false))),
  mO 2 35] false) .ret))
def i40 : F := ⟨1, 36, j40, [.t 2]⟩
theorem b40 : i40.body = j40 := rfl
theorem q40 : i40.res = [.t 2] := rfl
theorem c40 : chkF Tryz.prog Tryz.f40 i40 = true := by kernel_rfl
theorem s40 {m E} (hE : HE E) (hm : HM i40 m E) : Sound Tryz.prog 40 m := sound_of i40 Tryz.func40 rfl c40 hE hm
def j41 : C := (.seq (.region [nO 3 (.box (.t 0)),
  nO 6 (.mov (.c (.bool false)))] false) (.seq (.region [mO 7 1,
  nO 8 (.fad 1 (.t 3)),
  nO 9 (.load false 1 (.t 8)),
  nO 10 (.bin .sub (.t 9) (.c (.int .i64 1))),
  nO 11 (.call false 87 [(.t 7), (.c (.int .i64 0)), (.t 10)]),
  mO 12 11,
  mG 13 2 12 true,
  gO 14 (.fad 0 (.t 3)) 12 true,
  gO 15 (.load false 1 (.t 14)) 12 true,
  gO 16 (.bin .sub (.t 15) (.c (.int .i64 1))) 12 true,
  gO 17 (.call false 87 [(.t 13), (.c (.int .i64 0)), (.t 16)]) 12 true,
  nO 18 (.pick (.t 12) (.t 17) (.c (.bool false))),
  mO 6 18] false) .ret))
def i41 : F := ⟨3, 19, j41, [.t 6]⟩
theorem b41 : i41.body = j41 := rfl
theorem q41 : i41.res = [.t 6] := rfl
theorem c41 : chkF Tryz.prog Tryz.f41 i41 = true := by kernel_rfl
theorem s41 {m E} (hE : HE E) (hm : HM i41 m E) : Sound Tryz.prog 41 m := sound_of i41 Tryz.func41 rfl c41 hE hm
def j42 : C := (.seq (.region [nO 4 (.box (.t 0)),
  nO 7 (.box (.t 3)),
  nO 8 (.mov (.c (.bool false)))] false) (.seq (.seq (.region [nO 9 (.fad 2 (.t 7)),
  nO 10 (.load false 1 (.t 9)),
  nO 11 (.call false 87 [(.t 10), (.c (.int .i64 0)), (.c (.int .i64 1073741824))]),
  nO 12 (.un .not (.t 11)),
  mO 13 12,
  gO 14 (.fad 3 (.t 7)) 13 false,
  gO 15 (.load false 1 (.t 14)) 13 false,
  gO 16 (.bin .neq (.t 15) (.c (.int .i64 0))) 13 false,
  mG 17 16 13 false,
  gO 18 (.fad 3 (.t 7)) 17 true,
  gO 19 (.load false 1 (.t 18)) 17 true,
  gO 20 (.call false 88 [(.t 19)]) 17 true,
  gO 21 (.un .not (.t 20)) 17 true,
  mG 22 21 17 true,
  gO 23 (.fad 3 (.t 7)) 22 false,
  gO 24 (.load false 1 (.t 23)) 22 false,
  gO 25 (.bin .rem (.t 24) (.c (.int .i64 16))) 22 false,
  mG 26 2 22 false,
  gO 27 (.bin .neq (.t 25) (.t 26)) 22 false,
  gO 28 (.pick (.t 22) (.c (.bool true)) (.t 27)) 17 true,
  mG 29 28 17 true,
  gO 30 (.fad 3 (.t 7)) 29 false,
  gO 31 (.load false 1 (.t 30)) 29 false,
  gO 32 (.fad 2 (.t 7)) 29 false,
  gO 33 (.load false 1 (.t 32)) 29 false,
  gO 34 (.bin .gtr (.t 31) (.t 33)) 29 false,
  gO 35 (.pick (.t 29) (.c (.bool true)) (.t 34)) 17 true,
  gO 36 (.pick (.t 17) (.t 35) (.c (.bool false))) 13 false,
  nO 37 (.pick (.t 13) (.c (.bool true)) (.t 36)),
  mO 38 37,
  mG 39 1 38 false,
  mG 40 2 38 false,
  gO 41 (.fad 4 (.t 7)) 38 false,
  gO 42 (.load false 1 (.t 41)) 38 false,
  gO 43 (.call false 89 [(.t 39), (.t 40), (.t 42)]) 38 false,
  gO 44 (.un .not (.t 43)) 38 false,
  nO 45 (.pick (.t 38) (.c (.bool true)) (.t 44)),
  mO 46 45,
  mG 47 1 46 false,
  mG 48 2 46 false,
  gO 49 (.fad 5 (.t 7)) 46 false,
  gO 50 (.load false 1 (.t 49)) 46 false,
  gO 51 (.call false 89 [(.t 47), (.t 48), (.t 50)]) 46 false,
  gO 52 (.un .not (.t 51)) 46 false,
  nO 53 (.pick (.t 46) (.c (.bool true)) (.t 52)),
  mO 54 53,
  mG 55 1 54 false,
  mG 56 2 54 false,
  gO 57 (.fad 6 (.t 7)) 54 false,
  gO 58 (.load false 1 (.t 57)) 54 false,
  gO 59 (.call false 89 [(.t 55), (.t 56), (.t 58)]) 54 false,
  gO 60 (.un .not (.t 59)) 54 false,
  nO 61 (.pick (.t 54) (.c (.bool true)) (.t 60)),
  mO 62 61,
  gO 63 (.fad 7 (.t 7)) 62 false,
  gO 64 (.load false 1 (.t 63)) 62 false,
  gO 65 (.call false 87 [(.t 64), (.c (.int .i64 0)), (.c (.int .i64 1000))]) 62 false,
  gO 66 (.un .not (.t 65)) 62 false,
  nO 67 (.pick (.t 62) (.c (.bool true)) (.t 66))] false) (.cond (.t 67) (.seq (.region [nO 8 (.mov (.c (.bool false)))] false) .ret) .skip)) (.seq (.seq (.region [⟨some 68, .mov (.t 1), none, [69, 70, 71, 72, 73], []⟩,⟨some 69, .mov (.t 2), none, [68, 70, 71, 72, 73], []⟩,⟨some 70, .fad 8 (.t 7), none, [68, 69, 72, 73], []⟩,⟨some 71, .load false 1 (.t 70), none, [68, 69, 72, 73], [2]⟩,⟨some 72, .fad 3 (.t 4), none, [68, 69, 70, 71], []⟩,⟨some 73, .load false 1 (.t 72), none, [68, 69, 70, 71], [4]⟩,⟨some 74, .call false 90 [(.t 68), (.t 69), (.t 71), (.t 73)], none, [], [0, 1, 2, 3, 4, 5]⟩,⟨some 75, .bin .neq (.t 74) (.c (.int .i64 0)), none, [], [0, 1, 2, 3, 4, 5, 6]⟩,⟨some 76, .mov (.t 75), none, [], [0, 1, 2, 3, 4, 5, 6, 7]⟩,⟨some 77, .fad 8 (.t 7), some (76, false), [81, 82, 83], [0, 1, 2, 3, 4, 5, 6, 7, 8]⟩,⟨some 78, .load false 1 (.t 77), some (76, false), [81, 82, 83], [0, 1, 2, 3, 4, 5, 6, 7, 8, 9]⟩,⟨some 79, .len (.t 78), some (76, false), [81, 82, 83], [0, 1, 2, 3, 4, 5, 6, 7, 8, 9, 10]⟩,⟨some 80, .bin .gtr (.t 79) (.c (.int .i64 0)), some (76, false), [81, 82, 83], [0, 1, 2, 3, 4, 5, 6, 7, 8, 9, 10, 11]⟩,⟨some 81, .fad 4 (.t 7), some (76, false), [77, 78, 79, 80], [0, 1, 2, 3, 4, 5, 6, 7, 8]⟩,⟨some 82, .load false 1 (.t 81), some (76, false), [77, 78, 79, 80], [0, 1, 2, 3, 4, 5, 6, 7, 8, 13]⟩,⟨some 83, .bin .gtr (.t 82) (.c (.int .i64 0)), some (76, false), [77, 78, 79, 80], [0, 1, 2, 3, 4, 5, 6, 7, 8, 13, 14]⟩,⟨some 84, .eqb true (.t 80) (.t 83), some (76, false), [], [0, 1, 2, 3, 4, 5, 6, 7, 8, 9, 10, 11, 12, 13, 14, 15]⟩,⟨some 85, .pick (.t 76) (.c (.bool true)) (.t 84), none, [], [0, 1, 2, 3, 4, 5, 6, 7, 8, 9, 10, 11, 12, 13, 14, 15, 16]⟩,⟨some 86, .mov (.t 85), none, [], [0, 1, 2, 3, 4, 5, 6, 7, 8, 9, 10, 11, 12, 13, 14, 15, 16, 17]⟩,⟨some 87, .fad 8 (.t 7), some (86, false), [], [0, 1, 2, 3, 4, 5, 6, 7, 8, 9, 10, 11, 12, 13, 14, 15, 16, 17, 18]⟩,⟨some 88, .load false 1 (.t 87), some (86, false), [], [0, 1, 2, 3, 4, 5, 6, 7, 8, 9, 10, 11, 12, 13, 14, 15, 16, 17, 18, 19]⟩,⟨some 89, .len (.t 88), some (86, false), [], [0, 1, 2, 3, 4, 5, 6, 7, 8, 9, 10, 11, 12, 13, 14, 15, 16, 17, 18, 19, 20]⟩,⟨some 90, .bin .gtr (.t 89) (.c (.int .i64 0)), some (86, false), [], [0, 1, 2, 3, 4, 5, 6, 7, 8, 9, 10, 11, 12, 13, 14, 15, 16, 17, 18, 19, 20, 21]⟩,⟨some 91, .mov (.t 90), some (86, false), [], [0, 1, 2, 3, 4, 5, 6, 7, 8, 9, 10, 11, 12, 13, 14, 15, 16, 17, 18, 19, 20, 21, 22]⟩,⟨some 92, .fad 8 (.t 7), some (91, true), [96, 97, 98], [0, 1, 2, 3, 4, 5, 6, 7, 8, 9, 10, 11, 12, 13, 14, 15, 16, 17, 18, 19, 20, 21, 22, 23]⟩,⟨some 93, .load false 1 (.t 92), some (91, true), [96, 97, 98], [0, 1, 2, 3, 4, 5, 6, 7, 8, 9, 10, 11, 12, 13, 14, 15, 16, 17, 18, 19, 20, 21, 22, 23, 24]⟩,⟨some 94, .iad 1 (.t 93) (.c (.int .i64 0)), some (91, true), [96, 97, 98], [0, 1, 2, 3, 4, 5, 6, 7, 8, 9, 10, 11, 12, 13, 14, 15, 16, 17, 18, 19, 20, 21, 22, 23, 24, 25]⟩,⟨some 95, .load false 1 (.t 94), some (91, true), [96, 97, 98], [0, 1, 2, 3, 4, 5, 6, 7, 8, 9, 10, 11, 12, 13, 14, 15, 16, 17, 18, 19, 20, 21, 22, 23, 24, 25, 26]⟩,⟨some 96, .fad 4 (.t 7), some (91, true), [92, 93, 94, 95], [0, 1, 2, 3, 4, 5, 6, 7, 8, 9, 10, 11, 12, 13, 14, 15, 16, 17, 18, 19, 20, 21, 22, 23]⟩,⟨some 97, .load false 1 (.t 96), some (91, true), [92, 93, 94, 95], [0, 1, 2, 3, 4, 5, 6, 7, 8, 9, 10, 11, 12, 13, 14, 15, 16, 17, 18, 19, 20, 21, 22, 23, 28]⟩,⟨some 98, .bin .sub (.t 97) (.c (.int .i64 1)), some (91, true), [92, 93, 94, 95], [0, 1, 2, 3, 4, 5, 6, 7, 8, 9, 10, 11, 12, 13, 14, 15, 16, 17, 18, 19, 20, 21, 22, 23, 28, 29]⟩,⟨some 99, .bin .neq (.t 95) (.t 98), some (91, true), [], [0, 1, 2, 3, 4, 5, 6, 7, 8, 9, 10, 11, 12, 13, 14, 15, 16, 17, 18, 19, 20, 21, 22, 23, 24, 25, 26, 27, 28, 29, 30]⟩,⟨some 100, .pick (.t 91) (.t 99) (.c (.bool false)), some (86, false), [], [0, 1, 2, 3, 4, 5, 6, 7, 8, 9, 10, 11, 12, 13, 14, 15, 16, 17, 18, 19, 20, 21, 22, 23, 24, 25, 26, 27, 28, 29, 30, 31]⟩,⟨some 101, .pick (.t 86) (.c (.bool true)) (.t 100), none, [], [0, 1, 2, 3, 4, 5, 6, 7, 8, 9, 10, 11, 12, 13, 14, 15, 16, 17, 18, 19, 20, 21, 22, 23, 24, 25, 26, 27, 28, 29, 30, 31, 32]⟩,⟨some 102, .mov (.t 101), none, [], [0, 1, 2, 3, 4, 5, 6, 7, 8, 9, 10, 11, 12, 13, 14, 15, 16, 17, 18, 19, 20, 21, 22, 23, 24, 25, 26, 27, 28, 29, 30, 31, 32, 33]⟩,⟨some 103, .fad 3 (.t 7), some (102, false), [], [0, 1, 2, 3, 4, 5, 6, 7, 8, 9, 10, 11, 12, 13, 14, 15, 16, 17, 18, 19, 20, 21, 22, 23, 24, 25, 26, 27, 28, 29, 30, 31, 32, 33, 34]⟩,⟨some 104, .load false 1 (.t 103), some (102, false), [], [0, 1, 2, 3, 4, 5, 6, 7, 8, 9, 10, 11, 12, 13, 14, 15, 16, 17, 18, 19, 20, 21, 22, 23, 24, 25, 26, 27, 28, 29, 30, 31, 32, 33, 34, 35]⟩,⟨some 105, .bin .neq (.t 104) (.c (.int .i64 0)), some (102, false), [], [0, 1, 2, 3, 4, 5, 6, 7, 8, 9, 10, 11, 12, 13, 14, 15, 16, 17, 18, 19, 20, 21, 22, 23, 24, 25, 26, 27, 28, 29, 30, 31, 32, 33, 34, 35, 36]⟩,⟨some 106, .mov (.t 105), some (102, false), [], [0, 1, 2, 3, 4, 5, 6, 7, 8, 9, 10, 11, 12, 13, 14, 15, 16, 17, 18, 19, 20, 21, 22, 23, 24, 25, 26, 27, 28, 29, 30, 31, 32, 33, 34, 35, 36, 37]⟩,⟨some 107, .fad 4 (.t 7), some (106, true), [], [0, 1, 2, 3, 4, 5, 6, 7, 8, 9, 10, 11, 12, 13, 14, 15, 16, 17, 18, 19, 20, 21, 22, 23, 24, 25, 26, 27, 28, 29, 30, 31, 32, 33, 34, 35, 36, 37, 38]⟩,⟨some 108, .load false 1 (.t 107), some (106, true), [], [0, 1, 2, 3, 4, 5, 6, 7, 8, 9, 10, 11, 12, 13, 14, 15, 16, 17, 18, 19, 20, 21, 22, 23, 24, 25, 26, 27, 28, 29, 30, 31, 32, 33, 34, 35, 36, 37, 38, 39]⟩,⟨some 109, .bin .neq (.t 108) (.c (.int .i64 0)), some (106, true), [], [0, 1, 2, 3, 4, 5, 6, 7, 8, 9, 10, 11, 12, 13, 14, 15, 16, 17, 18, 19, 20, 21, 22, 23, 24, 25, 26, 27, 28, 29, 30, 31, 32, 33, 34, 35, 36, 37, 38, 39, 40]⟩,⟨some 110, .mov (.t 109), some (106, true), [], [0, 1, 2, 3, 4, 5, 6, 7, 8, 9, 10, 11, 12, 13, 14, 15, 16, 17, 18, 19, 20, 21, 22, 23, 24, 25, 26, 27, 28, 29, 30, 31, 32, 33, 34, 35, 36, 37, 38, 39, 40, 41]⟩,⟨some 111, .fad 10 (.t 7), some (110, false), [114, 115], [0, 1, 2, 3, 4, 5, 6, 7, 8, 9, 10, 11, 12, 13, 14, 15, 16, 17, 18, 19, 20, 21, 22, 23, 24, 25, 26, 27, 28, 29, 30, 31, 32, 33, 34, 35, 36, 37, 38, 39, 40, 41, 42]⟩,⟨some 112, .fad 0 (.t 111), some (110, false), [114, 115], [0, 1, 2, 3, 4, 5, 6, 7, 8, 9, 10, 11, 12, 13, 14, 15, 16, 17, 18, 19, 20, 21, 22, 23, 24, 25, 26, 27, 28, 29, 30, 31, 32, 33, 34, 35, 36, 37, 38, 39, 40, 41, 42, 43]⟩,⟨some 113, .load false 1 (.t 112), some (110, false), [114, 115], [0, 1, 2, 3, 4, 5, 6, 7, 8, 9, 10, 11, 12, 13, 14, 15, 16, 17, 18, 19, 20, 21, 22, 23, 24, 25, 26, 27, 28, 29, 30, 31, 32, 33, 34, 35, 36, 37, 38, 39, 40, 41, 42, 43, 44]⟩,⟨some 114, .fad 3 (.t 7), some (110, false), [111, 112, 113], [0, 1, 2, 3, 4, 5, 6, 7, 8, 9, 10, 11, 12, 13, 14, 15, 16, 17, 18, 19, 20, 21, 22, 23, 24, 25, 26, 27, 28, 29, 30, 31, 32, 33, 34, 35, 36, 37, 38, 39, 40, 41, 42]⟩,⟨some 115, .load false 1 (.t 114), some (110, false), [111, 112, 113], [0, 1, 2, 3, 4, 5, 6, 7, 8, 9, 10, 11, 12, 13, 14, 15, 16, 17, 18, 19, 20, 21, 22, 23, 24, 25, 26, 27, 28, 29, 30, 31, 32, 33, 34, 35, 36, 37, 38, 39, 40, 41, 42, 46]⟩,⟨some 116, .bin .neq (.t 113) (.t 115), some (110, false), [], [0, 1, 2, 3, 4, 5, 6, 7, 8, 9, 10, 11, 12, 13, 14, 15, 16, 17, 18, 19, 20, 21, 22, 23, 24, 25, 26, 27, 28, 29, 30, 31, 32, 33, 34, 35, 36, 37, 38, 39, 40, 41, 42, 43, 44, 45, 46, 47]⟩,⟨some 117, .pick (.t 110) (.c (.bool true)) (.t 116), some (106, true), [], [0, 1, 2, 3, 4, 5, 6, 7, 8, 9, 10, 11, 12, 13, 14, 15, 16, 17, 18, 19, 20, 21, 22, 23, 24, 25, 26, 27, 28, 29, 30, 31, 32, 33, 34, 35, 36, 37, 38, 39, 40, 41, 42, 43, 44, 45, 46, 47, 48]⟩,⟨some 118, .pick (.t 106) (.t 117) (.c (.bool false)), some (102, false), [], [0, 1, 2, 3, 4, 5, 6, 7, 8, 9, 10, 11, 12, 13, 14, 15, 16, 17, 18, 19, 20, 21, 22, 23, 24, 25, 26, 27, 28, 29, 30, 31, 32, 33, 34, 35, 36, 37, 38, 39, 40, 41, 42, 43, 44, 45, 46, 47, 48, 49]⟩,⟨some 119, .pick (.t 102) (.c (.bool true)) (.t 118), none, [], [0, 1, 2, 3, 4, 5, 6, 7, 8, 9, 10, 11, 12, 13, 14, 15, 16, 17, 18, 19, 20, 21, 22, 23, 24, 25, 26, 27, 28, 29, 30, 31, 32, 33, 34, 35, 36, 37, 38, 39, 40, 41, 42, 43, 44, 45, 46, 47, 48, 49, 50]⟩] true) (.cond (.t 119) (.seq (.region [nO 8 (.mov (.c (.bool false)))] false) .ret) .skip)) (.seq (.region [mO 120 1,
  mO 121 2,
  nO 122 (.fad 2 (.t 4)),
  nO 123 (.load false 1 (.t 122)),
  nO 124 (.fad 9 (.t 7)),
  nO 125 (.load false 1 (.t 124)),
  nO 126 (.call false 91 [(.t 120), (.t 121), (.t 123), (.t 125)]),
  mO 127 126,
  gO 128 (.load true 7 (.t 4)) 127 true,
  gO 129 (.fad 10 (.t 7)) 127 true,
  gO 130 (.load true 5 (.t 129)) 127 true,
  gO 131 (.fad 15 (.t 7)) 127 true,
  gO 132 (.load false 1 (.t 131)) 127 true,
  gO 133 (.call false 92 [(.t 128), (.t 130), (.t 132)]) 127 true,
  nO 134 (.pick (.t 127) (.t 133) (.c (.bool false))),
  mO 8 134] false) .ret))))
def i42 : F := ⟨4, 135, j42, [.t 8]⟩
theorem b42 : i42.body = j42 := rfl
theorem q42 : i42.res = [.t 8] := rfl
theorem c42 : chkF Tryz.prog Tryz.f42 i42 = true := by kernel_rfl
theorem s42 {m E} (hE : HE E) (hm : HM i42 m E) : Sound Tryz.prog 42 m := sound_of i42 Tryz.func42 rfl c42 hE hm
def j48 : C := (.seq (.region [nO 8 (.mov (.c (.int .i64 0)))] false) (.seq (.region [mO 14 0,
  mO 15 1,
  nO 16 (.call false 65 [(.t 14), (.t 15)]),
  mO 13 16,
  nO 17 (.ext (.t 13) 0),
  nO 18 (.ext (.t 13) 1),
  mO 9 17,
  mO 10 18] false) (.seq (.seq (.region [mO 19 10,
  nO 20 (.bin .neq (.t 19) (.c (.int .i64 0))),
  mO 21 20,
  mG 22 2 21 false,
  gO 23 (.bin .lss (.t 22) (.c (.int .i64 1))) 21 false,
  nO 24 (.pick (.t 21) (.c (.bool true)) (.t 23)),
  mO 25 24,
  mG 26 2 25 false,
  gO 27 (.bin .gtr (.t 26) (.c (.int .i64 4))) 25 false,
  nO 28 (.pick (.t 25) (.c (.bool true)) (.t 27)),
  mO 29 28,
  mG 30 3 29 false,
  gO 31 (.len (.t 30)) 29 false,
  mG 32 2 29 false,
  gO 33 (.bin .gtr (.t 31) (.t 32)) 29 false,
  nO 34 (.pick (.t 29) (.c (.bool true)) (.t 33))] false) (.cond (.t 34) (.seq (.region [nO 8 (.mov (.c (.int .i64 1)))] false) .ret) .skip)) (.seq (.seq (.region [mO 35 3,
  nO 36 (.len (.t 35)),
  nO 37 (.mov (.c (.int .i64 0)))] false) (.block 0 (.loop (.keep [0, 1, 3, 35, 36, 37] (.seq (.region [nO 38 (.bin .lss (.t 37) (.t 36))] false) (.seq (.cond (.t 38) .skip (.exit 0)) (.seq (.block 1 (.seq (.region [mO 39 37,
  nO 40 (.iad 3 (.t 35) (.t 37)),
  nO 41 (.load true 3 (.t 40)),
  nO 12 (.alloc [.int .i64 0, .int .i64 0, .int .i64 0]),
  mO 11 39,⟨none, .store none 3 (.t 12) (.t 41), none, [], []⟩] false) (.seq (.region [⟨some 42, .mov (.t 0), none, [43, 44], []⟩,⟨some 43, .mov (.t 1), none, [42, 44], []⟩,⟨some 44, .load true 3 (.t 12), none, [42, 43], []⟩,⟨some 45, .call false 100 [(.t 42), (.t 43), (.t 44)], none, [], [0, 1, 2]⟩,⟨some 46, .un .not (.t 45), none, [], [0, 1, 2, 3]⟩,⟨some 47, .mov (.t 46), none, [], [0, 1, 2, 3, 4]⟩,⟨some 48, .mov (.t 11), some (47, false), [], [0, 1, 2, 3, 4, 5]⟩,⟨some 49, .bin .gtr (.t 48) (.c (.int .i64 0)), some (47, false), [], [0, 1, 2, 3, 4, 5, 6]⟩,⟨some 50, .mov (.t 49), some (47, false), [], [0, 1, 2, 3, 4, 5, 6, 7]⟩,⟨some 51, .mov (.t 0), some (50, true), [52, 53, 54, 55, 56, 57, 58, 59], [0, 1, 2, 3, 4, 5, 6, 7, 8]⟩,⟨some 52, .mov (.t 3), some (50, true), [51, 53, 54, 58, 59], [0, 1, 2, 3, 4, 5, 6, 7, 8]⟩,⟨some 53, .mov (.t 11), some (50, true), [51, 52, 58, 59], [0, 1, 2, 3, 4, 5, 6, 7, 8]⟩,⟨some 54, .bin .sub (.t 53) (.c (.int .i64 1)), some (50, true), [51, 52, 58, 59], [0, 1, 2, 3, 4, 5, 6, 7, 8, 11]⟩,⟨some 55, .iad 3 (.t 52) (.t 54), some (50, true), [51, 58, 59], [0, 1, 2, 3, 4, 5, 6, 7, 8, 10, 11, 12]⟩,⟨some 56, .fad 0 (.t 55), some (50, true), [51, 58, 59], [0, 1, 2, 3, 4, 5, 6, 7, 8, 10, 11, 12, 13]⟩,⟨some 57, .load false 1 (.t 56), some (50, true), [51, 58, 59], [0, 1, 2, 3, 4, 5, 6, 7, 8, 10, 11, 12, 13, 14]⟩,⟨some 58, .fad 0 (.t 12), some (50, true), [51, 52, 53, 54, 55, 56, 57], [0, 1, 2, 3, 4, 5, 6, 7, 8]⟩,⟨some 59, .load false 1 (.t 58), some (50, true), [51, 52, 53, 54, 55, 56, 57], [0, 1, 2, 3, 4, 5, 6, 7, 8, 16]⟩,⟨some 60, .call false 28 [(.t 51), (.t 57), (.t 59)], some (50, true), [], [0, 1, 2, 3, 4, 5, 6, 7, 8, 9, 10, 11, 12, 13, 14, 15, 16, 17]⟩,⟨some 61, .un .not (.t 60), some (50, true), [], [0, 1, 2, 3, 4, 5, 6, 7, 8, 9, 10, 11, 12, 13, 14, 15, 16, 17, 18]⟩,⟨some 62, .pick (.t 50) (.t 61) (.c (.bool false)), some (47, false), [], [0, 1, 2, 3, 4, 5, 6, 7, 8, 9, 10, 11, 12, 13, 14, 15, 16, 17, 18, 19]⟩,⟨some 63, .pick (.t 47) (.c (.bool true)) (.t 62), none, [], [0, 1, 2, 3, 4, 5, 6, 7, 8, 9, 10, 11, 12, 13, 14, 15, 16, 17, 18, 19, 20]⟩] true) (.cond (.t 63) (.seq (.region [nO 8 (.mov (.c (.int .i64 1)))] false) .ret) .skip)))) (.region [nO 64 (.bin .add (.t 37) (.c (.int .i64 1))),
  mO 37 64] false)))))))) (.seq (.region [nO 8 (.mov (.c (.int .i64 0)))] false) .ret)))))
def i48 : F := ⟨4, 65, j48, [.t 8]⟩
theorem b48 : i48.body = j48 := rfl
theorem q48 : i48.res = [.t 8] := rfl
theorem c48 : chkF Tryz.prog Tryz.f48 i48 = true := by kernel_rfl
theorem s48 {m E} (hE : HE E) (hm : HM i48 m E) : Sound Tryz.prog 48 m := sound_of i48 Tryz.func48 rfl c48 hE hm
def j49 : C := (.seq (.region [nO 2 (.box (.t 0)),
  nO 4 (.mov (.c (.bool false)))] false) (.seq (.region [nO 5 (.fad 3 (.t 2)),
  nO 6 (.load false 1 (.t 5)),
  nO 7 (.len (.t 6)),
  nO 8 (.bin .gtr (.t 7) (.c (.int .i64 30))),
  mO 9 8,
  gO 10 (.fad 4 (.t 2)) 9 false,
  gO 11 (.load false 1 (.t 10)) 9 false,
  gO 12 (.len (.t 11)) 9 false,
  gO 13 (.bin .gtr (.t 12) (.c (.int .i64 30))) 9 false,
  nO 14 (.pick (.t 9) (.c (.bool true)) (.t 13)),
  mO 15 14,
  mG 16 1 15 false,
  gO 17 (.len (.t 16)) 15 false,
  gO 18 (.bin .gtr (.t 17) (.c (.int .i64 50))) 15 false,
  nO 19 (.pick (.t 15) (.c (.bool true)) (.t 18)),
  mO 4 19] false) .ret))
def i49 : F := ⟨2, 20, j49, [.t 4]⟩
theorem b49 : i49.body = j49 := rfl
theorem q49 : i49.res = [.t 4] := rfl
theorem c49 : chkF Tryz.prog Tryz.f49 i49 = true := by kernel_rfl
theorem s49 {m E} (hE : HE E) (hm : HM i49 m E) : Sound Tryz.prog 49 m := sound_of i49 Tryz.func49 rfl c49 hE hm
def j50 : C := (.seq (.region [nO 1 (.box (.t 0)),
  nO 2 (.alloc [.bool false, .bool false, .int .i64 0, .int .i64 0, .int .i64 0, .int .i64 0, .int .i64 0, .int .i64 0, .row [], .row [], .int .i64 0, .int .i64 0, .int .i64 0, .row [], .row [], .row []])] false) (.seq (.region [⟨some 3, .fad 8 (.t 1), none, [6, 7, 9, 10], []⟩,⟨some 4, .load false 1 (.t 3), none, [6, 7, 9, 10], [0]⟩,⟨some 5, .call false 80 [(.t 4)], none, [6, 7, 9, 10], [0, 1]⟩,⟨some 6, .fad 9 (.t 1), none, [3, 4, 5, 9, 10], []⟩,⟨some 7, .load false 1 (.t 6), none, [3, 4, 5, 9, 10], [3]⟩,⟨some 8, .call false 101 [(.t 7)], none, [9, 10, 12], [0, 1, 2, 3, 4]⟩,⟨some 9, .fad 15 (.t 1), none, [3, 4, 5, 6, 7, 8], []⟩,⟨some 10, .load false 1 (.t 9), none, [3, 4, 5, 6, 7, 8], [6]⟩,⟨some 11, .call false 102 [(.t 10)], none, [12], [0, 1, 2, 3, 4, 5, 6, 7]⟩,⟨some 12, .fad 8 (.t 1), none, [8, 11], [0, 1, 2, 3, 4, 6, 7]⟩,⟨none, .store none 1 (.t 12) (.t 5), none, [], [0, 1, 2, 3, 4, 5, 6, 7, 8, 9]⟩,⟨some 13, .fad 9 (.t 1), none, [], [0, 1, 2, 3, 4, 5, 6, 7, 8, 9, 10]⟩,⟨none, .store none 1 (.t 13) (.t 8), none, [], [0, 1, 2, 3, 4, 5, 6, 7, 8, 9, 10, 11]⟩,⟨some 14, .fad 15 (.t 1), none, [], [0, 1, 2, 3, 4, 5, 6, 7, 8, 9, 10, 11, 12]⟩,⟨none, .store none 1 (.t 14) (.t 11), none, [], [0, 1, 2, 3, 4, 5, 6, 7, 8, 9, 10, 11, 12, 13]⟩] true) (.seq (.region [nO 15 (.fad 10 (.t 1)),
  nO 16 (.load true 5 (.t 15)),
  nO 17 (.call false 103 [(.t 16)]),
  nO 18 (.fad 10 (.t 1)),⟨none, .store none 5 (.t 18) (.t 17), none, [], []⟩] false) (.seq (.region [nO 19 (.load true 16 (.t 1)),⟨none, .store none 16 (.t 2) (.t 19), none, [], []⟩] false) .ret))))
def i50 : F := ⟨1, 20, j50, [.c 2 16 true]⟩
theorem b50 : i50.body = j50 := rfl
theorem q50 : i50.res = [.c 2 16 true] := rfl
theorem c50 : chkF Tryz.prog Tryz.f50 i50 = true := by kernel_rfl
theorem s50 {m E} (hE : HE E) (hm : HM i50 m E) : Sound Tryz.prog 50 m := sound_of i50 Tryz.func50 rfl c50 hE hm
def j52 : C := (.seq (.region [nO 4 (.alloc [.int .i64 0, .int .i64 0, .int .i64 0, .row [], .row []])] false) (.seq (.region [mO 5 0,
  mO 6 1,
  mO 7 1,
  nO 8 (.build [.int .i64 0, .int .i64 0, .int .i64 0, .row [], .row []] [(0, 1, (.t 5)), (1, 1, (.t 6)), (2, 1, (.t 7))]),⟨none, .store none 5 (.t 4) (.t 8), none, [], []⟩] false) .ret))
def i52 : F := ⟨2, 9, j52, [.c 4 5 true]⟩
theorem c52 : chkF Tryz.prog Tryz.f52 i52 = true := by kernel_rfl
theorem s52 {m E} (hE : HE E) (hm : HM i52 m E) : Sound Tryz.prog 52 m := sound_of i52 Tryz.func52 rfl c52 hE hm
def j53 : C := (.seq (.region [nO 2 (.mov (.c (.int .i64 0)))] false) (.seq (.seq (.region [mO 3 0,
  nO 4 (.bin .lss (.t 3) (.c (.int .i64 1))),
  mO 5 4,
  mG 6 0 5 false,
  gO 7 (.bin .gtr (.t 6) (.c (.int .i64 1073741824))) 5 false,
  nO 8 (.pick (.t 5) (.c (.bool true)) (.t 7)),
  mO 9 8,
  mG 10 0 9 false,
  gO 11 (.bin .rem (.t 10) (.c (.int .i64 16))) 9 false,
  gO 12 (.call false 85 [(.t 11)]) 9 false,
  gO 13 (.un .not (.t 12)) 9 false,
  nO 14 (.pick (.t 9) (.c (.bool true)) (.t 13))] false) (.cond (.t 14) (.seq (.region [nO 2 (.mov (.c (.int .i64 1)))] false) .ret) .skip)) (.seq (.region [nO 2 (.mov (.c (.int .i64 0)))] false) .ret)))
def i53 : F := ⟨1, 15, j53, [.t 2]⟩
theorem b53 : i53.body = j53 := rfl
theorem q53 : i53.res = [.t 2] := rfl
theorem c53 : chkF Tryz.prog Tryz.f53 i53 = true := by kernel_rfl
theorem s53 {m E} (hE : HE E) (hm : HM i53 m E) : Sound Tryz.prog 53 m := sound_of i53 Tryz.func53 rfl c53 hE hm
def j54 : C := (.seq (.region [nO 1 (.box (.t 0)),
  nO 2 (.mov (.c (.int .i64 0)))] false) (.seq (.region [nO 3 (.load true 7 (.t 1)),
  nO 4 (.call false 105 [(.t 3)]),
  nO 5 (.call false 104 [(.t 4)]),
  mO 2 5] false) .ret))
def i54 : F := ⟨1, 6, j54, [.t 2]⟩
theorem b54 : i54.body = j54 := rfl
theorem q54 : i54.res = [.t 2] := rfl
theorem c54 : chkF Tryz.prog Tryz.f54 i54 = true := by kernel_rfl
theorem s54 {m E} (hE : HE E) (hm : HM i54 m E) : Sound Tryz.prog 54 m := sound_of i54 Tryz.func54 rfl c54 hE hm
def j55 : C := (.seq (.region [nO 4 (.box (.t 0)),
  nO 7 (.box (.t 3)),
  nO 8 (.mov (.c (.bool false)))] false) (.seq (.seq (.region [nO 10 (.fad 2 (.t 7)),
  nO 11 (.load false 1 (.t 10)),
  nO 12 (.bin .lss (.t 11) (.c (.int .i64 0))),
  mO 13 12,
  gO 14 (.fad 2 (.t 7)) 13 false,
  gO 15 (.load false 1 (.t 14)) 13 false,
  gO 16 (.bin .gtr (.t 15) (.c (.int .i64 1073741824))) 13 false,
  nO 17 (.pick (.t 13) (.c (.bool true)) (.t 16)),
  mO 18 17,
  gO 19 (.fad 7 (.t 7)) 18 false,
  gO 20 (.load false 1 (.t 19)) 18 false,
  gO 21 (.bin .lss (.t 20) (.c (.int .i64 0))) 18 false,
  nO 22 (.pick (.t 18) (.c (.bool true)) (.t 21)),
  mO 23 22,
  gO 24 (.fad 7 (.t 7)) 23 false,
  gO 25 (.load false 1 (.t 24)) 23 false,
  gO 26 (.bin .gtr (.t 25) (.c (.int .i64 1000))) 23 false,
  nO 27 (.pick (.t 23) (.c (.bool true)) (.t 26))] false) (.cond (.t 27) (.seq (.region [nO 8 (.mov (.c (.bool false)))] false) .ret) .skip)) (.seq (.region [mO 28 1,
  mO 29 2,
  nO 30 (.fad 4 (.t 7)),
  nO 31 (.load false 1 (.t 30)),
  nO 32 (.call false 106 [(.t 28), (.t 29), (.t 31)]),
  mO 33 32,
  mG 34 1 33 true,
  mG 35 2 33 true,
  gO 36 (.fad 5 (.t 7)) 33 true,
  gO 37 (.load false 1 (.t 36)) 33 true,
  gO 38 (.call false 106 [(.t 34), (.t 35), (.t 37)]) 33 true,
  nO 39 (.pick (.t 33) (.t 38) (.c (.bool false))),
  mO 40 39,
  mG 41 1 40 true,
  mG 42 2 40 true,
  gO 43 (.fad 6 (.t 7)) 40 true,
  gO 44 (.load false 1 (.t 43)) 40 true,
  gO 45 (.call false 106 [(.t 41), (.t 42), (.t 44)]) 40 true,
  nO 46 (.pick (.t 40) (.t 45) (.c (.bool false))),
  mO 9 46] false) (.seq (.region [mO 47 9,
  mO 48 47,
  mG 49 2 48 true,
  gO 50 (.load true 16 (.t 7)) 48 true,
  gO 51 (.call false 107 [(.t 49), (.t 50)]) 48 true,
  nO 52 (.pick (.t 48) (.t 51) (.c (.bool false))),
  mO 53 52,
  gO 54 (.load true 16 (.t 7)) 53 true,
  gO 55 (.call false 108 [(.t 54)]) 53 true,
  nO 56 (.pick (.t 53) (.t 55) (.c (.bool false))),
  mO 57 56,
  mG 58 1 57 true,
  mG 59 2 57 true,
  gO 60 (.fad 8 (.t 7)) 57 true,
  gO 61 (.load false 1 (.t 60)) 57 true,
  gO 62 (.fad 3 (.t 4)) 57 true,
  gO 63 (.load false 1 (.t 62)) 57 true,
  gO 64 (.call false 31 [(.t 58), (.t 59), (.t 61), (.t 63)]) 57 true,
  gO 65 (.bin .eql (.t 64) (.c (.int .i64 0))) 57 true,
  nO 66 (.pick (.t 57) (.t 65) (.c (.bool false))),
  mO 67 66,
  mG 68 1 67 true,
  mG 69 2 67 true,
  gO 70 (.fad 2 (.t 4)) 67 true,
  gO 71 (.load false 1 (.t 70)) 67 true,
  gO 72 (.fad 9 (.t 7)) 67 true,
  gO 73 (.load false 1 (.t 72)) 67 true,
  gO 74 (.call false 48 [(.t 68), (.t 69), (.t 71), (.t 73)]) 67 true,
  gO 75 (.bin .eql (.t 74) (.c (.int .i64 0))) 67 true,
  nO 76 (.pick (.t 67) (.t 75) (.c (.bool false))),
  mO 77 76,
  gO 78 (.load true 7 (.t 4)) 77 true,
  gO 79 (.fad 10 (.t 7)) 77 true,
  gO 80 (.load true 5 (.t 79)) 77 true,
  gO 81 (.fad 15 (.t 7)) 77 true,
  gO 82 (.load false 1 (.t 81)) 77 true,
  gO 83 (.call false 109 [(.t 78), (.t 80), (.t 82)]) 77 true,
  gO 84 (.bin .eql (.t 83) (.c (.int .i64 0))) 77 true,
  nO 85 (.pick (.t 77) (.t 84) (.c (.bool false))),
  mO 8 85] false) .ret))))
def i55 : F := ⟨4, 86, j55, [.t 8]⟩
theorem b55 : i55.body = j55 := rfl
theorem q55 : i55.res = [.t 8] := rfl
theorem c55 : chkF Tryz.prog Tryz.f55 i55 = true := by kernel_rfl
theorem s55 {m E} (hE : HE E) (hm : HM i55 m E) : Sound Tryz.prog 55 m := sound_of i55 Tryz.func55 rfl c55 hE hm
def j56 : C := (.seq (.region [nO 2 (.mov (.c (.bool false)))] false) (.seq (.region [mO 3 0,
  nO 4 (.call false 110 [(.t 3), (.c (.int .i64 0)), (.c (.int .i64 2147483647))]),
  mO 2 4] false) .ret))
def i56 : F := ⟨1, 5, j56, [.t 2]⟩
theorem b56 : i56.body = j56 := rfl
theorem q56 : i56.res = [.t 2] := rfl
theorem c56 : chkF Tryz.prog Tryz.f56 i56 = true := by kernel_rfl
theorem s56 {m E} (hE : HE E) (hm : HM i56 m E) : Sound Tryz.prog 56 m := sound_of i56 Tryz.func56 rfl c56 hE hm
def j59 : C := (.seq (.region [nO 4 (.mov (.c (.bool false)))] false) (.seq (.seq (.region [mO 6 0,
  nO 7 (.len (.t 6)),
  mO 8 1,
  nO 9 (.len (.t 8)),
  nO 10 (.bin .neq (.t 7) (.t 9))] false) (.cond (.t 10) (.seq (.region [nO 4 (.mov (.c (.bool false)))] false) .ret) .skip)) (.seq (.seq (.region [nO 5 (.mov (.c (.int .i64 0)))] false) (.block 0 (.loop (.keep [0, 1, 5] (.seq (.seq (.region [mO 11 5,
  mO 12 0,
  nO 13 (.len (.t 12)),
  nO 14 (.bin .lss (.t 11) (.t 13))] false) (.cond (.t 14) .skip (.exit 0))) (.seq (.block 1 (.seq (.region [⟨some 17, .mov (.t 0), none, [18, 21, 22, 23, 24], []⟩,⟨some 18, .mov (.t 5), none, [17, 21, 22, 23, 24], []⟩,⟨some 19, .iad 2 (.t 17) (.t 18), none, [21, 22, 23, 24], [0, 1]⟩,⟨some 20, .load true 2 (.t 19), none, [21, 22, 23, 24], [0, 1, 2]⟩,⟨some 21, .mov (.t 1), none, [17, 18, 19, 20, 22], []⟩,⟨some 22, .mov (.t 5), none, [17, 18, 19, 20, 21], []⟩,⟨some 23, .iad 2 (.t 21) (.t 22), none, [17, 18, 19, 20], [4, 5]⟩,⟨some 24, .load true 2 (.t 23), none, [17, 18, 19, 20], [4, 5, 6]⟩,⟨some 25, .eqs true [true, true] (.t 20) (.t 24), none, [], [0, 1, 2, 3, 4, 5, 6, 7]⟩] true) (.cond (.t 25) (.seq (.region [nO 4 (.mov (.c (.bool false)))] false) .ret) .skip))) (.region [mO 15 5,
  nO 16 (.bin .add (.t 15) (.c (.int .i64 1))),
  mO 5 16] false))))))) (.seq (.region [nO 4 (.mov (.c (.bool true)))] false) .ret))))
def i59 : F := ⟨2, 26, j59, [.t 4]⟩
theorem b59 : i59.body = j59 := rfl
theorem q59 : i59.res = [.t 4] := rfl
theorem c59 : chkF Tryz.prog Tryz.f59 i59 = true := by kernel_rfl
theorem s59 {m E} (hE : HE E) (hm : HM i59 m E) : Sound Tryz.prog 59 m := sound_of i59 Tryz.func59 rfl c59 hE hm
def j60 : C := (.seq (.region [nO 6 (.mov (.c (.bool false)))] false) (.seq (.region [mO 7 0,
  mO 8 1,
  nO 9 (.bin .geq (.t 7) (.t 8)),
  mO 10 9,
  mG 11 0 10 true,
  mG 12 2 10 true,
  gO 13 (.bin .leq (.t 11) (.t 12)) 10 true,
  nO 14 (.pick (.t 10) (.t 13) (.c (.bool false))),
  mO 6 14] false) .ret))
def i60 : F := ⟨3, 15, j60, [.t 6]⟩
theorem b60 : i60.body = j60 := rfl
theorem q60 : i60.res = [.t 6] := rfl
theorem c60 : chkF Tryz.prog Tryz.f60 i60 = true := by kernel_rfl
theorem s60 {m E} (hE : HE E) (hm : HM i60 m E) : Sound Tryz.prog 60 m := sound_of i60 Tryz.func60 rfl c60 hE hm
def j61 : C := (.seq (.region [nO 10 (.box (.t 4)),
  nO 12 (.nilsl 51 3 0),
  nO 13 (.mov (.c (.int .i64 0))),
  nO 14 (.mov (.c (.int .i64 0))),
  nO 15 (.mov (.c (.int .i64 0)))] false) (.seq (.region [mO 19 0,
  mO 20 1,
  mO 21 2,
  mO 22 3,
  nO 23 (.call true 48 [(.t 19), (.t 20), (.t 21), (.t 22)]),
  mO 15 23] false) (.seq (.seq (.region [mO 24 15,
  nO 25 (.bin .neq (.t 24) (.c (.int .i64 0))),
  mO 26 25,
  mG 27 0 26 false,
  mG 28 1 26 false,
  gO 29 (.load false 1 (.t 10)) 26 false,
  gO 30 (.call false 28 [(.t 27), (.t 28), (.t 29)]) 26 false,
  gO 31 (.un .not (.t 30)) 26 false,
  nO 32 (.pick (.t 26) (.c (.bool true)) (.t 31)),
  mO 33 32,
  mG 34 5 33 false,
  gO 35 (.call false 116 [(.t 34)]) 33 false,
  gO 36 (.un .not (.t 35)) 33 false,
  nO 37 (.pick (.t 33) (.c (.bool true)) (.t 36))] false) (.cond (.t 37) (.seq (.region [nO 12 (.nilsl 51 3 1),
  nO 13 (.mov (.c (.int .i64 0))),
  nO 14 (.mov (.c (.int .i64 0))),
  nO 15 (.mov (.c (.int .i64 1)))] false) .ret) .skip)) (.seq (.region [nO 38 (.load false 1 (.t 10)),
  mO 39 5,
  nO 40 (.build [.int .i64 0, .int .i64 0, .int .i64 0] [(0, 1, (.t 38)), (1, 1, (.t 39))]),
  nO 16 (.alloc [.int .i64 0, .int .i64 0, .int .i64 0]),⟨none, .store none 3 (.t 16) (.t 40), none, [], []⟩] false) (.seq (.frz [10] (.region [mO 41 3,
  nO 42 (.mkf 118 [(.t 10)]),
  nO 43 (.call false 117 [(.t 41), (.t 42)]),
  mO 17 43] false)) (.seq (.block 0 (.seq (.region [mO 45 17,
  nO 46 (.bin .geq (.t 45) (.c (.int .i64 0))),
  mO 44 46] false) (.cond (.t 44) (.seq (.region [mO 47 3,
  nO 48 (.call true 101 [(.t 47)]),
  mO 12 48] false) (.seq (.region [mO 49 12,
  mO 50 17,
  nO 51 (.load true 3 (.t 16)),
  nO 52 (.iad 3 (.t 49) (.t 50)),⟨none, .store none 3 (.t 52) (.t 51), none, [], []⟩] false) (.seq (.region [mO 53 12,
  mO 12 53,
  nO 13 (.mov (.c (.int .i64 0))),
  nO 14 (.mov (.c (.int .i64 0))),
  nO 15 (.mov (.c (.int .i64 0)))] false) .ret))) (.seq (.region [mO 55 3,
  nO 56 (.len (.t 55)),
  mO 57 2,
  nO 58 (.bin .lss (.t 56) (.t 57)),
  mO 54 58] false) (.cond (.t 54) (.seq (.region [mO 59 0,
  mO 60 3,
  nO 61 (.load true 3 (.t 16)),
  nO 62 (.call true 119 [(.t 59), (.t 60), (.t 61)]),
  mO 12 62,
  nO 13 (.mov (.c (.int .i64 0))),
  nO 14 (.mov (.c (.int .i64 0))),
  nO 15 (.mov (.c (.int .i64 0)))] false) .ret) (.seq (.region [⟨some 64, .mov (.t 0), none, [65, 66, 67, 68, 69], []⟩,⟨some 65, .mov (.t 3), none, [64, 69], []⟩,⟨some 66, .iad 3 (.t 65) (.c (.int .i64 0)), none, [64, 69], [1]⟩,⟨some 67, .fad 0 (.t 66), none, [64, 69], [1, 2]⟩,⟨some 68, .load false 1 (.t 67), none, [64, 69], [1, 2, 3]⟩,⟨some 69, .load false 1 (.t 10), none, [64, 65, 66, 67, 68], []⟩,⟨some 70, .call false 28 [(.t 64), (.t 68), (.t 69)], none, [], [0, 1, 2, 3, 4, 5]⟩,⟨some 63, .mov (.t 70), none, [], [0, 1, 2, 3, 4, 5, 6]⟩] true) (.cond (.t 63) (.seq (.region [⟨some 71, .mov (.t 3), none, [73, 74, 75, 76, 77, 78, 79], []⟩,⟨some 72, .call true 101 [(.t 71)], none, [73, 74, 75, 76, 77, 78, 79], [0]⟩,⟨some 73, .load false 1 (.t 10), none, [12, 71, 72, 75, 76, 77, 78, 79], []⟩,⟨some 74, .bin .add (.t 73) (.c (.int .i64 1)), none, [12, 71, 72, 75, 76, 77, 78, 79], [2]⟩,⟨some 75, .mov (.t 3), none, [12, 13, 71, 72, 73, 74], []⟩,⟨some 76, .iad 3 (.t 75) (.c (.int .i64 0)), none, [12, 13, 71, 72, 73, 74], [4]⟩,⟨some 77, .fad 0 (.t 76), none, [12, 13, 71, 72, 73, 74], [4, 5]⟩,⟨some 78, .load false 1 (.t 77), none, [12, 13, 71, 72, 73, 74], [4, 5, 6]⟩,⟨some 79, .bin .add (.t 78) (.c (.int .i64 1)), none, [12, 13, 71, 72, 73, 74], [4, 5, 6, 7]⟩,⟨some 12, .mov (.t 72), none, [73, 74, 75, 76, 77, 78, 79], [0, 1]⟩,⟨some 13, .mov (.t 74), none, [75, 76, 77, 78, 79], [0, 1, 2, 3, 9]⟩,⟨some 14, .mov (.t 79), none, [], [0, 1, 2, 3, 4, 5, 6, 7, 8, 9, 10]⟩,⟨some 15, .mov (.c (.int .i64 0)), none, [], [0, 1, 2, 3, 4, 5, 6, 7, 8, 9, 10, 11]⟩] true) .ret) .skip))))))) (.seq (.region [mO 80 3,
  mO 81 3,
  nO 82 (.len (.t 81)),
  nO 83 (.bin .sub (.t 82) (.c (.int .i64 1))),
  nO 84 (.iad 3 (.t 80) (.t 83)),
  nO 85 (.fad 0 (.t 84)),
  nO 86 (.load false 1 (.t 85)),
  mO 18 86] false) (.seq (.region [⟨some 87, .mov (.t 0), none, [88, 89, 90, 91, 92, 93, 95, 96, 97, 98], []⟩,⟨some 88, .mov (.t 3), none, [87, 89, 90, 91, 93, 95, 96, 97, 98], []⟩,⟨some 89, .mov (.t 3), none, [87, 88, 93, 95, 96, 97, 98], []⟩,⟨some 90, .len (.t 89), none, [87, 88, 93, 95, 96, 97, 98], [2]⟩,⟨some 91, .bin .sub (.t 90) (.c (.int .i64 1)), none, [87, 88, 93, 95, 96, 97, 98], [2, 3]⟩,⟨some 92, .cut 3 (.t 88) none (some (.t 91)), none, [87, 93, 95, 96, 97, 98], [1, 2, 3, 4]⟩,⟨some 93, .load true 3 (.t 16), none, [87, 88, 89, 90, 91, 92, 95, 96, 97, 98], []⟩,⟨some 94, .call true 119 [(.t 87), (.t 92), (.t 93)], none, [95, 96, 97, 98], [0, 1, 2, 3, 4, 5, 6]⟩,⟨some 95, .mov (.t 18), none, [12, 87, 88, 89, 90, 91, 92, 93, 94, 97, 98], []⟩,⟨some 96, .bin .add (.t 95) (.c (.int .i64 1)), none, [12, 87, 88, 89, 90, 91, 92, 93, 94, 97, 98], [8]⟩,⟨some 97, .load false 1 (.t 10), none, [12, 13, 87, 88, 89, 90, 91, 92, 93, 94, 95, 96], []⟩,⟨some 98, .bin .add (.t 97) (.c (.int .i64 1)), none, [12, 13, 87, 88, 89, 90, 91, 92, 93, 94, 95, 96], [10]⟩,⟨some 12, .mov (.t 94), none, [95, 96, 97, 98], [0, 1, 2, 3, 4, 5, 6, 7]⟩,⟨some 13, .mov (.t 96), none, [97, 98], [0, 1, 2, 3, 4, 5, 6, 7, 8, 9, 12]⟩,⟨some 14, .mov (.t 98), none, [], [0, 1, 2, 3, 4, 5, 6, 7, 8, 9, 10, 11, 12, 13]⟩,⟨some 15, .mov (.c (.int .i64 0)), none, [], [0, 1, 2, 3, 4, 5, 6, 7, 8, 9, 10, 11, 12, 13, 14]⟩] true) .ret))))))))
def i61 : F := ⟨6, 99, j61, [.t 12, .t 13, .t 14, .t 15]⟩
theorem b61 : i61.body = j61 := rfl
theorem q61 : i61.res = [.t 12, .t 13, .t 14, .t 15] := rfl
theorem c61 : chkF Tryz.prog Tryz.f61 i61 = true := by kernel_rfl
theorem s61 {m E} (hE : HE E) (hm : HM i61 m E) : Sound Tryz.prog 61 m := sound_of i61 Tryz.func61 rfl c61 hE hm
def j62 : C := (.seq (.region [nO 1 (.box (.t 0)),
  nO 2 (.mov (.c (.bool false)))] false) (.seq (.region [nO 3 (.fad 3 (.t 1)),
  nO 4 (.load false 1 (.t 3)),
  nO 5 (.bin .neq (.t 4) (.c (.int .i64 0))),
  mO 6 5,
  gO 7 (.fad 8 (.t 1)) 6 false,
  gO 8 (.load false 1 (.t 7)) 6 false,
  gO 9 (.len (.t 8)) 6 false,
  gO 10 (.bin .gtr (.t 9) (.c (.int .i64 0))) 6 false,
  nO 11 (.pick (.t 6) (.c (.bool true)) (.t 10)),
  mO 2 11] false) .ret))
def i62 : F := ⟨1, 12, j62, [.t 2]⟩
theorem b62 : i62.body = j62 := rfl
theorem q62 : i62.res = [.t 2] := rfl
theorem c62 : chkF Tryz.prog Tryz.f62 i62 = true := by kernel_rfl
theorem s62 {m E} (hE : HE E) (hm : HM i62 m E) : Sound Tryz.prog 62 m := sound_of i62 Tryz.func62 rfl c62 hE hm
def j63 : C := (.seq (.region [nO 3 (.box (.t 1)),
  nO 4 (.mov (.c (.row [])))] false) (.seq (.frz [3] (.region [mO 5 0,
  nO 6 (.call true 101 [(.t 5)]),
  nO 7 (.mkf 121 [(.t 3)]),
  nO 8 (.callo 120 [(.t 6), (.t 7)]),
  mO 4 8] false)) .ret))
def i63 : F := ⟨2, 9, j63, [.t 4]⟩
theorem b63 : i63.body = j63 := rfl
theorem q63 : i63.res = [.t 4] := rfl
theorem c63 : chkF Tryz.prog Tryz.f63 i63 = true := by kernel_rfl
theorem s63 {m E} (hE : HE E) (hm : HM i63 m E) : Sound Tryz.prog 63 m := sound_of i63 Tryz.func63 rfl c63 hE hm
def j64 : C := (.seq (.region [nO 6 (.box (.t 2)),
  nO 8 (.alloc [.int .i64 0, .int .i64 0, .int .i64 0, .int .i64 0, .int .i64 0, .int .i64 0, .int .i64 0, .int .i64 0, .int .i64 0, .int .i64 0, .int .i64 0, .int .i64 0, .int .i64 0, .int .i64 0, .row [], .row []])] false) (.seq (.region [⟨some 9, .mov (.t 3), none, [10, 11, 12, 13, 14, 15, 16, 17, 18, 19, 20, 21, 22], []⟩,⟨some 10, .mov (.t 0), none, [9, 11, 12, 13, 14, 15, 16, 17, 18, 19, 20, 21, 22], []⟩,⟨some 11, .fad 10 (.t 6), none, [9, 10, 14, 15, 16, 17, 18, 19, 20, 21, 22], []⟩,⟨some 12, .fad 0 (.t 11), none, [9, 10, 14, 15, 16, 17, 18, 19, 20, 21, 22], [2]⟩,⟨some 13, .load false 1 (.t 12), none, [9, 10, 14, 15, 16, 17, 18, 19, 20, 21, 22], [2, 3]⟩,⟨some 14, .fad 10 (.t 6), none, [9, 10, 11, 12, 13, 18, 19, 20, 21, 22], []⟩,⟨some 15, .fad 1 (.t 14), none, [9, 10, 11, 12, 13, 18, 19, 20, 21, 22], [5]⟩,⟨some 16, .load false 1 (.t 15), none, [9, 10, 11, 12, 13, 18, 19, 20, 21, 22], [5, 6]⟩,⟨some 17, .mx (.t 16) (.c (.int .i64 1)), none, [9, 10, 11, 12, 13, 18, 19, 20, 21, 22], [5, 6, 7]⟩,⟨some 18, .fad 2 (.t 6), none, [9, 10, 11, 12, 13, 14, 15, 16, 17, 20, 21, 22], []⟩,⟨some 19, .load false 1 (.t 18), none, [9, 10, 11, 12, 13, 14, 15, 16, 17, 20, 21, 22], [9]⟩,⟨some 20, .mov (.t 1), none, [9, 10, 11, 12, 13, 14, 15, 16, 17, 18, 19, 21], []⟩,⟨some 21, .load true 16 (.t 6), none, [9, 10, 11, 12, 13, 14, 15, 16, 17, 18, 19, 20], []⟩,⟨some 22, .call false 122 [(.t 20), (.t 21)], none, [9, 10, 11, 12, 13, 14, 15, 16, 17, 18, 19], [11, 12]⟩,⟨some 23, .build [.int .i64 0, .int .i64 0, .int .i64 0, .int .i64 0, .int .i64 0, .int .i64 0, .int .i64 0, .int .i64 0, .int .i64 0, .int .i64 0, .int .i64 0, .int .i64 0, .int .i64 0, .int .i64 0, .row [], .row []] [(0, 1, (.c (.int .i64 3))), (3, 1, (.t 9)), (5, 1, (.t 10)), (6, 1, (.t 13)), (7, 1, (.t 17)), (8, 1, (.t 19)), (14, 1, (.t 22))], none, [], [0, 1, 2, 3, 4, 5, 6, 7, 8, 9, 10, 11, 12, 13]⟩,⟨none, .store none 16 (.t 8) (.t 23), none, [], [0, 1, 2, 3, 4, 5, 6, 7, 8, 9, 10, 11, 12, 13, 14]⟩] true) .ret))
def i64 : F := ⟨4, 24, j64, [.c 8 16 true]⟩
theorem b64 : i64.body = j64 := rfl
theorem q64 : i64.res = [.c 8 16 true] := rfl
theorem c64 : chkF Tryz.prog Tryz.f64 i64 = true := by kernel_rfl
theorem s64 {m E} (hE : HE E) (hm : HM i64 m E) : Sound Tryz.prog 64 m := sound_of i64 Tryz.func64 rfl c64 hE hm
def j65 : C := (.seq (.region [nO 4 (.mov (.c (.int .i64 0))),
  nO 5 (.mov (.c (.int .i64 0)))] false) (.seq (.region [mO 10 0,
  nO 11 (.call false 123 [(.t 10)]),
  mO 9 11,
  nO 12 (.ext (.t 9) 0),
  nO 13 (.ext (.t 9) 1),
  mO 6 12,
  mO 7 13] false) (.seq (.seq (.region [mO 14 7,
  nO 15 (.bin .neq (.t 14) (.c (.int .i64 0)))] false) (.cond (.t 15) (.seq (.region [mO 16 7,
  nO 4 (.mov (.c (.int .i64 0))),
  mO 5 16] false) .ret) .skip)) (.seq (.region [mO 18 1,
  nO 19 (.call false 124 [(.t 18)]),
  mO 17 19,
  nO 20 (.ext (.t 17) 0),
  nO 21 (.ext (.t 17) 1),
  mO 8 20,
  mO 7 21] false) (.seq (.seq (.region [mO 22 7,
  nO 23 (.bin .neq (.t 22) (.c (.int .i64 0)))] false) (.cond (.t 23) (.seq (.region [mO 24 7,
  nO 4 (.mov (.c (.int .i64 0))),
  mO 5 24] false) .ret) .skip)) (.seq (.region [mO 25 6,
  mO 26 8,
  nO 27 (.call false 125 [(.t 25), (.t 26)]),
  mO 4 27,
  nO 5 (.mov (.c (.int .i64 0)))] false) .ret))))))
def i65 : F := ⟨2, 28, j65, [.t 4, .t 5]⟩
theorem b65 : i65.body = j65 := rfl
theorem q65 : i65.res = [.t 4, .t 5] := rfl
theorem c65 : chkF Tryz.prog Tryz.f65 i65 = true := by kernel_rfl
theorem s65 {m E} (hE : HE E) (hm : HM i65 m E) : Sound Tryz.prog 65 m := sound_of i65 Tryz.func65 rfl c65 hE hm
def j66 : C := (.seq (.region [nO 4 (.mov (.c (.int .i64 0))),
  nO 5 (.mov (.c (.int .i64 0)))] false) (.seq (.region [mO 12 0,
  nO 13 (.call false 123 [(.t 12)]),
  mO 11 13,
  nO 14 (.ext (.t 11) 0),
  nO 15 (.ext (.t 11) 1),
  mO 6 14,
  mO 7 15] false) (.seq (.block 0 (.seq (.region [mO 17 7,
  nO 18 (.bin .neq (.t 17) (.c (.int .i64 0))),
  mO 16 18] false) (.cond (.t 16) (.seq (.region [mO 19 7,
  nO 4 (.mov (.c (.int .i64 0))),
  mO 5 19] false) .ret) (.seq (.region [mO 21 1,
  nO 22 (.call false 70 [(.t 21)]),
  nO 23 (.un .not (.t 22)),
  mO 20 23] false) (.cond (.t 20) (.seq (.region [nO 4 (.mov (.c (.int .i64 0))),
  nO 5 (.mov (.c (.int .i64 1)))] false) .ret) (.seq (.region [mO 25 1,
  nO 26 (.len (.t 25)),
  nO 27 (.bin .eql (.t 26) (.c (.int .i64 0))),
  mO 24 27] false) (.cond (.t 24) (.seq (.region [nO 4 (.mov (.c (.int .i64 0))),
  nO 5 (.mov (.c (.int .i64 7)))] false) .ret) .skip))))))) (.seq (.region [mO 28 1,
  nO 29 (.iad 1 (.t 28) (.c (.int .i64 0))),
  nO 30 (.load false 1 (.t 29)),
  mO 8 30] false) (.seq (.seq (.region [mO 31 1,
  nO 32 (.len (.t 31)),
  nO 33 (.mov (.c (.int .i64 0)))] false) (.block 1 (.loop (.keep [0, 8, 31, 32, 33] (.seq (.region [nO 34 (.bin .lss (.t 33) (.t 32))] false) (.seq (.cond (.t 34) .skip (.exit 1)) (.seq (.block 2 (.seq (.region [nO 35 (.iad 1 (.t 31) (.t 33)),
  nO 36 (.load false 1 (.t 35)),
  mO 10 36] false) (.seq (.region [mO 37 0,
  mO 38 10,
  mO 39 8,
  nO 40 (.call false 28 [(.t 37), (.t 38), (.t 39)])] false) (.cond (.t 40) (.region [mO 41 10,
  mO 8 41] false) .skip)))) (.region [nO 42 (.bin .add (.t 33) (.c (.int .i64 1))),
  mO 33 42] false)))))))) (.seq (.region [mO 43 8,
  mO 4 43,
  nO 5 (.mov (.c (.int .i64 0)))] false) .ret))))))
def i66 : F := ⟨2, 44, j66, [.t 4, .t 5]⟩
theorem c66 : chkF Tryz.prog Tryz.f66 i66 = true := by kernel_rfl
theorem s66 {m E} (hE : HE E) (hm : HM i66 m E) : Sound Tryz.prog 66 m := sound_of i66 Tryz.func66 rfl c66 hE hm
def j67 : C := (.seq (.region [nO 4 (.mov (.c (.row [])))] false) (.seq (.region [nO 5 (.mov (.c (.row [])))] false) (.seq (.seq (.region [nO 6 (.mov (.c (.int .i64 0)))] false) (.block 0 (.loop (.keep [0, 1, 5, 6] (.seq (.seq (.region [mO 8 6,
  nO 9 (.bin .lss (.t 8) (.c (.int .i64 8)))] false) (.cond (.t 9) .skip (.exit 0))) (.seq (.block 1 (.seq (.seq (.region [mO 12 0,
  mO 13 1,
  mO 14 6,
  nO 15 (.call false 28 [(.t 12), (.t 13), (.t 14)]),
  nO 16 (.un .not (.t 15))] false) (.cond (.t 16) (.exit 1) .skip)) (.seq (.region [mO 17 5,
  nO 18 (.len (.t 17)),
  mO 7 18] false) (.seq (.block 2 (.loop (.keep [0, 1, 5, 6, 7] (.seq (.seq (.region [mO 19 7,
  nO 20 (.bin .gtr (.t 19) (.c (.int .i64 0))),
  mO 21 20,
  mG 22 0 21 true,
  mG 23 6 21 true,
  mG 24 5 21 true,
  mG 25 7 21 true,
  gO 26 (.bin .sub (.t 25) (.c (.int .i64 1))) 21 true,
  gO 27 (.iad 1 (.t 24) (.t 26)) 21 true,
  gO 28 (.load false 1 (.t 27)) 21 true,
  gO 29 (.call false 28 [(.t 22), (.t 23), (.t 28)]) 21 true,
  nO 30 (.pick (.t 21) (.t 29) (.c (.bool false)))] false) (.cond (.t 30) .skip (.exit 2))) (.block 3 (.region [mO 31 7,
  nO 32 (.bin .sub (.t 31) (.c (.int .i64 1))),
  mO 7 32] false)))))) (.region [⟨some 33, .bsl 3 1 0 [.int .i64 0] [], none, [34, 35, 36, 38, 39, 41, 42, 43], []⟩,⟨some 34, .mov (.t 5), none, [33, 35, 38, 39, 41, 42, 43], []⟩,⟨some 35, .mov (.t 7), none, [33, 34, 38, 39, 41, 42, 43], []⟩,⟨some 36, .cut 1 (.t 34) none (some (.t 35)), none, [33, 38, 39, 41, 42, 43], [1, 2]⟩,⟨some 37, .app 3 1 8 (.t 33) (.t 36), none, [38, 39, 41, 42, 43], [0, 1, 2, 3]⟩,⟨some 38, .mov (.t 6), none, [33, 34, 35, 36, 37, 41, 42, 43], []⟩,⟨some 39, .bsl 3 1 1 [.int .i64 0] [(0, (.t 38))], none, [33, 34, 35, 36, 37, 41, 42, 43], [5]⟩,⟨some 40, .app 3 1 8 (.t 37) (.t 39), none, [41, 42, 43], [0, 1, 2, 3, 4, 5, 6]⟩,⟨some 41, .mov (.t 5), none, [33, 34, 35, 36, 37, 38, 39, 40, 42], []⟩,⟨some 42, .mov (.t 7), none, [33, 34, 35, 36, 37, 38, 39, 40, 41], []⟩,⟨some 43, .cut 1 (.t 41) (some (.t 42)) none, none, [33, 34, 35, 36, 37, 38, 39, 40], [8, 9]⟩,⟨some 44, .app 3 1 8 (.t 40) (.t 43), none, [], [0, 1, 2, 3, 4, 5, 6, 7, 8, 9, 10]⟩,⟨some 5, .mov (.t 44), none, [], [0, 1, 2, 3, 4, 5, 6, 7, 8, 9, 10, 11]⟩] true))))) (.frz [5] (.region [mO 10 6,
  nO 11 (.bin .add (.t 10) (.c (.int .i64 1))),
  mO 6 11] false)))))))) (.seq (.region [mO 45 5,
  mO 4 45] false) .ret))))
def i67 : F := ⟨2, 46, j67, [.t 4]⟩
theorem c67 : chkF Tryz.prog Tryz.f67 i67 = true := by kernel_rfl
theorem s67 {m E} (hE : HE E) (hm : HM i67 m E) : Sound Tryz.prog 67 m := sound_of i67 Tryz.func67 rfl c67 hE hm
def j68 : C := (.seq (.region [nO 4 (.mov (.c (.bool false)))] false) (.seq (.region [mO 5 0,
  mO 6 1,
  nO 7 (.call false 117 [(.t 5), (.t 6)]),
  nO 8 (.bin .geq (.t 7) (.c (.int .i64 0))),
  mO 4 8] false) .ret))
def i68 : F := ⟨2, 9, j68, [.t 4]⟩
theorem b68 : i68.body = j68 := rfl
theorem q68 : i68.res = [.t 4] := rfl
theorem c68 : chkF Tryz.prog Tryz.f68 i68 = true := by kernel_rfl
theorem s68 {m E} (hE : HE E) (hm : HM i68 m E) : Sound Tryz.prog 68 m := sound_of i68 Tryz.func68 rfl c68 hE hm
def j69 : C := (.seq (.region [nO 2 (.box (.t 0)),
  nO 3 (.mov (.c (.bool false)))] false) (.seq (.region [nO 4 (.fad 0 (.t 2)),
  nO 5 (.load false 1 (.t 4)),
  nO 6 (.load false 1 (.t 1)),
  nO 7 (.bin .eql (.t 5) (.t 6)),
  mO 3 7] false) .ret))
def i69 : F := ⟨2, 8, j69, [.t 3]⟩
theorem b69 : i69.body = j69 := rfl
theorem q69 : i69.res = [.t 3] := rfl
theorem c69 : chkF Tryz.prog Tryz.f69 i69 = true := by kernel_rfl
theorem s69 {m E} (hE : HE E) (hm : HM i69 m E) : Sound Tryz.prog 69 m := sound_of i69 Tryz.func69 rfl c69 hE hm
def j70 : C := (.seq (.region [nO 2 (.mov (.c (.bool false)))] false) (.seq (.region [mO 3 0,
  nO 4 (.call false 126 [(.t 3), (.c (.fn 127 []))]),
  nO 5 (.un .not (.t 4)),
  mO 2 5] false) .ret))
def i70 : F := ⟨1, 6, j70, [.t 2]⟩
theorem b70 : i70.body = j70 := rfl
theorem q70 : i70.res = [.t 2] := rfl
theorem c70 : chkF Tryz.prog Tryz.f70 i70 = true := by kernel_rfl
theorem s70 {m E} (hE : HE E) (hm : HM i70 m E) : Sound Tryz.prog 70 m := sound_of i70 Tryz.func70 rfl c70 hE hm
def j71 : C := (.seq (.region [nO 6 (.mov (.c (.bool false)))] false) (.seq (.seq (.region [mO 9 2,
  nO 10 (.len (.t 9)),
  nO 11 (.mov (.c (.int .i64 0)))] false) (.block 0 (.loop (.keep [0, 1, 9, 10, 11] (.seq (.region [nO 12 (.bin .lss (.t 11) (.t 10))] false) (.seq (.cond (.t 12) .skip (.exit 0)) (.seq (.block 1 (.seq (.region [nO 13 (.iad 1 (.t 9) (.t 11)),
  nO 14 (.load false 1 (.t 13)),
  mO 8 14] false) (.seq (.seq (.region [mO 15 0,
  mO 16 8,
  mO 17 1,
  nO 18 (.call false 28 [(.t 15), (.t 16), (.t 17)]),
  nO 19 (.un .not (.t 18))] false) (.cond (.t 19) (.seq (.region [nO 6 (.mov (.c (.bool false)))] false) .ret) .skip)) (.region [mO 20 8,
  mO 1 20] false)))) (.region [nO 21 (.bin .add (.t 11) (.c (.int .i64 1))),
  mO 11 21] false)))))))) (.seq (.region [nO 6 (.mov (.c (.bool true)))] false) .ret)))
def i71 : F := ⟨3, 22, j71, [.t 6]⟩
theorem b71 : i71.body = j71 := rfl
theorem q71 : i71.res = [.t 6] := rfl
theorem c71 : chkF Tryz.prog Tryz.f71 i71 = true := by kernel_rfl
theorem s71 {m E} (hE : HE E) (hm : HM i71 m E) : Sound Tryz.prog 71 m := sound_of i71 Tryz.func71 rfl c71 hE hm
def j73 : C := (.seq (.region [nO 2 (.mov (.c (.bool false)))] false) (.seq (.region [mO 3 0,
  nO 4 (.call false 60 [(.t 3), (.c (.int .i64 0)), (.c (.int .i64 3))]),
  mO 2 4] false) .ret))
def i73 : F := ⟨1, 5, j73, [.t 2]⟩
theorem b73 : i73.body = j73 := rfl
theorem q73 : i73.res = [.t 2] := rfl
theorem c73 : chkF Tryz.prog Tryz.f73 i73 = true := by kernel_rfl
theorem s73 {m E} (hE : HE E) (hm : HM i73 m E) : Sound Tryz.prog 73 m := sound_of i73 Tryz.func73 rfl c73 hE hm
def j76 : C := (.seq (.region [nO 2 (.mov (.c (.bool false)))] false) (.seq (.region [mO 3 0,
  nO 4 (.call false 60 [(.t 3), (.c (.int .i64 0)), (.c (.int .i64 2147483647))]),
  mO 2 4] false) .ret))
def i76 : F := ⟨1, 5, j76, [.t 2]⟩
theorem b76 : i76.body = j76 := rfl
theorem q76 : i76.res = [.t 2] := rfl
theorem c76 : chkF Tryz.prog Tryz.f76 i76 = true := by kernel_rfl
theorem s76 {m E} (hE : HE E) (hm : HM i76 m E) : Sound Tryz.prog 76 m := sound_of i76 Tryz.func76 rfl c76 hE hm
def j79 : C := (.seq (.region [nO 1 (.box (.t 0)),
  nO 2 (.mov (.c (.int .i64 0)))] false) (.seq (.region [nO 8 (.load true 16 (.t 1)),
  nO 9 (.call false 128 [(.t 8)]),
  mO 7 9,
  nO 10 (.ext (.t 7) 0),
  nO 11 (.ext (.t 7) 1),
  nO 3 (.alloc [.int .i64 0, .int .i64 0, .int .i64 0, .int .i64 0, .int .i64 0, .int .i64 0, .int .i64 0, .int .i64 0, .int .i64 0, .int .i64 0, .int .i64 0, .int .i64 0, .int .i64 0, .int .i64 0, .row [], .row []]),⟨none, .store none 16 (.t 3) (.t 10), none, [], []⟩,
  mO 4 11] false) (.seq (.region [nO 12 (.load true 16 (.t 1)),
  nO 13 (.call false 129 [(.t 12)]),
  mO 5 13] false) (.seq (.seq (.region [nO 14 (.fad 0 (.t 1)),
  nO 15 (.load false 1 (.t 14)),
  nO 16 (.bin .eql (.t 15) (.c (.int .i64 1)))] false) (.cond (.t 16) (.region [mO 17 5,
  mO 18 17,
  gO 19 (.fad 4 (.t 1)) 18 true,
  gO 20 (.load false 1 (.t 19)) 18 true,
  gO 21 (.bin .eql (.t 20) (.c (.int .i64 0))) 18 true,
  nO 22 (.pick (.t 18) (.t 21) (.c (.bool false))),
  mO 23 22,
  gO 24 (.fad 5 (.t 1)) 23 true,
  gO 25 (.load false 1 (.t 24)) 23 true,
  gO 26 (.bin .eql (.t 25) (.c (.int .i64 0))) 23 true,
  nO 27 (.pick (.t 23) (.t 26) (.c (.bool false))),
  mO 5 27] false) (.region [mO 28 5,
  mO 29 28,
  gO 30 (.fad 4 (.t 1)) 29 true,
  gO 31 (.load false 1 (.t 30)) 29 true,
  gO 32 (.call false 116 [(.t 31)]) 29 true,
  nO 33 (.pick (.t 29) (.t 32) (.c (.bool false))),
  mO 34 33,
  gO 35 (.fad 5 (.t 1)) 34 true,
  gO 36 (.load false 1 (.t 35)) 34 true,
  gO 37 (.call false 110 [(.t 36), (.c (.int .i64 0)), (.c (.int .i64 3))]) 34 true,
  nO 38 (.pick (.t 34) (.t 37) (.c (.bool false))),
  mO 5 38] false))) (.seq (.region [nO 39 (.fad 6 (.t 3)),
  nO 40 (.load false 1 (.t 39)),
  nO 41 (.bin .neq (.t 40) (.c (.int .i64 0))),
  mO 42 41,
  gO 43 (.fad 7 (.t 3)) 42 false,
  gO 44 (.load false 1 (.t 43)) 42 false,
  gO 45 (.bin .neq (.t 44) (.c (.int .i64 0))) 42 false,
  nO 46 (.pick (.t 42) (.c (.bool true)) (.t 45)),
  mO 47 46,
  gO 48 (.fad 8 (.t 3)) 47 false,
  gO 49 (.load false 1 (.t 48)) 47 false,
  gO 50 (.bin .neq (.t 49) (.c (.int .i64 0))) 47 false,
  nO 51 (.pick (.t 47) (.c (.bool true)) (.t 50)),
  mO 52 51,
  gO 53 (.fad 9 (.t 3)) 52 false,
  gO 54 (.load false 1 (.t 53)) 52 false,
  gO 55 (.bin .neq (.t 54) (.c (.int .i64 0))) 52 false,
  nO 56 (.pick (.t 52) (.c (.bool true)) (.t 55)),
  mO 57 56,
  gO 58 (.fad 10 (.t 3)) 57 false,
  gO 59 (.load false 1 (.t 58)) 57 false,
  gO 60 (.bin .neq (.t 59) (.c (.int .i64 0))) 57 false,
  nO 61 (.pick (.t 57) (.c (.bool true)) (.t 60)),
  mO 62 61,
  gO 63 (.fad 11 (.t 3)) 62 false,
  gO 64 (.load false 1 (.t 63)) 62 false,
  gO 65 (.bin .neq (.t 64) (.c (.int .i64 0))) 62 false,
  nO 66 (.pick (.t 62) (.c (.bool true)) (.t 65)),
  mO 67 66,
  gO 68 (.fad 12 (.t 3)) 67 false,
  gO 69 (.load false 1 (.t 68)) 67 false,
  gO 70 (.bin .neq (.t 69) (.c (.int .i64 0))) 67 false,
  nO 71 (.pick (.t 67) (.c (.bool true)) (.t 70)),
  mO 72 71,
  gO 73 (.fad 13 (.t 3)) 72 false,
  gO 74 (.load false 1 (.t 73)) 72 false,
  gO 75 (.bin .neq (.t 74) (.c (.int .i64 0))) 72 false,
  nO 76 (.pick (.t 72) (.c (.bool true)) (.t 75)),
  mO 6 76] false) (.seq (.seq (.region [mO 77 4,
  nO 78 (.un .not (.t 77)),
  mO 79 78,
  mG 80 5 79 false,
  gO 81 (.un .not (.t 80)) 79 false,
  nO 82 (.pick (.t 79) (.c (.bool true)) (.t 81)),
  mO 83 82,
  mG 84 6 83 false,
  nO 85 (.pick (.t 83) (.c (.bool true)) (.t 84)),
  mO 86 85,
  gO 87 (.fad 14 (.t 3)) 86 false,
  gO 88 (.load false 1 (.t 87)) 86 false,
  gO 89 (.len (.t 88)) 86 false,
  gO 90 (.bin .gtr (.t 89) (.c (.int .i64 0))) 86 false,
  nO 91 (.pick (.t 86) (.c (.bool true)) (.t 90)),
  mO 92 91,
  gO 93 (.fad 15 (.t 3)) 92 false,
  gO 94 (.load false 1 (.t 93)) 92 false,
  gO 95 (.len (.t 94)) 92 false,
  gO 96 (.bin .gtr (.t 95) (.c (.int .i64 0))) 92 false,
  nO 97 (.pick (.t 92) (.c (.bool true)) (.t 96))] false) (.cond (.t 97) (.seq (.region [nO 2 (.mov (.c (.int .i64 5)))] false) .ret) .skip)) (.seq (.region [nO 2 (.mov (.c (.int .i64 0)))] false) .ret)))))))
def i79 : F := ⟨1, 98, j79, [.t 2]⟩
theorem c79 : chkF Tryz.prog Tryz.f79 i79 = true := by kernel_rfl
theorem s79 {m E} (hE : HE E) (hm : HM i79 m E) : Sound Tryz.prog 79 m := sound_of i79 Tryz.func79 rfl c79 hE hm
def j80 : C := (.seq (.region [nO 2 (.nilsl 3 1 0)] false) (.seq (.seq (.region [mO 3 0,
  nO 4 (.isnil false (.t 3))] false) (.cond (.t 4) (.seq (.region [nO 2 (.nilsl 3 1 1)] false) .ret) .skip)) (.seq (.region [nO 5 (.bsl 3 1 0 [.int .i64 0] []),
  mO 6 0,
  nO 7 (.app 3 1 8 (.t 5) (.t 6)),
  mO 2 7] false) .ret)))
def i80 : F := ⟨1, 8, j80, [.t 2]⟩
theorem b80 : i80.body = j80 := rfl
theorem q80 : i80.res = [.t 2] := rfl
theorem c80 : chkF Tryz.prog Tryz.f80 i80 = true := by kernel_rfl
theorem s80 {m E} (hE : HE E) (hm : HM i80 m E) : Sound Tryz.prog 80 m := sound_of i80 Tryz.func80 rfl c80 hE hm
theorem x80 : Sound Tryz.prog 80 (cloneM 3 1 8) := by
  refine clone_ok (r := fun _ => (.undef, [])) (s80 (E := fun _ _ => none) (fun f => Sound.no) fun args r h => ?_) (sound_nil (fun m hm => s80 (E := fun _ _ => none) (fun f => Sound.no) hm) fun A c => ⟨0, ?_⟩)
  · split at h
    · rename_i y ys
      split at h
      · rename_i hc
        cases h
        refine ⟨0, ?_⟩
        rw [F_ev rfl]
        simp only [j80, b80, q80, ww, simprocAttr, List.replicate, fillR, evE, V.pur1, asRow, List.map_append]
        rw [if_pos ⟨hc.1, by simpa using hc.2⟩]
        simp only [j80, b80, q80, ww, simprocAttr, S.kill, V.kill, Blk.kill, hand, handSs, handS, handVs, handV, List.contains_nil]
        try simp
      · cases h
    · cases h
  · cases A
    · rw [F_ev rfl]
      simp only [j80, b80, q80, ww, simprocAttr, hand, handSs, handS, handVs, handV, List.contains_nil, Bool.not_false]
      try simp
    · rw [F_ev rfl]
      simp only [j80, b80, q80, ww, simprocAttr, List.replicate, fillR, evE, V.pur1, asRow]
      try (rw [if_pos (by simp)]; simp only [j80, b80, q80, ww, simprocAttr, S.kill, V.kill, Blk.kill, hand, handSs, handS, handVs, handV, List.contains_nil])
      try simp
def j81 : C := (.seq (.region [nO 4 (.box (.t 0)),
  nO 5 (.box (.t 1)),
  nO 8 (.alloc [.int .i64 0, .int .i64 0, .int .i64 0, .row [], .row []]),
  nO 9 (.mov (.c (.int .i64 0)))] false) (.seq (.region [nO 12 (.load true 7 (.t 4)),
  nO 13 (.load true 5 (.t 5)),
  nO 14 (.call false 109 [(.t 12), (.t 13), (.c (.row []))]),
  mO 10 14] false) (.seq (.block 0 (.seq (.region [mO 16 10,
  nO 17 (.bin .neq (.t 16) (.c (.int .i64 0))),
  mO 15 17] false) (.cond (.t 15) (.seq (.region [nO 18 (.build [.int .i64 0, .int .i64 0, .int .i64 0, .row [], .row []] []),
  mO 19 10,⟨none, .store none 5 (.t 8) (.t 18), none, [], []⟩,
  mO 9 19] false) .ret) (.seq (.region [mO 21 2,
  nO 22 (.call false 53 [(.t 21)]),
  nO 23 (.bin .neq (.t 22) (.c (.int .i64 0))),
  mO 24 23,
  mG 25 3 24 false,
  gO 26 (.call false 116 [(.t 25)]) 24 false,
  gO 27 (.un .not (.t 26)) 24 false,
  nO 28 (.pick (.t 24) (.c (.bool true)) (.t 27)),
  mO 20 28] false) (.cond (.t 20) (.seq (.region [nO 29 (.build [.int .i64 0, .int .i64 0, .int .i64 0, .row [], .row []] []),⟨none, .store none 5 (.t 8) (.t 29), none, [], []⟩,
  nO 9 (.mov (.c (.int .i64 1)))] false) .ret) (.seq (.region [mO 31 2,
  nO 32 (.fad 0 (.t 5)),
  nO 33 (.load false 1 (.t 32)),
  nO 34 (.bin .gtr (.t 31) (.t 33)),
  mO 30 34] false) (.cond (.t 30) (.seq (.region [mO 35 2,
  mO 36 3,
  nO 37 (.call false 52 [(.t 35), (.t 36)]),⟨none, .store none 5 (.t 8) (.t 37), none, [], []⟩,
  nO 9 (.mov (.c (.int .i64 0)))] false) .ret) .skip))))))) (.seq (.region [nO 38 (.load true 5 (.t 5)),
  nO 39 (.call false 103 [(.t 38)]),
  nO 11 (.alloc [.int .i64 0, .int .i64 0, .int .i64 0, .row [], .row []]),⟨none, .store none 5 (.t 11) (.t 39), none, [], []⟩] false) (.seq (.seq (.region [mO 40 2,
  nO 41 (.fad 0 (.t 5)),
  nO 42 (.load false 1 (.t 41)),
  nO 43 (.bin .eql (.t 40) (.t 42))] false) (.cond (.t 43) (.region [nO 44 (.fad 2 (.t 11)),
  nO 45 (.load false 1 (.t 44)),
  mO 46 3,
  nO 47 (.mx (.t 45) (.t 46)),
  nO 48 (.fad 2 (.t 11)),⟨none, .store none 1 (.t 48) (.t 47), none, [], []⟩] false) .skip)) (.seq (.region [nO 49 (.load true 5 (.t 11)),⟨none, .store none 5 (.t 8) (.t 49), none, [], []⟩,
  nO 9 (.mov (.c (.int .i64 0)))] false) .ret))))))
def i81 : F := ⟨4, 50, j81, [.c 8 5 true, .t 9]⟩
theorem c81 : chkF Tryz.prog Tryz.f81 i81 = true := by kernel_rfl
theorem s81 {m E} (hE : HE E) (hm : HM i81 m E) : Sound Tryz.prog 81 m := sound_of i81 Tryz.func81 rfl c81 hE hm
def j85 : C := (.seq (.region [nO 2 (.mov (.c (.bool false)))] false) (.seq (.region [mO 3 0,
  nO 4 (.call false 131 [(.t 3), (.c (.int .i64 8))]),
  mO 2 4] false) .ret))
def i85 : F := ⟨1, 5, j85, [.t 2]⟩
theorem b85 : i85.body = j85 := rfl
theorem q85 : i85.res = [.t 2] := rfl
theorem c85 : chkF Tryz.prog Tryz.f85 i85 = true := by kernel_rfl
theorem s85 {m E} (hE : HE E) (hm : HM i85 m E) : Sound Tryz.prog 85 m := sound_of i85 Tryz.func85 rfl c85 hE hm
def j86 : C := (.seq (.region [nO 1 (.box (.t 0)),
  nO 2 (.alloc [.bool false, .bool false, .int .i64 0, .int .i64 0, .int .i64 0, .int .i64 0, .int .i64 0, .int .i64 0, .row [], .row [], .int .i64 0, .int .i64 0, .int .i64 0, .row [], .row [], .row []])] false) (.seq (.region [nO 4 (.load true 16 (.t 1)),
  nO 5 (.call false 50 [(.t 4)]),
  nO 3 (.alloc [.bool false, .bool false, .int .i64 0, .int .i64 0, .int .i64 0, .int .i64 0, .int .i64 0, .int .i64 0, .row [], .row [], .int .i64 0, .int .i64 0, .int .i64 0, .row [], .row [], .row []]),⟨none, .store none 16 (.t 3) (.t 5), none, [], []⟩] false) (.seq (.region [nO 6 (.fad 4 (.t 3)),⟨none, .store none 1 (.t 6) (.c (.int .i64 0)), none, [], []⟩,
  nO 7 (.fad 5 (.t 3)),⟨none, .store none 1 (.t 7) (.c (.int .i64 0)), none, [], []⟩,
  nO 8 (.fad 6 (.t 3)),⟨none, .store none 1 (.t 8) (.c (.int .i64 0)), none, [], []⟩,
  nO 9 (.fad 8 (.t 3)),⟨none, .store none 1 (.t 9) (.c (.row [])), none, [], []⟩,
  nO 10 (.fad 7 (.t 3)),⟨none, .store none 1 (.t 10) (.c (.int .i64 0)), none, [], []⟩] false) (.seq (.region [nO 11 (.load true 16 (.t 3)),⟨none, .store none 16 (.t 2) (.t 11), none, [], []⟩] false) .ret))))
def i86 : F := ⟨1, 12, j86, [.c 2 16 true]⟩
theorem c86 : chkF Tryz.prog Tryz.f86 i86 = true := by kernel_rfl
theorem s86 {m E} (hE : HE E) (hm : HM i86 m E) : Sound Tryz.prog 86 m := sound_of i86 Tryz.func86 rfl c86 hE hm
def j87 : C := (.seq (.region [nO 6 (.mov (.c (.bool false)))] false) (.seq (.region [mO 7 0,
  mO 8 1,
  nO 9 (.bin .geq (.t 7) (.t 8)),
  mO 10 9,
  mG 11 0 10 true,
  mG 12 2 10 true,
  gO 13 (.bin .leq (.t 11) (.t 12)) 10 true,
  nO 14 (.pick (.t 10) (.t 13) (.c (.bool false))),
  mO 6 14] false) .ret))
def i87 : F := ⟨3, 15, j87, [.t 6]⟩
theorem b87 : i87.body = j87 := rfl
theorem q87 : i87.res = [.t 6] := rfl
theorem c87 : chkF Tryz.prog Tryz.f87 i87 = true := by kernel_rfl
theorem s87 {m E} (hE : HE E) (hm : HM i87 m E) : Sound Tryz.prog 87 m := sound_of i87 Tryz.func87 rfl c87 hE hm
def j88 : C := (.seq (.region [nO 2 (.mov (.c (.bool false)))] false) (.seq (.region [mO 3 0,
  nO 4 (.call false 87 [(.t 3), (.c (.int .i64 1)), (.c (.int .i64 1073741824))]),
  mO 5 4,
  mG 6 0 5 true,
  gO 7 (.bin .rem (.t 6) (.c (.int .i64 16))) 5 true,
  gO 8 (.bin .lss (.t 7) (.c (.int .i64 8))) 5 true,
  nO 9 (.pick (.t 5) (.t 8) (.c (.bool false))),
  mO 2 9] false) .ret))
def i88 : F := ⟨1, 10, j88, [.t 2]⟩
theorem b88 : i88.body = j88 := rfl
theorem q88 : i88.res = [.t 2] := rfl
theorem c88 : chkF Tryz.prog Tryz.f88 i88 = true := by kernel_rfl
theorem s88 {m E} (hE : HE E) (hm : HM i88 m E) : Sound Tryz.prog 88 m := sound_of i88 Tryz.func88 rfl c88 hE hm
def j89 : C := (.seq (.region [nO 6 (.mov (.c (.bool false)))] false) (.seq (.region [mO 7 2,
  nO 8 (.bin .eql (.t 7) (.c (.int .i64 0))),
  mO 9 8,
  mG 10 2 9 false,
  gO 11 (.call false 87 [(.t 10), (.c (.int .i64 1)), (.c (.int .i64 8))]) 9 false,
  mG 12 11 9 false,
  mG 13 0 12 true,
  mG 14 2 12 true,
  gO 15 (.bin .sub (.t 14) (.c (.int .i64 1))) 12 true,
  mG 16 1 12 true,
  gO 17 (.call false 99 [(.t 13), (.t 15), (.t 16)]) 12 true,
  gO 18 (.pick (.t 12) (.t 17) (.c (.bool false))) 9 false,
  nO 19 (.pick (.t 9) (.c (.bool true)) (.t 18)),
  mO 6 19] false) .ret))
def i89 : F := ⟨3, 20, j89, [.t 6]⟩
theorem b89 : i89.body = j89 := rfl
theorem q89 : i89.res = [.t 6] := rfl
theorem c89 : chkF Tryz.prog Tryz.f89 i89 = true := by kernel_rfl
theorem s89 {m E} (hE : HE E) (hm : HM i89 m E) : Sound Tryz.prog 89 m := sound_of i89 Tryz.func89 rfl c89 hE hm
def j90 : C := (.seq (.region [nO 8 (.mov (.c (.int .i64 0)))] false) (.seq (.seq (.region [nO 9 (.mov (.c (.int .i64 0)))] false) (.block 0 (.loop (.keep [0, 1, 2, 3, 9] (.seq (.seq (.region [mO 12 9,
  mO 13 2,
  nO 14 (.len (.t 13)),
  nO 15 (.bin .lss (.t 12) (.t 14))] false) (.cond (.t 15) .skip (.exit 0))) (.seq (.block 1 (.seq (.region [mO 18 2,
  mO 19 9,
  nO 20 (.iad 1 (.t 18) (.t 19)),
  nO 21 (.load false 1 (.t 20)),
  nO 22 (.call false 26 [(.t 21)]),
  nO 23 (.un .not (.t 22))] false) (.cond (.t 23) (.seq (.region [nO 8 (.mov (.c (.int .i64 1)))] false) .ret) .skip))) (.region [mO 16 9,
  nO 17 (.bin .add (.t 16) (.c (.int .i64 1))),
  mO 9 17] false))))))) (.seq (.seq (.region [mO 24 2,
  nO 25 (.len (.t 24)),
  mO 26 3,
  nO 27 (.bin .gtr (.t 25) (.t 26))] false) (.cond (.t 27) (.seq (.region [nO 8 (.mov (.c (.int .i64 12)))] false) .ret) .skip)) (.seq (.region [mO 28 1,
  mO 10 28] false) (.seq (.seq (.region [nO 11 (.mov (.c (.int .i64 0)))] false) (.block 2 (.loop (.keep [0, 2, 10, 11] (.seq (.seq (.region [mO 29 11,
  mO 30 2,
  nO 31 (.len (.t 30)),
  nO 32 (.bin .lss (.t 29) (.t 31))] false) (.cond (.t 32) .skip (.exit 2))) (.seq (.block 3 (.seq (.seq (.region [mO 35 0,
  mO 36 2,
  mO 37 11,
  nO 38 (.iad 1 (.t 36) (.t 37)),
  nO 39 (.load false 1 (.t 38)),
  mO 40 10,
  nO 41 (.call false 99 [(.t 35), (.t 39), (.t 40)]),
  nO 42 (.un .not (.t 41))] false) (.cond (.t 42) (.seq (.region [nO 8 (.mov (.c (.int .i64 1)))] false) .ret) .skip)) (.region [mO 43 2,
  mO 44 11,
  nO 45 (.iad 1 (.t 43) (.t 44)),
  nO 46 (.load false 1 (.t 45)),
  mO 10 46] false))) (.region [mO 33 11,
  nO 34 (.bin .add (.t 33) (.c (.int .i64 1))),
  mO 11 34] false))))))) (.seq (.region [nO 8 (.mov (.c (.int .i64 0)))] false) .ret))))))
def i90 : F := ⟨4, 47, j90, [.t 8]⟩
theorem b90 : i90.body = j90 := rfl
theorem q90 : i90.res = [.t 8] := rfl
theorem c90 : chkF Tryz.prog Tryz.f90 i90 = true := by kernel_rfl
theorem s90 {m E} (hE : HE E) (hm : HM i90 m E) : Sound Tryz.prog 90 m := sound_of i90 Tryz.func90 rfl c90 hE hm
def j91 : C := (.seq (.region [nO 8 (.mov (.c (.bool false)))] false) (.seq (.seq (.region [mO 11 0,
  nO 12 (.call false 73 [(.t 11)]),
  nO 13 (.un .not (.t 12)),
  mO 14 13,
  mG 15 1 14 false,
  gO 16 (.call false 26 [(.t 15)]) 14 false,
  gO 17 (.un .not (.t 16)) 14 false,
  nO 18 (.pick (.t 14) (.c (.bool true)) (.t 17)),
  mO 19 18,
  mG 20 2 19 false,
  gO 21 (.call false 87 [(.t 20), (.c (.int .i64 1)), (.c (.int .i64 4))]) 19 false,
  gO 22 (.un .not (.t 21)) 19 false,
  nO 23 (.pick (.t 19) (.c (.bool true)) (.t 22)),
  mO 24 23,
  mG 25 3 24 false,
  gO 26 (.len (.t 25)) 24 false,
  mG 27 2 24 false,
  gO 28 (.bin .gtr (.t 26) (.t 27)) 24 false,
  nO 29 (.pick (.t 24) (.c (.bool true)) (.t 28))] false) (.cond (.t 29) (.seq (.region [nO 8 (.mov (.c (.bool false)))] false) .ret) .skip)) (.seq (.region [mO 30 1,
  mO 9 30] false) (.seq (.seq (.region [nO 10 (.mov (.c (.int .i64 0)))] false) (.block 0 (.loop (.keep [0, 3, 9, 10] (.seq (.seq (.region [mO 31 10,
  mO 32 3,
  nO 33 (.len (.t 32)),
  nO 34 (.bin .lss (.t 31) (.t 33))] false) (.cond (.t 34) .skip (.exit 0))) (.seq (.block 1 (.seq (.seq (.region [mO 37 3,
  mO 38 10,
  nO 39 (.iad 3 (.t 37) (.t 38)),
  nO 40 (.fad 0 (.t 39)),
  nO 41 (.load false 1 (.t 40)),
  nO 42 (.call false 26 [(.t 41)]),
  nO 43 (.un .not (.t 42)),
  mO 44 43,
  mG 45 0 44 false,
  mG 46 9 44 false,
  mG 47 3 44 false,
  mG 48 10 44 false,
  gO 49 (.iad 3 (.t 47) (.t 48)) 44 false,
  gO 50 (.fad 0 (.t 49)) 44 false,
  gO 51 (.load false 1 (.t 50)) 44 false,
  gO 52 (.call false 99 [(.t 45), (.t 46), (.t 51)]) 44 false,
  gO 53 (.un .not (.t 52)) 44 false,
  nO 54 (.pick (.t 44) (.c (.bool true)) (.t 53)),
  mO 55 54,
  mG 56 3 55 false,
  mG 57 10 55 false,
  gO 58 (.iad 3 (.t 56) (.t 57)) 55 false,
  gO 59 (.fad 1 (.t 58)) 55 false,
  gO 60 (.load false 1 (.t 59)) 55 false,
  gO 61 (.call false 87 [(.t 60), (.c (.int .i64 1)), (.c (.int .i64 1073741824))]) 55 false,
  gO 62 (.un .not (.t 61)) 55 false,
  nO 63 (.pick (.t 55) (.c (.bool true)) (.t 62)),
  mO 64 63,
  mG 65 3 64 false,
  mG 66 10 64 false,
  gO 67 (.iad 3 (.t 65) (.t 66)) 64 false,
  gO 68 (.fad 2 (.t 67)) 64 false,
  gO 69 (.load false 1 (.t 68)) 64 false,
  gO 70 (.call false 87 [(.t 69), (.c (.int .i64 0)), (.c (.int .i64 6))]) 64 false,
  gO 71 (.un .not (.t 70)) 64 false,
  nO 72 (.pick (.t 64) (.c (.bool true)) (.t 71))] false) (.cond (.t 72) (.seq (.region [nO 8 (.mov (.c (.bool false)))] false) .ret) .skip)) (.region [mO 73 3,
  mO 74 10,
  nO 75 (.iad 3 (.t 73) (.t 74)),
  nO 76 (.fad 0 (.t 75)),
  nO 77 (.load false 1 (.t 76)),
  mO 9 77] false))) (.region [mO 35 10,
  nO 36 (.bin .add (.t 35) (.c (.int .i64 1))),
  mO 10 36] false))))))) (.seq (.region [nO 8 (.mov (.c (.bool true)))] false) .ret)))))
def i91 : F := ⟨4, 78, j91, [.t 8]⟩
theorem b91 : i91.body = j91 := rfl
theorem q91 : i91.res = [.t 8] := rfl
theorem c91 : chkF Tryz.prog Tryz.f91 i91 = true := by kernel_rfl
theorem s91 {m E} (hE : HE E) (hm : HM i91 m E) : Sound Tryz.prog 91 m := sound_of i91 Tryz.func91 rfl c91 hE hm
def j92 : C := (.seq (.region [nO 3 (.box (.t 0)),
  nO 4 (.box (.t 1)),
  nO 6 (.mov (.c (.bool false)))] false) (.seq (.region [nO 7 (.load true 7 (.t 3)),
  nO 8 (.load true 5 (.t 4)),
  nO 9 (.call false 132 [(.t 7), (.t 8)]),
  mO 10 9,
  mG 11 2 10 true,
  gO 12 (.fad 6 (.t 3)) 10 true,
  gO 13 (.load false 1 (.t 12)) 10 true,
  gO 14 (.call false 133 [(.t 11), (.t 13)]) 10 true,
  nO 15 (.pick (.t 10) (.t 14) (.c (.bool false))),
  mO 6 15] false) .ret))
def i92 : F := ⟨3, 16, j92, [.t 6]⟩
theorem b92 : i92.body = j92 := rfl
theorem q92 : i92.res = [.t 6] := rfl
theorem c92 : chkF Tryz.prog Tryz.f92 i92 = true := by kernel_rfl
theorem s92 {m E} (hE : HE E) (hm : HM i92 m E) : Sound Tryz.prog 92 m := sound_of i92 Tryz.func92 rfl c92 hE hm
def j99 : C := (.seq (.region [nO 6 (.mov (.c (.bool false)))] false) (.seq (.region [mO 7 0,
  nO 8 (.call false 73 [(.t 7)]),
  mO 9 8,
  mG 10 1 9 true,
  gO 11 (.call false 26 [(.t 10)]) 9 true,
  nO 12 (.pick (.t 9) (.t 11) (.c (.bool false))),
  mO 13 12,
  mG 14 2 13 true,
  gO 15 (.call false 26 [(.t 14)]) 13 true,
  nO 16 (.pick (.t 13) (.t 15) (.c (.bool false))),
  mO 17 16,
  mG 18 0 17 true,
  mG 19 1 17 true,
  gO 20 (.call false 136 [(.t 18), (.t 19)]) 17 true,
  mG 21 0 17 true,
  mG 22 2 17 true,
  gO 23 (.call false 136 [(.t 21), (.t 22)]) 17 true,
  gO 24 (.bin .lss (.t 20) (.t 23)) 17 true,
  nO 25 (.pick (.t 17) (.t 24) (.c (.bool false))),
  mO 6 25] false) .ret))
def i99 : F := ⟨3, 26, j99, [.t 6]⟩
theorem b99 : i99.body = j99 := rfl
theorem q99 : i99.res = [.t 6] := rfl
theorem c99 : chkF Tryz.prog Tryz.f99 i99 = true := by kernel_rfl
theorem s99 {m E} (hE : HE E) (hm : HM i99 m E) : Sound Tryz.prog 99 m := sound_of i99 Tryz.func99 rfl c99 hE hm
def j100 : C := (.seq (.region [nO 5 (.box (.t 2)),
  nO 6 (.mov (.c (.bool false)))] false) (.seq (.region [mO 7 0,
  mO 8 1,
  nO 9 (.fad 0 (.t 5)),
  nO 10 (.load false 1 (.t 9)),
  nO 11 (.call false 28 [(.t 7), (.t 8), (.t 10)]),
  mO 12 11,
  gO 13 (.fad 1 (.t 5)) 12 true,
  gO 14 (.load false 1 (.t 13)) 12 true,
  gO 15 (.call false 116 [(.t 14)]) 12 true,
  nO 16 (.pick (.t 12) (.t 15) (.c (.bool false))),
  mO 17 16,
  gO 18 (.fad 2 (.t 5)) 17 true,
  gO 19 (.load false 1 (.t 18)) 17 true,
  gO 20 (.bin .geq (.t 19) (.c (.int .i64 0))) 17 true,
  nO 21 (.pick (.t 17) (.t 20) (.c (.bool false))),
  mO 22 21,
  gO 23 (.fad 2 (.t 5)) 22 true,
  gO 24 (.load false 1 (.t 23)) 22 true,
  gO 25 (.bin .leq (.t 24) (.c (.int .i64 6))) 22 true,
  nO 26 (.pick (.t 22) (.t 25) (.c (.bool false))),
  mO 6 26] false) .ret))
def i100 : F := ⟨3, 27, j100, [.t 6]⟩
theorem b100 : i100.body = j100 := rfl
theorem q100 : i100.res = [.t 6] := rfl
theorem c100 : chkF Tryz.prog Tryz.f100 i100 = true := by kernel_rfl
theorem s100 {m E} (hE : HE E) (hm : HM i100 m E) : Sound Tryz.prog 100 m := sound_of i100 Tryz.func100 rfl c100 hE hm
def j101 : C := (.seq (.region [nO 2 (.nilsl 51 3 0)] false) (.seq (.seq (.region [mO 3 0,
  nO 4 (.isnil false (.t 3))] false) (.cond (.t 4) (.seq (.region [nO 2 (.nilsl 51 3 1)] false) .ret) .skip)) (.seq (.region [nO 5 (.bsl 51 3 0 [.int .i64 0, .int .i64 0, .int .i64 0] []),
  mO 6 0,
  nO 7 (.app 51 3 24 (.t 5) (.t 6)),
  mO 2 7] false) .ret)))
def i101 : F := ⟨1, 8, j101, [.t 2]⟩
theorem b101 : i101.body = j101 := rfl
theorem q101 : i101.res = [.t 2] := rfl
theorem c101 : chkF Tryz.prog Tryz.f101 i101 = true := by kernel_rfl
theorem s101 {m E} (hE : HE E) (hm : HM i101 m E) : Sound Tryz.prog 101 m := sound_of i101 Tryz.func101 rfl c101 hE hm
theorem x101 : Sound Tryz.prog 101 (cloneM 51 3 24) := by
  refine clone_ok (r := fun _ => (.undef, [])) (s101 (E := fun _ _ => none) (fun f => Sound.no) fun args r h => ?_) (sound_nil (fun m hm => s101 (E := fun _ _ => none) (fun f => Sound.no) hm) fun A c => ⟨0, ?_⟩)
  · split at h
    · rename_i y ys
      split at h
      · rename_i hc
        cases h
        refine ⟨0, ?_⟩
        rw [F_ev rfl]
        simp only [j101, b101, q101, ww, simprocAttr, List.replicate, fillR, evE, V.pur1, asRow, List.map_append]
        rw [if_pos ⟨hc.1, by simpa using hc.2⟩]
        simp only [j101, b101, q101, ww, simprocAttr, S.kill, V.kill, Blk.kill, hand, handSs, handS, handVs, handV, List.contains_nil]
        try simp
      · cases h
    · cases h
  · cases A
    · rw [F_ev rfl]
      simp only [j101, b101, q101, ww, simprocAttr, hand, handSs, handS, handVs, handV, List.contains_nil, Bool.not_false]
      try simp
    · rw [F_ev rfl]
      simp only [j101, b101, q101, ww, simprocAttr, List.replicate, fillR, evE, V.pur1, asRow]
      try (rw [if_pos (by simp)]; simp only [j101, b101, q101, ww, simprocAttr, S.kill, V.kill, Blk.kill, hand, handSs, handS, handVs, handV, List.contains_nil])
      try simp
def j102 : C := (.seq (.region [nO 2 (.nilsl 84 6 0)] false) (.seq (.seq (.region [mO 3 0,
  nO 4 (.isnil false (.t 3))] false) (.cond (.t 4) (.seq (.region [nO 2 (.nilsl 84 6 1)] false) .ret) .skip)) (.seq (.region [nO 5 (.bsl 84 6 0 [.int .i64 0, .int .i64 0, .int .i64 0, .int .i64 0, .int .i64 0, .int .i64 0] []),
  mO 6 0,
  nO 7 (.app 84 6 48 (.t 5) (.t 6)),
  mO 2 7] false) .ret)))
def i102 : F := ⟨1, 8, j102, [.t 2]⟩
theorem b102 : i102.body = j102 := rfl
theorem q102 : i102.res = [.t 2] := rfl
theorem c102 : chkF Tryz.prog Tryz.f102 i102 = true := by kernel_rfl
theorem s102 {m E} (hE : HE E) (hm : HM i102 m E) : Sound Tryz.prog 102 m := sound_of i102 Tryz.func102 rfl c102 hE hm
theorem x102 : Sound Tryz.prog 102 (cloneM 84 6 48) := by
  refine clone_ok (r := fun _ => (.undef, [])) (s102 (E := fun _ _ => none) (fun f => Sound.no) fun args r h => ?_) (sound_nil (fun m hm => s102 (E := fun _ _ => none) (fun f => Sound.no) hm) fun A c => ⟨0, ?_⟩)
  · split at h
    · rename_i y ys
      split at h
      · rename_i hc
        cases h
        refine ⟨0, ?_⟩
        rw [F_ev rfl]
        simp only [j102, b102, q102, ww, simprocAttr, List.replicate, fillR, evE, V.pur1, asRow, List.map_append]
        rw [if_pos ⟨hc.1, by simpa using hc.2⟩]
        simp only [j102, b102, q102, ww, simprocAttr, S.kill, V.kill, Blk.kill, hand, handSs, handS, handVs, handV, List.contains_nil]
        try simp
      · cases h
    · cases h
  · cases A
    · rw [F_ev rfl]
      simp only [j102, b102, q102, ww, simprocAttr, hand, handSs, handS, handVs, handV, List.contains_nil, Bool.not_false]
      try simp
    · rw [F_ev rfl]
      simp only [j102, b102, q102, ww, simprocAttr, List.replicate, fillR, evE, V.pur1, asRow]
      try (rw [if_pos (by simp)]; simp only [j102, b102, q102, ww, simprocAttr, S.kill, V.kill, Blk.kill, hand, handSs, handS, handVs, handV, List.contains_nil])
      try simp
def j103 : C := (.seq (.region [nO 1 (.box (.t 0)),
  nO 2 (.alloc [.int .i64 0, .int .i64 0, .int .i64 0, .row [], .row []])] false) (.seq (.region [⟨some 3, .fad 3 (.t 1), none, [6, 7], []⟩,⟨some 4, .load false 1 (.t 3), none, [6, 7], [0]⟩,⟨some 5, .call false 137 [(.t 4)], none, [6, 7], [0, 1]⟩,⟨some 6, .fad 4 (.t 1), none, [3, 4, 5], []⟩,⟨some 7, .load false 1 (.t 6), none, [3, 4, 5], [3]⟩,⟨some 8, .call false 137 [(.t 7)], none, [9], [0, 1, 2, 3, 4]⟩,⟨some 9, .fad 3 (.t 1), none, [8], [0, 1, 2, 3, 4]⟩,⟨none, .store none 1 (.t 9) (.t 5), none, [], [0, 1, 2, 3, 4, 5, 6]⟩,⟨some 10, .fad 4 (.t 1), none, [], [0, 1, 2, 3, 4, 5, 6, 7]⟩,⟨none, .store none 1 (.t 10) (.t 8), none, [], [0, 1, 2, 3, 4, 5, 6, 7, 8]⟩] true) (.seq (.region [nO 11 (.load true 5 (.t 1)),⟨none, .store none 5 (.t 2) (.t 11), none, [], []⟩] false) .ret)))
def i103 : F := ⟨1, 12, j103, [.c 2 5 true]⟩
theorem b103 : i103.body = j103 := rfl
theorem q103 : i103.res = [.c 2 5 true] := rfl
theorem c103 : chkF Tryz.prog Tryz.f103 i103 = true := by kernel_rfl
theorem s103 {m E} (hE : HE E) (hm : HM i103 m E) : Sound Tryz.prog 103 m := sound_of i103 Tryz.func103 rfl c103 hE hm
theorem x104 : Sound Tryz.prog 104 XE.errnoM := XE.errno_ok
def j105 : C := (.seq (.region [nO 1 (.box (.t 0)),
  nO 2 (.mov (.c (.k .nilIface)))] false) (.seq (.region [⟨some 3, .fad 0 (.t 1), none, [6, 7, 9, 10, 12, 13, 15, 16, 18, 19, 21, 22], []⟩,⟨some 4, .load false 1 (.t 3), none, [6, 7, 9, 10, 12, 13, 15, 16, 18, 19, 21, 22], [0]⟩,⟨some 5, .call false 141 [(.c (.k (.string ⟨#[110, 111, 100, 101, 115]⟩))), (.t 4), (.c (.int .i64 1)), (.c (.int .i64 8)), (.c (.int .i64 13))], none, [6, 7, 9, 10, 12, 13, 15, 16, 18, 19, 21, 22], [0, 1]⟩,⟨some 6, .fad 1 (.t 1), none, [3, 4, 5, 9, 10, 12, 13, 15, 16, 18, 19, 21, 22], []⟩,⟨some 7, .load false 1 (.t 6), none, [3, 4, 5, 9, 10, 12, 13, 15, 16, 18, 19, 21, 22], [3]⟩,⟨some 8, .call false 141 [(.c (.k (.string ⟨#[116, 111, 112, 105, 99, 115]⟩))), (.t 7), (.c (.int .i64 1)), (.c (.int .i64 4)), (.c (.int .i64 13))], none, [9, 10, 12, 13, 15, 16, 18, 19, 21, 22], [0, 1, 2, 3, 4]⟩,⟨some 9, .fad 2 (.t 1), none, [3, 4, 5, 6, 7, 8, 12, 13, 15, 16, 18, 19, 21, 22], []⟩,⟨some 10, .load false 1 (.t 9), none, [3, 4, 5, 6, 7, 8, 12, 13, 15, 16, 18, 19, 21, 22], [6]⟩,⟨some 11, .call false 141 [(.c (.k (.string ⟨#[107, 105, 100, 115]⟩))), (.t 10), (.c (.int .i64 1)), (.c (.int .i64 4)), (.c (.int .i64 13))], none, [12, 13, 15, 16, 18, 19, 21, 22], [0, 1, 2, 3, 4, 5, 6, 7]⟩,⟨some 12, .fad 3 (.t 1), none, [3, 4, 5, 6, 7, 8, 9, 10, 11, 15, 16, 18, 19, 21, 22], []⟩,⟨some 13, .load false 1 (.t 12), none, [3, 4, 5, 6, 7, 8, 9, 10, 11, 15, 16, 18, 19, 21, 22], [9]⟩,⟨some 14, .call false 141 [(.c (.k (.string ⟨#[100, 101, 112, 116, 104]⟩))), (.t 13), (.c (.int .i64 1)), (.c (.int .i64 8)), (.c (.int .i64 13))], none, [15, 16, 18, 19, 21, 22], [0, 1, 2, 3, 4, 5, 6, 7, 8, 9, 10]⟩,⟨some 15, .fad 4 (.t 1), none, [3, 4, 5, 6, 7, 8, 9, 10, 11, 12, 13, 14, 18, 19, 21, 22], []⟩,⟨some 16, .load false 1 (.t 15), none, [3, 4, 5, 6, 7, 8, 9, 10, 11, 12, 13, 14, 18, 19, 21, 22], [12]⟩,⟨some 17, .call false 141 [(.c (.k (.string ⟨#[107, 101, 101, 112]⟩))), (.t 16), (.c (.int .i64 1)), (.c (.int .i64 16)), (.c (.int .i64 13))], none, [18, 19, 21, 22], [0, 1, 2, 3, 4, 5, 6, 7, 8, 9, 10, 11, 12, 13]⟩,⟨some 18, .fad 5 (.t 1), none, [3, 4, 5, 6, 7, 8, 9, 10, 11, 12, 13, 14, 15, 16, 17, 21, 22], []⟩,⟨some 19, .load false 1 (.t 18), none, [3, 4, 5, 6, 7, 8, 9, 10, 11, 12, 13, 14, 15, 16, 17, 21, 22], [15]⟩,⟨some 20, .call false 141 [(.c (.k (.string ⟨#[119, 105, 110, 100, 111, 119]⟩))), (.t 19), (.c (.int .i64 1)), (.c (.int .i64 16)), (.c (.int .i64 13))], none, [21, 22], [0, 1, 2, 3, 4, 5, 6, 7, 8, 9, 10, 11, 12, 13, 14, 15, 16]⟩,⟨some 21, .fad 6 (.t 1), none, [3, 4, 5, 6, 7, 8, 9, 10, 11, 12, 13, 14, 15, 16, 17, 18, 19, 20], []⟩,⟨some 22, .load false 1 (.t 21), none, [3, 4, 5, 6, 7, 8, 9, 10, 11, 12, 13, 14, 15, 16, 17, 18, 19, 20], [18]⟩,⟨some 23, .call false 141 [(.c (.k (.string ⟨#[113, 117, 101, 117, 101]⟩))), (.t 22), (.c (.int .i64 2)), (.c (.int .i64 32)), (.c (.int .i64 13))], none, [], [0, 1, 2, 3, 4, 5, 6, 7, 8, 9, 10, 11, 12, 13, 14, 15, 16, 17, 18, 19]⟩,⟨some 24, .bsr 119 1 7 [.k .nilIface] [(0, (.t 5)), (1, (.t 8)), (2, (.t 11)), (3, (.t 14)), (4, (.t 17)), (5, (.t 20)), (6, (.t 23))], none, [], [0, 1, 2, 3, 4, 5, 6, 7, 8, 9, 10, 11, 12, 13, 14, 15, 16, 17, 18, 19, 20]⟩,⟨some 25, .call false 140 [(.t 24)], none, [], [0, 1, 2, 3, 4, 5, 6, 7, 8, 9, 10, 11, 12, 13, 14, 15, 16, 17, 18, 19, 20, 21]⟩,⟨some 2, .mov (.t 25), none, [], [0, 1, 2, 3, 4, 5, 6, 7, 8, 9, 10, 11, 12, 13, 14, 15, 16, 17, 18, 19, 20, 21, 22]⟩] true) .ret))
def i105 : F := ⟨1, 26, j105, [.t 2]⟩
theorem b105 : i105.body = j105 := rfl
theorem q105 : i105.res = [.t 2] := rfl
theorem c105 : chkF Tryz.prog Tryz.f105 i105 = true := by kernel_rfl
theorem s105 {m E} (hE : HE E) (hm : HM i105 m E) : Sound Tryz.prog 105 m := sound_of i105 Tryz.func105 rfl c105 hE hm
def j106 : C := (.seq (.region [nO 6 (.mov (.c (.bool false)))] false) (.seq (.region [mO 7 2,
  nO 8 (.bin .eql (.t 7) (.c (.int .i64 0))),
  mO 9 8,
  mG 10 2 9 false,
  gO 11 (.bin .gtr (.t 10) (.c (.int .i64 0))) 9 false,
  mG 12 11 9 false,
  mG 13 0 12 true,
  mG 14 2 12 true,
  gO 15 (.bin .sub (.t 14) (.c (.int .i64 1))) 12 true,
  mG 16 1 12 true,
  gO 17 (.call false 28 [(.t 13), (.t 15), (.t 16)]) 12 true,
  gO 18 (.pick (.t 12) (.t 17) (.c (.bool false))) 9 false,
  nO 19 (.pick (.t 9) (.c (.bool true)) (.t 18)),
  mO 6 19] false) .ret))
def i106 : F := ⟨3, 20, j106, [.t 6]⟩
theorem b106 : i106.body = j106 := rfl
theorem q106 : i106.res = [.t 6] := rfl
theorem c106 : chkF Tryz.prog Tryz.f106 i106 = true := by kernel_rfl
theorem s106 {m E} (hE : HE E) (hm : HM i106 m E) : Sound Tryz.prog 106 m := sound_of i106 Tryz.func106 rfl c106 hE hm
def j107 : C := (.seq (.region [nO 3 (.box (.t 1)),
  nO 4 (.mov (.c (.bool false)))] false) (.seq (.seq (.region [nO 7 (.fad 3 (.t 3)),
  nO 8 (.load false 1 (.t 7)),
  nO 9 (.bin .eql (.t 8) (.c (.int .i64 0)))] false) (.cond (.t 9) (.seq (.region [nO 4 (.mov (.c (.bool true)))] false) .ret) .skip)) (.seq (.region [nO 11 (.fad 3 (.t 3)),
  nO 12 (.load false 1 (.t 11)),
  nO 13 (.call false 17 [(.t 12)]),
  mO 10 13,
  nO 14 (.ext (.t 10) 0),
  nO 15 (.ext (.t 10) 1),
  mO 5 14,
  mO 6 15] false) (.seq (.region [mO 16 6,
  nO 17 (.bin .eql (.t 16) (.c (.int .i64 0))),
  mO 18 17,
  mG 19 5 18 true,
  mG 20 0 18 true,
  gO 21 (.bin .eql (.t 19) (.t 20)) 18 true,
  nO 22 (.pick (.t 18) (.t 21) (.c (.bool false))),
  mO 23 22,
  gO 24 (.fad 3 (.t 3)) 23 true,
  gO 25 (.load false 1 (.t 24)) 23 true,
  gO 26 (.fad 2 (.t 3)) 23 true,
  gO 27 (.load false 1 (.t 26)) 23 true,
  gO 28 (.bin .leq (.t 25) (.t 27)) 23 true,
  nO 29 (.pick (.t 23) (.t 28) (.c (.bool false))),
  mO 30 29,
  gO 31 (.fad 4 (.t 3)) 30 true,
  gO 32 (.load false 1 (.t 31)) 30 true,
  gO 33 (.bin .eql (.t 32) (.c (.int .i64 0))) 30 true,
  nO 34 (.pick (.t 30) (.t 33) (.c (.bool false))),
  mO 35 34,
  gO 36 (.fad 10 (.t 3)) 35 true,
  gO 37 (.fad 0 (.t 36)) 35 true,
  gO 38 (.load false 1 (.t 37)) 35 true,
  gO 39 (.fad 3 (.t 3)) 35 true,
  gO 40 (.load false 1 (.t 39)) 35 true,
  gO 41 (.bin .eql (.t 38) (.t 40)) 35 true,
  nO 42 (.pick (.t 35) (.t 41) (.c (.bool false))),
  mO 4 42] false) .ret))))
def i107 : F := ⟨2, 43, j107, [.t 4]⟩
theorem b107 : i107.body = j107 := rfl
theorem q107 : i107.res = [.t 4] := rfl
theorem c107 : chkF Tryz.prog Tryz.f107 i107 = true := by kernel_rfl
theorem s107 {m E} (hE : HE E) (hm : HM i107 m E) : Sound Tryz.prog 107 m := sound_of i107 Tryz.func107 rfl c107 hE hm
def j108 : C := (.seq (.region [nO 1 (.box (.t 0)),
  nO 2 (.mov (.c (.bool false)))] false) (.seq (.seq (.region [nO 3 (.fad 8 (.t 1)),
  nO 4 (.load false 1 (.t 3)),
  nO 5 (.len (.t 4)),
  nO 6 (.bin .eql (.t 5) (.c (.int .i64 0)))] false) (.cond (.t 6) (.seq (.region [nO 7 (.fad 4 (.t 1)),
  nO 8 (.load false 1 (.t 7)),
  nO 9 (.bin .eql (.t 8) (.c (.int .i64 0))),
  mO 2 9] false) .ret) .skip)) (.seq (.region [⟨some 10, .fad 4 (.t 1), none, [12, 13, 14, 15, 16], []⟩,⟨some 11, .load false 1 (.t 10), none, [12, 13, 14, 15, 16], [0]⟩,⟨some 12, .fad 8 (.t 1), none, [10, 11], []⟩,⟨some 13, .load false 1 (.t 12), none, [10, 11], [2]⟩,⟨some 14, .iad 1 (.t 13) (.c (.int .i64 0)), none, [10, 11], [2, 3]⟩,⟨some 15, .load false 1 (.t 14), none, [10, 11], [2, 3, 4]⟩,⟨some 16, .bin .add (.t 15) (.c (.int .i64 1)), none, [10, 11], [2, 3, 4, 5]⟩,⟨some 17, .bin .eql (.t 11) (.t 16), none, [], [0, 1, 2, 3, 4, 5, 6]⟩,⟨some 2, .mov (.t 17), none, [], [0, 1, 2, 3, 4, 5, 6, 7]⟩] true) .ret)))
def i108 : F := ⟨1, 18, j108, [.t 2]⟩
theorem b108 : i108.body = j108 := rfl
theorem q108 : i108.res = [.t 2] := rfl
theorem c108 : chkF Tryz.prog Tryz.f108 i108 = true := by kernel_rfl
theorem s108 {m E} (hE : HE E) (hm : HM i108 m E) : Sound Tryz.prog 108 m := sound_of i108 Tryz.func108 rfl c108 hE hm
def j109 : C := (.seq (.region [nO 3 (.box (.t 0)),
  nO 4 (.box (.t 1)),
  nO 6 (.mov (.c (.int .i64 0)))] false) (.seq (.region [nO 8 (.load true 7 (.t 3)),
  nO 9 (.call false 54 [(.t 8)]),
  mO 7 9] false) (.seq (.block 0 (.seq (.region [mO 11 7,
  nO 12 (.bin .neq (.t 11) (.c (.int .i64 0))),
  mO 10 12] false) (.cond (.t 10) (.seq (.region [mO 13 7,
  mO 6 13] false) .ret) (.seq (.region [nO 15 (.load true 7 (.t 3)),
  nO 16 (.load true 5 (.t 4)),
  nO 17 (.call false 142 [(.t 15), (.t 16)]),
  nO 18 (.un .not (.t 17)),
  mO 19 18,
  mG 20 2 19 false,
  gO 21 (.fad 6 (.t 3)) 19 false,
  gO 22 (.load false 1 (.t 21)) 19 false,
  gO 23 (.call false 143 [(.t 20), (.t 22)]) 19 false,
  gO 24 (.bin .neq (.t 23) (.c (.int .i64 0))) 19 false,
  nO 25 (.pick (.t 19) (.c (.bool true)) (.t 24)),
  mO 14 25] false) (.cond (.t 14) (.seq (.region [nO 6 (.mov (.c (.int .i64 1)))] false) .ret) .skip))))) (.seq (.region [nO 6 (.mov (.c (.int .i64 0)))] false) .ret))))
def i109 : F := ⟨3, 26, j109, [.t 6]⟩
theorem b109 : i109.body = j109 := rfl
theorem q109 : i109.res = [.t 6] := rfl
theorem c109 : chkF Tryz.prog Tryz.f109 i109 = true := by kernel_rfl
theorem s109 {m E} (hE : HE E) (hm : HM i109 m E) : Sound Tryz.prog 109 m := sound_of i109 Tryz.func109 rfl c109 hE hm
def j110 : C := (.seq (.region [nO 6 (.mov (.c (.bool false)))] false) (.seq (.region [mO 7 0,
  mO 8 1,
  nO 9 (.bin .geq (.t 7) (.t 8)),
  mO 10 9,
  mG 11 0 10 true,
  mG 12 2 10 true,
  gO 13 (.bin .leq (.t 11) (.t 12)) 10 true,
  nO 14 (.pick (.t 10) (.t 13) (.c (.bool false))),
  mO 6 14] false) .ret))
def i110 : F := ⟨3, 15, j110, [.t 6]⟩
theorem b110 : i110.body = j110 := rfl
theorem q110 : i110.res = [.t 6] := rfl
theorem c110 : chkF Tryz.prog Tryz.f110 i110 = true := by kernel_rfl
theorem s110 {m E} (hE : HE E) (hm : HM i110 m E) : Sound Tryz.prog 110 m := sound_of i110 Tryz.func110 rfl c110 hE hm
def j116 : C := (.seq (.region [nO 2 (.mov (.c (.bool false)))] false) (.seq (.region [mO 3 0,
  nO 4 (.call false 110 [(.t 3), (.c (.int .i64 1)), (.c (.int .i64 1073741824))]),
  mO 2 4] false) .ret))
def i116 : F := ⟨1, 5, j116, [.t 2]⟩
theorem b116 : i116.body = j116 := rfl
theorem q116 : i116.res = [.t 2] := rfl
theorem c116 : chkF Tryz.prog Tryz.f116 i116 = true := by kernel_rfl
theorem s116 {m E} (hE : HE E) (hm : HM i116 m E) : Sound Tryz.prog 116 m := sound_of i116 Tryz.func116 rfl c116 hE hm
def j117 : C := (.seq (.region [nO 4 (.mov (.c (.int .i64 0)))] false) (.seq (.seq (.region [mO 6 0,
  nO 7 (.len (.t 6)),
  nO 8 (.mov (.c (.int .i64 0)))] false) (.block 0 (.loop (.keep [0, 1, 7, 8] (.seq (.region [nO 9 (.bin .lss (.t 8) (.t 7))] false) (.seq (.cond (.t 9) .skip (.exit 0)) (.seq (.block 1 (.seq (.region [mO 10 8,
  mO 5 10] false) (.seq (.region [mO 11 1,
  mO 12 0,
  mO 13 5,
  nO 14 (.iad 3 (.t 12) (.t 13)),
  nO 15 (.load true 3 (.t 14)),
  nO 16 (.callv false (.t 11) [(.t 15)])] false) (.cond (.t 16) (.seq (.region [mO 17 5,
  mO 4 17] false) .ret) .skip)))) (.region [nO 18 (.bin .add (.t 8) (.c (.int .i64 1))),
  mO 8 18] false)))))))) (.seq (.region [nO 4 (.mov (.c (.int .i64 (-1))))] false) .ret)))
def i117 : F := ⟨2, 19, j117, [.t 4]⟩
theorem b117 : i117.body = j117 := rfl
theorem q117 : i117.res = [.t 4] := rfl
theorem c117 : chkF Tryz.prog Tryz.f117 i117 = true := by kernel_rfl
theorem s117 {m E} (hE : HE E) (hm : HM i117 m E) : Sound Tryz.prog 117 m := sound_of i117 Tryz.func117 rfl c117 hE hm
def j118 : C := (.seq (.region [nO 2 (.box (.t 0)),
  nO 3 (.mov (.c (.bool false)))] false) (.seq (.region [nO 4 (.fad 0 (.t 2)),
  nO 5 (.load false 1 (.t 4)),
  nO 6 (.load false 1 (.t 1)),
  nO 7 (.bin .eql (.t 5) (.t 6)),
  mO 3 7] false) .ret))
def i118 : F := ⟨2, 8, j118, [.t 3]⟩
theorem b118 : i118.body = j118 := rfl
theorem q118 : i118.res = [.t 3] := rfl
theorem c118 : chkF Tryz.prog Tryz.f118 i118 = true := by kernel_rfl
theorem s118 {m E} (hE : HE E) (hm : HM i118 m E) : Sound Tryz.prog 118 m := sound_of i118 Tryz.func118 rfl c118 hE hm
def j119 : C := (.seq (.region [nO 5 (.box (.t 2)),
  nO 6 (.mov (.c (.row [])))] false) (.seq (.region [nO 7 (.mov (.c (.int .i64 0)))] false) (.seq (.block 0 (.loop (.keep [0, 1, 5, 7] (.seq (.seq (.region [⟨some 8, .mov (.t 7), none, [9, 10], []⟩,⟨some 9, .mov (.t 1), none, [8], []⟩,⟨some 10, .len (.t 9), none, [8], [1]⟩,⟨some 11, .bin .lss (.t 8) (.t 10), none, [], [0, 1, 2]⟩,⟨some 12, .mov (.t 11), none, [], [0, 1, 2, 3]⟩,⟨some 13, .mov (.t 0), some (12, true), [14, 15, 16, 17, 18, 19, 20], [0, 1, 2, 3, 4]⟩,⟨some 14, .mov (.t 1), some (12, true), [13, 15, 19, 20], [0, 1, 2, 3, 4]⟩,⟨some 15, .mov (.t 7), some (12, true), [13, 14, 19, 20], [0, 1, 2, 3, 4]⟩,⟨some 16, .iad 3 (.t 14) (.t 15), some (12, true), [13, 19, 20], [0, 1, 2, 3, 4, 6, 7]⟩,⟨some 17, .fad 0 (.t 16), some (12, true), [13, 19, 20], [0, 1, 2, 3, 4, 6, 7, 8]⟩,⟨some 18, .load false 1 (.t 17), some (12, true), [13, 19, 20], [0, 1, 2, 3, 4, 6, 7, 8, 9]⟩,⟨some 19, .fad 0 (.t 5), some (12, true), [13, 14, 15, 16, 17, 18], [0, 1, 2, 3, 4]⟩,⟨some 20, .load false 1 (.t 19), some (12, true), [13, 14, 15, 16, 17, 18], [0, 1, 2, 3, 4, 11]⟩,⟨some 21, .call false 28 [(.t 13), (.t 18), (.t 20)], some (12, true), [], [0, 1, 2, 3, 4, 5, 6, 7, 8, 9, 10, 11, 12]⟩,⟨some 22, .pick (.t 12) (.t 21) (.c (.bool false)), none, [], [0, 1, 2, 3, 4, 5, 6, 7, 8, 9, 10, 11, 12, 13]⟩] true) (.cond (.t 22) .skip (.exit 0))) (.block 1 (.region [mO 23 7,
  nO 24 (.bin .add (.t 23) (.c (.int .i64 1))),
  mO 7 24] false)))))) (.seq (.region [⟨some 25, .mov (.t 1), none, [27, 28, 29], []⟩,⟨some 26, .call true 101 [(.t 25)], none, [27, 28, 29], [0]⟩,⟨some 27, .mov (.t 7), none, [25, 26, 28, 29], []⟩,⟨some 28, .load true 3 (.t 5), none, [25, 26, 27], []⟩,⟨some 29, .bsl 51 3 1 [.int .i64 0, .int .i64 0, .int .i64 0] [(0, (.t 28))], none, [25, 26, 27], [3]⟩,⟨some 30, .callo 152 [(.t 26), (.t 27), (.t 29)], none, [], [0, 1, 2, 3, 4]⟩,⟨some 6, .mov (.t 30), none, [], [0, 1, 2, 3, 4, 5]⟩] true) .ret))))
def i119 : F := ⟨3, 31, j119, [.t 6]⟩
theorem b119 : i119.body = j119 := rfl
theorem q119 : i119.res = [.t 6] := rfl
theorem c119 : chkF Tryz.prog Tryz.f119 i119 = true := by kernel_rfl
theorem s119 {m E} (hE : HE E) (hm : HM i119 m E) : Sound Tryz.prog 119 m := sound_of i119 Tryz.func119 rfl c119 hE hm
def j120 : C := (.seq (.region [nO 4 (.nilsl 51 3 0)] false) (.seq (.region [mO 8 0,
  mO 9 1,
  nO 10 (.call false 117 [(.t 8), (.t 9)]),
  mO 5 10] false) (.seq (.seq (.region [mO 11 5,
  nO 12 (.bin .eql (.t 11) (.c (.int .i64 (-1))))] false) (.cond (.t 12) (.seq (.region [mO 13 0,
  mO 4 13] false) .ret) .skip)) (.seq (.seq (.region [mO 14 5,
  nO 15 (.bin .add (.t 14) (.c (.int .i64 1))),
  mO 6 15] false) (.block 0 (.loop (.keep [0, 1, 5, 6] (.seq (.seq (.region [mO 16 6,
  mO 17 0,
  nO 18 (.len (.t 17)),
  nO 19 (.bin .lss (.t 16) (.t 18))] false) (.cond (.t 19) .skip (.exit 0))) (.seq (.block 1 (.seq (.region [mO 22 0,
  mO 23 6,
  nO 24 (.iad 3 (.t 22) (.t 23)),
  nO 25 (.load true 3 (.t 24)),
  nO 7 (.alloc [.int .i64 0, .int .i64 0, .int .i64 0]),⟨none, .store none 3 (.t 7) (.t 25), none, [], []⟩] false) (.seq (.region [mO 26 1,
  nO 27 (.load true 3 (.t 7)),
  nO 28 (.callv false (.t 26) [(.t 27)]),
  nO 29 (.un .not (.t 28))] false) (.cond (.t 29) (.seq (.region [mO 30 0,
  mO 31 5,
  nO 32 (.load true 3 (.t 7)),
  nO 33 (.iad 3 (.t 30) (.t 31)),⟨none, .store none 3 (.t 33) (.t 32), none, [], []⟩] false) (.region [mO 34 5,
  nO 35 (.bin .add (.t 34) (.c (.int .i64 1))),
  mO 5 35] false)) .skip)))) (.region [mO 20 6,
  nO 21 (.bin .add (.t 20) (.c (.int .i64 1))),
  mO 6 21] false))))))) (.seq (.region [mO 36 0,
  mO 37 5,
  nO 38 (.cut 3 (.t 36) (some (.t 37)) none),⟨none, .clr 51 3 (.t 38), none, [], []⟩] false) (.seq (.region [mO 39 0,
  mO 40 5,
  nO 41 (.cut 3 (.t 39) none (some (.t 40))),
  mO 4 41] false) .ret))))))
def i120 : F := ⟨2, 42, j120, [.t 4]⟩
theorem b120 : i120.body = j120 := rfl
theorem q120 : i120.res = [.t 4] := rfl
theorem c120 : chkF Tryz.prog Tryz.f120 i120 = true := by kernel_rfl
theorem s120 {m E} (hE : HE E) (hm : HM i120 m E) : Sound Tryz.prog 120 m := sound_of i120 Tryz.func120 rfl c120 hE hm
def j121 : C := (.seq (.region [nO 2 (.box (.t 0)),
  nO 3 (.mov (.c (.bool false)))] false) (.seq (.region [nO 4 (.fad 0 (.t 2)),
  nO 5 (.load false 1 (.t 4)),
  nO 6 (.load false 1 (.t 1)),
  nO 7 (.bin .eql (.t 5) (.t 6)),
  mO 3 7] false) .ret))
def i121 : F := ⟨2, 8, j121, [.t 3]⟩
theorem b121 : i121.body = j121 := rfl
theorem q121 : i121.res = [.t 3] := rfl
theorem c121 : chkF Tryz.prog Tryz.f121 i121 = true := by kernel_rfl
theorem s121 {m E} (hE : HE E) (hm : HM i121 m E) : Sound Tryz.prog 121 m := sound_of i121 Tryz.func121 rfl c121 hE hm
def j122 : C := (.seq (.region [nO 3 (.box (.t 1)),
  nO 4 (.nilsl 3 1 0)] false) (.seq (.region [mO 5 0,
  nO 6 (.bsl 3 1 1 [.int .i64 0] [(0, (.t 5))]),
  nO 7 (.fad 8 (.t 3)),
  nO 8 (.load false 1 (.t 7)),
  nO 9 (.app 3 1 8 (.t 6) (.t 8)),
  mO 4 9] false) .ret))
def i122 : F := ⟨2, 10, j122, [.t 4]⟩
theorem b122 : i122.body = j122 := rfl
theorem q122 : i122.res = [.t 4] := rfl
theorem c122 : chkF Tryz.prog Tryz.f122 i122 = true := by kernel_rfl
theorem s122 {m E} (hE : HE E) (hm : HM i122 m E) : Sound Tryz.prog 122 m := sound_of i122 Tryz.func122 rfl c122 hE hm
def j123 : C := (.seq (.region [nO 2 (.mov (.c (.int .i64 0))),
  nO 3 (.mov (.c (.int .i64 0)))] false) (.seq (.seq (.region [mO 4 0,
  nO 5 (.call false 131 [(.t 4), (.c (.int .i64 4))]),
  nO 6 (.un .not (.t 5))] false) (.cond (.t 6) (.seq (.region [nO 2 (.mov (.c (.int .i64 0))),
  nO 3 (.mov (.c (.int .i64 1)))] false) .ret) .skip)) (.seq (.region [nO 7 (.call false 153 []),
  mO 8 0,
  nO 9 (.idx false 1 4 (.t 7) (.t 8)),
  mO 2 9,
  nO 3 (.mov (.c (.int .i64 0)))] false) .ret)))
def i123 : F := ⟨1, 10, j123, [.t 2, .t 3]⟩
theorem b123 : i123.body = j123 := rfl
theorem q123 : i123.res = [.t 2, .t 3] := rfl
theorem c123 : chkF Tryz.prog Tryz.f123 i123 = true := by kernel_rfl
theorem s123 {m E} (hE : HE E) (hm : HM i123 m E) : Sound Tryz.prog 123 m := sound_of i123 Tryz.func123 rfl c123 hE hm
def j124 : C := (.seq (.region [nO 2 (.mov (.c (.int .i64 0))),
  nO 3 (.mov (.c (.int .i64 0)))] false) (.seq (.seq (.region [mO 4 0,
  nO 5 (.call false 85 [(.t 4)]),
  nO 6 (.un .not (.t 5))] false) (.cond (.t 6) (.seq (.region [nO 2 (.mov (.c (.int .i64 0))),
  nO 3 (.mov (.c (.int .i64 1)))] false) .ret) .skip)) (.seq (.region [nO 7 (.call false 154 []),
  mO 8 0,
  nO 9 (.idx false 1 8 (.t 7) (.t 8)),
  mO 2 9,
  nO 3 (.mov (.c (.int .i64 0)))] false) .ret)))
def i124 : F := ⟨1, 10, j124, [.t 2, .t 3]⟩
theorem b124 : i124.body = j124 := rfl
theorem q124 : i124.res = [.t 2, .t 3] := rfl
theorem c124 : chkF Tryz.prog Tryz.f124 i124 = true := by kernel_rfl
theorem s124 {m E} (hE : HE E) (hm : HM i124 m E) : Sound Tryz.prog 124 m := sound_of i124 Tryz.func124 rfl c124 hE hm
def j125 : C := (.seq (.region [nO 4 (.mov (.c (.int .i64 0)))] false) (.seq (.region [mO 6 1,
  mO 7 0,
  nO 8 (.bin .sub (.t 6) (.t 7)),
  mO 5 8] false) (.seq (.seq (.region [mO 9 5,
  nO 10 (.bin .lss (.t 9) (.c (.int .i64 0)))] false) (.cond (.t 10) (.region [mO 11 5,
  nO 12 (.bin .add (.t 11) (.c (.int .i64 4611686018427387904))),
  mO 5 12] false) .skip)) (.seq (.region [mO 13 5,
  mO 4 13] false) .ret))))
def i125 : F := ⟨2, 14, j125, [.t 4]⟩
theorem b125 : i125.body = j125 := rfl
theorem q125 : i125.res = [.t 4] := rfl
theorem c125 : chkF Tryz.prog Tryz.f125 i125 = true := by kernel_rfl
theorem s125 {m E} (hE : HE E) (hm : HM i125 m E) : Sound Tryz.prog 125 m := sound_of i125 Tryz.func125 rfl c125 hE hm
def j126 : C := (.seq (.region [nO 4 (.mov (.c (.bool false)))] false) (.seq (.region [mO 5 0,
  mO 6 1,
  nO 7 (.call false 155 [(.t 5), (.t 6)]),
  nO 8 (.bin .geq (.t 7) (.c (.int .i64 0))),
  mO 4 8] false) .ret))
def i126 : F := ⟨2, 9, j126, [.t 4]⟩
theorem b126 : i126.body = j126 := rfl
theorem q126 : i126.res = [.t 4] := rfl
theorem c126 : chkF Tryz.prog Tryz.f126 i126 = true := by kernel_rfl
theorem s126 {m E} (hE : HE E) (hm : HM i126 m E) : Sound Tryz.prog 126 m := sound_of i126 Tryz.func126 rfl c126 hE hm
def j127 : C := (.seq (.region [nO 2 (.mov (.c (.bool false)))] false) (.seq (.region [mO 3 0,
  nO 4 (.call false 85 [(.t 3)]),
  nO 5 (.un .not (.t 4)),
  mO 2 5] false) .ret))
def i127 : F := ⟨1, 6, j127, [.t 2]⟩
theorem b127 : i127.body = j127 := rfl
theorem q127 : i127.res = [.t 2] := rfl
theorem c127 : chkF Tryz.prog Tryz.f127 i127 = true := by kernel_rfl
theorem s127 {m E} (hE : HE E) (hm : HM i127 m E) : Sound Tryz.prog 127 m := sound_of i127 Tryz.func127 rfl c127 hE hm
def j128 : C := (.seq (.region [nO 1 (.box (.t 0)),
  nO 2 (.alloc [.int .i64 0, .int .i64 0, .int .i64 0, .int .i64 0, .int .i64 0, .int .i64 0, .int .i64 0, .int .i64 0, .int .i64 0, .int .i64 0, .int .i64 0, .int .i64 0, .int .i64 0, .int .i64 0, .row [], .row []]),
  nO 3 (.mov (.c (.bool false)))] false) (.seq (.seq (.region [nO 4 (.fad 0 (.t 1)),
  nO 5 (.load false 1 (.t 4))] false) (.block 0 (.seq (.seq (.region [nO 7 (.bin .eql (.t 5) (.c (.int .i64 1))),
  mO 6 7] false) (.cond (.t 6) .skip (.seq (.region [nO 8 (.bin .eql (.t 5) (.c (.int .i64 5))),
  mO 6 8] false) (.cond (.t 6) .skip (.region [nO 9 (.bin .eql (.t 5) (.c (.int .i64 6))),
  mO 6 9] false))))) (.cond (.t 6) (.region [nO 3 (.mov (.c (.bool true)))] false) (.seq (.region [nO 11 (.bin .eql (.t 5) (.c (.int .i64 2))),
  mO 10 11] false) (.cond (.t 10) (.seq (.region [nO 12 (.fad 6 (.t 1)),
  nO 13 (.load false 1 (.t 12)),
  nO 14 (.call false 110 [(.t 13), (.c (.int .i64 0)), (.c (.int .i64 1073741824))]),
  mO 3 14] false) (.region [nO 15 (.fad 6 (.t 1)),⟨none, .store none 1 (.t 15) (.c (.int .i64 0)), none, [], []⟩] false)) (.seq (.region [nO 17 (.bin .eql (.t 5) (.c (.int .i64 3))),
  mO 16 17] false) (.cond (.t 16) (.seq (.region [nO 18 (.fad 6 (.t 1)),⟨some 19, .load false 1 (.t 18), none, [], [0]⟩,⟨some 20, .call false 110 [(.t 19), (.c (.int .i64 0)), (.c (.int .i64 1073741824))], none, [], [0, 1]⟩,⟨some 21, .mov (.t 20), none, [], [0, 1, 2]⟩,⟨some 22, .fad 7 (.t 1), some (21, true), [], [0, 1, 2, 3]⟩,⟨some 23, .load false 1 (.t 22), some (21, true), [], [0, 1, 2, 3, 4]⟩,⟨some 24, .call false 116 [(.t 23)], some (21, true), [], [0, 1, 2, 3, 4, 5]⟩,⟨some 25, .pick (.t 21) (.t 24) (.c (.bool false)), none, [], [0, 1, 2, 3, 4, 5, 6]⟩,⟨some 26, .mov (.t 25), none, [], [0, 1, 2, 3, 4, 5, 6, 7]⟩,⟨some 27, .fad 8 (.t 1), some (26, true), [], [0, 1, 2, 3, 4, 5, 6, 7, 8]⟩,⟨some 28, .load false 1 (.t 27), some (26, true), [], [0, 1, 2, 3, 4, 5, 6, 7, 8, 9]⟩,⟨some 29, .call false 110 [(.t 28), (.c (.int .i64 0)), (.c (.int .i64 1073741824))], some (26, true), [], [0, 1, 2, 3, 4, 5, 6, 7, 8, 9, 10]⟩,⟨some 30, .pick (.t 26) (.t 29) (.c (.bool false)), none, [], [0, 1, 2, 3, 4, 5, 6, 7, 8, 9, 10, 11]⟩,⟨some 31, .mov (.t 30), none, [], [0, 1, 2, 3, 4, 5, 6, 7, 8, 9, 10, 11, 12]⟩,⟨some 32, .fad 14 (.t 1), some (31, true), [], [0, 1, 2, 3, 4, 5, 6, 7, 8, 9, 10, 11, 12, 13]⟩,⟨some 33, .load false 1 (.t 32), some (31, true), [], [0, 1, 2, 3, 4, 5, 6, 7, 8, 9, 10, 11, 12, 13, 14]⟩,⟨some 34, .len (.t 33), some (31, true), [], [0, 1, 2, 3, 4, 5, 6, 7, 8, 9, 10, 11, 12, 13, 14, 15]⟩,⟨some 35, .bin .gtr (.t 34) (.c (.int .i64 0)), some (31, true), [], [0, 1, 2, 3, 4, 5, 6, 7, 8, 9, 10, 11, 12, 13, 14, 15, 16]⟩,⟨some 36, .pick (.t 31) (.t 35) (.c (.bool false)), none, [], [0, 1, 2, 3, 4, 5, 6, 7, 8, 9, 10, 11, 12, 13, 14, 15, 16, 17]⟩,⟨some 37, .mov (.t 36), none, [], [0, 1, 2, 3, 4, 5, 6, 7, 8, 9, 10, 11, 12, 13, 14, 15, 16, 17, 18]⟩,⟨some 38, .fad 14 (.t 1), some (37, true), [], [0, 1, 2, 3, 4, 5, 6, 7, 8, 9, 10, 11, 12, 13, 14, 15, 16, 17, 18, 19]⟩,⟨some 39, .load false 1 (.t 38), some (37, true), [], [0, 1, 2, 3, 4, 5, 6, 7, 8, 9, 10, 11, 12, 13, 14, 15, 16, 17, 18, 19, 20]⟩,⟨some 40, .call false 156 [(.t 39)], some (37, true), [], [0, 1, 2, 3, 4, 5, 6, 7, 8, 9, 10, 11, 12, 13, 14, 15, 16, 17, 18, 19, 20, 21]⟩,⟨some 41, .pick (.t 37) (.t 40) (.c (.bool false)), none, [], [0, 1, 2, 3, 4, 5, 6, 7, 8, 9, 10, 11, 12, 13, 14, 15, 16, 17, 18, 19, 20, 21, 22]⟩,⟨some 42, .mov (.t 41), none, [], [0, 1, 2, 3, 4, 5, 6, 7, 8, 9, 10, 11, 12, 13, 14, 15, 16, 17, 18, 19, 20, 21, 22, 23]⟩,⟨some 43, .fad 14 (.t 1), some (42, true), [47, 48], [0, 1, 2, 3, 4, 5, 6, 7, 8, 9, 10, 11, 12, 13, 14, 15, 16, 17, 18, 19, 20, 21, 22, 23, 24]⟩,⟨some 44, .load false 1 (.t 43), some (42, true), [47, 48], [0, 1, 2, 3, 4, 5, 6, 7, 8, 9, 10, 11, 12, 13, 14, 15, 16, 17, 18, 19, 20, 21, 22, 23, 24, 25]⟩,⟨some 45, .iad 1 (.t 44) (.c (.int .i64 0)), some (42, true), [47, 48], [0, 1, 2, 3, 4, 5, 6, 7, 8, 9, 10, 11, 12, 13, 14, 15, 16, 17, 18, 19, 20, 21, 22, 23, 24, 25, 26]⟩,⟨some 46, .load false 1 (.t 45), some (42, true), [47, 48], [0, 1, 2, 3, 4, 5, 6, 7, 8, 9, 10, 11, 12, 13, 14, 15, 16, 17, 18, 19, 20, 21, 22, 23, 24, 25, 26, 27]⟩,⟨some 47, .fad 1 (.t 1), some (42, true), [43, 44, 45, 46], [0, 1, 2, 3, 4, 5, 6, 7, 8, 9, 10, 11, 12, 13, 14, 15, 16, 17, 18, 19, 20, 21, 22, 23, 24]⟩,⟨some 48, .load false 1 (.t 47), some (42, true), [43, 44, 45, 46], [0, 1, 2, 3, 4, 5, 6, 7, 8, 9, 10, 11, 12, 13, 14, 15, 16, 17, 18, 19, 20, 21, 22, 23, 24, 29]⟩,⟨some 49, .bin .eql (.t 46) (.t 48), some (42, true), [], [0, 1, 2, 3, 4, 5, 6, 7, 8, 9, 10, 11, 12, 13, 14, 15, 16, 17, 18, 19, 20, 21, 22, 23, 24, 25, 26, 27, 28, 29, 30]⟩,⟨some 50, .pick (.t 42) (.t 49) (.c (.bool false)), none, [], [0, 1, 2, 3, 4, 5, 6, 7, 8, 9, 10, 11, 12, 13, 14, 15, 16, 17, 18, 19, 20, 21, 22, 23, 24, 25, 26, 27, 28, 29, 30, 31]⟩,⟨some 3, .mov (.t 50), none, [], [0, 1, 2, 3, 4, 5, 6, 7, 8, 9, 10, 11, 12, 13, 14, 15, 16, 17, 18, 19, 20, 21, 22, 23, 24, 25, 26, 27, 28, 29, 30, 31, 32]⟩] true) (.region [nO 51 (.fad 6 (.t 1)),⟨none, .store none 1 (.t 51) (.c (.int .i64 0)), none, [], []⟩,
  nO 52 (.fad 7 (.t 1)),⟨none, .store none 1 (.t 52) (.c (.int .i64 0)), none, [], []⟩,
  nO 53 (.fad 8 (.t 1)),⟨none, .store none 1 (.t 53) (.c (.int .i64 0)), none, [], []⟩,
  nO 54 (.fad 14 (.t 1)),⟨none, .store none 1 (.t 54) (.c (.row [])), none, [], []⟩] false)) (.seq (.region [nO 56 (.bin .eql (.t 5) (.c (.int .i64 4))),
  mO 55 56] false) (.cond (.t 55) (.seq (.region [nO 57 (.fad 10 (.t 1)),
  nO 58 (.load false 1 (.t 57)),
  nO 59 (.call false 85 [(.t 58)]),
  mO 60 59,
  gO 61 (.fad 10 (.t 1)) 60 true,
  gO 62 (.load false 1 (.t 61)) 60 true,
  gO 63 (.fad 1 (.t 1)) 60 true,
  gO 64 (.load false 1 (.t 63)) 60 true,
  gO 65 (.bin .neq (.t 62) (.t 64)) 60 true,
  nO 66 (.pick (.t 60) (.t 65) (.c (.bool false))),
  mO 67 66,
  gO 68 (.fad 10 (.t 1)) 67 true,
  gO 69 (.load false 1 (.t 68)) 67 true,
  gO 70 (.fad 3 (.t 1)) 67 true,
  gO 71 (.load false 1 (.t 70)) 67 true,
  gO 72 (.bin .neq (.t 69) (.t 71)) 67 true,
  nO 73 (.pick (.t 67) (.t 72) (.c (.bool false))),
  mO 3 73] false) (.region [nO 74 (.fad 10 (.t 1)),⟨none, .store none 1 (.t 74) (.c (.int .i64 0)), none, [], []⟩] false)) (.seq (.region [nO 76 (.bin .eql (.t 5) (.c (.int .i64 7))),
  mO 75 76] false) (.cond (.t 75) (.seq (.region [nO 77 (.load true 16 (.t 1)),
  nO 78 (.call false 157 [(.t 77)]),
  mO 79 78,
  gO 80 (.fad 9 (.t 1)) 79 true,
  gO 81 (.load false 1 (.t 80)) 79 true,
  gO 82 (.call false 56 [(.t 81)]) 79 true,
  nO 83 (.pick (.t 79) (.t 82) (.c (.bool false))),
  mO 3 83] false) (.region [nO 84 (.fad 6 (.t 1)),⟨none, .store none 1 (.t 84) (.c (.int .i64 0)), none, [], []⟩,
  nO 85 (.fad 7 (.t 1)),⟨none, .store none 1 (.t 85) (.c (.int .i64 0)), none, [], []⟩,
  nO 86 (.fad 9 (.t 1)),⟨none, .store none 1 (.t 86) (.c (.int .i64 0)), none, [], []⟩] false)) (.seq (.region [nO 88 (.bin .eql (.t 5) (.c (.int .i64 8))),
  mO 87 88] false) (.cond (.t 87) (.seq (.region [nO 89 (.load true 16 (.t 1)),
  nO 90 (.call false 157 [(.t 89)]),
  mO 3 90] false) (.region [nO 91 (.fad 6 (.t 1)),⟨none, .store none 1 (.t 91) (.c (.int .i64 0)), none, [], []⟩,
  nO 92 (.fad 7 (.t 1)),⟨none, .store none 1 (.t 92) (.c (.int .i64 0)), none, [], []⟩] false)) (.seq (.region [nO 94 (.bin .eql (.t 5) (.c (.int .i64 9))),
  mO 93 94] false) (.cond (.t 93) (.seq (.region [nO 95 (.load true 16 (.t 1)),
  nO 96 (.call false 157 [(.t 95)]),
  mO 97 96,
  gO 98 (.fad 8 (.t 1)) 97 true,
  gO 99 (.load false 1 (.t 98)) 97 true,
  gO 100 (.fad 7 (.t 1)) 97 true,
  gO 101 (.load false 1 (.t 100)) 97 true,
  gO 102 (.call false 110 [(.t 99), (.t 101), (.c (.int .i64 1073741824))]) 97 true,
  nO 103 (.pick (.t 97) (.t 102) (.c (.bool false))),
  mO 3 103] false) (.region [nO 104 (.fad 6 (.t 1)),⟨none, .store none 1 (.t 104) (.c (.int .i64 0)), none, [], []⟩,
  nO 105 (.fad 7 (.t 1)),⟨none, .store none 1 (.t 105) (.c (.int .i64 0)), none, [], []⟩,
  nO 106 (.fad 8 (.t 1)),⟨none, .store none 1 (.t 106) (.c (.int .i64 0)), none, [], []⟩] false)) (.seq (.region [nO 108 (.bin .eql (.t 5) (.c (.int .i64 10))),
  mO 107 108] false) (.cond (.t 107) (.seq (.region [nO 109 (.load true 16 (.t 1)),
  nO 110 (.call false 158 [(.t 109)]),
  mO 111 110,
  gO 112 (.fad 12 (.t 1)) 111 true,
  gO 113 (.load false 1 (.t 112)) 111 true,
  gO 114 (.call false 116 [(.t 113)]) 111 true,
  nO 115 (.pick (.t 111) (.t 114) (.c (.bool false))),
  mO 3 115] false) (.region [nO 116 (.fad 10 (.t 1)),⟨none, .store none 1 (.t 116) (.c (.int .i64 0)), none, [], []⟩,
  nO 117 (.fad 11 (.t 1)),⟨none, .store none 1 (.t 117) (.c (.int .i64 0)), none, [], []⟩,
  nO 118 (.fad 12 (.t 1)),⟨none, .store none 1 (.t 118) (.c (.int .i64 0)), none, [], []⟩,
  nO 119 (.fad 9 (.t 1)),⟨none, .store none 1 (.t 119) (.c (.int .i64 0)), none, [], []⟩,
  nO 120 (.fad 13 (.t 1)),⟨none, .store none 1 (.t 120) (.c (.int .i64 0)), none, [], []⟩] false)) (.seq (.region [nO 122 (.bin .eql (.t 5) (.c (.int .i64 11))),
  mO 121 122] false) (.cond (.t 121) (.seq (.region [nO 123 (.load true 16 (.t 1)),
  nO 124 (.call false 158 [(.t 123)]),
  mO 125 124,
  gO 126 (.fad 12 (.t 1)) 125 true,
  gO 127 (.load false 1 (.t 126)) 125 true,
  gO 128 (.call false 110 [(.t 127), (.c (.int .i64 1)), (.c (.int .i64 40))]) 125 true,
  nO 129 (.pick (.t 125) (.t 128) (.c (.bool false))),
  mO 130 129,
  gO 131 (.fad 14 (.t 1)) 130 true,
  gO 132 (.load false 1 (.t 131)) 130 true,
  gO 133 (.call false 156 [(.t 132)]) 130 true,
  nO 134 (.pick (.t 130) (.t 133) (.c (.bool false))),
  mO 135 134,
  gO 136 (.fad 15 (.t 1)) 135 true,
  gO 137 (.load false 1 (.t 136)) 135 true,
  gO 138 (.call false 156 [(.t 137)]) 135 true,
  nO 139 (.pick (.t 135) (.t 138) (.c (.bool false))),
  mO 140 139,
  gO 141 (.fad 14 (.t 1)) 140 true,
  gO 142 (.load false 1 (.t 141)) 140 true,
  gO 143 (.fad 15 (.t 1)) 140 true,
  gO 144 (.load false 1 (.t 143)) 140 true,
  gO 145 (.bsl 24 1 2 [.row []] [(0, (.t 142)), (1, (.t 144))]) 140 true,
  gO 146 (.call false 160 [(.t 145)]) 140 true,
  gO 147 (.call false 159 [(.t 146)]) 140 true,
  nO 148 (.pick (.t 140) (.t 147) (.c (.bool false))),
  mO 3 148] false) (.region [nO 149 (.fad 10 (.t 1)),⟨none, .store none 1 (.t 149) (.c (.int .i64 0)), none, [], []⟩,
  nO 150 (.fad 11 (.t 1)),⟨none, .store none 1 (.t 150) (.c (.int .i64 0)), none, [], []⟩,
  nO 151 (.fad 12 (.t 1)),⟨none, .store none 1 (.t 151) (.c (.int .i64 0)), none, [], []⟩,
  nO 152 (.fad 9 (.t 1)),⟨none, .store none 1 (.t 152) (.c (.int .i64 0)), none, [], []⟩,
  nO 153 (.fad 13 (.t 1)),⟨none, .store none 1 (.t 153) (.c (.int .i64 0)), none, [], []⟩,
  nO 154 (.fad 14 (.t 1)),⟨none, .store none 1 (.t 154) (.c (.row [])), none, [], []⟩,
  nO 155 (.fad 15 (.t 1)),⟨none, .store none 1 (.t 155) (.c (.row [])), none, [], []⟩] false)) (.seq (.region [nO 157 (.bin .eql (.t 5) (.c (.int .i64 12))),
  mO 156 157] false) (.cond (.t 156) (.seq (.region [nO 158 (.fad 12 (.t 1)),
  nO 159 (.load false 1 (.t 158)),
  nO 160 (.call false 110 [(.t 159), (.c (.int .i64 1)), (.c (.int .i64 40))]),
  mO 161 160,
  gO 162 (.fad 9 (.t 1)) 161 true,
  gO 163 (.load false 1 (.t 162)) 161 true,
  gO 164 (.call false 85 [(.t 163)]) 161 true,
  nO 165 (.pick (.t 161) (.t 164) (.c (.bool false))),
  mO 3 165] false) (.region [nO 166 (.fad 12 (.t 1)),⟨none, .store none 1 (.t 166) (.c (.int .i64 0)), none, [], []⟩,
  nO 167 (.fad 9 (.t 1)),⟨none, .store none 1 (.t 167) (.c (.int .i64 0)), none, [], []⟩] false)) (.seq (.region [nO 169 (.bin .eql (.t 5) (.c (.int .i64 13))),
  mO 168 169] false) (.cond (.t 168) (.seq (.region [nO 170 (.fad 12 (.t 1)),
  nO 171 (.load false 1 (.t 170)),
  nO 172 (.call false 110 [(.t 171), (.c (.int .i64 1)), (.c (.int .i64 40))]),
  mO 3 172] false) (.region [nO 173 (.fad 12 (.t 1)),⟨none, .store none 1 (.t 173) (.c (.int .i64 0)), none, [], []⟩] false)) .skip)))))))))))))))))))))))) (.seq (.region [nO 174 (.load true 16 (.t 1)),
  mO 175 3,⟨none, .store none 16 (.t 2) (.t 174), none, [], []⟩,
  mO 3 175] false) .ret)))
def i128 : F := ⟨1, 176, j128, [.c 2 16 true, .t 3]⟩
theorem c128 : chkF Tryz.prog Tryz.f128 i128 = true := by kernel_rfl
theorem s128 {m E} (hE : HE E) (hm : HM i128 m E) : Sound Tryz.prog 128 m := sound_of i128 Tryz.func128 rfl c128 hE hm
def j129 : C := (.seq (.region [nO 1 (.box (.t 0)),
  nO 2 (.mov (.c (.bool false)))] false) (.seq (.region [nO 3 (.fad 1 (.t 1)),
  nO 4 (.load false 1 (.t 3)),
  nO 5 (.call false 85 [(.t 4)]),
  mO 6 5,
  gO 7 (.fad 3 (.t 1)) 6 true,
  gO 8 (.load false 1 (.t 7)) 6 true,
  gO 9 (.call false 85 [(.t 8)]) 6 true,
  nO 10 (.pick (.t 6) (.t 9) (.c (.bool false))),
  mO 11 10,
  gO 12 (.fad 1 (.t 1)) 11 true,
  gO 13 (.load false 1 (.t 12)) 11 true,
  gO 14 (.fad 3 (.t 1)) 11 true,
  gO 15 (.load false 1 (.t 14)) 11 true,
  gO 16 (.bin .neq (.t 13) (.t 15)) 11 true,
  nO 17 (.pick (.t 11) (.t 16) (.c (.bool false))),
  mO 18 17,
  gO 19 (.fad 2 (.t 1)) 18 true,
  gO 20 (.load false 1 (.t 19)) 18 true,
  gO 21 (.call false 116 [(.t 20)]) 18 true,
  nO 22 (.pick (.t 18) (.t 21) (.c (.bool false))),
  mO 2 22] false) .ret))
def i129 : F := ⟨1, 23, j129, [.t 2]⟩
theorem c129 : chkF Tryz.prog Tryz.f129 i129 = true := by kernel_rfl
theorem s129 {m E} (hE : HE E) (hm : HM i129 m E) : Sound Tryz.prog 129 m := sound_of i129 Tryz.func129 rfl c129 hE hm
def j131 : C := (.seq (.region [nO 4 (.mov (.c (.bool false)))] false) (.seq (.region [mO 5 0,
  nO 6 (.bin .geq (.t 5) (.c (.int .i64 0))),
  mO 7 6,
  mG 8 0 7 true,
  mG 9 1 7 true,
  gO 10 (.bin .lss (.t 8) (.t 9)) 7 true,
  nO 11 (.pick (.t 7) (.t 10) (.c (.bool false))),
  mO 4 11] false) .ret))
def i131 : F := ⟨2, 12, j131, [.t 4]⟩
theorem b131 : i131.body = j131 := rfl
theorem q131 : i131.res = [.t 4] := rfl
theorem c131 : chkF Tryz.prog Tryz.f131 i131 = true := by kernel_rfl
theorem s131 {m E} (hE : HE E) (hm : HM i131 m E) : Sound Tryz.prog 131 m := sound_of i131 Tryz.func131 rfl c131 hE hm
def j132 : C := (.seq (.region [nO 2 (.box (.t 0)),
  nO 3 (.box (.t 1)),
  nO 4 (.mov (.c (.bool false)))] false) (.seq (.seq (.region [nO 5 (.load true 5 (.t 3)),
  nO 6 (.build [.int .i64 0, .int .i64 0, .int .i64 0, .row [], .row []] []),
  nO 7 (.call false 25 [(.t 5), (.t 6)])] false) (.cond (.t 7) (.seq (.region [nO 4 (.mov (.c (.bool true)))] false) .ret) .skip)) (.seq (.region [nO 8 (.fad 0 (.t 3)),
  nO 9 (.load false 1 (.t 8)),
  nO 10 (.call false 88 [(.t 9)]),
  mO 11 10,
  gO 12 (.fad 1 (.t 3)) 11 true,
  gO 13 (.load false 1 (.t 12)) 11 true,
  gO 14 (.call false 161 [(.t 13)]) 11 true,
  nO 15 (.pick (.t 11) (.t 14) (.c (.bool false))),
  mO 16 15,
  gO 17 (.fad 2 (.t 3)) 16 true,
  gO 18 (.load false 1 (.t 17)) 16 true,
  gO 19 (.fad 1 (.t 3)) 16 true,
  gO 20 (.load false 1 (.t 19)) 16 true,
  gO 21 (.call false 87 [(.t 18), (.t 20), (.c (.int .i64 1073741824))]) 16 true,
  nO 22 (.pick (.t 16) (.t 21) (.c (.bool false))),
  mO 23 22,
  gO 24 (.fad 3 (.t 3)) 23 true,
  gO 25 (.load false 1 (.t 24)) 23 true,
  gO 26 (.fad 1 (.t 3)) 23 true,
  gO 27 (.load false 1 (.t 26)) 23 true,
  gO 28 (.fad 4 (.t 2)) 23 true,
  gO 29 (.load false 1 (.t 28)) 23 true,
  gO 30 (.call false 162 [(.t 25), (.t 27), (.t 29)]) 23 true,
  nO 31 (.pick (.t 23) (.t 30) (.c (.bool false))),
  mO 32 31,
  gO 33 (.fad 4 (.t 3)) 32 true,
  gO 34 (.load false 1 (.t 33)) 32 true,
  gO 35 (.fad 1 (.t 3)) 32 true,
  gO 36 (.load false 1 (.t 35)) 32 true,
  gO 37 (.fad 5 (.t 2)) 32 true,
  gO 38 (.load false 1 (.t 37)) 32 true,
  gO 39 (.call false 163 [(.t 34), (.t 36), (.t 38)]) 32 true,
  nO 40 (.pick (.t 32) (.t 39) (.c (.bool false))),
  mO 4 40] false) .ret)))
def i132 : F := ⟨2, 41, j132, [.t 4]⟩
theorem b132 : i132.body = j132 := rfl
theorem q132 : i132.res = [.t 4] := rfl
theorem c132 : chkF Tryz.prog Tryz.f132 i132 = true := by kernel_rfl
theorem s132 {m E} (hE : HE E) (hm : HM i132 m E) : Sound Tryz.prog 132 m := sound_of i132 Tryz.func132 rfl c132 hE hm
def j133 : C := (.seq (.region [nO 4 (.mov (.c (.bool false)))] false) (.seq (.seq (.region [mO 6 1,
  nO 7 (.call false 87 [(.t 6), (.c (.int .i64 2)), (.c (.int .i64 32))]),
  nO 8 (.un .not (.t 7)),
  mO 9 8,
  mG 10 0 9 false,
  gO 11 (.len (.t 10)) 9 false,
  mG 12 1 9 false,
  gO 13 (.bin .gtr (.t 11) (.t 12)) 9 false,
  nO 14 (.pick (.t 9) (.c (.bool true)) (.t 13))] false) (.cond (.t 14) (.seq (.region [nO 4 (.mov (.c (.bool false)))] false) .ret) .skip)) (.seq (.seq (.region [nO 5 (.mov (.c (.int .i64 0)))] false) (.block 0 (.loop (.keep [0, 1, 5] (.seq (.seq (.region [mO 15 5,
  mO 16 0,
  nO 17 (.len (.t 16)),
  nO 18 (.bin .lss (.t 15) (.t 17))] false) (.cond (.t 18) .skip (.exit 0))) (.seq (.block 1 (.seq (.region [mO 21 0,
  mO 22 5,
  nO 23 (.iad 6 (.t 21) (.t 22)),
  nO 24 (.load true 6 (.t 23)),
  nO 25 (.call false 164 [(.t 24)]),
  nO 26 (.un .not (.t 25))] false) (.cond (.t 26) (.seq (.region [nO 4 (.mov (.c (.bool false)))] false) .ret) .skip))) (.region [mO 19 5,
  nO 20 (.bin .add (.t 19) (.c (.int .i64 1))),
  mO 5 20] false))))))) (.seq (.region [mO 27 0,
  nO 28 (.len (.t 27)),
  mO 29 1,
  nO 30 (.bin .lss (.t 28) (.t 29)),
  mO 31 30,
  mG 32 0 31 false,
  mG 33 0 31 false,
  gO 34 (.len (.t 33)) 31 false,
  gO 35 (.bin .sub (.t 34) (.c (.int .i64 1))) 31 false,
  gO 36 (.iad 6 (.t 32) (.t 35)) 31 false,
  gO 37 (.fad 0 (.t 36)) 31 false,
  gO 38 (.load false 1 (.t 37)) 31 false,
  gO 39 (.bin .eql (.t 38) (.c (.int .i64 2))) 31 false,
  nO 40 (.pick (.t 31) (.c (.bool true)) (.t 39)),
  mO 4 40] false) .ret))))
def i133 : F := ⟨2, 41, j133, [.t 4]⟩
theorem b133 : i133.body = j133 := rfl
theorem q133 : i133.res = [.t 4] := rfl
theorem c133 : chkF Tryz.prog Tryz.f133 i133 = true := by kernel_rfl
theorem s133 {m E} (hE : HE E) (hm : HM i133 m E) : Sound Tryz.prog 133 m := sound_of i133 Tryz.func133 rfl c133 hE hm
def j136 : C := (.seq (.region [nO 4 (.mov (.c (.int .i64 0)))] false) (.seq (.region [mO 5 0,
  nO 6 (.call false 166 [(.t 5)]),
  mO 7 1,
  nO 8 (.call false 167 [(.t 7)]),
  nO 9 (.call false 165 [(.t 6), (.t 8)]),
  mO 4 9] false) .ret))
def i136 : F := ⟨2, 10, j136, [.t 4]⟩
theorem b136 : i136.body = j136 := rfl
theorem q136 : i136.res = [.t 4] := rfl
theorem c136 : chkF Tryz.prog Tryz.f136 i136 = true := by kernel_rfl
theorem s136 {m E} (hE : HE E) (hm : HM i136 m E) : Sound Tryz.prog 136 m := sound_of i136 Tryz.func136 rfl c136 hE hm
def j137 : C := (.seq (.region [nO 2 (.nilsl 88 2 0)] false) (.seq (.seq (.region [mO 3 0,
  nO 4 (.isnil false (.t 3))] false) (.cond (.t 4) (.seq (.region [nO 2 (.nilsl 88 2 1)] false) .ret) .skip)) (.seq (.region [nO 5 (.bsl 88 2 0 [.int .i64 0, .int .i64 0] []),
  mO 6 0,
  nO 7 (.app 88 2 16 (.t 5) (.t 6)),
  mO 2 7] false) .ret)))
def i137 : F := ⟨1, 8, j137, [.t 2]⟩
theorem b137 : i137.body = j137 := rfl
theorem q137 : i137.res = [.t 2] := rfl
theorem c137 : chkF Tryz.prog Tryz.f137 i137 = true := by kernel_rfl
theorem s137 {m E} (hE : HE E) (hm : HM i137 m E) : Sound Tryz.prog 137 m := sound_of i137 Tryz.func137 rfl c137 hE hm
theorem x137 : Sound Tryz.prog 137 (cloneM 88 2 16) := by
  refine clone_ok (r := fun _ => (.undef, [])) (s137 (E := fun _ _ => none) (fun f => Sound.no) fun args r h => ?_) (sound_nil (fun m hm => s137 (E := fun _ _ => none) (fun f => Sound.no) hm) fun A c => ⟨0, ?_⟩)
  · split at h
    · rename_i y ys
      split at h
      · rename_i hc
        cases h
        refine ⟨0, ?_⟩
        rw [F_ev rfl]
        simp only [j137, b137, q137, ww, simprocAttr, List.replicate, fillR, evE, V.pur1, asRow, List.map_append]
        rw [if_pos ⟨hc.1, by simpa using hc.2⟩]
        simp only [j137, b137, q137, ww, simprocAttr, S.kill, V.kill, Blk.kill, hand, handSs, handS, handVs, handV, List.contains_nil]
        try simp
      · cases h
    · cases h
  · cases A
    · rw [F_ev rfl]
      simp only [j137, b137, q137, ww, simprocAttr, hand, handSs, handS, handVs, handV, List.contains_nil, Bool.not_false]
      try simp
    · rw [F_ev rfl]
      simp only [j137, b137, q137, ww, simprocAttr, List.replicate, fillR, evE, V.pur1, asRow]
      try (rw [if_pos (by simp)]; simp only [j137, b137, q137, ww, simprocAttr, S.kill, V.kill, Blk.kill, hand, handSs, handS, handVs, handV, List.contains_nil])
      try simp
def j140 : C := (.seq (.region [nO 2 (.mov (.c (.k .nilIface)))] false) (.seq (.region [nO 3 (.mov (.c (.int .i64 0)))] false) (.seq (.seq (.region [mO 9 0,
  nO 10 (.len (.t 9)),
  nO 11 (.mov (.c (.int .i64 0)))] false) (.block 0 (.loop (.keep [0, 3, 9, 10, 11] (.seq (.region [nO 12 (.bin .lss (.t 11) (.t 10))] false) (.seq (.cond (.t 12) .skip (.exit 0)) (.seq (.block 1 (.seq (.region [nO 13 (.iad 1 (.t 9) (.t 11)),
  nO 14 (.load false 1 (.t 13)),
  mO 5 14] false) (.seq (.region [mO 15 5,
  nO 16 (.ifn true (.t 15))] false) (.cond (.t 16) (.region [mO 17 3,
  nO 18 (.bin .add (.t 17) (.c (.int .i64 1))),
  mO 3 18] false) .skip)))) (.region [nO 19 (.bin .add (.t 11) (.c (.int .i64 1))),
  mO 11 19] false)))))))) (.seq (.seq (.region [mO 20 3,
  nO 21 (.bin .eql (.t 20) (.c (.int .i64 0)))] false) (.cond (.t 21) (.seq (.region [nO 2 (.mov (.c (.k .nilIface)))] false) .ret) .skip)) (.seq (.region [mO 22 3,
  nO 23 (.mkz 119 1 16 [.k .nilIface] (.t 22)),
  nO 24 (.build [.row []] [(0, 1, (.t 23))]),
  nO 25 (.box (.t 24)),
  mO 6 25] false) (.seq (.seq (.region [mO 26 0,
  nO 27 (.len (.t 26)),
  nO 28 (.mov (.c (.int .i64 0)))] false) (.block 2 (.loop (.keep [6, 26, 27, 28] (.seq (.region [nO 29 (.bin .lss (.t 28) (.t 27))] false) (.seq (.cond (.t 29) .skip (.exit 2)) (.seq (.block 3 (.seq (.region [nO 30 (.iad 1 (.t 26) (.t 28)),
  nO 31 (.load false 1 (.t 30)),
  mO 8 31] false) (.seq (.region [mO 32 8,
  nO 33 (.ifn true (.t 32))] false) (.cond (.t 33) (.region [mO 34 6,
  mO 35 6,
  nO 36 (.nck (.t 35)),
  nO 37 (.fad 0 (.t 36)),
  nO 38 (.load false 1 (.t 37)),
  mO 39 8,
  nO 40 (.bsl 119 1 1 [.k .nilIface] [(0, (.t 39))]),
  nO 41 (.app 119 1 16 (.t 38) (.t 40)),
  nO 42 (.nck (.t 34)),
  nO 43 (.fad 0 (.t 42)),⟨none, .store none 1 (.t 43) (.t 41), none, [], []⟩] false) .skip)))) (.region [nO 44 (.bin .add (.t 28) (.c (.int .i64 1))),
  mO 28 44] false)))))))) (.seq (.region [mO 45 6,
  nO 46 (.mkp 182 (.t 45)),
  mO 2 46] false) .ret)))))))
def i140 : F := ⟨1, 47, j140, [.t 2]⟩
theorem b140 : i140.body = j140 := rfl
theorem q140 : i140.res = [.t 2] := rfl
theorem c140 : chkF Tryz.prog Tryz.f140 i140 = true := by kernel_rfl
theorem s140 {m E} (hE : HE E) (hm : HM i140 m E) : Sound Tryz.prog 140 m := sound_of i140 Tryz.func140 rfl c140 hE hm
def j141 : C := (.seq (.region [nO 10 (.mov (.c (.k .nilIface)))] false) (.seq (.seq (.region [mO 11 1,
  mO 12 2,
  nO 13 (.bin .lss (.t 11) (.t 12)),
  mO 14 13,
  mG 15 1 14 false,
  mG 16 3 14 false,
  gO 17 (.bin .gtr (.t 15) (.t 16)) 14 false,
  nO 18 (.pick (.t 14) (.c (.bool true)) (.t 17))] false) (.cond (.t 18) (.seq (.region [mO 19 0,
  mO 20 4,
  nO 21 (.mki 34 (.t 20)),⟨some 22, .build [.k (.string ⟨#[]⟩), .k .nilIface] [(0, 1, (.t 19)), (1, 1, (.t 21))], none, [], []⟩,
  nO 23 (.box (.t 22)),
  nO 24 (.mkp 185 (.t 23)),
  mO 10 24] false) .ret) .skip)) (.seq (.region [nO 10 (.mov (.c (.k .nilIface)))] false) .ret)))
def i141 : F := ⟨5, 25, j141, [.t 10]⟩
theorem b141 : i141.body = j141 := rfl
theorem q141 : i141.res = [.t 10] := rfl
theorem c141 : chkF Tryz.prog Tryz.f141 i141 = true := by kernel_rfl
theorem s141 {m E} (hE : HE E) (hm : HM i141 m E) : Sound Tryz.prog 141 m := sound_of i141 Tryz.func141 rfl c141 hE hm
def j142 : C := (.seq (.region [nO 2 (.box (.t 0)),
  nO 3 (.box (.t 1)),
  nO 4 (.mov (.c (.bool false)))] false) (.seq (.seq (.region [nO 5 (.load true 5 (.t 3)),
  nO 6 (.call false 174 [(.t 5)])] false) (.cond (.t 6) (.seq (.region [nO 4 (.mov (.c (.bool true)))] false) .ret) .skip)) (.seq (.region [nO 7 (.fad 0 (.t 3)),
  nO 8 (.load false 1 (.t 7)),
  nO 9 (.call false 53 [(.t 8)]),
  nO 10 (.bin .eql (.t 9) (.c (.int .i64 0))),
  mO 11 10,
  gO 12 (.fad 1 (.t 3)) 11 true,
  gO 13 (.load false 1 (.t 12)) 11 true,
  gO 14 (.call false 116 [(.t 13)]) 11 true,
  nO 15 (.pick (.t 11) (.t 14) (.c (.bool false))),
  mO 16 15,
  gO 17 (.fad 2 (.t 3)) 16 true,
  gO 18 (.load false 1 (.t 17)) 16 true,
  gO 19 (.fad 1 (.t 3)) 16 true,
  gO 20 (.load false 1 (.t 19)) 16 true,
  gO 21 (.bin .geq (.t 18) (.t 20)) 16 true,
  nO 22 (.pick (.t 16) (.t 21) (.c (.bool false))),
  mO 23 22,
  gO 24 (.fad 2 (.t 3)) 23 true,
  gO 25 (.load false 1 (.t 24)) 23 true,
  gO 26 (.bin .leq (.t 25) (.c (.int .i64 1073741824))) 23 true,
  nO 27 (.pick (.t 23) (.t 26) (.c (.bool false))),
  mO 28 27,
  gO 29 (.fad 3 (.t 3)) 28 true,
  gO 30 (.load false 1 (.t 29)) 28 true,
  gO 31 (.fad 1 (.t 3)) 28 true,
  gO 32 (.load false 1 (.t 31)) 28 true,
  gO 33 (.fad 4 (.t 2)) 28 true,
  gO 34 (.load false 1 (.t 33)) 28 true,
  gO 35 (.call false 175 [(.t 30), (.t 32), (.t 34)]) 28 true,
  gO 36 (.bin .eql (.t 35) (.c (.int .i64 0))) 28 true,
  nO 37 (.pick (.t 28) (.t 36) (.c (.bool false))),
  mO 38 37,
  gO 39 (.fad 4 (.t 3)) 38 true,
  gO 40 (.load false 1 (.t 39)) 38 true,
  gO 41 (.fad 1 (.t 3)) 38 true,
  gO 42 (.load false 1 (.t 41)) 38 true,
  gO 43 (.fad 5 (.t 2)) 38 true,
  gO 44 (.load false 1 (.t 43)) 38 true,
  gO 45 (.call false 147 [(.t 40), (.t 42), (.t 44)]) 38 true,
  gO 46 (.bin .eql (.t 45) (.c (.int .i64 0))) 38 true,
  nO 47 (.pick (.t 38) (.t 46) (.c (.bool false))),
  mO 4 47] false) .ret)))
def i142 : F := ⟨2, 48, j142, [.t 4]⟩
theorem b142 : i142.body = j142 := rfl
theorem q142 : i142.res = [.t 4] := rfl
theorem c142 : chkF Tryz.prog Tryz.f142 i142 = true := by kernel_rfl
theorem s142 {m E} (hE : HE E) (hm : HM i142 m E) : Sound Tryz.prog 142 m := sound_of i142 Tryz.func142 rfl c142 hE hm
def j143 : C := (.seq (.region [nO 4 (.mov (.c (.int .i64 0)))] false) (.seq (.region [mO 6 1,
  nO 7 (.bin .lss (.t 6) (.c (.int .i64 2))),
  mO 8 7,
  mG 9 1 8 false,
  gO 10 (.bin .gtr (.t 9) (.c (.int .i64 32))) 8 false,
  nO 11 (.pick (.t 8) (.c (.bool true)) (.t 10)),
  mO 12 11,
  mG 13 0 12 false,
  gO 14 (.len (.t 13)) 12 false,
  mG 15 1 12 false,
  gO 16 (.bin .gtr (.t 14) (.t 15)) 12 false,
  nO 17 (.pick (.t 12) (.c (.bool true)) (.t 16)),
  mO 5 17] false) (.seq (.region [mO 18 5,
  mO 19 18,
  mG 20 0 19 false,
  gO 21 (.call false 176 [(.t 20), (.c (.fn 177 []))]) 19 false,
  nO 22 (.pick (.t 19) (.c (.bool true)) (.t 21)),
  mO 5 22] false) (.seq (.seq (.region [mO 23 5,
  mO 24 23,
  mG 25 0 24 false,
  gO 26 (.len (.t 25)) 24 false,
  mG 27 1 24 false,
  gO 28 (.bin .eql (.t 26) (.t 27)) 24 false,
  mG 29 28 24 false,
  mG 30 0 29 true,
  mG 31 1 29 true,
  gO 32 (.bin .sub (.t 31) (.c (.int .i64 1))) 29 true,
  gO 33 (.iad 6 (.t 30) (.t 32)) 29 true,
  gO 34 (.fad 0 (.t 33)) 29 true,
  gO 35 (.load false 1 (.t 34)) 29 true,
  gO 36 (.bin .neq (.t 35) (.c (.int .i64 2))) 29 true,
  gO 37 (.pick (.t 29) (.t 36) (.c (.bool false))) 24 false,
  nO 38 (.pick (.t 24) (.c (.bool true)) (.t 37))] false) (.cond (.t 38) (.seq (.region [nO 4 (.mov (.c (.int .i64 1)))] false) .ret) .skip)) (.seq (.region [nO 4 (.mov (.c (.int .i64 0)))] false) .ret)))))
def i143 : F := ⟨2, 39, j143, [.t 4]⟩
theorem b143 : i143.body = j143 := rfl
theorem q143 : i143.res = [.t 4] := rfl
theorem c143 : chkF Tryz.prog Tryz.f143 i143 = true := by kernel_rfl
theorem s143 {m E} (hE : HE E) (hm : HM i143 m E) : Sound Tryz.prog 143 m := sound_of i143 Tryz.func143 rfl c143 hE hm
def j147 : C := (.seq (.region [nO 6 (.mov (.c (.int .i64 0)))] false) (.seq (.seq (.region [mO 9 1,
  nO 10 (.call false 116 [(.t 9)]),
  nO 11 (.un .not (.t 10)),
  mO 12 11,
  mG 13 2 12 false,
  gO 14 (.bin .lss (.t 13) (.c (.int .i64 1))) 12 false,
  nO 15 (.pick (.t 12) (.c (.bool true)) (.t 14)),
  mO 16 15,
  mG 17 2 16 false,
  gO 18 (.bin .gtr (.t 17) (.c (.int .i64 16))) 16 false,
  nO 19 (.pick (.t 16) (.c (.bool true)) (.t 18))] false) (.cond (.t 19) (.seq (.region [nO 6 (.mov (.c (.int .i64 1)))] false) .ret) .skip)) (.seq (.seq (.region [mO 20 0,
  nO 21 (.len (.t 20)),
  nO 22 (.mov (.c (.int .i64 0)))] false) (.block 0 (.loop (.keep [0, 1, 2, 20, 21, 22] (.seq (.region [nO 23 (.bin .lss (.t 22) (.t 21))] false) (.seq (.cond (.t 23) .skip (.exit 0)) (.seq (.block 1 (.seq (.region [mO 24 22,
  nO 25 (.iad 2 (.t 20) (.t 22)),
  nO 26 (.load true 2 (.t 25)),
  nO 8 (.alloc [.int .i64 0, .int .i64 0]),
  mO 7 24,⟨none, .store none 2 (.t 8) (.t 26), none, [], []⟩] false) (.seq (.region [⟨some 27, .fad 0 (.t 8), none, [29, 30], []⟩,⟨some 28, .load false 1 (.t 27), none, [29, 30], [0]⟩,⟨some 29, .mov (.t 1), none, [27, 28, 30], []⟩,⟨some 30, .mov (.t 2), none, [27, 28, 29], []⟩,⟨some 31, .call false 150 [(.t 28), (.t 29), (.t 30)], none, [], [0, 1, 2, 3]⟩,⟨some 32, .un .not (.t 31), none, [], [0, 1, 2, 3, 4]⟩,⟨some 33, .mov (.t 32), none, [], [0, 1, 2, 3, 4, 5]⟩,⟨some 34, .fad 1 (.t 8), some (33, false), [], [0, 1, 2, 3, 4, 5, 6]⟩,⟨some 35, .load false 1 (.t 34), some (33, false), [], [0, 1, 2, 3, 4, 5, 6, 7]⟩,⟨some 36, .call false 56 [(.t 35)], some (33, false), [], [0, 1, 2, 3, 4, 5, 6, 7, 8]⟩,⟨some 37, .un .not (.t 36), some (33, false), [], [0, 1, 2, 3, 4, 5, 6, 7, 8, 9]⟩,⟨some 38, .pick (.t 33) (.c (.bool true)) (.t 37), none, [], [0, 1, 2, 3, 4, 5, 6, 7, 8, 9, 10]⟩,⟨some 39, .mov (.t 38), none, [], [0, 1, 2, 3, 4, 5, 6, 7, 8, 9, 10, 11]⟩,⟨some 40, .mov (.t 7), some (39, false), [], [0, 1, 2, 3, 4, 5, 6, 7, 8, 9, 10, 11, 12]⟩,⟨some 41, .bin .gtr (.t 40) (.c (.int .i64 0)), some (39, false), [], [0, 1, 2, 3, 4, 5, 6, 7, 8, 9, 10, 11, 12, 13]⟩,⟨some 42, .mov (.t 41), some (39, false), [], [0, 1, 2, 3, 4, 5, 6, 7, 8, 9, 10, 11, 12, 13, 14]⟩,⟨some 43, .mov (.t 0), some (42, true), [44, 45, 49, 50], [0, 1, 2, 3, 4, 5, 6, 7, 8, 9, 10, 11, 12, 13, 14, 15]⟩,⟨some 44, .mov (.t 7), some (42, true), [43, 49, 50], [0, 1, 2, 3, 4, 5, 6, 7, 8, 9, 10, 11, 12, 13, 14, 15]⟩,⟨some 45, .bin .sub (.t 44) (.c (.int .i64 1)), some (42, true), [43, 49, 50], [0, 1, 2, 3, 4, 5, 6, 7, 8, 9, 10, 11, 12, 13, 14, 15, 17]⟩,⟨some 46, .iad 2 (.t 43) (.t 45), some (42, true), [49, 50], [0, 1, 2, 3, 4, 5, 6, 7, 8, 9, 10, 11, 12, 13, 14, 15, 16, 17, 18]⟩,⟨some 47, .fad 0 (.t 46), some (42, true), [49, 50], [0, 1, 2, 3, 4, 5, 6, 7, 8, 9, 10, 11, 12, 13, 14, 15, 16, 17, 18, 19]⟩,⟨some 48, .load false 1 (.t 47), some (42, true), [49, 50], [0, 1, 2, 3, 4, 5, 6, 7, 8, 9, 10, 11, 12, 13, 14, 15, 16, 17, 18, 19, 20]⟩,⟨some 49, .fad 0 (.t 8), some (42, true), [43, 44, 45, 46, 47, 48], [0, 1, 2, 3, 4, 5, 6, 7, 8, 9, 10, 11, 12, 13, 14, 15]⟩,⟨some 50, .load false 1 (.t 49), some (42, true), [43, 44, 45, 46, 47, 48], [0, 1, 2, 3, 4, 5, 6, 7, 8, 9, 10, 11, 12, 13, 14, 15, 22]⟩,⟨some 51, .bin .geq (.t 48) (.t 50), some (42, true), [], [0, 1, 2, 3, 4, 5, 6, 7, 8, 9, 10, 11, 12, 13, 14, 15, 16, 17, 18, 19, 20, 21, 22, 23]⟩,⟨some 52, .pick (.t 42) (.t 51) (.c (.bool false)), some (39, false), [], [0, 1, 2, 3, 4, 5, 6, 7, 8, 9, 10, 11, 12, 13, 14, 15, 16, 17, 18, 19, 20, 21, 22, 23, 24]⟩,⟨some 53, .pick (.t 39) (.c (.bool true)) (.t 52), none, [], [0, 1, 2, 3, 4, 5, 6, 7, 8, 9, 10, 11, 12, 13, 14, 15, 16, 17, 18, 19, 20, 21, 22, 23, 24, 25]⟩] true) (.cond (.t 53) (.seq (.region [nO 6 (.mov (.c (.int .i64 1)))] false) .ret) .skip)))) (.region [nO 54 (.bin .add (.t 22) (.c (.int .i64 1))),
  mO 22 54] false)))))))) (.seq (.region [nO 6 (.mov (.c (.int .i64 0)))] false) .ret))))
def i147 : F := ⟨3, 55, j147, [.t 6]⟩
theorem b147 : i147.body = j147 := rfl
theorem q147 : i147.res = [.t 6] := rfl
theorem c147 : chkF Tryz.prog Tryz.f147 i147 = true := by kernel_rfl
theorem s147 {m E} (hE : HE E) (hm : HM i147 m E) : Sound Tryz.prog 147 m := sound_of i147 Tryz.func147 rfl c147 hE hm
def j150 : C := (.seq (.region [nO 6 (.mov (.c (.bool false)))] false) (.seq (.region [mO 7 0,
  mO 8 1,
  nO 9 (.bin .gtr (.t 7) (.t 8)),
  mO 10 9,
  mG 11 0 10 true,
  mG 12 1 10 true,
  mG 13 2 10 true,
  gO 14 (.bin .add (.t 12) (.t 13)) 10 true,
  gO 15 (.bin .lss (.t 11) (.t 14)) 10 true,
  nO 16 (.pick (.t 10) (.t 15) (.c (.bool false))),
  mO 17 16,
  mG 18 0 17 true,
  gO 19 (.bin .lss (.t 18) (.c (.int .i64 1073741824))) 17 true,
  nO 20 (.pick (.t 17) (.t 19) (.c (.bool false))),
  mO 6 20] false) .ret))
def i150 : F := ⟨3, 21, j150, [.t 6]⟩
theorem b150 : i150.body = j150 := rfl
theorem q150 : i150.res = [.t 6] := rfl
theorem c150 : chkF Tryz.prog Tryz.f150 i150 = true := by kernel_rfl
theorem s150 {m E} (hE : HE E) (hm : HM i150 m E) : Sound Tryz.prog 150 m := sound_of i150 Tryz.func150 rfl c150 hE hm
theorem x152 : Sound Tryz.prog 152 (XM.insM 51 3 24) := XM.ins_ok
def j153 : C := (.seq (.region [nO 0 (.alloc [.int .i64 0, .int .i64 0, .int .i64 0, .int .i64 0])] false) (.seq (.region [nO 1 (.build [.int .i64 0, .int .i64 0, .int .i64 0, .int .i64 0] [(0, 1, (.c (.int .i64 1462484242049070477))), (1, 1, (.c (.int .i64 1775212608919665246))), (2, 1, (.c (.int .i64 3535639072113518480))), (3, 1, (.c (.int .i64 3725500155902745375)))]),⟨none, .store none 4 (.t 0) (.t 1), none, [], []⟩] false) .ret))
def i153 : F := ⟨0, 2, j153, [.c 0 4 true]⟩
theorem c153 : chkF Tryz.prog Tryz.f153 i153 = true := by kernel_rfl
theorem s153 {m E} (hE : HE E) (hm : HM i153 m E) : Sound Tryz.prog 153 m := sound_of i153 Tryz.func153 rfl c153 hE hm
def j154 : C := (.seq (.region [nO 0 (.alloc [.int .i64 0, .int .i64 0, .int .i64 0, .int .i64 0, .int .i64 0, .int .i64 0, .int .i64 0, .int .i64 0])] false) (.seq (.region [nO 1 (.build [.int .i64 0, .int .i64 0, .int .i64 0, .int .i64 0, .int .i64 0, .int .i64 0, .int .i64 0, .int .i64 0] [(0, 1, (.c (.int .i64 2342812313538366385))), (1, 1, (.c (.int .i64 1863050908023769503))), (2, 1, (.c (.int .i64 81111313352671826))), (3, 1, (.c (.int .i64 2434324899588211290))), (4, 1, (.c (.int .i64 2454816673080883147))), (5, 1, (.c (.int .i64 1342378062264523301))), (6, 1, (.c (.int .i64 820659310660760249))), (7, 1, (.c (.int .i64 2006264061484817761)))]),⟨none, .store none 8 (.t 0) (.t 1), none, [], []⟩] false) .ret))
def i154 : F := ⟨0, 2, j154, [.c 0 8 true]⟩
theorem c154 : chkF Tryz.prog Tryz.f154 i154 = true := by kernel_rfl
theorem s154 {m E} (hE : HE E) (hm : HM i154 m E) : Sound Tryz.prog 154 m := sound_of i154 Tryz.func154 rfl c154 hE hm
def j155 : C := (.seq (.region [nO 4 (.mov (.c (.int .i64 0)))] false) (.seq (.seq (.region [mO 6 0,
  nO 7 (.len (.t 6)),
  nO 8 (.mov (.c (.int .i64 0)))] false) (.block 0 (.loop (.keep [0, 1, 7, 8] (.seq (.region [nO 9 (.bin .lss (.t 8) (.t 7))] false) (.seq (.cond (.t 9) .skip (.exit 0)) (.seq (.block 1 (.seq (.region [mO 10 8,
  mO 5 10] false) (.seq (.region [mO 11 1,
  mO 12 0,
  mO 13 5,
  nO 14 (.iad 1 (.t 12) (.t 13)),
  nO 15 (.load false 1 (.t 14)),
  nO 16 (.callv false (.t 11) [(.t 15)])] false) (.cond (.t 16) (.seq (.region [mO 17 5,
  mO 4 17] false) .ret) .skip)))) (.region [nO 18 (.bin .add (.t 8) (.c (.int .i64 1))),
  mO 8 18] false)))))))) (.seq (.region [nO 4 (.mov (.c (.int .i64 (-1))))] false) .ret)))
def i155 : F := ⟨2, 19, j155, [.t 4]⟩
theorem b155 : i155.body = j155 := rfl
theorem q155 : i155.res = [.t 4] := rfl
theorem c155 : chkF Tryz.prog Tryz.f155 i155 = true := by kernel_rfl
theorem s155 {m E} (hE : HE E) (hm : HM i155 m E) : Sound Tryz.prog 155 m := sound_of i155 Tryz.func155 rfl c155 hE hm
def j156 : C := (.seq (.region [nO 2 (.mov (.c (.bool false)))] false) (.seq (.region [mO 3 0,
  nO 4 (.len (.t 3)),
  nO 5 (.bin .leq (.t 4) (.c (.int .i64 8))),
  mO 6 5,
  mG 7 0 6 true,
  gO 8 (.call false 70 [(.t 7)]) 6 true,
  nO 9 (.pick (.t 6) (.t 8) (.c (.bool false))),
  mO 10 9,
  mG 11 0 10 true,
  gO 12 (.call false 159 [(.t 11)]) 10 true,
  nO 13 (.pick (.t 10) (.t 12) (.c (.bool false))),
  mO 2 13] false) .ret))
def i156 : F := ⟨1, 14, j156, [.t 2]⟩
theorem c156 : chkF Tryz.prog Tryz.f156 i156 = true := by kernel_rfl
theorem s156 {m E} (hE : HE E) (hm : HM i156 m E) : Sound Tryz.prog 156 m := sound_of i156 Tryz.func156 rfl c156 hE hm
def j157 : C := (.seq (.region [nO 1 (.box (.t 0)),
  nO 2 (.mov (.c (.bool false)))] false) (.seq (.region [nO 3 (.fad 6 (.t 1)),
  nO 4 (.load false 1 (.t 3)),
  nO 5 (.call false 110 [(.t 4), (.c (.int .i64 1)), (.c (.int .i64 1073741824))]),
  mO 6 5,
  gO 7 (.fad 7 (.t 1)) 6 true,
  gO 8 (.load false 1 (.t 7)) 6 true,
  gO 9 (.call false 116 [(.t 8)]) 6 true,
  nO 10 (.pick (.t 6) (.t 9) (.c (.bool false))),
  mO 2 10] false) .ret))
def i157 : F := ⟨1, 11, j157, [.t 2]⟩
theorem c157 : chkF Tryz.prog Tryz.f157 i157 = true := by kernel_rfl
theorem s157 {m E} (hE : HE E) (hm : HM i157 m E) : Sound Tryz.prog 157 m := sound_of i157 Tryz.func157 rfl c157 hE hm
def j158 : C := (.seq (.region [nO 1 (.box (.t 0)),
  nO 2 (.mov (.c (.bool false)))] false) (.seq (.region [nO 3 (.fad 10 (.t 1)),
  nO 4 (.load false 1 (.t 3)),
  nO 5 (.call false 85 [(.t 4)]),
  mO 6 5,
  gO 7 (.fad 11 (.t 1)) 6 true,
  gO 8 (.load false 1 (.t 7)) 6 true,
  gO 9 (.call false 116 [(.t 8)]) 6 true,
  nO 10 (.pick (.t 6) (.t 9) (.c (.bool false))),
  mO 11 10,
  gO 12 (.fad 9 (.t 1)) 11 true,
  gO 13 (.load false 1 (.t 12)) 11 true,
  gO 14 (.call false 56 [(.t 13)]) 11 true,
  nO 15 (.pick (.t 11) (.t 14) (.c (.bool false))),
  mO 16 15,
  gO 17 (.fad 13 (.t 1)) 16 true,
  gO 18 (.load false 1 (.t 17)) 16 true,
  gO 19 (.call false 110 [(.t 18), (.c (.int .i64 0)), (.c (.int .i64 16))]) 16 true,
  nO 20 (.pick (.t 16) (.t 19) (.c (.bool false))),
  mO 2 20] false) .ret))
def i158 : F := ⟨1, 21, j158, [.t 2]⟩
theorem c158 : chkF Tryz.prog Tryz.f158 i158 = true := by kernel_rfl
theorem s158 {m E} (hE : HE E) (hm : HM i158 m E) : Sound Tryz.prog 158 m := sound_of i158 Tryz.func158 rfl c158 hE hm
def j159 : C := (.seq (.region [nO 2 (.mov (.c (.bool false)))] false) (.seq (.seq (.region [mO 5 0,
  nO 6 (.len (.t 5)),
  nO 7 (.mov (.c (.int .i64 0)))] false) (.block 0 (.loop (.keep [0, 5, 6, 7] (.seq (.region [nO 8 (.bin .lss (.t 7) (.t 6))] false) (.seq (.cond (.t 8) .skip (.exit 0)) (.seq (.block 1 (.seq (.region [mO 9 7,
  nO 10 (.iad 1 (.t 5) (.t 7)),
  nO 11 (.load false 1 (.t 10)),
  mO 3 9,
  mO 4 11] false) (.seq (.region [mO 12 0,
  mO 13 3,
  nO 14 (.cut 1 (.t 12) none (some (.t 13))),
  mO 15 4,
  nO 16 (.call false 186 [(.t 14), (.t 15)])] false) (.cond (.t 16) (.seq (.region [nO 2 (.mov (.c (.bool false)))] false) .ret) .skip)))) (.region [nO 17 (.bin .add (.t 7) (.c (.int .i64 1))),
  mO 7 17] false)))))))) (.seq (.region [nO 2 (.mov (.c (.bool true)))] false) .ret)))
def i159 : F := ⟨1, 18, j159, [.t 2]⟩
theorem c159 : chkF Tryz.prog Tryz.f159 i159 = true := by kernel_rfl
theorem s159 {m E} (hE : HE E) (hm : HM i159 m E) : Sound Tryz.prog 159 m := sound_of i159 Tryz.func159 rfl c159 hE hm
def j160 : C := (.seq (.region [nO 2 (.nilsl 3 1 0)] false) (.seq (.region [nO 3 (.mov (.c (.int .i64 0)))] false) (.seq (.seq (.region [mO 9 0,
  nO 10 (.len (.t 9)),
  nO 11 (.mov (.c (.int .i64 0)))] false) (.block 0 (.loop (.keep [0, 3, 9, 10, 11] (.seq (.region [nO 12 (.bin .lss (.t 11) (.t 10))] false) (.seq (.cond (.t 12) .skip (.exit 0)) (.seq (.block 1 (.seq (.region [nO 13 (.iad 1 (.t 9) (.t 11)),
  nO 14 (.load false 1 (.t 13)),
  mO 5 14] false) (.seq (.region [mO 15 3,
  mO 16 5,
  nO 17 (.len (.t 16)),
  nO 18 (.bin .add (.t 15) (.t 17)),
  mO 3 18] false) (.seq (.region [mO 19 3,
  nO 20 (.bin .lss (.t 19) (.c (.int .i64 0)))] false) (.cond (.t 20) (.region [nO 21 (.stop),⟨none, .stop, none, [], []⟩] false) .skip))))) (.region [nO 22 (.bin .add (.t 11) (.c (.int .i64 1))),
  mO 11 22] false)))))))) (.seq (.region [mO 23 3,
  nO 24 (.call true 187 [(.c (.k (.slice none 0 0))), (.t 23)]),
  mO 6 24] false) (.seq (.seq (.region [mO 25 0,
  nO 26 (.len (.t 25)),
  nO 27 (.mov (.c (.int .i64 0)))] false) (.block 2 (.loop (.keep [6, 25, 26, 27] (.seq (.region [nO 28 (.bin .lss (.t 27) (.t 26))] false) (.seq (.cond (.t 28) .skip (.exit 2)) (.seq (.block 3 (.seq (.region [nO 29 (.iad 1 (.t 25) (.t 27)),
  nO 30 (.load false 1 (.t 29)),
  mO 8 30] false) (.region [mO 31 6,
  mO 32 8,
  nO 33 (.app 3 1 8 (.t 31) (.t 32)),
  mO 6 33] false))) (.region [nO 34 (.bin .add (.t 27) (.c (.int .i64 1))),
  mO 27 34] false)))))))) (.seq (.region [mO 35 6,
  mO 2 35] false) .ret))))))
def i160 : F := ⟨1, 36, j160, [.t 2]⟩
theorem c160 : chkF Tryz.prog Tryz.f160 i160 = true := by kernel_rfl
theorem s160 {m E} (hE : HE E) (hm : HM i160 m E) : Sound Tryz.prog 160 m := sound_of i160 Tryz.func160 rfl c160 hE hm
def j161 : C := (.seq (.region [nO 2 (.mov (.c (.bool false)))] false) (.seq (.region [mO 3 0,
  nO 4 (.call false 87 [(.t 3), (.c (.int .i64 1)), (.c (.int .i64 1073741824))]),
  mO 2 4] false) .ret))
def i161 : F := ⟨1, 5, j161, [.t 2]⟩
theorem b161 : i161.body = j161 := rfl
theorem q161 : i161.res = [.t 2] := rfl
theorem c161 : chkF Tryz.prog Tryz.f161 i161 = true := by kernel_rfl
theorem s161 {m E} (hE : HE E) (hm : HM i161 m E) : Sound Tryz.prog 161 m := sound_of i161 Tryz.func161 rfl c161 hE hm
def j162 : C := (.seq (.region [nO 6 (.mov (.c (.bool false)))] false) (.seq (.seq (.region [mO 8 1,
  nO 9 (.call false 87 [(.t 8), (.c (.int .i64 1)), (.c (.int .i64 1073741824))]),
  nO 10 (.un .not (.t 9)),
  mO 11 10,
  mG 12 2 11 false,
  gO 13 (.call false 87 [(.t 12), (.c (.int .i64 1)), (.c (.int .i64 16))]) 11 false,
  gO 14 (.un .not (.t 13)) 11 false,
  nO 15 (.pick (.t 11) (.c (.bool true)) (.t 14)),
  mO 16 15,
  mG 17 0 16 false,
  gO 18 (.len (.t 17)) 16 false,
  mG 19 2 16 false,
  gO 20 (.bin .gtr (.t 18) (.t 19)) 16 false,
  nO 21 (.pick (.t 16) (.c (.bool true)) (.t 20)),
  mO 22 21,
  mG 23 0 22 false,
  gO 24 (.len (.t 23)) 22 false,
  mG 25 1 22 false,
  gO 26 (.bin .geq (.t 24) (.t 25)) 22 false,
  nO 27 (.pick (.t 22) (.c (.bool true)) (.t 26))] false) (.cond (.t 27) (.seq (.region [nO 6 (.mov (.c (.bool false)))] false) .ret) .skip)) (.seq (.seq (.region [nO 7 (.mov (.c (.int .i64 0)))] false) (.block 0 (.loop (.keep [0, 1, 7] (.seq (.seq (.region [mO 28 7,
  mO 29 0,
  nO 30 (.len (.t 29)),
  nO 31 (.bin .lss (.t 28) (.t 30))] false) (.cond (.t 31) .skip (.exit 0))) (.seq (.block 1 (.seq (.region [mO 34 0,
  mO 35 7,
  nO 36 (.iad 2 (.t 34) (.t 35)),
  nO 37 (.fad 0 (.t 36)),
  nO 38 (.load false 1 (.t 37)),
  mO 39 1,
  mO 40 0,
  nO 41 (.len (.t 40)),
  nO 42 (.bin .sub (.t 39) (.t 41)),
  mO 43 7,
  nO 44 (.bin .add (.t 42) (.t 43)),
  nO 45 (.bin .neq (.t 38) (.t 44)),
  mO 46 45,
  mG 47 0 46 false,
  mG 48 7 46 false,
  gO 49 (.iad 2 (.t 47) (.t 48)) 46 false,
  gO 50 (.fad 1 (.t 49)) 46 false,
  gO 51 (.load false 1 (.t 50)) 46 false,
  gO 52 (.call false 76 [(.t 51)]) 46 false,
  gO 53 (.un .not (.t 52)) 46 false,
  nO 54 (.pick (.t 46) (.c (.bool true)) (.t 53))] false) (.cond (.t 54) (.seq (.region [nO 6 (.mov (.c (.bool false)))] false) .ret) .skip))) (.region [mO 32 7,
  nO 33 (.bin .add (.t 32) (.c (.int .i64 1))),
  mO 7 33] false))))))) (.seq (.region [nO 6 (.mov (.c (.bool true)))] false) .ret))))
def i162 : F := ⟨3, 55, j162, [.t 6]⟩
theorem b162 : i162.body = j162 := rfl
theorem q162 : i162.res = [.t 6] := rfl
theorem c162 : chkF Tryz.prog Tryz.f162 i162 = true := by kernel_rfl
theorem s162 {m E} (hE : HE E) (hm : HM i162 m E) : Sound Tryz.prog 162 m := sound_of i162 Tryz.func162 rfl c162 hE hm
def j163 : C := (.seq (.region [nO 6 (.mov (.c (.bool false)))] false) (.seq (.seq (.region [mO 8 1,
  nO 9 (.call false 87 [(.t 8), (.c (.int .i64 1)), (.c (.int .i64 1073741824))]),
  nO 10 (.un .not (.t 9)),
  mO 11 10,
  mG 12 2 11 false,
  gO 13 (.call false 87 [(.t 12), (.c (.int .i64 1)), (.c (.int .i64 16))]) 11 false,
  gO 14 (.un .not (.t 13)) 11 false,
  nO 15 (.pick (.t 11) (.c (.bool true)) (.t 14))] false) (.cond (.t 15) (.seq (.region [nO 6 (.mov (.c (.bool false)))] false) .ret) .skip)) (.seq (.seq (.region [nO 7 (.mov (.c (.int .i64 0)))] false) (.block 0 (.loop (.keep [0, 1, 2, 7] (.seq (.seq (.region [mO 16 7,
  mO 17 0,
  nO 18 (.len (.t 17)),
  nO 19 (.bin .lss (.t 16) (.t 18))] false) (.cond (.t 19) .skip (.exit 0))) (.seq (.block 1 (.seq (.region [⟨some 22, .mov (.t 0), none, [23, 27], []⟩,⟨some 23, .mov (.t 7), none, [22, 27], []⟩,⟨some 24, .iad 2 (.t 22) (.t 23), none, [27], [0, 1]⟩,⟨some 25, .fad 0 (.t 24), none, [27], [0, 1, 2]⟩,⟨some 26, .load false 1 (.t 25), none, [27], [0, 1, 2, 3]⟩,⟨some 27, .mov (.t 1), none, [22, 23, 24, 25, 26], []⟩,⟨some 28, .bin .leq (.t 26) (.t 27), none, [], [0, 1, 2, 3, 4, 5]⟩,⟨some 29, .mov (.t 28), none, [], [0, 1, 2, 3, 4, 5, 6]⟩,⟨some 30, .mov (.t 0), some (29, false), [31, 35, 36, 37], [0, 1, 2, 3, 4, 5, 6, 7]⟩,⟨some 31, .mov (.t 7), some (29, false), [30, 35, 36, 37], [0, 1, 2, 3, 4, 5, 6, 7]⟩,⟨some 32, .iad 2 (.t 30) (.t 31), some (29, false), [35, 36, 37], [0, 1, 2, 3, 4, 5, 6, 7, 8, 9]⟩,⟨some 33, .fad 0 (.t 32), some (29, false), [35, 36, 37], [0, 1, 2, 3, 4, 5, 6, 7, 8, 9, 10]⟩,⟨some 34, .load false 1 (.t 33), some (29, false), [35, 36, 37], [0, 1, 2, 3, 4, 5, 6, 7, 8, 9, 10, 11]⟩,⟨some 35, .mov (.t 1), some (29, false), [30, 31, 32, 33, 34, 36], [0, 1, 2, 3, 4, 5, 6, 7]⟩,⟨some 36, .mov (.t 2), some (29, false), [30, 31, 32, 33, 34, 35], [0, 1, 2, 3, 4, 5, 6, 7]⟩,⟨some 37, .bin .add (.t 35) (.t 36), some (29, false), [30, 31, 32, 33, 34], [0, 1, 2, 3, 4, 5, 6, 7, 13, 14]⟩,⟨some 38, .bin .geq (.t 34) (.t 37), some (29, false), [], [0, 1, 2, 3, 4, 5, 6, 7, 8, 9, 10, 11, 12, 13, 14, 15]⟩,⟨some 39, .pick (.t 29) (.c (.bool true)) (.t 38), none, [], [0, 1, 2, 3, 4, 5, 6, 7, 8, 9, 10, 11, 12, 13, 14, 15, 16]⟩,⟨some 40, .mov (.t 39), none, [], [0, 1, 2, 3, 4, 5, 6, 7, 8, 9, 10, 11, 12, 13, 14, 15, 16, 17]⟩,⟨some 41, .mov (.t 0), some (40, false), [42], [0, 1, 2, 3, 4, 5, 6, 7, 8, 9, 10, 11, 12, 13, 14, 15, 16, 17, 18]⟩,⟨some 42, .mov (.t 7), some (40, false), [41], [0, 1, 2, 3, 4, 5, 6, 7, 8, 9, 10, 11, 12, 13, 14, 15, 16, 17, 18]⟩,⟨some 43, .iad 2 (.t 41) (.t 42), some (40, false), [], [0, 1, 2, 3, 4, 5, 6, 7, 8, 9, 10, 11, 12, 13, 14, 15, 16, 17, 18, 19, 20]⟩,⟨some 44, .fad 0 (.t 43), some (40, false), [], [0, 1, 2, 3, 4, 5, 6, 7, 8, 9, 10, 11, 12, 13, 14, 15, 16, 17, 18, 19, 20, 21]⟩,⟨some 45, .load false 1 (.t 44), some (40, false), [], [0, 1, 2, 3, 4, 5, 6, 7, 8, 9, 10, 11, 12, 13, 14, 15, 16, 17, 18, 19, 20, 21, 22]⟩,⟨some 46, .bin .geq (.t 45) (.c (.int .i64 1073741824)), some (40, false), [], [0, 1, 2, 3, 4, 5, 6, 7, 8, 9, 10, 11, 12, 13, 14, 15, 16, 17, 18, 19, 20, 21, 22, 23]⟩,⟨some 47, .pick (.t 40) (.c (.bool true)) (.t 46), none, [], [0, 1, 2, 3, 4, 5, 6, 7, 8, 9, 10, 11, 12, 13, 14, 15, 16, 17, 18, 19, 20, 21, 22, 23, 24]⟩,⟨some 48, .mov (.t 47), none, [], [0, 1, 2, 3, 4, 5, 6, 7, 8, 9, 10, 11, 12, 13, 14, 15, 16, 17, 18, 19, 20, 21, 22, 23, 24, 25]⟩,⟨some 49, .mov (.t 7), some (48, false), [], [0, 1, 2, 3, 4, 5, 6, 7, 8, 9, 10, 11, 12, 13, 14, 15, 16, 17, 18, 19, 20, 21, 22, 23, 24, 25, 26]⟩,⟨some 50, .bin .gtr (.t 49) (.c (.int .i64 0)), some (48, false), [], [0, 1, 2, 3, 4, 5, 6, 7, 8, 9, 10, 11, 12, 13, 14, 15, 16, 17, 18, 19, 20, 21, 22, 23, 24, 25, 26, 27]⟩,⟨some 51, .mov (.t 50), some (48, false), [], [0, 1, 2, 3, 4, 5, 6, 7, 8, 9, 10, 11, 12, 13, 14, 15, 16, 17, 18, 19, 20, 21, 22, 23, 24, 25, 26, 27, 28]⟩,⟨some 52, .mov (.t 0), some (51, true), [53, 57, 58, 59, 60, 61, 62], [0, 1, 2, 3, 4, 5, 6, 7, 8, 9, 10, 11, 12, 13, 14, 15, 16, 17, 18, 19, 20, 21, 22, 23, 24, 25, 26, 27, 28, 29]⟩,⟨some 53, .mov (.t 7), some (51, true), [52, 57, 58, 59, 60, 61, 62], [0, 1, 2, 3, 4, 5, 6, 7, 8, 9, 10, 11, 12, 13, 14, 15, 16, 17, 18, 19, 20, 21, 22, 23, 24, 25, 26, 27, 28, 29]⟩,⟨some 54, .iad 2 (.t 52) (.t 53), some (51, true), [57, 58, 59, 60, 61, 62], [0, 1, 2, 3, 4, 5, 6, 7, 8, 9, 10, 11, 12, 13, 14, 15, 16, 17, 18, 19, 20, 21, 22, 23, 24, 25, 26, 27, 28, 29, 30, 31]⟩,⟨some 55, .fad 0 (.t 54), some (51, true), [57, 58, 59, 60, 61, 62], [0, 1, 2, 3, 4, 5, 6, 7, 8, 9, 10, 11, 12, 13, 14, 15, 16, 17, 18, 19, 20, 21, 22, 23, 24, 25, 26, 27, 28, 29, 30, 31, 32]⟩,⟨some 56, .load false 1 (.t 55), some (51, true), [57, 58, 59, 60, 61, 62], [0, 1, 2, 3, 4, 5, 6, 7, 8, 9, 10, 11, 12, 13, 14, 15, 16, 17, 18, 19, 20, 21, 22, 23, 24, 25, 26, 27, 28, 29, 30, 31, 32, 33]⟩,⟨some 57, .mov (.t 0), some (51, true), [52, 53, 54, 55, 56, 58, 59], [0, 1, 2, 3, 4, 5, 6, 7, 8, 9, 10, 11, 12, 13, 14, 15, 16, 17, 18, 19, 20, 21, 22, 23, 24, 25, 26, 27, 28, 29]⟩,⟨some 58, .mov (.t 7), some (51, true), [52, 53, 54, 55, 56, 57], [0, 1, 2, 3, 4, 5, 6, 7, 8, 9, 10, 11, 12, 13, 14, 15, 16, 17, 18, 19, 20, 21, 22, 23, 24, 25, 26, 27, 28, 29]⟩,⟨some 59, .bin .sub (.t 58) (.c (.int .i64 1)), some (51, true), [52, 53, 54, 55, 56, 57], [0, 1, 2, 3, 4, 5, 6, 7, 8, 9, 10, 11, 12, 13, 14, 15, 16, 17, 18, 19, 20, 21, 22, 23, 24, 25, 26, 27, 28, 29, 36]⟩,⟨some 60, .iad 2 (.t 57) (.t 59), some (51, true), [52, 53, 54, 55, 56], [0, 1, 2, 3, 4, 5, 6, 7, 8, 9, 10, 11, 12, 13, 14, 15, 16, 17, 18, 19, 20, 21, 22, 23, 24, 25, 26, 27, 28, 29, 35, 36, 37]⟩,⟨some 61, .fad 0 (.t 60), some (51, true), [52, 53, 54, 55, 56], [0, 1, 2, 3, 4, 5, 6, 7, 8, 9, 10, 11, 12, 13, 14, 15, 16, 17, 18, 19, 20, 21, 22, 23, 24, 25, 26, 27, 28, 29, 35, 36, 37, 38]⟩,⟨some 62, .load false 1 (.t 61), some (51, true), [52, 53, 54, 55, 56], [0, 1, 2, 3, 4, 5, 6, 7, 8, 9, 10, 11, 12, 13, 14, 15, 16, 17, 18, 19, 20, 21, 22, 23, 24, 25, 26, 27, 28, 29, 35, 36, 37, 38, 39]⟩,⟨some 63, .bin .leq (.t 56) (.t 62), some (51, true), [], [0, 1, 2, 3, 4, 5, 6, 7, 8, 9, 10, 11, 12, 13, 14, 15, 16, 17, 18, 19, 20, 21, 22, 23, 24, 25, 26, 27, 28, 29, 30, 31, 32, 33, 34, 35, 36, 37, 38, 39, 40]⟩,⟨some 64, .pick (.t 51) (.t 63) (.c (.bool false)), some (48, false), [], [0, 1, 2, 3, 4, 5, 6, 7, 8, 9, 10, 11, 12, 13, 14, 15, 16, 17, 18, 19, 20, 21, 22, 23, 24, 25, 26, 27, 28, 29, 30, 31, 32, 33, 34, 35, 36, 37, 38, 39, 40, 41]⟩,⟨some 65, .pick (.t 48) (.c (.bool true)) (.t 64), none, [], [0, 1, 2, 3, 4, 5, 6, 7, 8, 9, 10, 11, 12, 13, 14, 15, 16, 17, 18, 19, 20, 21, 22, 23, 24, 25, 26, 27, 28, 29, 30, 31, 32, 33, 34, 35, 36, 37, 38, 39, 40, 41, 42]⟩,⟨some 66, .mov (.t 65), none, [], [0, 1, 2, 3, 4, 5, 6, 7, 8, 9, 10, 11, 12, 13, 14, 15, 16, 17, 18, 19, 20, 21, 22, 23, 24, 25, 26, 27, 28, 29, 30, 31, 32, 33, 34, 35, 36, 37, 38, 39, 40, 41, 42, 43]⟩,⟨some 67, .mov (.t 0), some (66, false), [68], [0, 1, 2, 3, 4, 5, 6, 7, 8, 9, 10, 11, 12, 13, 14, 15, 16, 17, 18, 19, 20, 21, 22, 23, 24, 25, 26, 27, 28, 29, 30, 31, 32, 33, 34, 35, 36, 37, 38, 39, 40, 41, 42, 43, 44]⟩,⟨some 68, .mov (.t 7), some (66, false), [67], [0, 1, 2, 3, 4, 5, 6, 7, 8, 9, 10, 11, 12, 13, 14, 15, 16, 17, 18, 19, 20, 21, 22, 23, 24, 25, 26, 27, 28, 29, 30, 31, 32, 33, 34, 35, 36, 37, 38, 39, 40, 41, 42, 43, 44]⟩,⟨some 69, .iad 2 (.t 67) (.t 68), some (66, false), [], [0, 1, 2, 3, 4, 5, 6, 7, 8, 9, 10, 11, 12, 13, 14, 15, 16, 17, 18, 19, 20, 21, 22, 23, 24, 25, 26, 27, 28, 29, 30, 31, 32, 33, 34, 35, 36, 37, 38, 39, 40, 41, 42, 43, 44, 45, 46]⟩,⟨some 70, .fad 1 (.t 69), some (66, false), [], [0, 1, 2, 3, 4, 5, 6, 7, 8, 9, 10, 11, 12, 13, 14, 15, 16, 17, 18, 19, 20, 21, 22, 23, 24, 25, 26, 27, 28, 29, 30, 31, 32, 33, 34, 35, 36, 37, 38, 39, 40, 41, 42, 43, 44, 45, 46, 47]⟩,⟨some 71, .load false 1 (.t 70), some (66, false), [], [0, 1, 2, 3, 4, 5, 6, 7, 8, 9, 10, 11, 12, 13, 14, 15, 16, 17, 18, 19, 20, 21, 22, 23, 24, 25, 26, 27, 28, 29, 30, 31, 32, 33, 34, 35, 36, 37, 38, 39, 40, 41, 42, 43, 44, 45, 46, 47, 48]⟩,⟨some 72, .call false 76 [(.t 71)], some (66, false), [], [0, 1, 2, 3, 4, 5, 6, 7, 8, 9, 10, 11, 12, 13, 14, 15, 16, 17, 18, 19, 20, 21, 22, 23, 24, 25, 26, 27, 28, 29, 30, 31, 32, 33, 34, 35, 36, 37, 38, 39, 40, 41, 42, 43, 44, 45, 46, 47, 48, 49]⟩,⟨some 73, .un .not (.t 72), some (66, false), [], [0, 1, 2, 3, 4, 5, 6, 7, 8, 9, 10, 11, 12, 13, 14, 15, 16, 17, 18, 19, 20, 21, 22, 23, 24, 25, 26, 27, 28, 29, 30, 31, 32, 33, 34, 35, 36, 37, 38, 39, 40, 41, 42, 43, 44, 45, 46, 47, 48, 49, 50]⟩,⟨some 74, .pick (.t 66) (.c (.bool true)) (.t 73), none, [], [0, 1, 2, 3, 4, 5, 6, 7, 8, 9, 10, 11, 12, 13, 14, 15, 16, 17, 18, 19, 20, 21, 22, 23, 24, 25, 26, 27, 28, 29, 30, 31, 32, 33, 34, 35, 36, 37, 38, 39, 40, 41, 42, 43, 44, 45, 46, 47, 48, 49, 50, 51]⟩] true) (.cond (.t 74) (.seq (.region [nO 6 (.mov (.c (.bool false)))] false) .ret) .skip))) (.region [mO 20 7,
  nO 21 (.bin .add (.t 20) (.c (.int .i64 1))),
  mO 7 21] false))))))) (.seq (.region [nO 6 (.mov (.c (.bool true)))] false) .ret))))
def i163 : F := ⟨3, 75, j163, [.t 6]⟩
theorem b163 : i163.body = j163 := rfl
theorem q163 : i163.res = [.t 6] := rfl
theorem c163 : chkF Tryz.prog Tryz.f163 i163 = true := by kernel_rfl
theorem s163 {m E} (hE : HE E) (hm : HM i163 m E) : Sound Tryz.prog 163 m := sound_of i163 Tryz.func163 rfl c163 hE hm
end Go.Proofs.YtdflglehippoiaaGreatDoor.IG
