/- Texts joined: LG FS. -/
import Derived.Test.YtkfcbpbnoeaheaaDoorZE1
import Derived.Test.YtkfcbpbnoeaheaaDoorProg
set_option linter.unusedVariables false
set_option linter.unusedSimpArgs false
/- Functions of the program in the evaluator's form, each checked against the program (written by wip/prog/irgen.py). -/
set_option maxRecDepth 100000
namespace Go.Proofs.YtkfcbpbnoeaheaaDoor.LG
open Go Go.Proofs.YtkfcbpbnoeaheaaDoorR
/-- bellwether/bellwetherlaw18.FlowGap -/
def j4 : C := (.seq (.region [⟨some 8, .mov (.c (.bool false)), none, [], []⟩] false)
 (.seq (.seq (.region [⟨some 23, .mov (.t 3), none, [], []⟩,
  ⟨some 24, .len (.t 23), none, [], []⟩,
  ⟨some 25, .bin .gtr (.t 24) (.c (.int .i64 30)), none, [], []⟩] false)
 (.cond (.t 25) (.seq (.region [⟨some 8, .mov (.c (.bool true)), none, [], []⟩] false)
 .ret) .skip))
 (.seq (.region [⟨some 26, .mov (.t 0), none, [], []⟩,
  ⟨some 27, .call false 7 [(.t 26)], none, [], []⟩,
  ⟨some 9, .alloc [.int .i64 0, .int .i64 0, .int .i64 0, .int .i64 0, .int .i64 0, .int .i64 0, .int .i64 0], none, [], []⟩,
  ⟨none, .store none 7 (.t 9) (.t 27), none, [], []⟩] false)
 (.seq (.region [⟨some 28, .mov (.t 1), none, [], []⟩,
  ⟨some 29, .conv .u64 (.t 28), none, [], []⟩,
  ⟨some 30, .bin .rem (.t 29) (.c (.int .u64 1000)), none, [], []⟩,
  ⟨some 31, .conv .i64 (.t 30), none, [], []⟩,
  ⟨some 32, .bin .add (.c (.int .i64 1)) (.t 31), none, [], []⟩,
  ⟨some 1, .mov (.t 32), none, [], []⟩] false)
 (.seq (.region [⟨some 33, .mov (.t 1), none, [], []⟩,
  ⟨some 34, .mov (.t 2), none, [], []⟩,
  ⟨some 35, .conv .u64 (.t 34), none, [], []⟩,
  ⟨some 36, .bin .rem (.t 35) (.c (.int .u64 20)), none, [], []⟩,
  ⟨some 37, .conv .i64 (.t 36), none, [], []⟩,
  ⟨some 38, .bin .add (.t 33) (.t 37), none, [], []⟩,
  ⟨some 2, .mov (.t 38), none, [], []⟩] false)
 (.seq (.region [⟨some 40, .load true 7 (.t 9), none, [], []⟩,
  ⟨some 41, .build [.int .i64 0, .int .i64 0, .int .i64 0, .row [], .row []] [], none, [], []⟩,
  ⟨some 42, .mov (.t 1), none, [], []⟩,
  ⟨some 43, .call false 8 [(.t 40), (.t 41), (.c (.int .i64 48)), (.t 42)], none, [], []⟩,
  ⟨some 39, .mov (.t 43), none, [], []⟩,
  ⟨some 44, .ext (.t 39) 0, none, [], []⟩,
  ⟨some 45, .ext (.t 39) 1, none, [], []⟩,
  ⟨some 10, .alloc [.int .i64 0, .int .i64 0, .int .i64 0, .row [], .row []], none, [], []⟩,
  ⟨none, .store none 5 (.t 10) (.t 44), none, [], []⟩,
  ⟨some 11, .mov (.t 45), none, [], []⟩] false)
 (.seq (.seq (.region [⟨some 12, .mov (.c (.int .i64 0)), none, [], []⟩] false)
 (.block 0 (.loop (.keep [1, 2, 3, 9, 10, 11, 12] (.seq (.seq (.region [⟨some 46, .mov (.t 12), none, [], []⟩,
  ⟨some 47, .mov (.t 3), none, [], []⟩,
  ⟨some 48, .len (.t 47), none, [], []⟩,
  ⟨some 49, .bin .lss (.t 46) (.t 48), none, [], []⟩,
  ⟨some 50, .mov (.t 49), none, [], []⟩,
  ⟨some 51, .mov (.t 11), some (50, true), [], []⟩,
  ⟨some 52, .bin .eql (.t 51) (.c (.int .i64 0)), some (50, true), [], []⟩,
  ⟨some 53, .pick (.t 50) (.t 52) (.c (.bool false)), none, [], []⟩] false)
 (.cond (.t 53) .skip (.exit 0)))
 (.seq (.block 1 (.region [⟨some 57, .load true 7 (.t 9), none, [58, 59, 60, 61, 62, 63, 64, 65, 66, 67, 68, 69], []⟩,
  ⟨some 58, .load true 5 (.t 10), none, [57, 59, 60, 61, 62, 63, 64, 65, 66, 67, 68, 69], []⟩,
  ⟨some 59, .mov (.t 1), none, [57, 58, 61, 62, 63, 64, 65, 66, 67], []⟩,
  ⟨some 60, .bin .add (.t 59) (.c (.int .i64 1)), none, [57, 58, 61, 62, 63, 64, 65, 66, 67], [2]⟩,
  ⟨some 61, .mov (.t 3), none, [57, 58, 59, 60, 62], []⟩,
  ⟨some 62, .mov (.t 12), none, [57, 58, 59, 60, 61], []⟩,
  ⟨some 63, .iad 1 (.t 61) (.t 62), none, [57, 58, 59, 60], [4, 5]⟩,
  ⟨some 64, .load false 1 (.t 63), none, [57, 58, 59, 60], [4, 5, 6]⟩,
  ⟨some 65, .conv .u64 (.t 64), none, [57, 58, 59, 60], [4, 5, 6, 7]⟩,
  ⟨some 66, .bin .rem (.t 65) (.c (.int .u64 20)), none, [57, 58, 59, 60], [4, 5, 6, 7, 8]⟩,
  ⟨some 67, .conv .i64 (.t 66), none, [57, 58, 59, 60], [4, 5, 6, 7, 8, 9]⟩,
  ⟨some 68, .bin .add (.t 60) (.t 67), none, [57, 58], [2, 3, 4, 5, 6, 7, 8, 9, 10]⟩,
  ⟨some 69, .build [.int .i64 0, .int .i64 0] [(0, 1, (.t 68)), (1, 1, (.c (.int .i64 3)))], none, [57, 58], [2, 3, 4, 5, 6, 7, 8, 9, 10, 11]⟩,
  ⟨some 70, .call false 9 [(.t 57), (.t 58), (.c (.bool false)), (.c (.row [])), (.c (.int .i64 48)), (.t 69)], none, [], [0, 1, 2, 3, 4, 5, 6, 7, 8, 9, 10, 11, 12]⟩,
  ⟨some 56, .mov (.t 70), none, [], [0, 1, 2, 3, 4, 5, 6, 7, 8, 9, 10, 11, 12, 13]⟩,
  ⟨some 71, .ext (.t 56) 0, none, [72, 73, 74], [0, 1, 2, 3, 4, 5, 6, 7, 8, 9, 10, 11, 12, 13, 14]⟩,
  ⟨some 72, .ext (.t 56) 1, none, [10, 71, 73, 74], [0, 1, 2, 3, 4, 5, 6, 7, 8, 9, 10, 11, 12, 13, 14]⟩,
  ⟨some 73, .ext (.t 56) 2, none, [10, 71, 72, 74], [0, 1, 2, 3, 4, 5, 6, 7, 8, 9, 10, 11, 12, 13, 14]⟩,
  ⟨some 74, .ext (.t 56) 3, none, [10, 71, 72, 73], [0, 1, 2, 3, 4, 5, 6, 7, 8, 9, 10, 11, 12, 13, 14]⟩,
  ⟨none, .store (some 10) 5 (.t 10) (.t 71), none, [72, 73, 74], [0, 1, 2, 3, 4, 5, 6, 7, 8, 9, 10, 11, 12, 13, 14, 15]⟩,
  ⟨some 11, .mov (.t 74), none, [], [0, 1, 2, 3, 4, 5, 6, 7, 8, 9, 10, 11, 12, 13, 14, 15, 16, 17, 18, 19]⟩] true))
 (.region [⟨some 54, .mov (.t 12), none, [], []⟩,
  ⟨some 55, .bin .add (.t 54) (.c (.int .i64 1)), none, [], []⟩,
  ⟨some 12, .mov (.t 55), none, [], []⟩] false)))))))
 (.seq (.seq (.region [⟨some 75, .mov (.t 11), none, [], []⟩,
  ⟨some 76, .bin .neq (.t 75) (.c (.int .i64 0)), none, [], []⟩,
  ⟨some 77, .mov (.t 76), none, [], []⟩,
  ⟨some 78, .fad 1 (.t 10), some (77, false), [], []⟩,
  ⟨some 79, .load false 1 (.t 78), some (77, false), [], []⟩,
  ⟨some 80, .mov (.t 1), some (77, false), [], []⟩,
  ⟨some 81, .bin .neq (.t 79) (.t 80), some (77, false), [], []⟩,
  ⟨some 82, .pick (.t 77) (.c (.bool true)) (.t 81), none, [], []⟩] false)
 (.cond (.t 82) (.seq (.region [⟨some 8, .mov (.c (.bool false)), none, [], []⟩] false)
 .ret) .skip))
 (.seq (.region [⟨some 84, .load true 7 (.t 9), none, [], []⟩,
  ⟨some 85, .load true 5 (.t 10), none, [], []⟩,
  ⟨some 86, .mov (.t 2), none, [], []⟩,
  ⟨some 87, .call false 13 [(.t 84), (.t 85), (.c (.bool true)), (.c (.row [])), (.c (.int .i64 48)), (.c (.int .i64 1)), (.t 86)], none, [], []⟩,
  ⟨some 83, .mov (.t 87), none, [], []⟩,
  ⟨some 88, .ext (.t 83) 0, none, [], []⟩,
  ⟨some 89, .ext (.t 83) 1, none, [], []⟩,
  ⟨some 90, .ext (.t 83) 2, none, [], []⟩,
  ⟨some 91, .ext (.t 83) 3, none, [], []⟩,
  ⟨some 13, .alloc [.int .i64 0, .int .i64 0, .int .i64 0, .row [], .row []], none, [], []⟩,
  ⟨none, .store none 5 (.t 13) (.t 88), none, [], []⟩,
  ⟨some 14, .mov (.t 89), none, [], []⟩,
  ⟨some 15, .mov (.t 90), none, [], []⟩,
  ⟨some 16, .mov (.t 91), none, [], []⟩] false)
 (.seq (.region [⟨some 93, .load true 7 (.t 9), none, [], []⟩,
  ⟨some 94, .load true 5 (.t 10), none, [], []⟩,
  ⟨some 95, .mov (.t 1), none, [], []⟩,
  ⟨some 96, .bin .add (.t 95) (.c (.int .i64 1)), none, [], []⟩,
  ⟨some 97, .mov (.t 1), none, [], []⟩,
  ⟨some 98, .bin .add (.t 97) (.c (.int .i64 30)), none, [], []⟩,
  ⟨some 99, .call false 13 [(.t 93), (.t 94), (.c (.bool true)), (.c (.row [])), (.c (.int .i64 48)), (.t 96), (.t 98)], none, [], []⟩,
  ⟨some 92, .mov (.t 99), none, [], []⟩,
  ⟨some 100, .ext (.t 92) 0, none, [], []⟩,
  ⟨some 101, .ext (.t 92) 1, none, [], []⟩,
  ⟨some 102, .ext (.t 92) 2, none, [], []⟩,
  ⟨some 103, .ext (.t 92) 3, none, [], []⟩,
  ⟨some 17, .alloc [.int .i64 0, .int .i64 0, .int .i64 0, .row [], .row []], none, [], []⟩,
  ⟨none, .store none 5 (.t 17) (.t 100), none, [], []⟩,
  ⟨some 18, .mov (.t 101), none, [], []⟩,
  ⟨some 19, .mov (.t 102), none, [], []⟩,
  ⟨some 20, .mov (.t 103), none, [], []⟩] false)
 (.seq (.seq (.region [⟨some 104, .mov (.t 16), none, [], []⟩,
  ⟨some 105, .bin .neq (.t 104) (.c (.int .i64 0)), none, [], []⟩,
  ⟨some 106, .mov (.t 105), none, [], []⟩,
  ⟨some 107, .mov (.t 20), some (106, false), [], []⟩,
  ⟨some 108, .bin .neq (.t 107) (.c (.int .i64 0)), some (106, false), [], []⟩,
  ⟨some 109, .pick (.t 106) (.c (.bool true)) (.t 108), none, [], []⟩,
  ⟨some 110, .mov (.t 109), none, [], []⟩,
  ⟨some 111, .load true 5 (.t 17), some (110, false), [], []⟩,
  ⟨some 112, .load true 5 (.t 10), some (110, false), [], []⟩,
  ⟨some 113, .call false 14 [(.t 111), (.t 112)], some (110, false), [], []⟩,
  ⟨some 114, .un .not (.t 113), some (110, false), [], []⟩,
  ⟨some 115, .pick (.t 110) (.c (.bool true)) (.t 114), none, [], []⟩,
  ⟨some 116, .mov (.t 115), none, [], []⟩,
  ⟨some 117, .mov (.t 18), some (116, false), [], []⟩,
  ⟨some 118, .len (.t 117), some (116, false), [], []⟩,
  ⟨some 119, .mov (.t 19), some (116, false), [], []⟩,
  ⟨some 120, .len (.t 119), some (116, false), [], []⟩,
  ⟨some 121, .bin .add (.t 118) (.t 120), some (116, false), [], []⟩,
  ⟨some 122, .bin .neq (.t 121) (.c (.int .i64 0)), some (116, false), [], []⟩,
  ⟨some 123, .pick (.t 116) (.c (.bool true)) (.t 122), none, [], []⟩,
  ⟨some 124, .mov (.t 123), none, [], []⟩,
  ⟨some 125, .mov (.t 14), some (124, false), [], []⟩,
  ⟨some 126, .len (.t 125), some (124, false), [], []⟩,
  ⟨some 127, .bin .eql (.t 126) (.c (.int .i64 0)), some (124, false), [], []⟩,
  ⟨some 128, .pick (.t 124) (.c (.bool true)) (.t 127), none, [], []⟩] false)
 (.cond (.t 128) (.seq (.region [⟨some 8, .mov (.c (.bool false)), none, [], []⟩] false)
 .ret) .skip))
 (.seq (.region [⟨some 129, .mov (.t 2), none, [], []⟩,
  ⟨some 130, .bin .add (.t 129) (.c (.int .i64 1)), none, [], []⟩,
  ⟨some 21, .mov (.t 130), none, [], []⟩] false)
 (.seq (.seq (.region [⟨some 22, .mov (.c (.int .i64 0)), none, [], []⟩] false)
 (.block 2 (.loop (.keep [1, 2, 10, 13, 14, 15, 21, 22] (.seq (.seq (.region [⟨some 131, .mov (.t 22), none, [], []⟩,
  ⟨some 132, .mov (.t 15), none, [], []⟩,
  ⟨some 133, .len (.t 132), none, [], []⟩,
  ⟨some 134, .bin .lss (.t 131) (.t 133), none, [], []⟩] false)
 (.cond (.t 134) .skip (.exit 2)))
 (.seq (.block 3 (.seq (.seq (.region [⟨some 137, .mov (.t 15), none, [], []⟩,
  ⟨some 138, .mov (.t 22), none, [], []⟩,
  ⟨some 139, .iad 2 (.t 137) (.t 138), none, [], []⟩,
  ⟨some 140, .fad 0 (.t 139), none, [], []⟩,
  ⟨some 141, .load false 1 (.t 140), none, [], []⟩,
  ⟨some 142, .mov (.t 21), none, [], []⟩,
  ⟨some 143, .bin .neq (.t 141) (.t 142), none, [], []⟩] false)
 (.cond (.t 143) (.seq (.region [⟨some 8, .mov (.c (.bool false)), none, [], []⟩] false)
 .ret) .skip))
 (.region [⟨some 144, .mov (.t 21), none, [], []⟩,
  ⟨some 145, .bin .add (.t 144) (.c (.int .i64 1)), none, [], []⟩,
  ⟨some 21, .mov (.t 145), none, [], []⟩] false)))
 (.region [⟨some 135, .mov (.t 22), none, [], []⟩,
  ⟨some 136, .bin .add (.t 135) (.c (.int .i64 1)), none, [], []⟩,
  ⟨some 22, .mov (.t 136), none, [], []⟩] false)))))))
 (.seq (.region [⟨some 146, .mov (.t 14), none, [], []⟩,
  ⟨some 147, .iad 6 (.t 146) (.c (.int .i64 0)), none, [], []⟩,
  ⟨some 148, .load true 6 (.t 147), none, [], []⟩,
  ⟨some 149, .mov (.t 1), none, [], []⟩,
  ⟨some 150, .mov (.t 2), none, [], []⟩,
  ⟨some 151, .build [.int .i64 0, .int .i64 0, .int .i64 0, .int .i64 0, .int .i64 0, .int .i64 0] [(0, 1, (.c (.int .i64 2))), (1, 1, (.c (.int .i64 48))), (2, 1, (.t 149)), (3, 1, (.t 150))], none, [], []⟩,
  ⟨some 152, .eqs false [true, true, true, true, true, true] (.t 148) (.t 151), none, [], []⟩,
  ⟨some 153, .mov (.t 152), none, [], []⟩,
  ⟨some 154, .fad 1 (.t 13), some (153, true), [], []⟩,
  ⟨some 155, .load false 1 (.t 154), some (153, true), [], []⟩,
  ⟨some 156, .mov (.t 21), some (153, true), [], []⟩,
  ⟨some 157, .bin .eql (.t 155) (.t 156), some (153, true), [], []⟩,
  ⟨some 158, .pick (.t 153) (.t 157) (.c (.bool false)), none, [], []⟩,
  ⟨some 159, .mov (.t 158), none, [], []⟩,
  ⟨some 160, .fad 2 (.t 13), some (159, true), [], []⟩,
  ⟨some 161, .load false 1 (.t 160), some (159, true), [], []⟩,
  ⟨some 162, .fad 2 (.t 10), some (159, true), [], []⟩,
  ⟨some 163, .load false 1 (.t 162), some (159, true), [], []⟩,
  ⟨some 164, .bin .geq (.t 161) (.t 163), some (159, true), [], []⟩,
  ⟨some 165, .pick (.t 159) (.t 164) (.c (.bool false)), none, [], []⟩,
  ⟨some 166, .mov (.t 165), none, [], []⟩,
  ⟨some 167, .fad 4 (.t 13), some (166, true), [], []⟩,
  ⟨some 168, .load false 1 (.t 167), some (166, true), [], []⟩,
  ⟨some 169, .len (.t 168), some (166, true), [], []⟩,
  ⟨some 170, .bin .eql (.t 169) (.c (.int .i64 0)), some (166, true), [], []⟩,
  ⟨some 171, .mov (.t 170), some (166, true), [], []⟩,
  ⟨some 172, .fad 4 (.t 13), some (171, false), [], []⟩,
  ⟨some 173, .load false 1 (.t 172), some (171, false), [], []⟩,
  ⟨some 174, .iad 2 (.t 173) (.c (.int .i64 0)), some (171, false), [], []⟩,
  ⟨some 175, .fad 0 (.t 174), some (171, false), [], []⟩,
  ⟨some 176, .load false 1 (.t 175), some (171, false), [], []⟩,
  ⟨some 177, .mov (.t 21), some (171, false), [], []⟩,
  ⟨some 178, .bin .gtr (.t 176) (.t 177), some (171, false), [], []⟩,
  ⟨some 179, .pick (.t 171) (.c (.bool true)) (.t 178), some (166, true), [], []⟩,
  ⟨some 180, .pick (.t 166) (.t 179) (.c (.bool false)), none, [], []⟩,
  ⟨some 181, .mov (.t 180), none, [], []⟩,
  ⟨some 182, .call false 12 [], some (181, true), [], []⟩,
  ⟨some 183, .pick (.t 181) (.t 182) (.c (.bool false)), none, [], []⟩,
  ⟨some 8, .mov (.t 183), none, [], []⟩] false)
 .ret))))))))))))))
def i4 : F := ⟨4, 184, j4, [.t 8]⟩
theorem b4 : i4.body = j4 := rfl
theorem q4 : i4.res = [.t 8] := rfl
theorem c4 : chkF Tryd.prog Tryd.f4 i4 = true := by kernel_rfl
theorem s4 {m : Model} {E : Nat → Model} (hE : ∀ f, Sound Tryd.prog f (E f)) (hm : ∀ args r, m args = some r → ∃ N, i4.ev E N args = some r) : Sound Tryd.prog 4 m := sound_of i4 Tryd.func4 rfl c4 hE hm
def xt : List (Nat × Model) := []
def tb : List (Nat × F) := [(4, i4)]
theorem xt_ok : ∀ p ∈ xt, Sound Tryd.prog p.1 p.2 := all_nil
theorem tb_ok (N : Nat) : ∀ p ∈ tb, ∀ E : Nat → Model, (∀ f, Sound Tryd.prog f (E f)) → Sound Tryd.prog p.1 (p.2.ev E N) := all_cons (fun E hE => s4 hE fun _ _ h => ⟨N, h⟩) (all_nil)
abbrev TT (N : Nat) : Nat → Nat → Model := T1 (IF.TT N) 4 i4 N
theorem TT_ok (N d f : Nat) : Sound Tryd.prog f (TT N d f) := T1_ok (IF.TT_ok N) (fun E hE => s4 hE fun _ _ h => ⟨N, h⟩) d f
theorem t4 (N d : Nat) : TT N (d + 1) 4 = i4.ev (IF.TT N d) N := rfl
end Go.Proofs.YtkfcbpbnoeaheaaDoor.LG
namespace Go.Proofs.YtkfcbpbnoeaheaaDoor.FA
open Go Go.Proofs.YtkfcbpbnoeaheaaDoorR Go.Proofs.YtkfcbpbnoeaheaaDoor.IF
open Go.Proofs.YtkfcbpbnoeaheaaDoor.QA (Ev eE aE rE inB epOK evOK qOK putE n01 gapE lastK)
open Go.Proofs.YtkfcbpbnoeaheaaDoor.AA (It eT aT rT ahOK addA addR leftL wi wm takeT allT take_s hR pre cP risB fitsB left_s ins)
open Go.Proofs.YtkfcbpbnoeaheaaDoor.EC (Cf eC okC confC)
open Go.Proofs.YtkfcbpbnoeaheaaDoor.LG (j4 i4 b4 q4)
set_option maxRecDepth 100000
set_option maxHeartbeats 8000000
theorem put_head {h x : Ev} {r : List Ev} {n : Int} (hn : 2 ≤ n) : (putE (h :: r) n x).1 ≠ 0 ∨ ∃ r', putE (h :: r) n x = (0, h :: r') := by
  unfold putE
  split
  · split
    · exact .inr ⟨r ++ [x], rfl⟩
    · split
      · exact .inl (by simp)
      · rename_i g hg
        split
        · exact .inr ⟨r ++ [g], rfl⟩
        · rename_i h1 h2
          cases r with
          | nil => simp at h2; omega
          | cons y r =>
            split
            · exact .inl (by simp)
            · split
              · rename_i z _ _
                exact .inr ⟨(y :: r).dropLast ++ [{ z with l := g.l }], rfl⟩
              · exact .inl (by simp)
  · exact .inl (by simp)
theorem fit_head {h x : Ev} {r : List Ev} {n : Int} (hn : 2 ≤ n) : ∃ r', fitE (h :: r) n x = h :: r' := by
  unfold fitE
  rcases put_head (h := h) (x := x) (r := r) hn with h1 | ⟨r', h1⟩
  · exact ⟨r, if_neg h1⟩
  · exact ⟨r', by rw [h1, if_pos rfl]⟩
theorem takeR_head {c : Cf} {h : Ev} (hn : 2 ≤ c.q) : ∀ {ah : List It} {s : Sm} {q : List Ev} {on : List It} {x : It}, (∃ r, q = h :: r) → ∃ r, (takeR c true ah s q on x).2.1 = h :: r
  | [], s, q, on, x, ⟨r, hr⟩ => by
    subst hr
    exact fit_head hn
  | y :: l, s, q, on, x, ⟨r, hr⟩ => by
    subst hr
    have := fit_head (h := h) (x := ⟨1, s.e, x.s, 0, x.v, 0⟩) (r := r) hn
    rw [takeR]
    split
    · exact takeR_head hn this
    · exact this
theorem fit_one {n : Int} {x : Ev} (hn : 2 ≤ n ∧ n ≤ 32) (hx : evOK x = true) : fitE [] n x = [x] := by
  have hq := q_nil hn
  unfold fitE
  rw [show putE [] n x = (0, [x]) by simp only [putE, hq, hx, Bool.and_self, if_true]; rw [if_pos (by simp; omega)]; rfl]
  rfl
theorem gone_head {c : Cf} {s : Sm} {to : Int} (h0 : flowC c s [] = 0) (he : epOK s.e = true) (hf : 1 ≤ s.w ∧ s.w ≤ to ∧ to ≤ 1073741823) : ∃ r, (goneG c s true [] s.e 1 to).2.1 = ⟨2, s.e, s.w, to, 0, 0⟩ :: r := by
  obtain ⟨k1, k2, k3⟩ := flow_t h0
  have kc := okC_t k1
  have hah := right_ah k2
  unfold goneG
  rw [if_pos ⟨rfl, hf.1, hf.2.1⟩]
  simp only [if_true]
  rw [fit_one kc.2.2.2.2.2.2 (evOK_gap he hf.1 (by omega)), gone_more (by omega) k1 (fun y hy => by have := hah y hy; exact ⟨this.2.2, by omega, by omega⟩)]
  split
  · exact ⟨[], rfl⟩
  · split
    · exact takeR_head kc.2.2.2.2.2.2.1 ⟨[], rfl⟩
    · exact ⟨[], rfl⟩
theorem e4 (conf want to : Int) (seqs : List Int) : LG.TT 1000 18 4 [iV conf, iV want, iV to, .one (rI seqs)] = some (bV true, []) := by
  rw [LG.t4, F_ev rfl]
  by_cases h30 : (seqs.length : Int) > 30
  · simp only [decide_eq_true h30, List.length_map, j4, b4, q4, qq, ww, List.replicate, Nat.reduceBEq, Nat.reduceAdd, Nat.reduceMul, Nat.reduceDiv, Nat.reduceEqDiff, Nat.reduceLeDiff, Nat.reduceLT, Int.reduceEq, Int.reduceNe, Int.reduceLT, Int.reduceLE, Int.reduceAdd, Int.reduceSub, Int.reduceMul, Int.reduceNeg, Int.reduceToNat, Int.reducePow, Nat.reducePow, reduceCtorEq, reduceIte, if_true, if_false]
  obtain ⟨m1, m2⟩ := umodF conf 1000000 (by omega) (by omega)
  obtain ⟨f1, f2⟩ := umodF want 1000 (by omega) (by omega)
  obtain ⟨t1, t2⟩ := umodF to 20 (by omega) (by omega)
  have hcf := fun d => EC.e7 1000 d conf _ rfl ⟨m1, m2⟩
  have hok := EC.ok_conf (IntKind.i64.wrap ((IntKind.u64.wrap conf).tmod 1000000))
  generalize confC (IntKind.i64.wrap ((IntKind.u64.wrap conf).tmod 1000000)) = c at *
  generalize hF : IntKind.i64.wrap ((IntKind.u64.wrap want).tmod 1000) = F0 at *
  generalize hT0 : IntKind.i64.wrap ((IntKind.u64.wrap to).tmod 20) = T0 at *
  have w1 : IntKind.i64.wrap (1 + F0) = 1 + F0 := IntWalk.i64_in _ (by omega)
  have w2 : IntKind.i64.wrap (1 + F0 + T0) = 1 + F0 + T0 := IntWalk.i64_in _ (by omega)
  have hfr : 1 ≤ 1 + F0 ∧ 1 + F0 ≤ 1000 := by omega
  have hw := w18
  obtain ⟨u1, u2⟩ := told_new (c := c) (a := 48) (n := 1 + F0) hok (by decide) (by omega)
  have hT : ∀ d, TT 1000 (d + 12) 8 [.agg (eC c), .agg [.int .i64 0, .int .i64 0, .int .i64 0, .row [], .row []], iV 48, iV (1 + F0)] = some (.tup [aS ⟨48, 1 + F0, 1 + F0, [], []⟩, iV 0], []) := fun d => by
    have := e8 1000 d (by omega) c s0 48 (1 + F0) (by simp)
    rw [u1] at this
    exact this
  simp only [decide_eq_false h30, hcf, hF, hT0, w1, w2, hT, List.length_map, j4, b4, q4, qq, ww, List.replicate, Nat.reduceBEq, Nat.reduceAdd, Nat.reduceMul, Nat.reduceDiv, Nat.reduceEqDiff, Nat.reduceLeDiff, Nat.reduceLT, Int.reduceEq, Int.reduceNe, Int.reduceLT, Int.reduceLE, Int.reduceAdd, Int.reduceSub, Int.reduceMul, Int.reduceNeg, Int.reduceToNat, Int.reducePow, Nat.reducePow, reduceCtorEq, reduceIte, if_true, if_false]
  generalize 1 + F0 = fi at *
  generalize hto : fi + T0 = tv at *
  generalize hs1 : (⟨48, fi, fi, [], []⟩ : Sm) = sI at *
  have hI0 : sI.e = 48 ∧ sI.w = fi := by subst hs1; exact ⟨rfl, rfl⟩
  refine loopI (K := fun o => fin _ (aft _ _ _ o)) (I := fun i st => ∃ s, st = ⟨[(1, iV fi), (2, iV tv), (3, .one (rI seqs)), (9, .one (.ref 576 0 0)), (10, .one (.ref 640 0 0)), (11, iV 0), (12, iV i)], [(576, .box (eC c)), (640, .box (eS s))]⟩ ∧ flowC c s [] = 0 ∧ s.e = 48 ∧ s.w = fi) _ seqs.length ?hr seqs.length 0 1000 _ ⟨[(1, iV fi), (2, iV tv), (3, .one (rI seqs)), (9, .one (.ref 576 0 0)), (10, .one (.ref 640 0 0)), (11, iV 0), (12, iV 0)], [(576, .box (eC c)), (640, .box (eS sI))]⟩ (by omega) (by omega) ?hk ⟨sI, rfl, u2, hI0⟩
  case hk => simp only [gcK, lowB, Nat.reduceLeDiff, Nat.reduceBEq, List.contains_nil, List.contains_cons, Bool.or_false, Bool.false_or, Bool.false_eq_true, if_false, Bool.true_and, Bool.and_true, pickL, look_hit, look_miss, look_end, slMent, hpMent, S.ment, S.ment.smt, ments, V.ment, List.append_nil, List.nil_append, List.cons_append, List.all_nil, List.all_cons, Option.isSome_some, Bool.and_self, if_true, reduceIte, Nat.reduceEqDiff, not_false_eq_true, reduceCtorEq, Nat.reduceMul, Nat.reduceAdd]; subst hs1; rfl
  case hr =>
    rintro i n st hi ⟨s, rfl, h0, he, hsw⟩ ih
    (try dsimp only)
    obtain ⟨k1, k2, k3⟩ := flow_t h0
    have k4 := right_t k2
    have hep : epOK s.e = true := by rw [he]; decide
    by_cases hlt : i < seqs.length
    · have hb : 0 ≤ (i : Int) ∧ (i : Int) < (seqs.length : Int) := by omega
      have g1 : decide ((i : Int) < (seqs.length : Int)) = true := decide_eq_true hb.2
      have hget : (seqs.map eI)[i]? = some (eI seqs[i]) := by simp [hlt]
      obtain ⟨d1, d2⟩ := umodF seqs[i] 20 (by omega) (by omega)
      generalize hD : IntKind.i64.wrap ((IntKind.u64.wrap seqs[i]).tmod 20) = D at *
      have w3 : IntKind.i64.wrap (fi + 1) = fi + 1 := IntWalk.i64_in _ (by omega)
      have w4 : IntKind.i64.wrap (fi + 1 + D) = fi + 1 + D := IntWalk.i64_in _ (by omega)
      have hx : inB (fi + 1 + D) 1 1073741823 = true := by simp [inB]; omega
      have hit : ∀ d, ans (TT 1000 (d + 16) 9 [.agg (eC c), aS s, bV false, .one (.row []), iV 48, aT ⟨fi + 1 + D, 3⟩]) = some (fA (itemG c s false [] false ⟨fi + 1 + D, 3⟩, 0)) := fun d => by
        have := e9 1000 d (by omega) c s false [] s.e ⟨fi + 1 + D, 3⟩ ⟨by omega, by omega⟩ (by simp)
        rw [item_at h0 hep hx (by show inB 3 0 2147483647 = true; decide), he] at this
        exact this
      obtain ⟨a1, a2, _, _, _, _, _, a8, _, a10, _⟩ := item_same (sub := false) (x := ⟨fi + 1 + D, 3⟩) (P := fun _ _ => True) h0 hep hx (by show inB 3 0 2147483647 = true; decide) trivial (fun _ _ => trivial)
      have a10 := (a10 (by show fi + 1 + D > s.w; omega)).1
      rw [a8 rfl] at a1
      generalize itemG c s false [] false ⟨fi + 1 + D, 3⟩ = G at *
      obtain ⟨t, r, on⟩ := G
      dsimp only at a1 a2 a10 hit
      simp only [g1, hb.1, hb.2, hget, hD, w3, w4, hit, fA, wi i (by omega), List.length_map, Int.toNat_natCast, j4, b4, q4, qq, ww, List.replicate, Nat.reduceBEq, Nat.reduceAdd, Nat.reduceMul, Nat.reduceDiv, Nat.reduceEqDiff, Nat.reduceLeDiff, Nat.reduceLT, Int.reduceEq, Int.reduceNe, Int.reduceLT, Int.reduceLE, Int.reduceAdd, Int.reduceSub, Int.reduceMul, Int.reduceNeg, Int.reduceToNat, Int.reducePow, Nat.reducePow, reduceCtorEq, reduceIte, if_true, if_false]
      exact ih hlt _ _ (by simp only [gcK, lowB, Nat.reduceLeDiff, Nat.reduceBEq, List.contains_nil, List.contains_cons, Bool.or_false, Bool.false_or, Bool.false_eq_true, if_false, Bool.true_and, Bool.and_true, pickL, look_hit, look_miss, look_end, slMent, hpMent, S.ment, S.ment.smt, ments, V.ment, List.append_nil, List.nil_append, List.cons_append, List.all_nil, List.all_cons, Option.isSome_some, Bool.and_self, if_true, reduceIte, Nat.reduceEqDiff, not_false_eq_true, reduceCtorEq, Nat.reduceMul, Nat.reduceAdd]) ⟨t, rfl, a1, by rw [a2, he], by rw [a10, hsw]⟩
    · clear ih
      obtain rfl : i = seqs.length := by omega
      have g1 : decide ((seqs.length : Int) < (seqs.length : Int)) = false := by simp
      have y1 : decide (s.w = fi) = true := decide_eq_true hsw
      have w3 : IntKind.i64.wrap (fi + 1) = fi + 1 := IntWalk.i64_in _ (by omega)
      have w5 : IntKind.i64.wrap (fi + 30) = fi + 30 := IntWalk.i64_in _ (by omega)
      have w6 : IntKind.i64.wrap (tv + 1) = tv + 1 := IntWalk.i64_in _ (by omega)
      have hsl : smL s := ⟨by omega, by omega⟩
      have hG1 : ∀ d, ans (TT 1000 (d + 16) 13 [.agg (eC c), aS s, bV true, .one (.row []), iV 48, iV 1, iV tv]) = some (fA (goneG c s true [] s.e 1 tv, 0)) := fun d => by
        have := e13 1000 d (by omega) c s true [] s.e 1 tv hsl (by simp)
        have b1 : decide ((1 : Int) ≤ 1) = true := rfl
        have b2 : decide (1 ≤ tv) = true := by simp; omega
        have b3 : inB tv 1 1073741823 = true := by simp [inB]; omega
        rw [show goneP c s true [] s.e 1 tv = (goneG c s true [] s.e 1 tv, 0) by simp only [goneP, h0, hep, b1, b2, b3, Bool.and_self, if_true]] at this
        rw [he] at this ⊢
        exact this
      have hG2 : ∀ d, ans (TT 1000 (d + 16) 13 [.agg (eC c), aS s, bV true, .one (.row []), iV 48, iV (fi + 1), iV (fi + 30)]) = some (.tup [aS s, .one (.row []), .one (.row []), iV 0]) := fun d => by
        have := e13 1000 d (by omega) c s true [] s.e (fi + 1) (fi + 30) hsl (by simp)
        have b1 : decide ((1 : Int) ≤ fi + 1) = true := by simp; omega
        have b2 : decide (fi + 1 ≤ fi + 30) = true := by simp
        have b3 : inB (fi + 30) 1 1073741823 = true := by simp [inB]; omega
        have b4 : ¬ (s.e = s.e ∧ s.w ≥ fi + 1 ∧ s.w ≤ fi + 30) := fun h => by omega
        rw [show goneP c s true [] s.e (fi + 1) (fi + 30) = ((s, [], []), 0) by simp only [goneP, h0, hep, b1, b2, b3, Bool.and_self, if_true]; unfold goneG; rw [if_neg b4]] at this
        rw [he] at this
        exact this
      have hsame : ∀ d, TT 1000 (d + 2) 14 [aS s, aS s] = some (bV true, []) := fun d => by rw [e14 1000 d (by omega) s s hsl]; simp
      have hf : 1 ≤ s.w ∧ s.w ≤ tv ∧ tv ≤ 1073741823 := by omega
      obtain ⟨a1, a2, a3, a4, a5, _, _, _⟩ := gone_same (sub := true) (q := []) (fr := 1) (to := tv) (P := fun _ _ => True) h0 hep hf (fun _ _ => trivial)
      obtain ⟨r, hr⟩ := gone_head h0 hep hf
      have hgl := goneG_len (c := c) (s := s) (sub := true) (q := []) (a := s.e) (f := 1) (t := tv) (by omega) (by simp)
      generalize goneG c s true [] s.e 1 tv = G at *
      obtain ⟨t, q', on⟩ := G
      dsimp only at a1 a2 a3 a4 a5 hr hG1 hgl
      subst hr
      obtain ⟨o1, o2⟩ := seqP_t a5
      obtain ⟨p1, p2, p3⟩ := flow_t a1
      have p4 := right_t p2
      have pw := p4.2.2.2.1
      have pa := right_ah p2
      have y2 : decide (((r.length + 1 : Nat) : Int) = 0) = false := by simp; omega
      have w0 : IntKind.i64.wrap 0 = 0 := rfl
      simp only [g1, y1, y2, w0, w3, w5, w6, hG1, hG2, hsame, fA, Bool.not_true, Bool.not_false, List.length_map, List.length_nil, List.length_cons, j4, b4, q4, qq, ww, List.replicate, Nat.reduceBEq, Nat.reduceAdd, Nat.reduceMul, Nat.reduceDiv, Nat.reduceEqDiff, Nat.reduceLeDiff, Nat.reduceLT, Int.reduceEq, Int.reduceNe, Int.reduceLT, Int.reduceLE, Int.reduceAdd, Int.reduceSub, Int.reduceMul, Int.reduceNeg, Int.reduceToNat, Int.reducePow, Nat.reducePow, reduceCtorEq, reduceIte, if_true, if_false]
      refine loopK (K := fun o => fin _ (aft _ _ _ o)) (fun j => ⟨[(1, iV fi), (2, iV tv), (10, .one (.ref 640 0 0)), (13, .one (.ref 832 0 0)), (14, .one (rE (⟨2, s.e, s.w, tv, 0, 0⟩ :: r))), (15, .one (rT on)), (21, iV (tv + 1 + j)), (22, iV j)], [(640, .box (eS s)), (832, .box (eS t))]⟩) (fun _ => some (bV true, [])) on.length ?hr2 on.length 0 1000 _ (by omega) (by omega) ?hk2
      case hk2 => simp only [gcK, lowB, Nat.reduceLeDiff, Nat.reduceBEq, List.contains_nil, List.contains_cons, Bool.or_false, Bool.false_or, Bool.false_eq_true, if_false, Bool.true_and, Bool.and_true, pickL, look_hit, look_miss, look_end, slMent, hpMent, S.ment, S.ment.smt, ments, V.ment, List.append_nil, List.nil_append, List.cons_append, List.all_nil, List.all_cons, Option.isSome_some, Bool.and_self, if_true, reduceIte, Nat.reduceEqDiff, not_false_eq_true, reduceCtorEq, Nat.reduceMul, Nat.reduceAdd]; rw [Int.ofNat_zero, Int.add_zero]
      case hr2 =>
        intro j n2 hj ih2
        (try dsimp only)
        by_cases hjl : j < on.length
        · have z1 : decide ((j : Int) < (on.length : Int)) = true := by simp; omega
          have z2 : 0 ≤ (j : Int) ∧ (j : Int) < (on.length : Int) := by omega
          have z3 : (on.map eT)[j]? = some (eT on[j]) := by simp [hjl]
          have z4 : decide (on[j].s = tv + 1 + (j : Int)) = true := decide_eq_true (o2 j hjl).1
          have z5 : IntKind.i64.wrap (tv + 1 + (j : Int) + 1) = tv + 1 + ((j + 1 : Nat) : Int) := by rw [IntWalk.i64_in _ (by omega)]; omega
          simp only [z1, z2.1, z2.2, z3, z4, z5, wi j (by omega), List.length_map, Int.toNat_natCast, j4, b4, q4, qq, ww, List.replicate, Nat.reduceBEq, Nat.reduceAdd, Nat.reduceMul, Nat.reduceDiv, Nat.reduceEqDiff, Nat.reduceLeDiff, Nat.reduceLT, Int.reduceEq, Int.reduceNe, Int.reduceLT, Int.reduceLE, Int.reduceAdd, Int.reduceSub, Int.reduceMul, Int.reduceNeg, Int.reduceToNat, Int.reducePow, Nat.reducePow, reduceCtorEq, reduceIte, if_true, if_false]
          exact ih2 hjl _ (by simp only [gcK, lowB, Nat.reduceLeDiff, Nat.reduceBEq, List.contains_nil, List.contains_cons, Bool.or_false, Bool.false_or, Bool.false_eq_true, if_false, Bool.true_and, Bool.and_true, pickL, look_hit, look_miss, look_end, slMent, hpMent, S.ment, S.ment.smt, ments, V.ment, List.append_nil, List.nil_append, List.cons_append, List.all_nil, List.all_cons, Option.isSome_some, Bool.and_self, if_true, reduceIte, Nat.reduceEqDiff, not_false_eq_true, reduceCtorEq, Nat.reduceMul, Nat.reduceAdd])
        · obtain rfl : j = on.length := by omega
          clear ih2
          have z1 : decide ((on.length : Int) < (on.length : Int)) = false := by simp
          rw [← o1]
          have z2 : (0 : Int) ≤ 0 ∧ (0 : Int) < ((r.length + 1 : Nat) : Int) := by omega
          have z3 : decide (t.w = t.w) = true := by simp
          have z4 : decide (t.kn ≥ s.kn) = true := decide_eq_true a4
          have z5 : decide (s.e = 48) = true := decide_eq_true he
          have z6 : decide (tv = tv) = true := by simp
          have z7 : decide ((0 : Int) = 0) = true := rfl
          have z8 : decide ((2 : Int) = 2) = true := rfl
          cases hta : t.ah with
          | nil =>
            simp only [z1, z2.1, z2.2, z3, z4, z5, z6, z7, z8, y1, hta, hw, Bool.and_self, List.map_cons, List.map_nil, List.length_map, List.length_cons, List.length_nil, j4, b4, q4, qq, ww, List.replicate, Nat.reduceBEq, Nat.reduceAdd, Nat.reduceMul, Nat.reduceDiv, Nat.reduceEqDiff, Nat.reduceLeDiff, Nat.reduceLT, Int.reduceEq, Int.reduceNe, Int.reduceLT, Int.reduceLE, Int.reduceAdd, Int.reduceSub, Int.reduceMul, Int.reduceNeg, Int.reduceToNat, Int.reducePow, Nat.reducePow, reduceCtorEq, reduceIte, if_true, if_false]
          | cons y l =>
            have hy := pa y (by rw [hta]; simp)
            have z9 : decide (((l.length + 1 : Nat) : Int) = 0) = false := by simp; omega
            have z10 : (0 : Int) ≤ 0 ∧ (0 : Int) < ((l.length + 1 : Nat) : Int) := by omega
            have z11 : decide (y.s > t.w) = true := decide_eq_true hy.1
            simp only [z1, z2.1, z2.2, z3, z4, z5, z6, z7, z8, z9, z10.1, z10.2, z11, y1, hta, hw, Bool.and_self, List.map_cons, List.map_nil, List.length_map, List.length_cons, List.length_nil, j4, b4, q4, qq, ww, List.replicate, Nat.reduceBEq, Nat.reduceAdd, Nat.reduceMul, Nat.reduceDiv, Nat.reduceEqDiff, Nat.reduceLeDiff, Nat.reduceLT, Int.reduceEq, Int.reduceNe, Int.reduceLT, Int.reduceLE, Int.reduceAdd, Int.reduceSub, Int.reduceMul, Int.reduceNeg, Int.reduceToNat, Int.reducePow, Nat.reducePow, reduceCtorEq, reduceIte, if_true, if_false]
end Go.Proofs.YtkfcbpbnoeaheaaDoor.FA
