/- Functions of the program in the evaluator's form, each checked against the program (written by wip/prog/irgen.py). -/
import Derived.Test.YtbkemldecbcfhaaDoorProg
import Derived.Test.YtbkemldecbcfhaaDoorR21
set_option maxRecDepth 100000
set_option linter.unusedSimpArgs false
set_option linter.unusedVariables false
namespace Go.Proofs.YtbkemldecbcfhaaDoor.IE
open Go Go.Proofs.YtbkemldecbcfhaaDoorR
/-- bellwether/script.config -/
def j24 : C := (.seq (.region [⟨some 1, .box (.t 0), none, [], []⟩,
  ⟨some 2, .mov (.c (.k .nilIface)), none, [], []⟩] false)
 (.seq (.region [⟨some 3, .fad 0 (.t 1), none, [6, 7, 9, 10, 12, 13, 15, 16, 18, 19, 21, 22], []⟩,
  ⟨some 4, .load false 1 (.t 3), none, [6, 7, 9, 10, 12, 13, 15, 16, 18, 19, 21, 22], [0]⟩,
  ⟨some 5, .call false 30 [(.c (.k (.string ⟨#[110, 111, 100, 101, 115]⟩))), (.t 4), (.c (.int .i64 1)), (.c (.int .i64 8)), (.c (.int .i64 13))], none, [6, 7, 9, 10, 12, 13, 15, 16, 18, 19, 21, 22], [0, 1]⟩,
  ⟨some 6, .fad 1 (.t 1), none, [3, 4, 5, 9, 10, 12, 13, 15, 16, 18, 19, 21, 22], []⟩,
  ⟨some 7, .load false 1 (.t 6), none, [3, 4, 5, 9, 10, 12, 13, 15, 16, 18, 19, 21, 22], [3]⟩,
  ⟨some 8, .call false 30 [(.c (.k (.string ⟨#[116, 111, 112, 105, 99, 115]⟩))), (.t 7), (.c (.int .i64 1)), (.c (.int .i64 4)), (.c (.int .i64 13))], none, [9, 10, 12, 13, 15, 16, 18, 19, 21, 22], [0, 1, 2, 3, 4]⟩,
  ⟨some 9, .fad 2 (.t 1), none, [3, 4, 5, 6, 7, 8, 12, 13, 15, 16, 18, 19, 21, 22], []⟩,
  ⟨some 10, .load false 1 (.t 9), none, [3, 4, 5, 6, 7, 8, 12, 13, 15, 16, 18, 19, 21, 22], [6]⟩,
  ⟨some 11, .call false 30 [(.c (.k (.string ⟨#[107, 105, 100, 115]⟩))), (.t 10), (.c (.int .i64 1)), (.c (.int .i64 4)), (.c (.int .i64 13))], none, [12, 13, 15, 16, 18, 19, 21, 22], [0, 1, 2, 3, 4, 5, 6, 7]⟩,
  ⟨some 12, .fad 3 (.t 1), none, [3, 4, 5, 6, 7, 8, 9, 10, 11, 15, 16, 18, 19, 21, 22], []⟩,
  ⟨some 13, .load false 1 (.t 12), none, [3, 4, 5, 6, 7, 8, 9, 10, 11, 15, 16, 18, 19, 21, 22], [9]⟩,
  ⟨some 14, .call false 30 [(.c (.k (.string ⟨#[100, 101, 112, 116, 104]⟩))), (.t 13), (.c (.int .i64 1)), (.c (.int .i64 8)), (.c (.int .i64 13))], none, [15, 16, 18, 19, 21, 22], [0, 1, 2, 3, 4, 5, 6, 7, 8, 9, 10]⟩,
  ⟨some 15, .fad 4 (.t 1), none, [3, 4, 5, 6, 7, 8, 9, 10, 11, 12, 13, 14, 18, 19, 21, 22], []⟩,
  ⟨some 16, .load false 1 (.t 15), none, [3, 4, 5, 6, 7, 8, 9, 10, 11, 12, 13, 14, 18, 19, 21, 22], [12]⟩,
  ⟨some 17, .call false 30 [(.c (.k (.string ⟨#[107, 101, 101, 112]⟩))), (.t 16), (.c (.int .i64 1)), (.c (.int .i64 16)), (.c (.int .i64 13))], none, [18, 19, 21, 22], [0, 1, 2, 3, 4, 5, 6, 7, 8, 9, 10, 11, 12, 13]⟩,
  ⟨some 18, .fad 5 (.t 1), none, [3, 4, 5, 6, 7, 8, 9, 10, 11, 12, 13, 14, 15, 16, 17, 21, 22], []⟩,
  ⟨some 19, .load false 1 (.t 18), none, [3, 4, 5, 6, 7, 8, 9, 10, 11, 12, 13, 14, 15, 16, 17, 21, 22], [15]⟩,
  ⟨some 20, .call false 30 [(.c (.k (.string ⟨#[119, 105, 110, 100, 111, 119]⟩))), (.t 19), (.c (.int .i64 1)), (.c (.int .i64 16)), (.c (.int .i64 13))], none, [21, 22], [0, 1, 2, 3, 4, 5, 6, 7, 8, 9, 10, 11, 12, 13, 14, 15, 16]⟩,
  ⟨some 21, .fad 6 (.t 1), none, [3, 4, 5, 6, 7, 8, 9, 10, 11, 12, 13, 14, 15, 16, 17, 18, 19, 20], []⟩,
  ⟨some 22, .load false 1 (.t 21), none, [3, 4, 5, 6, 7, 8, 9, 10, 11, 12, 13, 14, 15, 16, 17, 18, 19, 20], [18]⟩,
  ⟨some 23, .call false 30 [(.c (.k (.string ⟨#[113, 117, 101, 117, 101]⟩))), (.t 22), (.c (.int .i64 2)), (.c (.int .i64 32)), (.c (.int .i64 13))], none, [], [0, 1, 2, 3, 4, 5, 6, 7, 8, 9, 10, 11, 12, 13, 14, 15, 16, 17, 18, 19]⟩,
  ⟨some 24, .bsl 53 1 7 [.k .nilIface] [(0, (.t 5)), (1, (.t 8)), (2, (.t 11)), (3, (.t 14)), (4, (.t 17)), (5, (.t 20)), (6, (.t 23))], none, [], [0, 1, 2, 3, 4, 5, 6, 7, 8, 9, 10, 11, 12, 13, 14, 15, 16, 17, 18, 19, 20]⟩,
  ⟨some 25, .call false 29 [(.t 24)], none, [], [0, 1, 2, 3, 4, 5, 6, 7, 8, 9, 10, 11, 12, 13, 14, 15, 16, 17, 18, 19, 20, 21]⟩,
  ⟨some 2, .mov (.t 25), none, [], [0, 1, 2, 3, 4, 5, 6, 7, 8, 9, 10, 11, 12, 13, 14, 15, 16, 17, 18, 19, 20, 21, 22]⟩] true)
 .ret))
def i24 : F := ⟨1, 26, j24, [.t 2]⟩
theorem b24 : i24.body = j24 := rfl
theorem q24 : i24.res = [.t 2] := rfl
theorem c24 : chkF Tryd.prog Tryd.f24 i24 = true := by kernel_rfl
theorem s24 {m : Model} {E : Nat → Model} (hE : ∀ f, Sound Tryd.prog f (E f)) (hm : ∀ args r, m args = some r → ∃ N, i24.ev E N args = some r) : Sound Tryd.prog 24 m := sound_of i24 Tryd.func24 rfl c24 hE hm
/-- bellwether/script.fields -/
def j25 : C := (.seq (.region [⟨some 2, .box (.t 0), none, [], []⟩,
  ⟨some 3, .box (.t 1), none, [], []⟩,
  ⟨some 4, .mov (.c (.k .nilIface)), none, [], []⟩] false)
 (.seq (.seq (.region [⟨some 5, .fad 0 (.t 3), none, [], []⟩,
  ⟨some 6, .load false 1 (.t 5), none, [], []⟩] false)
 (.block 0 (.seq (.seq (.region [⟨some 8, .bin .eql (.t 6) (.c (.int .i64 1)), none, [], []⟩,
  ⟨some 7, .mov (.t 8), none, [], []⟩] false)
 (.cond (.t 7) .skip (.seq (.region [⟨some 9, .bin .eql (.t 6) (.c (.int .i64 6)), none, [], []⟩,
  ⟨some 7, .mov (.t 9), none, [], []⟩] false)
 (.cond (.t 7) .skip (.region [⟨some 10, .bin .eql (.t 6) (.c (.int .i64 7)), none, [], []⟩,
  ⟨some 7, .mov (.t 10), none, [], []⟩] false)))))
 (.cond (.t 7) (.seq (.region [⟨some 11, .load true 7 (.t 2), none, [], []⟩,
  ⟨some 12, .load true 5 (.t 3), none, [], []⟩,
  ⟨some 13, .call false 31 [(.t 11), (.t 12)], none, [], []⟩,
  ⟨some 4, .mov (.t 13), none, [], []⟩] false)
 .ret) (.seq (.seq (.region [⟨some 15, .bin .eql (.t 6) (.c (.int .i64 8)), none, [], []⟩,
  ⟨some 14, .mov (.t 15), none, [], []⟩] false)
 (.cond (.t 14) .skip (.seq (.region [⟨some 16, .bin .eql (.t 6) (.c (.int .i64 9)), none, [], []⟩,
  ⟨some 14, .mov (.t 16), none, [], []⟩] false)
 (.cond (.t 14) .skip (.seq (.region [⟨some 17, .bin .eql (.t 6) (.c (.int .i64 10)), none, [], []⟩,
  ⟨some 14, .mov (.t 17), none, [], []⟩] false)
 (.cond (.t 14) .skip (.seq (.region [⟨some 18, .bin .eql (.t 6) (.c (.int .i64 12)), none, [], []⟩,
  ⟨some 14, .mov (.t 18), none, [], []⟩] false)
 (.cond (.t 14) .skip (.region [⟨some 19, .bin .eql (.t 6) (.c (.int .i64 13)), none, [], []⟩,
  ⟨some 14, .mov (.t 19), none, [], []⟩] false)))))))))
 (.cond (.t 14) (.seq (.region [⟨some 20, .load true 7 (.t 2), none, [21, 23, 24], []⟩,
  ⟨some 21, .load true 5 (.t 3), none, [20, 23, 24], []⟩,
  ⟨some 22, .call false 31 [(.t 20), (.t 21)], none, [23, 24], [0, 1]⟩,
  ⟨some 23, .load true 7 (.t 2), none, [20, 21, 22, 24], []⟩,
  ⟨some 24, .load true 5 (.t 3), none, [20, 21, 22, 23], []⟩,
  ⟨some 25, .call false 32 [(.t 23), (.t 24)], none, [], [0, 1, 2, 3, 4]⟩,
  ⟨some 26, .bsl 53 1 2 [.k .nilIface] [(0, (.t 22)), (1, (.t 25))], none, [], [0, 1, 2, 3, 4, 5]⟩,
  ⟨some 27, .call false 29 [(.t 26)], none, [], [0, 1, 2, 3, 4, 5, 6]⟩,
  ⟨some 4, .mov (.t 27), none, [], [0, 1, 2, 3, 4, 5, 6, 7]⟩] true)
 .ret) (.seq (.region [⟨some 29, .bin .eql (.t 6) (.c (.int .i64 11)), none, [], []⟩,
  ⟨some 28, .mov (.t 29), none, [], []⟩] false)
 (.cond (.t 28) (.seq (.region [⟨some 30, .load true 7 (.t 2), none, [31, 33, 34, 36, 37], []⟩,
  ⟨some 31, .load true 5 (.t 3), none, [30, 33, 34, 36, 37], []⟩,
  ⟨some 32, .call false 31 [(.t 30), (.t 31)], none, [33, 34, 36, 37], [0, 1]⟩,
  ⟨some 33, .load true 7 (.t 2), none, [30, 31, 32, 34, 36, 37], []⟩,
  ⟨some 34, .load true 5 (.t 3), none, [30, 31, 32, 33, 36, 37], []⟩,
  ⟨some 35, .call false 32 [(.t 33), (.t 34)], none, [36, 37], [0, 1, 2, 3, 4]⟩,
  ⟨some 36, .fad 3 (.t 3), none, [30, 31, 32, 33, 34, 35], []⟩,
  ⟨some 37, .load false 1 (.t 36), none, [30, 31, 32, 33, 34, 35], [6]⟩,
  ⟨some 38, .call false 33 [(.c (.k (.string ⟨#[118, 97, 108, 117, 101]⟩))), (.t 37), (.c (.int .i64 0))], none, [], [0, 1, 2, 3, 4, 5, 6, 7]⟩,
  ⟨some 39, .bsl 53 1 3 [.k .nilIface] [(0, (.t 32)), (1, (.t 35)), (2, (.t 38))], none, [], [0, 1, 2, 3, 4, 5, 6, 7, 8]⟩,
  ⟨some 40, .call false 29 [(.t 39)], none, [], [0, 1, 2, 3, 4, 5, 6, 7, 8, 9]⟩,
  ⟨some 4, .mov (.t 40), none, [], [0, 1, 2, 3, 4, 5, 6, 7, 8, 9, 10]⟩] true)
 .ret) (.seq (.seq (.region [⟨some 42, .bin .eql (.t 6) (.c (.int .i64 2)), none, [], []⟩,
  ⟨some 41, .mov (.t 42), none, [], []⟩] false)
 (.cond (.t 41) .skip (.seq (.region [⟨some 43, .bin .eql (.t 6) (.c (.int .i64 3)), none, [], []⟩,
  ⟨some 41, .mov (.t 43), none, [], []⟩] false)
 (.cond (.t 41) .skip (.region [⟨some 44, .bin .eql (.t 6) (.c (.int .i64 4)), none, [], []⟩,
  ⟨some 41, .mov (.t 44), none, [], []⟩] false)))))
 (.cond (.t 41) (.seq (.region [⟨some 45, .fad 3 (.t 3), none, [], []⟩,
  ⟨some 46, .load false 1 (.t 45), none, [], []⟩,
  ⟨some 47, .call false 33 [(.c (.k (.string ⟨#[118, 97, 108, 117, 101]⟩))), (.t 46), (.c (.int .i64 0))], none, [], []⟩,
  ⟨some 4, .mov (.t 47), none, [], []⟩] false)
 .ret) (.seq (.region [⟨some 49, .bin .eql (.t 6) (.c (.int .i64 5)), none, [], []⟩,
  ⟨some 48, .mov (.t 49), none, [], []⟩] false)
 (.cond (.t 48) (.seq (.region [⟨some 50, .fad 3 (.t 3), none, [53, 54, 56, 57], []⟩,
  ⟨some 51, .load false 1 (.t 50), none, [53, 54, 56, 57], [0]⟩,
  ⟨some 52, .call false 33 [(.c (.k (.string ⟨#[118, 97, 108, 117, 101]⟩))), (.t 51), (.c (.int .i64 0))], none, [53, 54, 56, 57], [0, 1]⟩,
  ⟨some 53, .fad 2 (.t 3), none, [50, 51, 52, 56, 57], []⟩,
  ⟨some 54, .load false 1 (.t 53), none, [50, 51, 52, 56, 57], [3]⟩,
  ⟨some 55, .call false 33 [(.c (.k (.string ⟨#[112, 108, 97, 99, 101]⟩))), (.t 54), (.c (.int .i64 0))], none, [56, 57], [0, 1, 2, 3, 4]⟩,
  ⟨some 56, .fad 4 (.t 3), none, [50, 51, 52, 53, 54, 55], []⟩,
  ⟨some 57, .load false 1 (.t 56), none, [50, 51, 52, 53, 54, 55], [6]⟩,
  ⟨some 58, .call false 33 [(.c (.k (.string ⟨#[109, 97, 115, 107]⟩))), (.t 57), (.c (.int .i64 1))], none, [], [0, 1, 2, 3, 4, 5, 6, 7]⟩,
  ⟨some 59, .bsl 53 1 3 [.k .nilIface] [(0, (.t 52)), (1, (.t 55)), (2, (.t 58))], none, [], [0, 1, 2, 3, 4, 5, 6, 7, 8]⟩,
  ⟨some 60, .call false 29 [(.t 59)], none, [], [0, 1, 2, 3, 4, 5, 6, 7, 8, 9]⟩,
  ⟨some 4, .mov (.t 60), none, [], [0, 1, 2, 3, 4, 5, 6, 7, 8, 9, 10]⟩] true)
 .ret) .skip))))))))))))
 (.seq (.region [⟨some 61, .fad 0 (.t 3), none, [], []⟩,
  ⟨some 62, .load false 1 (.t 61), none, [], []⟩,
  ⟨some 63, .call false 30 [(.c (.k (.string ⟨#[107, 105, 110, 100]⟩))), (.t 62), (.c (.int .i64 1)), (.c (.int .i64 13)), (.c (.int .i64 1))], none, [], []⟩,
  ⟨some 4, .mov (.t 63), none, [], []⟩] false)
 .ret)))
def i25 : F := ⟨2, 64, j25, [.t 4]⟩
theorem b25 : i25.body = j25 := rfl
theorem q25 : i25.res = [.t 4] := rfl
theorem c25 : chkF Tryd.prog Tryd.f25 i25 = true := by kernel_rfl
theorem s25 {m : Model} {E : Nat → Model} (hE : ∀ f, Sound Tryd.prog f (E f)) (hm : ∀ args r, m args = some r → ∃ N, i25.ev E N args = some r) : Sound Tryd.prog 25 m := sound_of i25 Tryd.func25 rfl c25 hE hm
/-- errors.Join -/
def j29 : C := (.seq (.region [⟨some 2, .mov (.c (.k .nilIface)), none, [], []⟩] false)
 (.seq (.region [⟨some 3, .mov (.c (.int .i64 0)), none, [], []⟩] false)
 (.seq (.seq (.region [⟨some 9, .mov (.t 0), none, [], []⟩,
  ⟨some 10, .len (.t 9), none, [], []⟩,
  ⟨some 11, .mov (.c (.int .i64 0)), none, [], []⟩] false)
 (.block 0 (.loop (.keep [0, 3, 9, 10, 11] (.seq (.region [⟨some 12, .bin .lss (.t 11) (.t 10), none, [], []⟩] false)
 (.seq (.cond (.t 12) .skip (.exit 0))
 (.seq (.block 1 (.seq (.region [⟨some 13, .iad 1 (.t 9) (.t 11), none, [], []⟩,
  ⟨some 14, .load false 1 (.t 13), none, [], []⟩,
  ⟨some 5, .mov (.t 14), none, [], []⟩] false)
 (.seq (.region [⟨some 15, .mov (.t 5), none, [], []⟩,
  ⟨some 16, .ifn true (.t 15), none, [], []⟩] false)
 (.cond (.t 16) (.region [⟨some 17, .mov (.t 3), none, [], []⟩,
  ⟨some 18, .bin .add (.t 17) (.c (.int .i64 1)), none, [], []⟩,
  ⟨some 3, .mov (.t 18), none, [], []⟩] false) .skip))))
 (.region [⟨some 19, .bin .add (.t 11) (.c (.int .i64 1)), none, [], []⟩,
  ⟨some 11, .mov (.t 19), none, [], []⟩] false))))))))
 (.seq (.seq (.region [⟨some 20, .mov (.t 3), none, [], []⟩,
  ⟨some 21, .bin .eql (.t 20) (.c (.int .i64 0)), none, [], []⟩] false)
 (.cond (.t 21) (.seq (.region [⟨some 2, .mov (.c (.k .nilIface)), none, [], []⟩] false)
 .ret) .skip))
 (.seq (.region [⟨some 22, .mov (.t 3), none, [], []⟩,
  ⟨some 23, .mkz 53 1 16 [.k .nilIface] (.t 22), none, [], []⟩,
  ⟨some 24, .build [.row []] [(0, 1, (.t 23))], none, [], []⟩,
  ⟨some 25, .box (.t 24), none, [], []⟩,
  ⟨some 6, .mov (.t 25), none, [], []⟩] false)
 (.seq (.seq (.region [⟨some 26, .mov (.t 0), none, [], []⟩,
  ⟨some 27, .len (.t 26), none, [], []⟩,
  ⟨some 28, .mov (.c (.int .i64 0)), none, [], []⟩] false)
 (.block 2 (.loop (.keep [6, 26, 27, 28] (.seq (.region [⟨some 29, .bin .lss (.t 28) (.t 27), none, [], []⟩] false)
 (.seq (.cond (.t 29) .skip (.exit 2))
 (.seq (.block 3 (.seq (.region [⟨some 30, .iad 1 (.t 26) (.t 28), none, [], []⟩,
  ⟨some 31, .load false 1 (.t 30), none, [], []⟩,
  ⟨some 8, .mov (.t 31), none, [], []⟩] false)
 (.seq (.region [⟨some 32, .mov (.t 8), none, [], []⟩,
  ⟨some 33, .ifn true (.t 32), none, [], []⟩] false)
 (.cond (.t 33) (.region [⟨some 34, .mov (.t 6), none, [], []⟩,
  ⟨some 35, .mov (.t 6), none, [], []⟩,
  ⟨some 36, .nck (.t 35), none, [], []⟩,
  ⟨some 37, .fad 0 (.t 36), none, [], []⟩,
  ⟨some 38, .load false 1 (.t 37), none, [], []⟩,
  ⟨some 39, .mov (.t 8), none, [], []⟩,
  ⟨some 40, .bsl 53 1 1 [.k .nilIface] [(0, (.t 39))], none, [], []⟩,
  ⟨some 41, .app 53 1 16 (.t 38) (.t 40), none, [], []⟩,
  ⟨some 42, .nck (.t 34), none, [], []⟩,
  ⟨some 43, .fad 0 (.t 42), none, [], []⟩,
  ⟨none, .store none 1 (.t 43) (.t 41), none, [], []⟩] false) .skip))))
 (.region [⟨some 44, .bin .add (.t 28) (.c (.int .i64 1)), none, [], []⟩,
  ⟨some 28, .mov (.t 44), none, [], []⟩] false))))))))
 (.seq (.region [⟨some 45, .mov (.t 6), none, [], []⟩,
  ⟨some 46, .mkp 78 (.t 45), none, [], []⟩,
  ⟨some 2, .mov (.t 46), none, [], []⟩] false)
 .ret)))))))
def i29 : F := ⟨1, 47, j29, [.t 2]⟩
theorem b29 : i29.body = j29 := rfl
theorem q29 : i29.res = [.t 2] := rfl
theorem c29 : chkF Tryd.prog Tryd.f29 i29 = true := by kernel_rfl
theorem s29 {m : Model} {E : Nat → Model} (hE : ∀ f, Sound Tryd.prog f (E f)) (hm : ∀ args r, m args = some r → ∃ N, i29.ev E N args = some r) : Sound Tryd.prog 29 m := sound_of i29 Tryd.func29 rfl c29 hE hm
/-- bellwether/script.field -/
def j30 : C := (.seq (.region [⟨some 10, .mov (.c (.k .nilIface)), none, [], []⟩] false)
 (.seq (.seq (.region [⟨some 11, .mov (.t 1), none, [], []⟩,
  ⟨some 12, .mov (.t 2), none, [], []⟩,
  ⟨some 13, .bin .lss (.t 11) (.t 12), none, [], []⟩,
  ⟨some 14, .mov (.t 13), none, [], []⟩,
  ⟨some 15, .mov (.t 1), some (14, false), [], []⟩,
  ⟨some 16, .mov (.t 3), some (14, false), [], []⟩,
  ⟨some 17, .bin .gtr (.t 15) (.t 16), some (14, false), [], []⟩,
  ⟨some 18, .pick (.t 14) (.c (.bool true)) (.t 17), none, [], []⟩] false)
 (.cond (.t 18) (.seq (.region [⟨some 19, .mov (.t 0), none, [], []⟩,
  ⟨some 20, .mov (.t 4), none, [], []⟩,
  ⟨some 21, .mki 29 (.t 20), none, [], []⟩,
  ⟨some 22, .build [.k (.string ⟨#[]⟩), .k .nilIface] [(0, 1, (.t 19)), (1, 1, (.t 21))], none, [], []⟩,
  ⟨some 23, .box (.t 22), none, [], []⟩,
  ⟨some 24, .mkp 81 (.t 23), none, [], []⟩,
  ⟨some 10, .mov (.t 24), none, [], []⟩] false)
 .ret) .skip))
 (.seq (.region [⟨some 10, .mov (.c (.k .nilIface)), none, [], []⟩] false)
 .ret)))
def i30 : F := ⟨5, 25, j30, [.t 10]⟩
theorem b30 : i30.body = j30 := rfl
theorem q30 : i30.res = [.t 10] := rfl
theorem c30 : chkF Tryd.prog Tryd.f30 i30 = true := by kernel_rfl
theorem s30 {m : Model} {E : Nat → Model} (hE : ∀ f, Sound Tryd.prog f (E f)) (hm : ∀ args r, m args = some r → ∃ N, i30.ev E N args = some r) : Sound Tryd.prog 30 m := sound_of i30 Tryd.func30 rfl c30 hE hm
/-- bellwether/script.node -/
def j31 : C := (.seq (.region [⟨some 2, .box (.t 0), none, [], []⟩,
  ⟨some 3, .box (.t 1), none, [], []⟩,
  ⟨some 4, .mov (.c (.k .nilIface)), none, [], []⟩] false)
 (.seq (.region [⟨some 5, .fad 1 (.t 3), none, [], []⟩,
  ⟨some 6, .load false 1 (.t 5), none, [], []⟩,
  ⟨some 7, .fad 0 (.t 2), none, [], []⟩,
  ⟨some 8, .load false 1 (.t 7), none, [], []⟩,
  ⟨some 9, .bin .sub (.t 8) (.c (.int .i64 1)), none, [], []⟩,
  ⟨some 10, .call false 30 [(.c (.k (.string ⟨#[110, 111, 100, 101]⟩))), (.t 6), (.c (.int .i64 0)), (.t 9), (.c (.int .i64 9))], none, [], []⟩,
  ⟨some 4, .mov (.t 10), none, [], []⟩] false)
 .ret))
def i31 : F := ⟨2, 11, j31, [.t 4]⟩
theorem b31 : i31.body = j31 := rfl
theorem q31 : i31.res = [.t 4] := rfl
theorem c31 : chkF Tryd.prog Tryd.f31 i31 = true := by kernel_rfl
theorem s31 {m : Model} {E : Nat → Model} (hE : ∀ f, Sound Tryd.prog f (E f)) (hm : ∀ args r, m args = some r → ∃ N, i31.ev E N args = some r) : Sound Tryd.prog 31 m := sound_of i31 Tryd.func31 rfl c31 hE hm
/-- bellwether/script.topic -/
def j32 : C := (.seq (.region [⟨some 2, .box (.t 0), none, [], []⟩,
  ⟨some 3, .box (.t 1), none, [], []⟩,
  ⟨some 4, .mov (.c (.k .nilIface)), none, [], []⟩] false)
 (.seq (.region [⟨some 5, .fad 2 (.t 3), none, [], []⟩,
  ⟨some 6, .load false 1 (.t 5), none, [], []⟩,
  ⟨some 7, .fad 1 (.t 2), none, [], []⟩,
  ⟨some 8, .load false 1 (.t 7), none, [], []⟩,
  ⟨some 9, .bin .sub (.t 8) (.c (.int .i64 1)), none, [], []⟩,
  ⟨some 10, .call false 30 [(.c (.k (.string ⟨#[116, 111, 112, 105, 99]⟩))), (.t 6), (.c (.int .i64 0)), (.t 9), (.c (.int .i64 1))], none, [], []⟩,
  ⟨some 4, .mov (.t 10), none, [], []⟩] false)
 .ret))
def i32 : F := ⟨2, 11, j32, [.t 4]⟩
theorem b32 : i32.body = j32 := rfl
theorem q32 : i32.res = [.t 4] := rfl
theorem c32 : chkF Tryd.prog Tryd.f32 i32 = true := by kernel_rfl
theorem s32 {m : Model} {E : Nat → Model} (hE : ∀ f, Sound Tryd.prog f (E f)) (hm : ∀ args r, m args = some r → ∃ N, i32.ev E N args = some r) : Sound Tryd.prog 32 m := sound_of i32 Tryd.func32 rfl c32 hE hm
/-- bellwether/script.one -/
def j33 : C := (.seq (.region [⟨some 6, .mov (.c (.k .nilIface)), none, [], []⟩] false)
 (.seq (.region [⟨some 7, .mov (.t 0), none, [], []⟩,
  ⟨some 8, .mov (.t 1), none, [], []⟩,
  ⟨some 9, .mov (.t 2), none, [], []⟩,
  ⟨some 10, .call false 30 [(.t 7), (.t 8), (.t 9), (.c (.int .i64 255)), (.c (.int .i64 1))], none, [], []⟩,
  ⟨some 6, .mov (.t 10), none, [], []⟩] false)
 .ret))
def i33 : F := ⟨3, 11, j33, [.t 6]⟩
theorem b33 : i33.body = j33 := rfl
theorem q33 : i33.res = [.t 6] := rfl
theorem c33 : chkF Tryd.prog Tryd.f33 i33 = true := by kernel_rfl
theorem s33 {m : Model} {E : Nat → Model} (hE : ∀ f, Sound Tryd.prog f (E f)) (hm : ∀ args r, m args = some r → ∃ N, i33.ev E N args = some r) : Sound Tryd.prog 33 m := sound_of i33 Tryd.func33 rfl c33 hE hm
/-- errors.is -/
def j35 : C := (.seq (.region [⟨some 6, .mov (.c (.bool false)), none, [], []⟩] false)
 (.block 0 (.loop (.keep [0, 1, 2] (.block 1 (.seq (.seq (.region [⟨some 14, .mov (.t 2), none, [], []⟩,
  ⟨some 15, .mov (.t 14), none, [], []⟩,
  ⟨some 16, .mov (.t 0), some (15, true), [], []⟩,
  ⟨some 17, .mov (.t 1), some (15, true), [], []⟩,
  ⟨some 18, .ieq [29] (.t 16) (.t 17), some (15, true), [], []⟩,
  ⟨some 19, .pick (.t 15) (.t 18) (.c (.bool false)), none, [], []⟩] false)
 (.cond (.t 19) (.seq (.region [⟨some 6, .mov (.c (.bool true)), none, [], []⟩] false)
 .ret) .skip))
 (.seq (.seq (.region [⟨some 21, .mov (.t 0), none, [], []⟩,
  ⟨some 22, .tas 87 [(29, false), (81, false), (78, false)] (.t 21), none, [], []⟩,
  ⟨some 20, .mov (.t 22), none, [], []⟩,
  ⟨some 23, .ext (.t 20) 0, none, [], []⟩,
  ⟨some 24, .ext (.t 20) 1, none, [], []⟩,
  ⟨some 7, .mov (.t 23), none, [], []⟩,
  ⟨some 8, .mov (.t 24), none, [], []⟩] false)
 (.seq (.region [⟨some 25, .mov (.t 8), none, [], []⟩,
  ⟨some 26, .mov (.t 25), none, [], []⟩,
  ⟨some 27, .mov (.t 7), some (26, true), [], []⟩,
  ⟨some 28, .mov (.t 1), some (26, true), [], []⟩,
  ⟨some 29, .stop, some (26, true), [], []⟩,
  ⟨some 30, .pick (.t 26) (.t 29) (.c (.bool false)), none, [], []⟩] false)
 (.cond (.t 30) (.seq (.region [⟨some 6, .mov (.c (.bool true)), none, [], []⟩] false)
 .ret) .skip)))
 (.seq (.region [⟨some 31, .mov (.t 0), none, [], []⟩] false)
 (.block 2 (.seq (.region [⟨some 32, .tas 90 [(29, false), (81, true), (78, false)] (.t 31), none, [], []⟩,
  ⟨some 33, .ext (.t 32) 1, none, [], []⟩,
  ⟨some 34, .ext (.t 32) 0, none, [], []⟩] false)
 (.cond (.t 33) (.seq (.region [⟨some 9, .mov (.t 34), none, [], []⟩] false)
 (.seq (.region [⟨some 35, .mov (.t 9), none, [], []⟩,
  ⟨some 36, .inv false [(81, 66)] (.t 35) [], none, [], []⟩,
  ⟨some 0, .mov (.t 36), none, [], []⟩] false)
 (.seq (.region [⟨some 37, .mov (.t 0), none, [], []⟩,
  ⟨some 38, .ifn false (.t 37), none, [], []⟩] false)
 (.cond (.t 38) (.seq (.region [⟨some 6, .mov (.c (.bool false)), none, [], []⟩] false)
 .ret) .skip)))) (.seq (.region [⟨some 39, .tas 92 [(29, false), (81, false), (78, true)] (.t 31), none, [], []⟩,
  ⟨some 40, .ext (.t 39) 1, none, [], []⟩,
  ⟨some 41, .ext (.t 39) 0, none, [], []⟩] false)
 (.cond (.t 40) (.seq (.region [⟨some 10, .mov (.t 41), none, [], []⟩] false)
 (.seq (.seq (.region [⟨some 42, .mov (.t 10), none, [], []⟩,
  ⟨some 43, .inv false [(78, 64)] (.t 42) [], none, [], []⟩,
  ⟨some 44, .len (.t 43), none, [], []⟩,
  ⟨some 45, .mov (.c (.int .i64 0)), none, [], []⟩] false)
 (.block 3 (.loop (.keep [1, 2, 43, 44, 45] (.seq (.region [⟨some 46, .bin .lss (.t 45) (.t 44), none, [], []⟩] false)
 (.seq (.cond (.t 46) .skip (.exit 3))
 (.seq (.block 4 (.seq (.region [⟨some 47, .iad 1 (.t 43) (.t 45), none, [], []⟩,
  ⟨some 48, .load false 1 (.t 47), none, [], []⟩,
  ⟨some 12, .mov (.t 48), none, [], []⟩] false)
 (.seq (.region [⟨some 49, .mov (.t 12), none, [], []⟩,
  ⟨some 50, .mov (.t 1), none, [], []⟩,
  ⟨some 51, .mov (.t 2), none, [], []⟩,
  ⟨some 52, .call false 35 [(.t 49), (.t 50), (.t 51)], none, [], []⟩] false)
 (.cond (.t 52) (.seq (.region [⟨some 6, .mov (.c (.bool true)), none, [], []⟩] false)
 .ret) .skip))))
 (.region [⟨some 53, .bin .add (.t 45) (.c (.int .i64 1)), none, [], []⟩,
  ⟨some 45, .mov (.t 53), none, [], []⟩] false))))))))
 (.seq (.region [⟨some 6, .mov (.c (.bool false)), none, [], []⟩] false)
 .ret))) (.seq (.region [⟨some 13, .mov (.t 31), none, [], []⟩] false)
 (.seq (.region [⟨some 6, .mov (.c (.bool false)), none, [], []⟩] false)
 .ret)))))))))))))))
def i35 : F := ⟨3, 54, j35, [.t 6]⟩
theorem b35 : i35.body = j35 := rfl
theorem q35 : i35.res = [.t 6] := rfl
theorem c35 : chkF Tryd.prog Tryd.f35 i35 = true := by kernel_rfl
theorem s35 {m : Model} {E : Nat → Model} (hE : ∀ f, Sound Tryd.prog f (E f)) (hm : ∀ args r, m args = some r → ∃ N, i35.ev E N args = some r) : Sound Tryd.prog 35 m := sound_of i35 Tryd.func35 rfl c35 hE hm
/--   errors.joinError .Unwrap -/
def j64 : C := (.seq (.region [⟨some 2, .mov (.c (.row [])), none, [], []⟩] false)
 (.seq (.region [⟨some 3, .mov (.t 0), none, [], []⟩,
  ⟨some 4, .nck (.t 3), none, [], []⟩,
  ⟨some 5, .fad 0 (.t 4), none, [], []⟩,
  ⟨some 6, .load false 1 (.t 5), none, [], []⟩,
  ⟨some 2, .mov (.t 6), none, [], []⟩] false)
 .ret))
def i64 : F := ⟨1, 7, j64, [.t 2]⟩
theorem b64 : i64.body = j64 := rfl
theorem q64 : i64.res = [.t 2] := rfl
theorem c64 : chkF Tryd.prog Tryd.f64 i64 = true := by kernel_rfl
theorem s64 {m : Model} {E : Nat → Model} (hE : ∀ f, Sound Tryd.prog f (E f)) (hm : ∀ args r, m args = some r → ∃ N, i64.ev E N args = some r) : Sound Tryd.prog 64 m := sound_of i64 Tryd.func64 rfl c64 hE hm
/--   bellwether/script.wrong .Unwrap -/
def j66 : C := (.seq (.region [⟨some 2, .mov (.c (.k .nilIface)), none, [], []⟩] false)
 (.seq (.region [⟨some 3, .mov (.t 0), none, [], []⟩,
  ⟨some 4, .nck (.t 3), none, [], []⟩,
  ⟨some 5, .fad 1 (.t 4), none, [], []⟩,
  ⟨some 6, .load false 1 (.t 5), none, [], []⟩,
  ⟨some 2, .mov (.t 6), none, [], []⟩] false)
 .ret))
def i66 : F := ⟨1, 7, j66, [.t 2]⟩
theorem b66 : i66.body = j66 := rfl
theorem q66 : i66.res = [.t 2] := rfl
theorem c66 : chkF Tryd.prog Tryd.f66 i66 = true := by kernel_rfl
theorem s66 {m : Model} {E : Nat → Model} (hE : ∀ f, Sound Tryd.prog f (E f)) (hm : ∀ args r, m args = some r → ∃ N, i66.ev E N args = some r) : Sound Tryd.prog 66 m := sound_of i66 Tryd.func66 rfl c66 hE hm
def xt : List (Nat × Model) := []
def tb : List (Nat × F) := [(24, i24), (25, i25), (29, i29), (30, i30), (31, i31), (32, i32), (33, i33), (35, i35), (64, i64), (66, i66)]
theorem xt_ok : ∀ p ∈ xt, Sound Tryd.prog p.1 p.2 := all_nil
theorem tb_ok (N : Nat) : ∀ p ∈ tb, ∀ E : Nat → Model, (∀ f, Sound Tryd.prog f (E f)) → Sound Tryd.prog p.1 (p.2.ev E N) := all_cons (fun E hE => s24 hE fun _ _ h => ⟨N, h⟩) (all_cons (fun E hE => s25 hE fun _ _ h => ⟨N, h⟩) (all_cons (fun E hE => s29 hE fun _ _ h => ⟨N, h⟩) (all_cons (fun E hE => s30 hE fun _ _ h => ⟨N, h⟩) (all_cons (fun E hE => s31 hE fun _ _ h => ⟨N, h⟩) (all_cons (fun E hE => s32 hE fun _ _ h => ⟨N, h⟩) (all_cons (fun E hE => s33 hE fun _ _ h => ⟨N, h⟩) (all_cons (fun E hE => s35 hE fun _ _ h => ⟨N, h⟩) (all_cons (fun E hE => s64 hE fun _ _ h => ⟨N, h⟩) (all_cons (fun E hE => s66 hE fun _ _ h => ⟨N, h⟩) (all_nil))))))))))
abbrev TT := T xt tb
theorem TT_ok (N d f : Nat) : Sound Tryd.prog f (TT N d f) := T_ok xt_ok (tb_ok N) d f
theorem t24 (N d : Nat) : TT N (d + 1) 24 = i24.ev (TT N d) N := rfl
theorem t25 (N d : Nat) : TT N (d + 1) 25 = i25.ev (TT N d) N := rfl
theorem t29 (N d : Nat) : TT N (d + 1) 29 = i29.ev (TT N d) N := rfl
theorem t30 (N d : Nat) : TT N (d + 1) 30 = i30.ev (TT N d) N := rfl
theorem t31 (N d : Nat) : TT N (d + 1) 31 = i31.ev (TT N d) N := rfl
theorem t32 (N d : Nat) : TT N (d + 1) 32 = i32.ev (TT N d) N := rfl
theorem t33 (N d : Nat) : TT N (d + 1) 33 = i33.ev (TT N d) N := rfl
theorem t35 (N d : Nat) : TT N (d + 1) 35 = i35.ev (TT N d) N := rfl
theorem t64 (N d : Nat) : TT N (d + 1) 64 = i64.ev (TT N d) N := rfl
theorem t66 (N d : Nat) : TT N (d + 1) 66 = i66.ev (TT N d) N := rfl
end Go.Proofs.YtbkemldecbcfhaaDoor.IE
