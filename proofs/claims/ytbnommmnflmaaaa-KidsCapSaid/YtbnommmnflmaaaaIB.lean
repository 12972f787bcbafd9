/- Functions of the program in the evaluator's form, each checked against the program (written by wip/prog/irgen.py). -/
import Derived.Test.YtbnommmnflmaaaaProg
import Derived.Test.YtbnommmnflmaaaaR21
set_option maxRecDepth 100000
set_option linter.unusedSimpArgs false
set_option linter.unusedVariables false
namespace Go.Proofs.Ytbnommmnflmaaaa.IB
open Go Go.Proofs.YtbnommmnflmaaaaR
/-- slices.Insert   bellwether/api.Kid bellwether/api.Kid  -/
def j44 : C := (.seq (.region [⟨some 6, .nilsl 35 3 0, none, [], []⟩] false)
 (.seq (.region [⟨some 10, .mov (.t 0), none, [], []⟩,
  ⟨some 11, .mov (.t 1), none, [], []⟩,
  ⟨some 12, .cut 3 (.t 10) (some (.t 11)) none, none, [], []⟩] false)
 (.seq (.region [⟨some 13, .mov (.t 2), none, [], []⟩,
  ⟨some 14, .len (.t 13), none, [], []⟩,
  ⟨some 7, .mov (.t 14), none, [], []⟩] false)
 (.seq (.seq (.region [⟨some 15, .mov (.t 7), none, [], []⟩,
  ⟨some 16, .bin .eql (.t 15) (.c (.int .i64 0)), none, [], []⟩] false)
 (.cond (.t 16) (.seq (.region [⟨some 17, .mov (.t 0), none, [], []⟩,
  ⟨some 6, .mov (.t 17), none, [], []⟩] false)
 .ret) .skip))
 (.seq (.region [⟨some 18, .mov (.t 0), none, [], []⟩,
  ⟨some 19, .len (.t 18), none, [], []⟩,
  ⟨some 8, .mov (.t 19), none, [], []⟩] false)
 (.seq (.seq (.region [⟨some 20, .mov (.t 1), none, [], []⟩,
  ⟨some 21, .mov (.t 8), none, [], []⟩,
  ⟨some 22, .bin .eql (.t 20) (.t 21), none, [], []⟩] false)
 (.cond (.t 22) (.seq (.region [⟨some 23, .mov (.t 0), none, [], []⟩,
  ⟨some 24, .mov (.t 2), none, [], []⟩,
  ⟨some 25, .app 35 3 24 (.t 23) (.t 24), none, [], []⟩,
  ⟨some 6, .mov (.t 25), none, [], []⟩] false)
 .ret) .skip))
 (.seq (.seq (.region [⟨some 26, .mov (.t 8), none, [], []⟩,
  ⟨some 27, .mov (.t 7), none, [], []⟩,
  ⟨some 28, .bin .add (.t 26) (.t 27), none, [], []⟩,
  ⟨some 29, .mov (.t 0), none, [], []⟩,
  ⟨some 30, .stop, none, [], []⟩,
  ⟨some 31, .bin .gtr (.t 28) (.t 30), none, [], []⟩] false)
 (.cond (.t 31) (.seq (.region [⟨some 32, .mov (.t 0), none, [], []⟩,
  ⟨some 33, .mov (.t 1), none, [], []⟩,
  ⟨some 34, .cut 3 (.t 32) none (some (.t 33)), none, [], []⟩,
  ⟨some 35, .mov (.t 8), none, [], []⟩,
  ⟨some 36, .mov (.t 7), none, [], []⟩,
  ⟨some 37, .bin .add (.t 35) (.t 36), none, [], []⟩,
  ⟨some 38, .mov (.t 1), none, [], []⟩,
  ⟨some 39, .bin .sub (.t 37) (.t 38), none, [], []⟩,
  ⟨some 40, .stop, none, [], []⟩,
  ⟨some 9, .mov (.t 40), none, [], []⟩] false)
 (.seq (.region [⟨some 41, .mov (.t 9), none, [], []⟩,
  ⟨some 42, .mov (.t 1), none, [], []⟩,
  ⟨some 43, .cut 3 (.t 41) (some (.t 42)) none, none, [], []⟩,
  ⟨some 44, .mov (.t 2), none, [], []⟩,
  ⟨some 45, .stop, none, [], []⟩] false)
 (.seq (.region [⟨some 46, .mov (.t 9), none, [47, 48, 49, 51, 52, 53], []⟩,
  ⟨some 47, .mov (.t 1), none, [46, 48, 51, 52, 53], []⟩,
  ⟨some 48, .mov (.t 7), none, [46, 47, 51, 52, 53], []⟩,
  ⟨some 49, .bin .add (.t 47) (.t 48), none, [46, 51, 52, 53], [1, 2]⟩,
  ⟨some 50, .cut 3 (.t 46) (some (.t 49)) none, none, [51, 52, 53], [0, 1, 2, 3]⟩,
  ⟨some 51, .mov (.t 0), none, [46, 47, 48, 49, 50, 52], []⟩,
  ⟨some 52, .mov (.t 1), none, [46, 47, 48, 49, 50, 51], []⟩,
  ⟨some 53, .cut 3 (.t 51) (some (.t 52)) none, none, [46, 47, 48, 49, 50], [5, 6]⟩,
  ⟨some 54, .stop, none, [], [0, 1, 2, 3, 4, 5, 6, 7]⟩] true)
 (.seq (.region [⟨some 55, .mov (.t 9), none, [], []⟩,
  ⟨some 6, .mov (.t 55), none, [], []⟩] false)
 .ret)))) .skip))
 (.seq (.region [⟨some 56, .mov (.t 0), none, [], []⟩,
  ⟨some 57, .mov (.t 8), none, [], []⟩,
  ⟨some 58, .mov (.t 7), none, [], []⟩,
  ⟨some 59, .bin .add (.t 57) (.t 58), none, [], []⟩,
  ⟨some 60, .cut 3 (.t 56) none (some (.t 59)), none, [], []⟩,
  ⟨some 0, .mov (.t 60), none, [], []⟩] false)
 (.seq (.seq (.region [⟨some 61, .mov (.t 2), none, [], []⟩,
  ⟨some 62, .mov (.t 0), none, [], []⟩,
  ⟨some 63, .mov (.t 1), none, [], []⟩,
  ⟨some 64, .mov (.t 7), none, [], []⟩,
  ⟨some 65, .bin .add (.t 63) (.t 64), none, [], []⟩,
  ⟨some 66, .cut 3 (.t 62) (some (.t 65)) none, none, [], []⟩,
  ⟨some 67, .stop, none, [], []⟩,
  ⟨some 68, .un .not (.t 67), none, [], []⟩] false)
 (.cond (.t 68) (.seq (.region [⟨some 69, .mov (.t 0), none, [70, 71, 72, 74, 75, 76], []⟩,
  ⟨some 70, .mov (.t 1), none, [69, 71, 74, 75, 76], []⟩,
  ⟨some 71, .mov (.t 7), none, [69, 70, 74, 75, 76], []⟩,
  ⟨some 72, .bin .add (.t 70) (.t 71), none, [69, 74, 75, 76], [1, 2]⟩,
  ⟨some 73, .cut 3 (.t 69) (some (.t 72)) none, none, [74, 75, 76], [0, 1, 2, 3]⟩,
  ⟨some 74, .mov (.t 0), none, [69, 70, 71, 72, 73, 75], []⟩,
  ⟨some 75, .mov (.t 1), none, [69, 70, 71, 72, 73, 74], []⟩,
  ⟨some 76, .cut 3 (.t 74) (some (.t 75)) none, none, [69, 70, 71, 72, 73], [5, 6]⟩,
  ⟨some 77, .stop, none, [], [0, 1, 2, 3, 4, 5, 6, 7]⟩] true)
 (.seq (.region [⟨some 78, .mov (.t 0), none, [], []⟩,
  ⟨some 79, .mov (.t 1), none, [], []⟩,
  ⟨some 80, .cut 3 (.t 78) (some (.t 79)) none, none, [], []⟩,
  ⟨some 81, .mov (.t 2), none, [], []⟩,
  ⟨some 82, .stop, none, [], []⟩] false)
 (.seq (.region [⟨some 83, .mov (.t 0), none, [], []⟩,
  ⟨some 6, .mov (.t 83), none, [], []⟩] false)
 .ret))) .skip))
 (.seq (.region [⟨some 84, .mov (.t 0), none, [], []⟩,
  ⟨some 85, .mov (.t 8), none, [], []⟩,
  ⟨some 86, .cut 3 (.t 84) (some (.t 85)) none, none, [], []⟩,
  ⟨some 87, .mov (.t 2), none, [], []⟩,
  ⟨some 88, .stop, none, [], []⟩] false)
 (.seq (.region [⟨some 89, .mov (.t 0), none, [], []⟩,
  ⟨some 90, .mov (.t 1), none, [], []⟩,
  ⟨some 91, .cut 3 (.t 89) (some (.t 90)) none, none, [], []⟩,
  ⟨some 92, .mov (.t 7), none, [], []⟩,
  ⟨some 93, .stop, none, [], []⟩] false)
 (.seq (.region [⟨some 94, .mov (.t 0), none, [], []⟩,
  ⟨some 6, .mov (.t 94), none, [], []⟩] false)
 .ret))))))))))))
def i44 : F := ⟨3, 95, j44, [.t 6]⟩
theorem b44 : i44.body = j44 := rfl
theorem q44 : i44.res = [.t 6] := rfl
theorem c44 : chkF Try.prog Try.f44 i44 = true := by kernel_rfl
theorem s44 {m : Model} {E : Nat → Model} (hE : ∀ f, Sound Try.prog f (E f)) (hm : ∀ args r, m args = some r → ∃ N, i44.ev E N args = some r) : Sound Try.prog 44 m := sound_of i44 Try.func44 rfl c44 hE hm
def xt : List (Nat × Model) := []
def tb : List (Nat × F) := [(44, i44)]
theorem xt_ok : ∀ p ∈ xt, Sound Try.prog p.1 p.2 := all_nil
theorem tb_ok (N : Nat) : ∀ p ∈ tb, ∀ E : Nat → Model, (∀ f, Sound Try.prog f (E f)) → Sound Try.prog p.1 (p.2.ev E N) := all_cons (fun E hE => s44 hE fun _ _ h => ⟨N, h⟩) (all_nil)
abbrev TT := T xt tb
theorem TT_ok (N d f : Nat) : Sound Try.prog f (TT N d f) := T_ok xt_ok (tb_ok N) d f
theorem t44 (N d : Nat) : TT N (d + 1) 44 = i44.ev (TT N d) N := rfl
end Go.Proofs.Ytbnommmnflmaaaa.IB
