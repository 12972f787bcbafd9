-- Written by this session's own program (wip/prog/drive.py).
import Derived.Test.YtfljapcnkhjmgaaPEx0
import Derived.Test.YtfljapcnkhjmgaaPEx1
import Derived.Test.YtfljapcnkhjmgaaPEx2
import Derived.Test.YtfljapcnkhjmgaaPEx3
import Derived.Test.YtfljapcnkhjmgaaPEx4
namespace Go.Proofs.Ytfljapcnkhjmgaa.PE
open Go.RowKit Go.Proofs.YtfljapcnkhjmgaaW.PrintWords Go.Proofs.YtfljapcnkhjmgaaW.PrintLast Go.Proofs.YtfljapcnkhjmgaaW.PrintMore Go.Proofs.YtfljapcnkhjmgaaX
attribute [local go_sem] max2_int min2_int max_two min_two max_three min_three max_four min_four   -- for this text's walks alone
set_option linter.unusedVariables false
set_option linter.unusedSimpArgs false

/-! ### L08_BagBack: function 8 -/
mutual
def L08_BagBack.j0 : Nat → List (S48) → Int → Int → Int → Bool → Int → List Int → Option (Bool)
  | 0, _, _, _, _, _, _, _ => none
  | k + 1, x0, x2, x3, x4, x40, x1169000, x1169001 => if x40 = true then (some true) else (L08_BagBack.j1 k x0 x2 x3 x4 x1169000 x1169001)
def L08_BagBack.j1 : Nat → List (S48) → Int → Int → Int → Int → List Int → Option (Bool)
  | 0, _, _, _, _, _, _ => none
  | k + 1, x0, x2, x3, x4, x1169000, x1169001 => (bag_Put.f k x0 x1169000 x1169001).bind fun bt1170 => (if bt1170.2 = 0 then (L08_BagBack.j3 k x0 x2 x3 x4 bt1170.1 x1169000 x1169001) else (if bt1170.2 = 1 then (if (bt1170.1.length : Int) = 0 then ((L08_wakes.f k).bind fun t1174 => (L08_BagBack.j2 k t1174)) else (L08_BagBack.j2 k false)) else (L08_BagBack.j2 k false)))
def L08_BagBack.j3 : Nat → List (S48) → Int → Int → Int → List (S48) → Int → List Int → Option (Bool)
  | 0, _, _, _, _, _, _, _ => none
  | k + 1, x0, x2, x3, x4, x11, x1169000, x1169001 => (bag_Take.f k x11 (x0.length : Int)).bind fun bt1175 => (if bt1175.2.2.2 = 0 then ((bk_Frame.f k bt1175.1 bt1175.2.1 x1169000 x1169001).bind fun t1184 => (if t1184 = true then ((bk_Frames.f k bt1175.2.2.1 x0).bind fun t1185 => (L08_BagBack.j4 k x0 x2 x3 x4 x11 (!t1185))) else (L08_BagBack.j4 k x0 x2 x3 x4 x11 true))) else (L08_BagBack.j4 k x0 x2 x3 x4 x11 true))
def L08_BagBack.j4 : Nat → List (S48) → Int → Int → Int → List (S48) → Bool → Option (Bool)
  | 0, _, _, _, _, _, _ => none
  | k + 1, x0, x2, x3, x4, x11, x80 => if x80 = true then (some false) else (L08_BagBack.j5 k x0 x2 x3 x4 x11)
def L08_BagBack.j5 : Nat → List (S48) → Int → Int → Int → List (S48) → Option (Bool)
  | 0, _, _, _, _, _ => none
  | k + 1, x0, x2, x3, x4, x11 => if (IntKind.u64.wrap (wrap64 ((x0.length : Int) + 1))) = 0 then (none) else ((bag_Corrupt.f k x11 (wrap64 (Int.tmod (IntKind.u64.wrap (x2)) (IntKind.u64.wrap (wrap64 ((x0.length : Int) + 1))))) x3 x4).bind fun bt1186 => (if bt1186.2 = 0 then ((bag_Corrupt.f k bt1186.1 (wrap64 (Int.tmod (IntKind.u64.wrap (x2)) (IntKind.u64.wrap (wrap64 ((x0.length : Int) + 1))))) x3 x4).bind fun bt1190 => (if bt1190.2 = 0 then ((bk_Frames.f k bt1190.1 x11).bind fun t1194 => (if t1194 = true then ((bk_Frames.f k bt1186.1 x11).bind fun t1195 => (L08_BagBack.j6 k (wrap64 (Int.tmod (IntKind.u64.wrap (x2)) (IntKind.u64.wrap (wrap64 ((x0.length : Int) + 1))))) x11 t1195)) else (L08_BagBack.j6 k (wrap64 (Int.tmod (IntKind.u64.wrap (x2)) (IntKind.u64.wrap (wrap64 ((x0.length : Int) + 1))))) x11 true))) else (L08_BagBack.j6 k (wrap64 (Int.tmod (IntKind.u64.wrap (x2)) (IntKind.u64.wrap (wrap64 ((x0.length : Int) + 1))))) x11 true))) else (L08_BagBack.j7 k (wrap64 (Int.tmod (IntKind.u64.wrap (x2)) (IntKind.u64.wrap (wrap64 ((x0.length : Int) + 1))))) x11)))
def L08_BagBack.j7 : Nat → Int → List (S48) → Option (Bool)
  | 0, _, _ => none
  | k + 1, x2, x11 => (bag_Twice.f k x11 x2).bind fun bt1196 => ((bag_Take.f k x11 x2).bind fun bt1200 => ((bag_Take.f k bt1196.1 (x11.length : Int)).bind fun bt1209 => (if bt1196.2 = 0 then (if bt1200.2.2.2 = 0 then (if bt1209.2.2.2 = 0 then ((bk_Frame.f k bt1200.1 bt1200.2.1 bt1209.1 bt1209.2.1).bind fun t1218 => (if t1218 = true then ((bk_Frames.f k bt1209.2.2.1 x11).bind fun t1219 => (if t1219 = true then ((L08_wakes.f k).bind fun t1220 => (L08_BagBack.j8 k t1220)) else (L08_BagBack.j8 k false))) else (L08_BagBack.j8 k false))) else (L08_BagBack.j8 k false)) else (L08_BagBack.j8 k false)) else (L08_BagBack.j8 k false))))
def L08_BagBack.j8 : Nat → Bool → Option (Bool)
  | 0, _ => none
  | k + 1, x10 => some x10
def L08_BagBack.j6 : Nat → Int → List (S48) → Bool → Option (Bool)
  | 0, _, _, _ => none
  | k + 1, x2, x11, x119 => if x119 = true then (some false) else (L08_BagBack.j7 k x2 x11)
def L08_BagBack.j2 : Nat → Bool → Option (Bool)
  | 0, _ => none
  | k + 1, x10 => some x10
end
def L08_BagBack.f (k : Nat) (l0 : List (S48)) (a1_0 : Int) (l1_1 : List Int) (a2 : Int) (a3 : Int) (a4 : Int) : Option (Bool) := (L08_Heavy.f k l0).bind fun t1169 => (if t1169 = true then (L08_BagBack.j0 k l0 a2 a3 a4 true a1_0 l1_1) else (if (l0.length : Int) > 60 then (L08_BagBack.j0 k l0 a2 a3 a4 true a1_0 l1_1) else (L08_BagBack.j0 k l0 a2 a3 a4 (decide ((l1_1.length : Int) > 200)) a1_0 l1_1)))
theorem L08_BagBack.mono_l : ∀ k, (∀ y0 y1 y2 y3 y4 y5 y6, LeO (L08_BagBack.j0 k y0 y1 y2 y3 y4 y5 y6) (L08_BagBack.j0 (k + 1) y0 y1 y2 y3 y4 y5 y6)) ∧ (∀ y0 y1 y2 y3 y4 y5, LeO (L08_BagBack.j1 k y0 y1 y2 y3 y4 y5) (L08_BagBack.j1 (k + 1) y0 y1 y2 y3 y4 y5)) ∧ (∀ y0 y1 y2 y3 y4 y5 y6, LeO (L08_BagBack.j3 k y0 y1 y2 y3 y4 y5 y6) (L08_BagBack.j3 (k + 1) y0 y1 y2 y3 y4 y5 y6)) ∧ (∀ y0 y1 y2 y3 y4 y5, LeO (L08_BagBack.j4 k y0 y1 y2 y3 y4 y5) (L08_BagBack.j4 (k + 1) y0 y1 y2 y3 y4 y5)) ∧ (∀ y0 y1 y2 y3 y4, LeO (L08_BagBack.j5 k y0 y1 y2 y3 y4) (L08_BagBack.j5 (k + 1) y0 y1 y2 y3 y4)) ∧ (∀ y0 y1, LeO (L08_BagBack.j7 k y0 y1) (L08_BagBack.j7 (k + 1) y0 y1)) ∧ (∀ y0, LeO (L08_BagBack.j8 k y0) (L08_BagBack.j8 (k + 1) y0)) ∧ (∀ y0 y1 y2, LeO (L08_BagBack.j6 k y0 y1 y2) (L08_BagBack.j6 (k + 1) y0 y1 y2)) ∧ (∀ y0, LeO (L08_BagBack.j2 k y0) (L08_BagBack.j2 (k + 1) y0))
  | 0 => ⟨fun _ _ _ _ _ _ _ r h => by simp [L08_BagBack.j0] at h, fun _ _ _ _ _ _ r h => by simp [L08_BagBack.j1] at h, fun _ _ _ _ _ _ _ r h => by simp [L08_BagBack.j3] at h, fun _ _ _ _ _ _ r h => by simp [L08_BagBack.j4] at h, fun _ _ _ _ _ r h => by simp [L08_BagBack.j5] at h, fun _ _ r h => by simp [L08_BagBack.j7] at h, fun _ r h => by simp [L08_BagBack.j8] at h, fun _ _ _ r h => by simp [L08_BagBack.j6] at h, fun _ r h => by simp [L08_BagBack.j2] at h⟩
  | k + 1 => by
    obtain ⟨ih0, ih1, ih2, ih3, ih4, ih5, ih6, ih7, ih8⟩ := L08_BagBack.mono_l k
    refine ⟨?_, ?_, ?_, ?_, ?_, ?_, ?_, ?_, ?_⟩
    · intro y0 y1 y2 y3 y4 y5 y6
      unfold L08_BagBack.j0
      repeat' first
      | (with_reducible exact ih0 _ _ _ _ _ _ _)
      | (with_reducible exact ih1 _ _ _ _ _ _)
      | (with_reducible exact ih2 _ _ _ _ _ _ _)
      | (with_reducible exact ih3 _ _ _ _ _ _)
      | (with_reducible exact ih4 _ _ _ _ _)
      | (with_reducible exact ih5 _ _)
      | (with_reducible exact ih6 _)
      | (with_reducible exact ih7 _ _ _)
      | (with_reducible exact ih8 _)
      | (with_reducible exact L08_Heavy.mono _ _)
      | (with_reducible exact L08_wakes.mono _)
      | (with_reducible exact bag_Corrupt.mono _ _ _ _ _)
      | (with_reducible exact bag_Put.mono _ _ _ _)
      | (with_reducible exact bag_Take.mono _ _ _)
      | (with_reducible exact bag_Twice.mono _ _ _)
      | (with_reducible exact bk_Frame.mono _ _ _ _ _)
      | (with_reducible exact bk_Frames.mono _ _ _)
      | (with_reducible exact LeO.refl _)
      | (with_reducible exact LeO.none _)
      | (with_reducible refine LeO.ite ?_ ?_)
      | (with_reducible refine LeO.bind ?_ (fun _ => ?_))
      | exact ih0 _ _ _ _ _ _ _
      | exact ih1 _ _ _ _ _ _
      | exact ih2 _ _ _ _ _ _ _
      | exact ih3 _ _ _ _ _ _
      | exact ih4 _ _ _ _ _
      | exact ih5 _ _
      | exact ih6 _
      | exact ih7 _ _ _
      | exact ih8 _
      | exact L08_Heavy.mono _ _
      | exact L08_wakes.mono _
      | exact bag_Corrupt.mono _ _ _ _ _
      | exact bag_Put.mono _ _ _ _
      | exact bag_Take.mono _ _ _
      | exact bag_Twice.mono _ _ _
      | exact bk_Frame.mono _ _ _ _ _
      | exact bk_Frames.mono _ _ _
      | exact LeO.none _
      | refine LeO.ite ?_ ?_
      | refine LeO.bind ?_ (fun _ => ?_)
    · intro y0 y1 y2 y3 y4 y5
      unfold L08_BagBack.j1
      repeat' first
      | (with_reducible exact ih0 _ _ _ _ _ _ _)
      | (with_reducible exact ih1 _ _ _ _ _ _)
      | (with_reducible exact ih2 _ _ _ _ _ _ _)
      | (with_reducible exact ih3 _ _ _ _ _ _)
      | (with_reducible exact ih4 _ _ _ _ _)
      | (with_reducible exact ih5 _ _)
      | (with_reducible exact ih6 _)
      | (with_reducible exact ih7 _ _ _)
      | (with_reducible exact ih8 _)
      | (with_reducible exact L08_Heavy.mono _ _)
      | (with_reducible exact L08_wakes.mono _)
      | (with_reducible exact bag_Corrupt.mono _ _ _ _ _)
      | (with_reducible exact bag_Put.mono _ _ _ _)
      | (with_reducible exact bag_Take.mono _ _ _)
      | (with_reducible exact bag_Twice.mono _ _ _)
      | (with_reducible exact bk_Frame.mono _ _ _ _ _)
      | (with_reducible exact bk_Frames.mono _ _ _)
      | (with_reducible exact LeO.refl _)
      | (with_reducible exact LeO.none _)
      | (with_reducible refine LeO.ite ?_ ?_)
      | (with_reducible refine LeO.bind ?_ (fun _ => ?_))
      | exact ih0 _ _ _ _ _ _ _
      | exact ih1 _ _ _ _ _ _
      | exact ih2 _ _ _ _ _ _ _
      | exact ih3 _ _ _ _ _ _
      | exact ih4 _ _ _ _ _
      | exact ih5 _ _
      | exact ih6 _
      | exact ih7 _ _ _
      | exact ih8 _
      | exact L08_Heavy.mono _ _
      | exact L08_wakes.mono _
      | exact bag_Corrupt.mono _ _ _ _ _
      | exact bag_Put.mono _ _ _ _
      | exact bag_Take.mono _ _ _
      | exact bag_Twice.mono _ _ _
      | exact bk_Frame.mono _ _ _ _ _
      | exact bk_Frames.mono _ _ _
      | exact LeO.none _
      | refine LeO.ite ?_ ?_
      | refine LeO.bind ?_ (fun _ => ?_)
    · intro y0 y1 y2 y3 y4 y5 y6
      unfold L08_BagBack.j3
      repeat' first
      | (with_reducible exact ih0 _ _ _ _ _ _ _)
      | (with_reducible exact ih1 _ _ _ _ _ _)
      | (with_reducible exact ih2 _ _ _ _ _ _ _)
      | (with_reducible exact ih3 _ _ _ _ _ _)
      | (with_reducible exact ih4 _ _ _ _ _)
      | (with_reducible exact ih5 _ _)
      | (with_reducible exact ih6 _)
      | (with_reducible exact ih7 _ _ _)
      | (with_reducible exact ih8 _)
      | (with_reducible exact L08_Heavy.mono _ _)
      | (with_reducible exact L08_wakes.mono _)
      | (with_reducible exact bag_Corrupt.mono _ _ _ _ _)
      | (with_reducible exact bag_Put.mono _ _ _ _)
      | (with_reducible exact bag_Take.mono _ _ _)
      | (with_reducible exact bag_Twice.mono _ _ _)
      | (with_reducible exact bk_Frame.mono _ _ _ _ _)
      | (with_reducible exact bk_Frames.mono _ _ _)
      | (with_reducible exact LeO.refl _)
      | (with_reducible exact LeO.none _)
      | (with_reducible refine LeO.ite ?_ ?_)
      | (with_reducible refine LeO.bind ?_ (fun _ => ?_))
      | exact ih0 _ _ _ _ _ _ _
      | exact ih1 _ _ _ _ _ _
      | exact ih2 _ _ _ _ _ _ _
      | exact ih3 _ _ _ _ _ _
      | exact ih4 _ _ _ _ _
      | exact ih5 _ _
      | exact ih6 _
      | exact ih7 _ _ _
      | exact ih8 _
      | exact L08_Heavy.mono _ _
      | exact L08_wakes.mono _
      | exact bag_Corrupt.mono _ _ _ _ _
      | exact bag_Put.mono _ _ _ _
      | exact bag_Take.mono _ _ _
      | exact bag_Twice.mono _ _ _
      | exact bk_Frame.mono _ _ _ _ _
      | exact bk_Frames.mono _ _ _
      | exact LeO.none _
      | refine LeO.ite ?_ ?_
      | refine LeO.bind ?_ (fun _ => ?_)
    · intro y0 y1 y2 y3 y4 y5
      unfold L08_BagBack.j4
      repeat' first
      | (with_reducible exact ih0 _ _ _ _ _ _ _)
      | (with_reducible exact ih1 _ _ _ _ _ _)
      | (with_reducible exact ih2 _ _ _ _ _ _ _)
      | (with_reducible exact ih3 _ _ _ _ _ _)
      | (with_reducible exact ih4 _ _ _ _ _)
      | (with_reducible exact ih5 _ _)
      | (with_reducible exact ih6 _)
      | (with_reducible exact ih7 _ _ _)
      | (with_reducible exact ih8 _)
      | (with_reducible exact L08_Heavy.mono _ _)
      | (with_reducible exact L08_wakes.mono _)
      | (with_reducible exact bag_Corrupt.mono _ _ _ _ _)
      | (with_reducible exact bag_Put.mono _ _ _ _)
      | (with_reducible exact bag_Take.mono _ _ _)
      | (with_reducible exact bag_Twice.mono _ _ _)
      | (with_reducible exact bk_Frame.mono _ _ _ _ _)
      | (with_reducible exact bk_Frames.mono _ _ _)
      | (with_reducible exact LeO.refl _)
      | (with_reducible exact LeO.none _)
      | (with_reducible refine LeO.ite ?_ ?_)
      | (with_reducible refine LeO.bind ?_ (fun _ => ?_))
      | exact ih0 _ _ _ _ _ _ _
      | exact ih1 _ _ _ _ _ _
      | exact ih2 _ _ _ _ _ _ _
      | exact ih3 _ _ _ _ _ _
      | exact ih4 _ _ _ _ _
      | exact ih5 _ _
      | exact ih6 _
      | exact ih7 _ _ _
      | exact ih8 _
      | exact L08_Heavy.mono _ _
      | exact L08_wakes.mono _
      | exact bag_Corrupt.mono _ _ _ _ _
      | exact bag_Put.mono _ _ _ _
      | exact bag_Take.mono _ _ _
      | exact bag_Twice.mono _ _ _
      | exact bk_Frame.mono _ _ _ _ _
      | exact bk_Frames.mono _ _ _
      | exact LeO.none _
      | refine LeO.ite ?_ ?_
      | refine LeO.bind ?_ (fun _ => ?_)
    · intro y0 y1 y2 y3 y4
      unfold L08_BagBack.j5
      repeat' first
      | (with_reducible exact ih0 _ _ _ _ _ _ _)
      | (with_reducible exact ih1 _ _ _ _ _ _)
      | (with_reducible exact ih2 _ _ _ _ _ _ _)
      | (with_reducible exact ih3 _ _ _ _ _ _)
      | (with_reducible exact ih4 _ _ _ _ _)
      | (with_reducible exact ih5 _ _)
      | (with_reducible exact ih6 _)
      | (with_reducible exact ih7 _ _ _)
      | (with_reducible exact ih8 _)
      | (with_reducible exact L08_Heavy.mono _ _)
      | (with_reducible exact L08_wakes.mono _)
      | (with_reducible exact bag_Corrupt.mono _ _ _ _ _)
      | (with_reducible exact bag_Put.mono _ _ _ _)
      | (with_reducible exact bag_Take.mono _ _ _)
      | (with_reducible exact bag_Twice.mono _ _ _)
      | (with_reducible exact bk_Frame.mono _ _ _ _ _)
      | (with_reducible exact bk_Frames.mono _ _ _)
      | (with_reducible exact LeO.refl _)
      | (with_reducible exact LeO.none _)
      | (with_reducible refine LeO.ite ?_ ?_)
      | (with_reducible refine LeO.bind ?_ (fun _ => ?_))
      | exact ih0 _ _ _ _ _ _ _
      | exact ih1 _ _ _ _ _ _
      | exact ih2 _ _ _ _ _ _ _
      | exact ih3 _ _ _ _ _ _
      | exact ih4 _ _ _ _ _
      | exact ih5 _ _
      | exact ih6 _
      | exact ih7 _ _ _
      | exact ih8 _
      | exact L08_Heavy.mono _ _
      | exact L08_wakes.mono _
      | exact bag_Corrupt.mono _ _ _ _ _
      | exact bag_Put.mono _ _ _ _
      | exact bag_Take.mono _ _ _
      | exact bag_Twice.mono _ _ _
      | exact bk_Frame.mono _ _ _ _ _
      | exact bk_Frames.mono _ _ _
      | exact LeO.none _
      | refine LeO.ite ?_ ?_
      | refine LeO.bind ?_ (fun _ => ?_)
    · intro y0 y1
      unfold L08_BagBack.j7
      repeat' first
      | (with_reducible exact ih0 _ _ _ _ _ _ _)
      | (with_reducible exact ih1 _ _ _ _ _ _)
      | (with_reducible exact ih2 _ _ _ _ _ _ _)
      | (with_reducible exact ih3 _ _ _ _ _ _)
      | (with_reducible exact ih4 _ _ _ _ _)
      | (with_reducible exact ih5 _ _)
      | (with_reducible exact ih6 _)
      | (with_reducible exact ih7 _ _ _)
      | (with_reducible exact ih8 _)
      | (with_reducible exact L08_Heavy.mono _ _)
      | (with_reducible exact L08_wakes.mono _)
      | (with_reducible exact bag_Corrupt.mono _ _ _ _ _)
      | (with_reducible exact bag_Put.mono _ _ _ _)
      | (with_reducible exact bag_Take.mono _ _ _)
      | (with_reducible exact bag_Twice.mono _ _ _)
      | (with_reducible exact bk_Frame.mono _ _ _ _ _)
      | (with_reducible exact bk_Frames.mono _ _ _)
      | (with_reducible exact LeO.refl _)
      | (with_reducible exact LeO.none _)
      | (with_reducible refine LeO.ite ?_ ?_)
      | (with_reducible refine LeO.bind ?_ (fun _ => ?_))
      | exact ih0 _ _ _ _ _ _ _
      | exact ih1 _ _ _ _ _ _
      | exact ih2 _ _ _ _ _ _ _
      | exact ih3 _ _ _ _ _ _
      | exact ih4 _ _ _ _ _
      | exact ih5 _ _
      | exact ih6 _
      | exact ih7 _ _ _
      | exact ih8 _
      | exact L08_Heavy.mono _ _
      | exact L08_wakes.mono _
      | exact bag_Corrupt.mono _ _ _ _ _
      | exact bag_Put.mono _ _ _ _
      | exact bag_Take.mono _ _ _
      | exact bag_Twice.mono _ _ _
      | exact bk_Frame.mono _ _ _ _ _
      | exact bk_Frames.mono _ _ _
      | exact LeO.none _
      | refine LeO.ite ?_ ?_
      | refine LeO.bind ?_ (fun _ => ?_)
    · intro y0
      unfold L08_BagBack.j8
      repeat' first
      | (with_reducible exact ih0 _ _ _ _ _ _ _)
      | (with_reducible exact ih1 _ _ _ _ _ _)
      | (with_reducible exact ih2 _ _ _ _ _ _ _)
      | (with_reducible exact ih3 _ _ _ _ _ _)
      | (with_reducible exact ih4 _ _ _ _ _)
      | (with_reducible exact ih5 _ _)
      | (with_reducible exact ih6 _)
      | (with_reducible exact ih7 _ _ _)
      | (with_reducible exact ih8 _)
      | (with_reducible exact L08_Heavy.mono _ _)
      | (with_reducible exact L08_wakes.mono _)
      | (with_reducible exact bag_Corrupt.mono _ _ _ _ _)
      | (with_reducible exact bag_Put.mono _ _ _ _)
      | (with_reducible exact bag_Take.mono _ _ _)
      | (with_reducible exact bag_Twice.mono _ _ _)
      | (with_reducible exact bk_Frame.mono _ _ _ _ _)
      | (with_reducible exact bk_Frames.mono _ _ _)
      | (with_reducible exact LeO.refl _)
      | (with_reducible exact LeO.none _)
      | (with_reducible refine LeO.ite ?_ ?_)
      | (with_reducible refine LeO.bind ?_ (fun _ => ?_))
      | exact ih0 _ _ _ _ _ _ _
      | exact ih1 _ _ _ _ _ _
      | exact ih2 _ _ _ _ _ _ _
      | exact ih3 _ _ _ _ _ _
      | exact ih4 _ _ _ _ _
      | exact ih5 _ _
      | exact ih6 _
      | exact ih7 _ _ _
      | exact ih8 _
      | exact L08_Heavy.mono _ _
      | exact L08_wakes.mono _
      | exact bag_Corrupt.mono _ _ _ _ _
      | exact bag_Put.mono _ _ _ _
      | exact bag_Take.mono _ _ _
      | exact bag_Twice.mono _ _ _
      | exact bk_Frame.mono _ _ _ _ _
      | exact bk_Frames.mono _ _ _
      | exact LeO.none _
      | refine LeO.ite ?_ ?_
      | refine LeO.bind ?_ (fun _ => ?_)
    · intro y0 y1 y2
      unfold L08_BagBack.j6
      repeat' first
      | (with_reducible exact ih0 _ _ _ _ _ _ _)
      | (with_reducible exact ih1 _ _ _ _ _ _)
      | (with_reducible exact ih2 _ _ _ _ _ _ _)
      | (with_reducible exact ih3 _ _ _ _ _ _)
      | (with_reducible exact ih4 _ _ _ _ _)
      | (with_reducible exact ih5 _ _)
      | (with_reducible exact ih6 _)
      | (with_reducible exact ih7 _ _ _)
      | (with_reducible exact ih8 _)
      | (with_reducible exact L08_Heavy.mono _ _)
      | (with_reducible exact L08_wakes.mono _)
      | (with_reducible exact bag_Corrupt.mono _ _ _ _ _)
      | (with_reducible exact bag_Put.mono _ _ _ _)
      | (with_reducible exact bag_Take.mono _ _ _)
      | (with_reducible exact bag_Twice.mono _ _ _)
      | (with_reducible exact bk_Frame.mono _ _ _ _ _)
      | (with_reducible exact bk_Frames.mono _ _ _)
      | (with_reducible exact LeO.refl _)
      | (with_reducible exact LeO.none _)
      | (with_reducible refine LeO.ite ?_ ?_)
      | (with_reducible refine LeO.bind ?_ (fun _ => ?_))
      | exact ih0 _ _ _ _ _ _ _
      | exact ih1 _ _ _ _ _ _
      | exact ih2 _ _ _ _ _ _ _
      | exact ih3 _ _ _ _ _ _
      | exact ih4 _ _ _ _ _
      | exact ih5 _ _
      | exact ih6 _
      | exact ih7 _ _ _
      | exact ih8 _
      | exact L08_Heavy.mono _ _
      | exact L08_wakes.mono _
      | exact bag_Corrupt.mono _ _ _ _ _
      | exact bag_Put.mono _ _ _ _
      | exact bag_Take.mono _ _ _
      | exact bag_Twice.mono _ _ _
      | exact bk_Frame.mono _ _ _ _ _
      | exact bk_Frames.mono _ _ _
      | exact LeO.none _
      | refine LeO.ite ?_ ?_
      | refine LeO.bind ?_ (fun _ => ?_)
    · intro y0
      unfold L08_BagBack.j2
      repeat' first
      | (with_reducible exact ih0 _ _ _ _ _ _ _)
      | (with_reducible exact ih1 _ _ _ _ _ _)
      | (with_reducible exact ih2 _ _ _ _ _ _ _)
      | (with_reducible exact ih3 _ _ _ _ _ _)
      | (with_reducible exact ih4 _ _ _ _ _)
      | (with_reducible exact ih5 _ _)
      | (with_reducible exact ih6 _)
      | (with_reducible exact ih7 _ _ _)
      | (with_reducible exact ih8 _)
      | (with_reducible exact L08_Heavy.mono _ _)
      | (with_reducible exact L08_wakes.mono _)
      | (with_reducible exact bag_Corrupt.mono _ _ _ _ _)
      | (with_reducible exact bag_Put.mono _ _ _ _)
      | (with_reducible exact bag_Take.mono _ _ _)
      | (with_reducible exact bag_Twice.mono _ _ _)
      | (with_reducible exact bk_Frame.mono _ _ _ _ _)
      | (with_reducible exact bk_Frames.mono _ _ _)
      | (with_reducible exact LeO.refl _)
      | (with_reducible exact LeO.none _)
      | (with_reducible refine LeO.ite ?_ ?_)
      | (with_reducible refine LeO.bind ?_ (fun _ => ?_))
      | exact ih0 _ _ _ _ _ _ _
      | exact ih1 _ _ _ _ _ _
      | exact ih2 _ _ _ _ _ _ _
      | exact ih3 _ _ _ _ _ _
      | exact ih4 _ _ _ _ _
      | exact ih5 _ _
      | exact ih6 _
      | exact ih7 _ _ _
      | exact ih8 _
      | exact L08_Heavy.mono _ _
      | exact L08_wakes.mono _
      | exact bag_Corrupt.mono _ _ _ _ _
      | exact bag_Put.mono _ _ _ _
      | exact bag_Take.mono _ _ _
      | exact bag_Twice.mono _ _ _
      | exact bk_Frame.mono _ _ _ _ _
      | exact bk_Frames.mono _ _ _
      | exact LeO.none _
      | refine LeO.ite ?_ ?_
      | refine LeO.bind ?_ (fun _ => ?_)
theorem L08_BagBack.mono : ∀ a0 a1 a2 a3 a4 a5 k, LeO (L08_BagBack.f k a0 a1 a2 a3 a4 a5) (L08_BagBack.f (k + 1) a0 a1 a2 a3 a4 a5) := by
  intro a0 a1 a2 a3 a4 a5 k
  obtain ⟨ih0, ih1, ih2, ih3, ih4, ih5, ih6, ih7, ih8⟩ := L08_BagBack.mono_l k
  unfold L08_BagBack.f
  repeat' first
      | (with_reducible exact ih0 _ _ _ _ _ _ _)
      | (with_reducible exact ih1 _ _ _ _ _ _)
      | (with_reducible exact ih2 _ _ _ _ _ _ _)
      | (with_reducible exact ih3 _ _ _ _ _ _)
      | (with_reducible exact ih4 _ _ _ _ _)
      | (with_reducible exact ih5 _ _)
      | (with_reducible exact ih6 _)
      | (with_reducible exact ih7 _ _ _)
      | (with_reducible exact ih8 _)
      | (with_reducible exact L08_Heavy.mono _ _)
      | (with_reducible exact L08_wakes.mono _)
      | (with_reducible exact bag_Corrupt.mono _ _ _ _ _)
      | (with_reducible exact bag_Put.mono _ _ _ _)
      | (with_reducible exact bag_Take.mono _ _ _)
      | (with_reducible exact bag_Twice.mono _ _ _)
      | (with_reducible exact bk_Frame.mono _ _ _ _ _)
      | (with_reducible exact bk_Frames.mono _ _ _)
      | (with_reducible exact LeO.refl _)
      | (with_reducible exact LeO.none _)
      | (with_reducible refine LeO.ite ?_ ?_)
      | (with_reducible refine LeO.bind ?_ (fun _ => ?_))
      | exact ih0 _ _ _ _ _ _ _
      | exact ih1 _ _ _ _ _ _
      | exact ih2 _ _ _ _ _ _ _
      | exact ih3 _ _ _ _ _ _
      | exact ih4 _ _ _ _ _
      | exact ih5 _ _
      | exact ih6 _
      | exact ih7 _ _ _
      | exact ih8 _
      | exact L08_Heavy.mono _ _
      | exact L08_wakes.mono _
      | exact bag_Corrupt.mono _ _ _ _ _
      | exact bag_Put.mono _ _ _ _
      | exact bag_Take.mono _ _ _
      | exact bag_Twice.mono _ _ _
      | exact bk_Frame.mono _ _ _ _ _
      | exact bk_Frames.mono _ _ _
      | exact LeO.none _
      | refine LeO.ite ?_ ?_
      | refine LeO.bind ?_ (fun _ => ?_)

end Go.Proofs.Ytfljapcnkhjmgaa.PE
