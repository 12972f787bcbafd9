-- Written by this session's own program (wip/prog/drive.py).
import Derived.Test.YtmjfjjnoconmoaaPKx0
import Derived.Test.YtmjfjjnoconmoaaPKx1
import Derived.Test.YtmjfjjnoconmoaaPKx2
import Derived.Test.YtmjfjjnoconmoaaPKx3
namespace Go.Proofs.Ytmjfjjnoconmoaa.PK
open Go.RowKit Go.Proofs.YtmjfjjnoconmoaaW.PrintWords Go.Proofs.YtmjfjjnoconmoaaW.PrintLast Go.Proofs.YtmjfjjnoconmoaaW.PrintMore
attribute [local go_sem] max2_int min2_int max_two min_two max_three min_three max_four min_four   -- for this text's walks alone
set_option linter.unusedVariables false
set_option linter.unusedSimpArgs false

attribute [local go_sem high] eqA51
/-! ### bellwetherlaw15_KeepLast: function 7 -/
mutual
def bellwetherlaw15_KeepLast.l0 : Nat → List Int → Int → Int → List (S51) → Int → Int → Option (Bool)
  | 0, _, _, _, _, _, _ => none
  | k + 1, x0, x2, x3, x9, x10, x11 => if x11 < (x0.length : Int) then (if 0 ≤ x11 then ((keep_Push.f k x9 x10 x2 (wrap64 (Int.tmod (IntKind.u64.wrap (rd x0 x11)) 1000))).bind fun bt170 => (if bt170.2 = 0 then (bellwetherlaw15_KeepLast.l0 k x0 x2 x3 bt170.1 (wrap64 (x10 + 1)) (wrap64 (x11 + 1))) else (some false))) else (none)) else (if (x9.length : Int) = (mn x2 (x0.length : Int)) then ((keep_Check.f k x9 x10 x2).bind fun t174 => (bellwetherlaw15_KeepLast.j1 k x0 x2 x3 x9 x10 (mn x2 (x0.length : Int)) (t174 != 0))) else (bellwetherlaw15_KeepLast.j1 k x0 x2 x3 x9 x10 (mn x2 (x0.length : Int)) true))
def bellwetherlaw15_KeepLast.j1 : Nat → List Int → Int → Int → List (S51) → Int → Int → Bool → Option (Bool)
  | 0, _, _, _, _, _, _, _ => none
  | k + 1, x0, x2, x3, x9, x10, x14, x78 => if x78 = true then (some false) else (bellwetherlaw15_KeepLast.l1 k x0 x2 x3 x9 x10 x14 0)
def bellwetherlaw15_KeepLast.l1 : Nat → List Int → Int → Int → List (S51) → Int → Int → Int → Option (Bool)
  | 0, _, _, _, _, _, _, _ => none
  | k + 1, x0, x2, x3, x9, x10, x14, x15 => if x15 < x14 then (if 0 ≤ x15 then (if x15 < (x9.length : Int) then (if ((rd_T51 x9 x15).f0) = (wrap64 ((wrap64 (x10 - x14)) + x15)) then (if 0 ≤ (wrap64 ((wrap64 ((x0.length : Int) - x14)) + x15)) then (if (wrap64 ((wrap64 ((x0.length : Int) - x14)) + x15)) < (x0.length : Int) then (if ((rd_T51 x9 x15).f1) = (wrap64 (Int.tmod (IntKind.u64.wrap (rd x0 (wrap64 ((wrap64 ((x0.length : Int) - x14)) + x15)))) 1000)) then (bellwetherlaw15_KeepLast.l1 k x0 x2 x3 x9 x10 x14 (wrap64 (x15 + 1))) else (some false)) else (none)) else (none)) else (some false)) else (none)) else (none)) else (if (IntKind.u64.wrap (wrap64 (x10 + 3))) = 0 then (none) else (bellwetherlaw15_KeepLast.l2 k x2 x9 x10 x14 (wrap64 (1 + (wrap64 (Int.tmod (IntKind.u64.wrap (x3)) (IntKind.u64.wrap (wrap64 (x10 + 3))))))) 0))
def bellwetherlaw15_KeepLast.l2 : Nat → Int → List (S51) → Int → Int → Int → Int → Option (Bool)
  | 0, _, _, _, _, _, _ => none
  | k + 1, x2, x9, x10, x14, x16, x17 => if x17 < 20 then (bellwetherlaw15_KeepLast.j4 k x2 x9 x10 x14 x16 x17 (decide (x16 < x10))) else (bellwetherlaw15_KeepLast.j4 k x2 x9 x10 x14 x16 x17 false)
def bellwetherlaw15_KeepLast.j4 : Nat → Int → List (S51) → Int → Int → Int → Int → Bool → Option (Bool)
  | 0, _, _, _, _, _, _, _ => none
  | k + 1, x2, x9, x10, x14, x16, x17, x130 => if x130 = true then ((keep_Again.f k x9 x10 x2 x16).bind fun bt184 => (if bt184.2.2 = 0 then (if (bt184.2.1.length : Int) > 8 then (bellwetherlaw15_KeepLast.j5 k x2 x9 x10 x14 x16 x17 bt184.1 bt184.2.1 true) else (if bt184.1 > 0 then (if (x16 < (wrap64 (x10 - x14))) then (bellwetherlaw15_KeepLast.j5 k x2 x9 x10 x14 x16 x17 bt184.1 bt184.2.1 (bt184.1 != (wrap64 ((wrap64 (x10 - x14)) - 1)))) else (bellwetherlaw15_KeepLast.j5 k x2 x9 x10 x14 x16 x17 bt184.1 bt184.2.1 true)) else (if x16 < (wrap64 (x10 - x14)) then (bellwetherlaw15_KeepLast.j5 k x2 x9 x10 x14 x16 x17 bt184.1 bt184.2.1 true) else (bellwetherlaw15_KeepLast.j5 k x2 x9 x10 x14 x16 x17 bt184.1 bt184.2.1 false)))) else (bellwetherlaw15_KeepLast.j5 k x2 x9 x10 x14 x16 x17 bt184.1 bt184.2.1 true))) else ((keep_Again.f k x9 x10 x2 x10).bind fun bt178 => (if bt178.2.2 = 0 then (if (wrap64 (bt178.1 + (bt178.2.1.length : Int))) = 0 then (if x16 ≥ x10 then ((bellwetherlaw15_wakes.f k).bind fun t183 => (some t183)) else (some false)) else (some false)) else (some false)))
def bellwetherlaw15_KeepLast.j5 : Nat → Int → List (S51) → Int → Int → Int → Int → Int → List (S51) → Bool → Option (Bool)
  | 0, _, _, _, _, _, _, _, _, _ => none
  | k + 1, x2, x9, x10, x14, x16, x17, x18, x19, x170 => if x170 = true then (some false) else (bellwetherlaw15_KeepLast.l3 k x2 x9 x10 x14 (mx x16 (wrap64 (x18 + 1))) x17 x19 0)
def bellwetherlaw15_KeepLast.l3 : Nat → Int → List (S51) → Int → Int → Int → Int → List (S51) → Int → Option (Bool)
  | 0, _, _, _, _, _, _, _, _ => none
  | k + 1, x2, x9, x10, x14, x16, x17, x19, x21 => if x21 < (x19.length : Int) then (if x16 ≥ x10 then (some false) else (if x16 < (wrap64 (x10 - x14)) then (some false) else (if 0 ≤ x21 then (if ((rd_T51 x19 x21).f0) = x16 then (if 0 ≤ (wrap64 ((wrap64 (x16 - x10)) + x14)) then (if (wrap64 ((wrap64 (x16 - x10)) + x14)) < (x9.length : Int) then (if (!(((rd_T51 x19 x21).f0) == ((rd_T51 x9 (wrap64 ((wrap64 (x16 - x10)) + x14))).f0)) || (!(((rd_T51 x19 x21).f1) == ((rd_T51 x9 (wrap64 ((wrap64 (x16 - x10)) + x14))).f1)))) = true then (some false) else (bellwetherlaw15_KeepLast.l3 k x2 x9 x10 x14 (wrap64 (x16 + 1)) x17 x19 (wrap64 (x21 + 1)))) else (none)) else (none)) else (some false)) else (none)))) else (bellwetherlaw15_KeepLast.l2 k x2 x9 x10 x14 x16 (wrap64 (x17 + 1)))
end
def bellwetherlaw15_KeepLast.f (k : Nat) (l0 : List Int) (a1 : Int) (a2 : Int) (a3 : Int) : Option (Bool) := if (l0.length : Int) > 60 then (some true) else (bellwetherlaw15_KeepLast.l0 k l0 (wrap64 (1 + (wrap64 (Int.tmod (IntKind.u64.wrap (a2)) 16)))) a3 ([] : List (S51)) (wrap64 (1 + (wrap64 (Int.tmod (IntKind.u64.wrap (a1)) 1000)))) 0)
theorem bellwetherlaw15_KeepLast.mono_l : ∀ k, (∀ y0 y1 y2 y3 y4 y5, LeO (bellwetherlaw15_KeepLast.l0 k y0 y1 y2 y3 y4 y5) (bellwetherlaw15_KeepLast.l0 (k + 1) y0 y1 y2 y3 y4 y5)) ∧ (∀ y0 y1 y2 y3 y4 y5 y6, LeO (bellwetherlaw15_KeepLast.j1 k y0 y1 y2 y3 y4 y5 y6) (bellwetherlaw15_KeepLast.j1 (k + 1) y0 y1 y2 y3 y4 y5 y6)) ∧ (∀ y0 y1 y2 y3 y4 y5 y6, LeO (bellwetherlaw15_KeepLast.l1 k y0 y1 y2 y3 y4 y5 y6) (bellwetherlaw15_KeepLast.l1 (k + 1) y0 y1 y2 y3 y4 y5 y6)) ∧ (∀ y0 y1 y2 y3 y4 y5, LeO (bellwetherlaw15_KeepLast.l2 k y0 y1 y2 y3 y4 y5) (bellwetherlaw15_KeepLast.l2 (k + 1) y0 y1 y2 y3 y4 y5)) ∧ (∀ y0 y1 y2 y3 y4 y5 y6, LeO (bellwetherlaw15_KeepLast.j4 k y0 y1 y2 y3 y4 y5 y6) (bellwetherlaw15_KeepLast.j4 (k + 1) y0 y1 y2 y3 y4 y5 y6)) ∧ (∀ y0 y1 y2 y3 y4 y5 y6 y7 y8, LeO (bellwetherlaw15_KeepLast.j5 k y0 y1 y2 y3 y4 y5 y6 y7 y8) (bellwetherlaw15_KeepLast.j5 (k + 1) y0 y1 y2 y3 y4 y5 y6 y7 y8)) ∧ (∀ y0 y1 y2 y3 y4 y5 y6 y7, LeO (bellwetherlaw15_KeepLast.l3 k y0 y1 y2 y3 y4 y5 y6 y7) (bellwetherlaw15_KeepLast.l3 (k + 1) y0 y1 y2 y3 y4 y5 y6 y7))
  | 0 => ⟨fun _ _ _ _ _ _ r h => by simp [bellwetherlaw15_KeepLast.l0] at h, fun _ _ _ _ _ _ _ r h => by simp [bellwetherlaw15_KeepLast.j1] at h, fun _ _ _ _ _ _ _ r h => by simp [bellwetherlaw15_KeepLast.l1] at h, fun _ _ _ _ _ _ r h => by simp [bellwetherlaw15_KeepLast.l2] at h, fun _ _ _ _ _ _ _ r h => by simp [bellwetherlaw15_KeepLast.j4] at h, fun _ _ _ _ _ _ _ _ _ r h => by simp [bellwetherlaw15_KeepLast.j5] at h, fun _ _ _ _ _ _ _ _ r h => by simp [bellwetherlaw15_KeepLast.l3] at h⟩
  | k + 1 => by
    obtain ⟨ih0, ih1, ih2, ih3, ih4, ih5, ih6⟩ := bellwetherlaw15_KeepLast.mono_l k
    refine ⟨?_, ?_, ?_, ?_, ?_, ?_, ?_⟩
    · intro y0 y1 y2 y3 y4 y5
      unfold bellwetherlaw15_KeepLast.l0
      repeat' first
      | (with_reducible exact ih0 _ _ _ _ _ _)
      | (with_reducible exact ih1 _ _ _ _ _ _ _)
      | (with_reducible exact ih2 _ _ _ _ _ _ _)
      | (with_reducible exact ih3 _ _ _ _ _ _)
      | (with_reducible exact ih4 _ _ _ _ _ _ _)
      | (with_reducible exact ih5 _ _ _ _ _ _ _ _ _)
      | (with_reducible exact ih6 _ _ _ _ _ _ _ _)
      | (with_reducible exact bellwetherlaw15_wakes.mono _)
      | (with_reducible exact keep_Again.mono _ _ _ _ _)
      | (with_reducible exact keep_Check.mono _ _ _ _)
      | (with_reducible exact keep_Push.mono _ _ _ _ _)
      | (with_reducible exact LeO.refl _)
      | (with_reducible exact LeO.none _)
      | (with_reducible refine LeO.ite ?_ ?_)
      | (with_reducible refine LeO.bind ?_ (fun _ => ?_))
      | exact ih0 _ _ _ _ _ _
      | exact ih1 _ _ _ _ _ _ _
      | exact ih2 _ _ _ _ _ _ _
      | exact ih3 _ _ _ _ _ _
      | exact ih4 _ _ _ _ _ _ _
      | exact ih5 _ _ _ _ _ _ _ _ _
      | exact ih6 _ _ _ _ _ _ _ _
      | exact bellwetherlaw15_wakes.mono _
      | exact keep_Again.mono _ _ _ _ _
      | exact keep_Check.mono _ _ _ _
      | exact keep_Push.mono _ _ _ _ _
      | exact LeO.none _
      | refine LeO.ite ?_ ?_
      | refine LeO.bind ?_ (fun _ => ?_)
    · intro y0 y1 y2 y3 y4 y5 y6
      unfold bellwetherlaw15_KeepLast.j1
      repeat' first
      | (with_reducible exact ih0 _ _ _ _ _ _)
      | (with_reducible exact ih1 _ _ _ _ _ _ _)
      | (with_reducible exact ih2 _ _ _ _ _ _ _)
      | (with_reducible exact ih3 _ _ _ _ _ _)
      | (with_reducible exact ih4 _ _ _ _ _ _ _)
      | (with_reducible exact ih5 _ _ _ _ _ _ _ _ _)
      | (with_reducible exact ih6 _ _ _ _ _ _ _ _)
      | (with_reducible exact bellwetherlaw15_wakes.mono _)
      | (with_reducible exact keep_Again.mono _ _ _ _ _)
      | (with_reducible exact keep_Check.mono _ _ _ _)
      | (with_reducible exact keep_Push.mono _ _ _ _ _)
      | (with_reducible exact LeO.refl _)
      | (with_reducible exact LeO.none _)
      | (with_reducible refine LeO.ite ?_ ?_)
      | (with_reducible refine LeO.bind ?_ (fun _ => ?_))
      | exact ih0 _ _ _ _ _ _
      | exact ih1 _ _ _ _ _ _ _
      | exact ih2 _ _ _ _ _ _ _
      | exact ih3 _ _ _ _ _ _
      | exact ih4 _ _ _ _ _ _ _
      | exact ih5 _ _ _ _ _ _ _ _ _
      | exact ih6 _ _ _ _ _ _ _ _
      | exact bellwetherlaw15_wakes.mono _
      | exact keep_Again.mono _ _ _ _ _
      | exact keep_Check.mono _ _ _ _
      | exact keep_Push.mono _ _ _ _ _
      | exact LeO.none _
      | refine LeO.ite ?_ ?_
      | refine LeO.bind ?_ (fun _ => ?_)
    · intro y0 y1 y2 y3 y4 y5 y6
      unfold bellwetherlaw15_KeepLast.l1
      repeat' first
      | (with_reducible exact ih0 _ _ _ _ _ _)
      | (with_reducible exact ih1 _ _ _ _ _ _ _)
      | (with_reducible exact ih2 _ _ _ _ _ _ _)
      | (with_reducible exact ih3 _ _ _ _ _ _)
      | (with_reducible exact ih4 _ _ _ _ _ _ _)
      | (with_reducible exact ih5 _ _ _ _ _ _ _ _ _)
      | (with_reducible exact ih6 _ _ _ _ _ _ _ _)
      | (with_reducible exact bellwetherlaw15_wakes.mono _)
      | (with_reducible exact keep_Again.mono _ _ _ _ _)
      | (with_reducible exact keep_Check.mono _ _ _ _)
      | (with_reducible exact keep_Push.mono _ _ _ _ _)
      | (with_reducible exact LeO.refl _)
      | (with_reducible exact LeO.none _)
      | (with_reducible refine LeO.ite ?_ ?_)
      | (with_reducible refine LeO.bind ?_ (fun _ => ?_))
      | exact ih0 _ _ _ _ _ _
      | exact ih1 _ _ _ _ _ _ _
      | exact ih2 _ _ _ _ _ _ _
      | exact ih3 _ _ _ _ _ _
      | exact ih4 _ _ _ _ _ _ _
      | exact ih5 _ _ _ _ _ _ _ _ _
      | exact ih6 _ _ _ _ _ _ _ _
      | exact bellwetherlaw15_wakes.mono _
      | exact keep_Again.mono _ _ _ _ _
      | exact keep_Check.mono _ _ _ _
      | exact keep_Push.mono _ _ _ _ _
      | exact LeO.none _
      | refine LeO.ite ?_ ?_
      | refine LeO.bind ?_ (fun _ => ?_)
    · intro y0 y1 y2 y3 y4 y5
      unfold bellwetherlaw15_KeepLast.l2
      repeat' first
      | (with_reducible exact ih0 _ _ _ _ _ _)
      | (with_reducible exact ih1 _ _ _ _ _ _ _)
      | (with_reducible exact ih2 _ _ _ _ _ _ _)
      | (with_reducible exact ih3 _ _ _ _ _ _)
      | (with_reducible exact ih4 _ _ _ _ _ _ _)
      | (with_reducible exact ih5 _ _ _ _ _ _ _ _ _)
      | (with_reducible exact ih6 _ _ _ _ _ _ _ _)
      | (with_reducible exact bellwetherlaw15_wakes.mono _)
      | (with_reducible exact keep_Again.mono _ _ _ _ _)
      | (with_reducible exact keep_Check.mono _ _ _ _)
      | (with_reducible exact keep_Push.mono _ _ _ _ _)
      | (with_reducible exact LeO.refl _)
      | (with_reducible exact LeO.none _)
      | (with_reducible refine LeO.ite ?_ ?_)
      | (with_reducible refine LeO.bind ?_ (fun _ => ?_))
      | exact ih0 _ _ _ _ _ _
      | exact ih1 _ _ _ _ _ _ _
      | exact ih2 _ _ _ _ _ _ _
      | exact ih3 _ _ _ _ _ _
      | exact ih4 _ _ _ _ _ _ _
      | exact ih5 _ _ _ _ _ _ _ _ _
      | exact ih6 _ _ _ _ _ _ _ _
      | exact bellwetherlaw15_wakes.mono _
      | exact keep_Again.mono _ _ _ _ _
      | exact keep_Check.mono _ _ _ _
      | exact keep_Push.mono _ _ _ _ _
      | exact LeO.none _
      | refine LeO.ite ?_ ?_
      | refine LeO.bind ?_ (fun _ => ?_)
    · intro y0 y1 y2 y3 y4 y5 y6
      unfold bellwetherlaw15_KeepLast.j4
      repeat' first
      | (with_reducible exact ih0 _ _ _ _ _ _)
      | (with_reducible exact ih1 _ _ _ _ _ _ _)
      | (with_reducible exact ih2 _ _ _ _ _ _ _)
      | (with_reducible exact ih3 _ _ _ _ _ _)
      | (with_reducible exact ih4 _ _ _ _ _ _ _)
      | (with_reducible exact ih5 _ _ _ _ _ _ _ _ _)
      | (with_reducible exact ih6 _ _ _ _ _ _ _ _)
      | (with_reducible exact bellwetherlaw15_wakes.mono _)
      | (with_reducible exact keep_Again.mono _ _ _ _ _)
      | (with_reducible exact keep_Check.mono _ _ _ _)
      | (with_reducible exact keep_Push.mono _ _ _ _ _)
      | (with_reducible exact LeO.refl _)
      | (with_reducible exact LeO.none _)
      | (with_reducible refine LeO.ite ?_ ?_)
      | (with_reducible refine LeO.bind ?_ (fun _ => ?_))
      | exact ih0 _ _ _ _ _ _
      | exact ih1 _ _ _ _ _ _ _
      | exact ih2 _ _ _ _ _ _ _
      | exact ih3 _ _ _ _ _ _
      | exact ih4 _ _ _ _ _ _ _
      | exact ih5 _ _ _ _ _ _ _ _ _
      | exact ih6 _ _ _ _ _ _ _ _
      | exact bellwetherlaw15_wakes.mono _
      | exact keep_Again.mono _ _ _ _ _
      | exact keep_Check.mono _ _ _ _
      | exact keep_Push.mono _ _ _ _ _
      | exact LeO.none _
      | refine LeO.ite ?_ ?_
      | refine LeO.bind ?_ (fun _ => ?_)
    · intro y0 y1 y2 y3 y4 y5 y6 y7 y8
      unfold bellwetherlaw15_KeepLast.j5
      repeat' first
      | (with_reducible exact ih0 _ _ _ _ _ _)
      | (with_reducible exact ih1 _ _ _ _ _ _ _)
      | (with_reducible exact ih2 _ _ _ _ _ _ _)
      | (with_reducible exact ih3 _ _ _ _ _ _)
      | (with_reducible exact ih4 _ _ _ _ _ _ _)
      | (with_reducible exact ih5 _ _ _ _ _ _ _ _ _)
      | (with_reducible exact ih6 _ _ _ _ _ _ _ _)
      | (with_reducible exact bellwetherlaw15_wakes.mono _)
      | (with_reducible exact keep_Again.mono _ _ _ _ _)
      | (with_reducible exact keep_Check.mono _ _ _ _)
      | (with_reducible exact keep_Push.mono _ _ _ _ _)
      | (with_reducible exact LeO.refl _)
      | (with_reducible exact LeO.none _)
      | (with_reducible refine LeO.ite ?_ ?_)
      | (with_reducible refine LeO.bind ?_ (fun _ => ?_))
      | exact ih0 _ _ _ _ _ _
      | exact ih1 _ _ _ _ _ _ _
      | exact ih2 _ _ _ _ _ _ _
      | exact ih3 _ _ _ _ _ _
      | exact ih4 _ _ _ _ _ _ _
      | exact ih5 _ _ _ _ _ _ _ _ _
      | exact ih6 _ _ _ _ _ _ _ _
      | exact bellwetherlaw15_wakes.mono _
      | exact keep_Again.mono _ _ _ _ _
      | exact keep_Check.mono _ _ _ _
      | exact keep_Push.mono _ _ _ _ _
      | exact LeO.none _
      | refine LeO.ite ?_ ?_
      | refine LeO.bind ?_ (fun _ => ?_)
    · intro y0 y1 y2 y3 y4 y5 y6 y7
      unfold bellwetherlaw15_KeepLast.l3
      repeat' first
      | (with_reducible exact ih0 _ _ _ _ _ _)
      | (with_reducible exact ih1 _ _ _ _ _ _ _)
      | (with_reducible exact ih2 _ _ _ _ _ _ _)
      | (with_reducible exact ih3 _ _ _ _ _ _)
      | (with_reducible exact ih4 _ _ _ _ _ _ _)
      | (with_reducible exact ih5 _ _ _ _ _ _ _ _ _)
      | (with_reducible exact ih6 _ _ _ _ _ _ _ _)
      | (with_reducible exact bellwetherlaw15_wakes.mono _)
      | (with_reducible exact keep_Again.mono _ _ _ _ _)
      | (with_reducible exact keep_Check.mono _ _ _ _)
      | (with_reducible exact keep_Push.mono _ _ _ _ _)
      | (with_reducible exact LeO.refl _)
      | (with_reducible exact LeO.none _)
      | (with_reducible refine LeO.ite ?_ ?_)
      | (with_reducible refine LeO.bind ?_ (fun _ => ?_))
      | exact ih0 _ _ _ _ _ _
      | exact ih1 _ _ _ _ _ _ _
      | exact ih2 _ _ _ _ _ _ _
      | exact ih3 _ _ _ _ _ _
      | exact ih4 _ _ _ _ _ _ _
      | exact ih5 _ _ _ _ _ _ _ _ _
      | exact ih6 _ _ _ _ _ _ _ _
      | exact bellwetherlaw15_wakes.mono _
      | exact keep_Again.mono _ _ _ _ _
      | exact keep_Check.mono _ _ _ _
      | exact keep_Push.mono _ _ _ _ _
      | exact LeO.none _
      | refine LeO.ite ?_ ?_
      | refine LeO.bind ?_ (fun _ => ?_)
theorem bellwetherlaw15_KeepLast.mono : ∀ a0 a1 a2 a3 k, LeO (bellwetherlaw15_KeepLast.f k a0 a1 a2 a3) (bellwetherlaw15_KeepLast.f (k + 1) a0 a1 a2 a3) := by
  intro a0 a1 a2 a3 k
  obtain ⟨ih0, ih1, ih2, ih3, ih4, ih5, ih6⟩ := bellwetherlaw15_KeepLast.mono_l k
  unfold bellwetherlaw15_KeepLast.f
  repeat' first
      | (with_reducible exact ih0 _ _ _ _ _ _)
      | (with_reducible exact ih1 _ _ _ _ _ _ _)
      | (with_reducible exact ih2 _ _ _ _ _ _ _)
      | (with_reducible exact ih3 _ _ _ _ _ _)
      | (with_reducible exact ih4 _ _ _ _ _ _ _)
      | (with_reducible exact ih5 _ _ _ _ _ _ _ _ _)
      | (with_reducible exact ih6 _ _ _ _ _ _ _ _)
      | (with_reducible exact bellwetherlaw15_wakes.mono _)
      | (with_reducible exact keep_Again.mono _ _ _ _ _)
      | (with_reducible exact keep_Check.mono _ _ _ _)
      | (with_reducible exact keep_Push.mono _ _ _ _ _)
      | (with_reducible exact LeO.refl _)
      | (with_reducible exact LeO.none _)
      | (with_reducible refine LeO.ite ?_ ?_)
      | (with_reducible refine LeO.bind ?_ (fun _ => ?_))
      | exact ih0 _ _ _ _ _ _
      | exact ih1 _ _ _ _ _ _ _
      | exact ih2 _ _ _ _ _ _ _
      | exact ih3 _ _ _ _ _ _
      | exact ih4 _ _ _ _ _ _ _
      | exact ih5 _ _ _ _ _ _ _ _ _
      | exact ih6 _ _ _ _ _ _ _ _
      | exact bellwetherlaw15_wakes.mono _
      | exact keep_Again.mono _ _ _ _ _
      | exact keep_Check.mono _ _ _ _
      | exact keep_Push.mono _ _ _ _ _
      | exact LeO.none _
      | refine LeO.ite ?_ ?_
      | refine LeO.bind ?_ (fun _ => ?_)
set_option maxHeartbeats 8000000 in
set_option maxRecDepth 100000 in
theorem bellwetherlaw15_KeepLast.calls (k : Nat) (A0 : Option Addr) (c0 : Nat) (l0 : List Int) (a1 : Int) (a2 : Int) (a3 : Int) (r : Bool) (w : World) (hr0 : Kd.C (Kd.int .i64) w A0 l0.length l0) (hc0 : l0.length ≤ c0) (h : bellwetherlaw15_KeepLast.f k l0 a1 a2 a3 = some r) :
    Calls Try.prog 7 #[.slice A0 l0.length c0, .int .i64 a1, .int .i64 a2, .int .i64 a3] w fun e w' => e = .returned (.bool r) ∧ Below w.heap.size w w' := by
  have hu51 := Try.underlying51
  have HR0 := Aside0.mk hr0
  have HC0 := Aside0.mk hc0
  clear hr0 hc0
  have HB := Aside0.mk (Below.refl w.heap.size w)
  have H : (if (l0.length : Int) > 60 then (some true) else (bellwetherlaw15_KeepLast.l0 k l0 (wrap64 (1 + (wrap64 (Int.tmod (IntKind.u64.wrap (a2)) 16)))) a3 ([] : List (S51)) (wrap64 (1 + (wrap64 (Int.tmod (IntKind.u64.wrap (a1)) 1000)))) 0)) = some r := h
  clear h
  by_cases c5 : (l0.length : Int) > 60
  · rw [if_pos c5] at H
    have c5b0 : decide (60 < (l0.length : Int)) = true := decide_eq_true c5
    have c5b1 : decide (60 < l0.length) = true := decide_eq_true (by omega)
    clear c5
    obtain rfl := Option.some.inj H
    go_enter Try.func7, Try.ntmps7
    go_wp2
    repeat (go_quiet (fail); try go_wp2)
    go_ret
    exact ⟨by first | rfl | (simp [errW_none, errW_some] <;> rfl) | (simp [*, errW_none, errW_some] <;> rfl), by repeat (first | (with_reducible first | exact HB.out | apply below_alloc | apply pw_below_drewN | apply below_drew1) | exact HB.out)⟩
  · rw [if_neg c5] at H
    have c5b0 : decide (60 < (l0.length : Int)) = false := decide_eq_false c5
    have c5b1 : decide (60 < l0.length) = false := decide_eq_false (by omega)
    clear c5
    have H' := Aside0.mk H
    clear H
    go_enter Try.func7, Try.ntmps7
    go_wp2
    repeat (go_quiet (fail); try go_wp2)
    go_loopg [9, 10, 11] k (fun kq v9 v10 v11 w' => ∃ (x9_1 : List (S51)) (x10_1 : Int) (x11_1 : Int), v10 = .int .i64 x10_1 ∧ v11 = .int .i64 x11_1 ∧ Aside0 (bellwetherlaw15_KeepLast.l0 kq l0 (wrap64 (1 + (wrap64 (Int.tmod (IntKind.u64.wrap (a2)) 16)))) a3 x9_1 x10_1 x11_1 = some r) ∧ Aside0 (kq ≤ k) ∧ Aside0 (Kd.R k51 51 w' w.heap.size (fun _ => True) v9 x9_1) ∧ Aside0 (Below w.heap.size w w'))
    case atStart => exact ⟨(([] : List (S51))), (wrap64 (1 + (wrap64 (Int.tmod (IntKind.u64.wrap (a1)) 1000)))), (0), (by first | rfl | (simp; done) | (simp [*]; done)), (by first | rfl | (simp; done) | (simp [*]; done)), H', ⟨Nat.le_refl _⟩, ⟨by first | exact Kd.R_nil _ _ _ _ _ | exact Kd.N_nil _ _ _ _ _ | exact Kd.V_nil _ _ _ _ _ | exact Kd.Q_nil _ _ _ _ _ | exact Kd.S_nil _ _ _ _ _⟩, ⟨by repeat (first | (with_reducible first | exact HB.out | apply below_alloc | apply pw_below_drewN | apply below_drew1) | exact HB.out)⟩⟩
    case round => as_aux_lemma =>
      clear H'
      try clear p2
      try clear c5
      try clear c5b0
      try clear c5b1
      obtain ⟨x9_1, x10_1, x11_1, rfl, rfl, HA, HK1, HO_9, HB⟩ := hrel
      cases gk with
      | zero => exact absurd HA.out (by simp [bellwetherlaw15_KeepLast.l0])
      | succ k1 =>
        have H := HA.out
        clear HA
        simp only [bellwetherlaw15_KeepLast.l0] at H
        by_cases c6 : x11_1 < (l0.length : Int)
        · rw [if_pos c6] at H
          have c6b0 : decide (x11_1 < (l0.length : Int)) = true := decide_eq_true c6
          clear c6
          by_cases c7 : 0 ≤ x11_1
          · rw [if_pos c7] at H
            have c7b0 : decide (0 ≤ x11_1) = true := decide_eq_true c7
            clear c7
            replace H := Option.bind_eq_some_iff.mp H
            obtain ⟨⟨t170, t171⟩, A80, H⟩ := H
            replace H : (if t171 = 0 then (bellwetherlaw15_KeepLast.l0 k1 l0 (wrap64 (1 + (wrap64 (Int.tmod (IntKind.u64.wrap (a2)) 16)))) a3 t170 (wrap64 (x10_1 + 1)) (wrap64 (x11_1 + 1))) else (some false)) = some r := H
            have A8 := Aside0.mk A80
            clear A80
            by_cases c9 : t171 = 0
            · rw [if_pos c9] at H
              have c9b0 : (t171 == 0) = true := beq_iff_eq.mpr c9
              have c9b1 : (t171 != 0) = false := bne_eq_false_iff_eq.mpr c9
              clear c9
              have H' := Aside0.mk H
              clear H
              have p169 : 0 ≤ (x11_1 : Int) := of_decide_eq_true (by first | (with_reducible assumption) | assumption)
              have q169 : x11_1 < (l0.length : Int) := of_decide_eq_true (by first | (with_reducible assumption) | assumption)
              obtain ⟨ad169, e169, hx169_0⟩ := Kd.at_int HR0.out x11_1 p169 q169
              cases e169
              replace hx169_0 := (HB.out.cell (World.block_lt_of_cell? w _ hx169_0)).trans hx169_0
              replace p169 := eq_true p169
              replace q169 := eq_true q169
              obtain ⟨Ao10, co10, eo10⟩ := Kd.R_slice HO_9.out
              subst eo10
              go_wp2_with (first | (go_at_call 23; (with_reducible refine (keep_Push.calls k1 _ _ x9_1 x10_1 (wrap64 (1 + (wrap64 (Int.tmod (IntKind.u64.wrap (a2)) 16)))) (wrap64 (Int.tmod (IntKind.u64.wrap (rd l0 x11_1)) 1000)) t170 t171 _ ?side1 ?side2 A8.out).mono ?_); (case side1 => repeat (first | exact (Kd.R_reads' HO_9.out).2.2 | (with_reducible refine Kd.C_alloc ?_ _) | (with_reducible refine Kd.C_drewN ?_ _) | (with_reducible refine Kd.C_drew ?_))); (case side2 => exact (Kd.R_reads' HO_9.out).2.1); rintro e w11 ⟨v172, rfl, ho0, hb⟩; have n0_ := Aside0.mk (Kd.R_elder' (by (with_reducible repeat (first | apply Kd.R_alloc | apply Kd.R_drewN | apply Kd.R_drew)); exact HO_9.out) (Kd.R_base ho0) hb); have n1_ := Aside0.mk (Kd.R_lower (Kd.R_new' ho0 (Kd.R_lt (by (with_reducible repeat (first | apply Kd.R_alloc | apply Kd.R_drewN | apply Kd.R_drew)); exact HO_9.out))) (below_size (by repeat (first | (with_reducible first | exact HB.out | apply below_alloc | apply pw_below_drewN | apply below_drew1) | exact HB.out)))); have n2_ := Aside0.mk (below_step (by repeat (first | (with_reducible first | exact HB.out | apply below_alloc | apply pw_below_drewN | apply below_drew1) | exact HB.out)) hb); clear HO_9; clear HB; have HO_9 := n0_; have HO173 := n1_; have HB := n2_; clear n0_ n1_ n2_; (try clear hb); (try clear hb2); (try clear hk); (try clear hi); (try clear ho0)))
              repeat (go_quiet (first | (go_at_call 23; (with_reducible refine (keep_Push.calls k1 _ _ x9_1 x10_1 (wrap64 (1 + (wrap64 (Int.tmod (IntKind.u64.wrap (a2)) 16)))) (wrap64 (Int.tmod (IntKind.u64.wrap (rd l0 x11_1)) 1000)) t170 t171 _ ?side1 ?side2 A8.out).mono ?_); (case side1 => repeat (first | exact (Kd.R_reads' HO_9.out).2.2 | (with_reducible refine Kd.C_alloc ?_ _) | (with_reducible refine Kd.C_drewN ?_ _) | (with_reducible refine Kd.C_drew ?_))); (case side2 => exact (Kd.R_reads' HO_9.out).2.1); rintro e w11 ⟨v172, rfl, ho0, hb⟩; have n0_ := Aside0.mk (Kd.R_elder' (by (with_reducible repeat (first | apply Kd.R_alloc | apply Kd.R_drewN | apply Kd.R_drew)); exact HO_9.out) (Kd.R_base ho0) hb); have n1_ := Aside0.mk (Kd.R_lower (Kd.R_new' ho0 (Kd.R_lt (by (with_reducible repeat (first | apply Kd.R_alloc | apply Kd.R_drewN | apply Kd.R_drew)); exact HO_9.out))) (below_size (by repeat (first | (with_reducible first | exact HB.out | apply below_alloc | apply pw_below_drewN | apply below_drew1) | exact HB.out)))); have n2_ := Aside0.mk (below_step (by repeat (first | (with_reducible first | exact HB.out | apply below_alloc | apply pw_below_drewN | apply below_drew1) | exact HB.out)) hb); clear HO_9; clear HB; have HO_9 := n0_; have HO173 := n1_; have HB := n2_; clear n0_ n1_ n2_; (try clear hb); (try clear hb2); (try clear hk); (try clear hi); (try clear ho0))); try go_wp2_with (first | (go_at_call 23; (with_reducible refine (keep_Push.calls k1 _ _ x9_1 x10_1 (wrap64 (1 + (wrap64 (Int.tmod (IntKind.u64.wrap (a2)) 16)))) (wrap64 (Int.tmod (IntKind.u64.wrap (rd l0 x11_1)) 1000)) t170 t171 _ ?side1 ?side2 A8.out).mono ?_); (case side1 => repeat (first | exact (Kd.R_reads' HO_9.out).2.2 | (with_reducible refine Kd.C_alloc ?_ _) | (with_reducible refine Kd.C_drewN ?_ _) | (with_reducible refine Kd.C_drew ?_))); (case side2 => exact (Kd.R_reads' HO_9.out).2.1); rintro e w11 ⟨v172, rfl, ho0, hb⟩; have n0_ := Aside0.mk (Kd.R_elder' (by (with_reducible repeat (first | apply Kd.R_alloc | apply Kd.R_drewN | apply Kd.R_drew)); exact HO_9.out) (Kd.R_base ho0) hb); have n1_ := Aside0.mk (Kd.R_lower (Kd.R_new' ho0 (Kd.R_lt (by (with_reducible repeat (first | apply Kd.R_alloc | apply Kd.R_drewN | apply Kd.R_drew)); exact HO_9.out))) (below_size (by repeat (first | (with_reducible first | exact HB.out | apply below_alloc | apply pw_below_drewN | apply below_drew1) | exact HB.out)))); have n2_ := Aside0.mk (below_step (by repeat (first | (with_reducible first | exact HB.out | apply below_alloc | apply pw_below_drewN | apply below_drew1) | exact HB.out)) hb); clear HO_9; clear HB; have HO_9 := n0_; have HO173 := n1_; have HB := n2_; clear n0_ n1_ n2_; (try clear hb); (try clear hb2); (try clear hk); (try clear hi); (try clear ho0))))
              go_roundg k1
              case measure => have := HK1.out; omega
              case rel => exact ⟨(t170), (wrap64 (x10_1 + 1)), (wrap64 (x11_1 + 1)), (by first | rfl | (simp; done) | (simp [*]; done)), (by first | rfl | (simp; done) | (simp [*]; done)), H', ⟨by have := HK1.out; omega⟩, ⟨by (with_reducible repeat (first | apply Kd.R_alloc | apply Kd.R_drewN | apply Kd.R_drew)); exact Kd.R_mono HO173.out (fun _ hk => trivial)⟩, ⟨by repeat (first | (with_reducible first | exact HB.out | apply below_alloc | apply pw_below_drewN | apply below_drew1) | exact HB.out)⟩⟩
            · rw [if_neg c9] at H
              have c9b0 : (t171 == 0) = false := beq_eq_false_iff_ne.mpr c9
              have c9b1 : (t171 != 0) = true := bne_iff_ne.mpr c9
              obtain rfl := Option.some.inj H
              have p169 : 0 ≤ (x11_1 : Int) := of_decide_eq_true (by first | (with_reducible assumption) | assumption)
              have q169 : x11_1 < (l0.length : Int) := of_decide_eq_true (by first | (with_reducible assumption) | assumption)
              obtain ⟨ad169, e169, hx169_0⟩ := Kd.at_int HR0.out x11_1 p169 q169
              cases e169
              replace hx169_0 := (HB.out.cell (World.block_lt_of_cell? w _ hx169_0)).trans hx169_0
              replace p169 := eq_true p169
              replace q169 := eq_true q169
              obtain ⟨Ao12, co12, eo12⟩ := Kd.R_slice HO_9.out
              subst eo12
              go_wp2_with (first | (go_at_call 23; (with_reducible refine (keep_Push.calls k1 _ _ x9_1 x10_1 (wrap64 (1 + (wrap64 (Int.tmod (IntKind.u64.wrap (a2)) 16)))) (wrap64 (Int.tmod (IntKind.u64.wrap (rd l0 x11_1)) 1000)) t170 t171 _ ?side1 ?side2 A8.out).mono ?_); (case side1 => repeat (first | exact (Kd.R_reads' HO_9.out).2.2 | (with_reducible refine Kd.C_alloc ?_ _) | (with_reducible refine Kd.C_drewN ?_ _) | (with_reducible refine Kd.C_drew ?_))); (case side2 => exact (Kd.R_reads' HO_9.out).2.1); rintro e w13 ⟨v172, rfl, ho0, hb⟩; have n0_ := Aside0.mk (Kd.R_elder' (by (with_reducible repeat (first | apply Kd.R_alloc | apply Kd.R_drewN | apply Kd.R_drew)); exact HO_9.out) (Kd.R_base ho0) hb); have n1_ := Aside0.mk (Kd.R_lower (Kd.R_new' ho0 (Kd.R_lt (by (with_reducible repeat (first | apply Kd.R_alloc | apply Kd.R_drewN | apply Kd.R_drew)); exact HO_9.out))) (below_size (by repeat (first | (with_reducible first | exact HB.out | apply below_alloc | apply pw_below_drewN | apply below_drew1) | exact HB.out)))); have n2_ := Aside0.mk (below_step (by repeat (first | (with_reducible first | exact HB.out | apply below_alloc | apply pw_below_drewN | apply below_drew1) | exact HB.out)) hb); clear HO_9; clear HB; have HO_9 := n0_; have HO173 := n1_; have HB := n2_; clear n0_ n1_ n2_; (try clear hb); (try clear hb2); (try clear hk); (try clear hi); (try clear ho0)))
              repeat (go_quiet (first | (go_at_call 23; (with_reducible refine (keep_Push.calls k1 _ _ x9_1 x10_1 (wrap64 (1 + (wrap64 (Int.tmod (IntKind.u64.wrap (a2)) 16)))) (wrap64 (Int.tmod (IntKind.u64.wrap (rd l0 x11_1)) 1000)) t170 t171 _ ?side1 ?side2 A8.out).mono ?_); (case side1 => repeat (first | exact (Kd.R_reads' HO_9.out).2.2 | (with_reducible refine Kd.C_alloc ?_ _) | (with_reducible refine Kd.C_drewN ?_ _) | (with_reducible refine Kd.C_drew ?_))); (case side2 => exact (Kd.R_reads' HO_9.out).2.1); rintro e w13 ⟨v172, rfl, ho0, hb⟩; have n0_ := Aside0.mk (Kd.R_elder' (by (with_reducible repeat (first | apply Kd.R_alloc | apply Kd.R_drewN | apply Kd.R_drew)); exact HO_9.out) (Kd.R_base ho0) hb); have n1_ := Aside0.mk (Kd.R_lower (Kd.R_new' ho0 (Kd.R_lt (by (with_reducible repeat (first | apply Kd.R_alloc | apply Kd.R_drewN | apply Kd.R_drew)); exact HO_9.out))) (below_size (by repeat (first | (with_reducible first | exact HB.out | apply below_alloc | apply pw_below_drewN | apply below_drew1) | exact HB.out)))); have n2_ := Aside0.mk (below_step (by repeat (first | (with_reducible first | exact HB.out | apply below_alloc | apply pw_below_drewN | apply below_drew1) | exact HB.out)) hb); clear HO_9; clear HB; have HO_9 := n0_; have HO173 := n1_; have HB := n2_; clear n0_ n1_ n2_; (try clear hb); (try clear hb2); (try clear hk); (try clear hi); (try clear ho0))); try go_wp2_with (first | (go_at_call 23; (with_reducible refine (keep_Push.calls k1 _ _ x9_1 x10_1 (wrap64 (1 + (wrap64 (Int.tmod (IntKind.u64.wrap (a2)) 16)))) (wrap64 (Int.tmod (IntKind.u64.wrap (rd l0 x11_1)) 1000)) t170 t171 _ ?side1 ?side2 A8.out).mono ?_); (case side1 => repeat (first | exact (Kd.R_reads' HO_9.out).2.2 | (with_reducible refine Kd.C_alloc ?_ _) | (with_reducible refine Kd.C_drewN ?_ _) | (with_reducible refine Kd.C_drew ?_))); (case side2 => exact (Kd.R_reads' HO_9.out).2.1); rintro e w13 ⟨v172, rfl, ho0, hb⟩; have n0_ := Aside0.mk (Kd.R_elder' (by (with_reducible repeat (first | apply Kd.R_alloc | apply Kd.R_drewN | apply Kd.R_drew)); exact HO_9.out) (Kd.R_base ho0) hb); have n1_ := Aside0.mk (Kd.R_lower (Kd.R_new' ho0 (Kd.R_lt (by (with_reducible repeat (first | apply Kd.R_alloc | apply Kd.R_drewN | apply Kd.R_drew)); exact HO_9.out))) (below_size (by repeat (first | (with_reducible first | exact HB.out | apply below_alloc | apply pw_below_drewN | apply below_drew1) | exact HB.out)))); have n2_ := Aside0.mk (below_step (by repeat (first | (with_reducible first | exact HB.out | apply below_alloc | apply pw_below_drewN | apply below_drew1) | exact HB.out)) hb); clear HO_9; clear HB; have HO_9 := n0_; have HO173 := n1_; have HB := n2_; clear n0_ n1_ n2_; (try clear hb); (try clear hb2); (try clear hk); (try clear hi); (try clear ho0))))
              go_ret
              exact ⟨by first | rfl | (simp [errW_none, errW_some] <;> rfl) | (simp [*, errW_none, errW_some] <;> rfl), by repeat (first | (with_reducible first | exact HB.out | apply below_alloc | apply pw_below_drewN | apply below_drew1) | exact HB.out)⟩
          · rw [if_neg c7] at H
            exact absurd H (by simp)
        · rw [if_neg c6] at H
          have c6b0 : decide (x11_1 < (l0.length : Int)) = false := decide_eq_false c6
          clear c6
          obtain ⟨ji14, hji14⟩ : ∃ j_ : Int, (mn (wrap64 (1 + (wrap64 (Int.tmod (IntKind.u64.wrap (a2)) 16)))) (l0.length : Int)) = j_ := ⟨_, rfl⟩
          replace H : (if (x9_1.length : Int) = (ji14) then ((keep_Check.f k1 x9_1 x10_1 (wrap64 (1 + (wrap64 (Int.tmod (IntKind.u64.wrap (a2)) 16))))).bind fun t174 => (bellwetherlaw15_KeepLast.j1 k1 l0 (wrap64 (1 + (wrap64 (Int.tmod (IntKind.u64.wrap (a2)) 16)))) a3 x9_1 x10_1 ji14 (t174 != 0))) else (bellwetherlaw15_KeepLast.j1 k1 l0 (wrap64 (1 + (wrap64 (Int.tmod (IntKind.u64.wrap (a2)) 16)))) a3 x9_1 x10_1 ji14 true)) = some r := by first | (rw [hji14] at H; exact H) | (simp only [hji14] at H ⊢; exact H)
          have hji14_ : (if (l0.length : Int) < (wrap64 (1 + (wrap64 (Int.tmod (IntKind.u64.wrap (a2)) 16)))) then (l0.length : Int) else (wrap64 (1 + (wrap64 (Int.tmod (IntKind.u64.wrap (a2)) 16))))) = ji14 := hji14
          have HC15 := Aside0.mk H
          clear H
          go_upto_region 14 with (fail)
          repeat (go_quiet (fail); go_upto_region 14 with (fail))
          go_cut [78] (fun v78 wc => ∃ (kq : Nat) (x78_14 : Bool), v78 = .bool x78_14 ∧ Aside0 (bellwetherlaw15_KeepLast.j1 kq l0 (wrap64 (1 + (wrap64 (Int.tmod (IntKind.u64.wrap (a2)) 16)))) a3 x9_1 x10_1 ji14 x78_14 = some r) ∧ Aside0 (kq ≤ k1) ∧ Aside0 (Kd.R k51 51 wc w.heap.size (fun _ => True) u9 x9_1) ∧ Aside0 (Below w.heap.size w wc))
          case first =>
            have H := HC15.out
            clear HC15
            by_cases c16 : (x9_1.length : Int) = (ji14)
            · rw [if_pos c16] at H
              have c16b0 : ((x9_1.length : Int) == (ji14)) = true := beq_iff_eq.mpr c16
              have c16b1 : ((x9_1.length : Int) != (ji14)) = false := bne_eq_false_iff_eq.mpr c16
              clear c16
              (first | rw [c16b0] | (simp only [i64_w, i32_w]; rw [c16b0]) | skip)
              replace H := Option.bind_eq_some_iff.mp H
              obtain ⟨t174, A170, H⟩ := H
              replace H : (bellwetherlaw15_KeepLast.j1 k1 l0 (wrap64 (1 + (wrap64 (Int.tmod (IntKind.u64.wrap (a2)) 16)))) a3 x9_1 x10_1 ji14 (t174 != 0)) = some r := H
              have A17 := Aside0.mk A170
              clear A170
              have H' := Aside0.mk H
              clear H
              obtain ⟨Ao18, co18, eo18⟩ := Kd.R_slice HO_9.out
              subst eo18
              go_wp2_with (first | (go_at_call 27; (with_reducible refine (keep_Check.calls k1 _ _ x9_1 x10_1 (wrap64 (1 + (wrap64 (Int.tmod (IntKind.u64.wrap (a2)) 16)))) t174 _ ?side1 ?side2 A17.out).mono ?_); (case side1 => repeat (first | exact (Kd.R_reads' HO_9.out).2.2 | (with_reducible refine Kd.C_alloc ?_ _) | (with_reducible refine Kd.C_drewN ?_ _) | (with_reducible refine Kd.C_drew ?_))); (case side2 => exact (Kd.R_reads' HO_9.out).2.1); rintro e w19 ⟨rfl, hb⟩; have n0_ := Aside0.mk (Kd.R_below (by (with_reducible repeat (first | apply Kd.R_alloc | apply Kd.R_drewN | apply Kd.R_drew)); exact HO_9.out) hb); have n1_ := Aside0.mk (below_step (by repeat (first | (with_reducible first | exact HB.out | apply below_alloc | apply pw_below_drewN | apply below_drew1) | exact HB.out)) hb); clear HO_9; clear HB; have HO_9 := n0_; have HB := n1_; clear n0_ n1_; (try clear hb); (try clear hb2); (try clear hk); (try clear hi)))
              repeat (go_quiet (first | (go_at_call 27; (with_reducible refine (keep_Check.calls k1 _ _ x9_1 x10_1 (wrap64 (1 + (wrap64 (Int.tmod (IntKind.u64.wrap (a2)) 16)))) t174 _ ?side1 ?side2 A17.out).mono ?_); (case side1 => repeat (first | exact (Kd.R_reads' HO_9.out).2.2 | (with_reducible refine Kd.C_alloc ?_ _) | (with_reducible refine Kd.C_drewN ?_ _) | (with_reducible refine Kd.C_drew ?_))); (case side2 => exact (Kd.R_reads' HO_9.out).2.1); rintro e w19 ⟨rfl, hb⟩; have n0_ := Aside0.mk (Kd.R_below (by (with_reducible repeat (first | apply Kd.R_alloc | apply Kd.R_drewN | apply Kd.R_drew)); exact HO_9.out) hb); have n1_ := Aside0.mk (below_step (by repeat (first | (with_reducible first | exact HB.out | apply below_alloc | apply pw_below_drewN | apply below_drew1) | exact HB.out)) hb); clear HO_9; clear HB; have HO_9 := n0_; have HB := n1_; clear n0_ n1_; (try clear hb); (try clear hb2); (try clear hk); (try clear hi))); try go_wp2_with (first | (go_at_call 27; (with_reducible refine (keep_Check.calls k1 _ _ x9_1 x10_1 (wrap64 (1 + (wrap64 (Int.tmod (IntKind.u64.wrap (a2)) 16)))) t174 _ ?side1 ?side2 A17.out).mono ?_); (case side1 => repeat (first | exact (Kd.R_reads' HO_9.out).2.2 | (with_reducible refine Kd.C_alloc ?_ _) | (with_reducible refine Kd.C_drewN ?_ _) | (with_reducible refine Kd.C_drew ?_))); (case side2 => exact (Kd.R_reads' HO_9.out).2.1); rintro e w19 ⟨rfl, hb⟩; have n0_ := Aside0.mk (Kd.R_below (by (with_reducible repeat (first | apply Kd.R_alloc | apply Kd.R_drewN | apply Kd.R_drew)); exact HO_9.out) hb); have n1_ := Aside0.mk (below_step (by repeat (first | (with_reducible first | exact HB.out | apply below_alloc | apply pw_below_drewN | apply below_drew1) | exact HB.out)) hb); clear HO_9; clear HB; have HO_9 := n0_; have HB := n1_; clear n0_ n1_; (try clear hb); (try clear hb2); (try clear hk); (try clear hi))))
              go_meet
              case rel => exact ⟨_, ((t174 != 0)), (by first | rfl | (simp; done) | (simp [*]; done)), H', ⟨by have := HK1.out; first | omega | exact Nat.le_refl _⟩, ⟨by (with_reducible repeat (first | apply Kd.R_alloc | apply Kd.R_drewN | apply Kd.R_drew)); exact HO_9.out⟩, ⟨by repeat (first | (with_reducible first | exact HB.out | apply below_alloc | apply pw_below_drewN | apply below_drew1) | exact HB.out)⟩⟩
            · rw [if_neg c16] at H
              have c16b0 : ((x9_1.length : Int) == (ji14)) = false := beq_eq_false_iff_ne.mpr c16
              have c16b1 : ((x9_1.length : Int) != (ji14)) = true := bne_iff_ne.mpr c16
              (first | rw [c16b0] | (simp only [i64_w, i32_w]; rw [c16b0]) | skip)
              have H' := Aside0.mk H
              clear H
              obtain ⟨Ao20, co20, eo20⟩ := Kd.R_slice HO_9.out
              subst eo20
              go_wp2
              repeat (go_quiet (fail); try go_wp2)
              go_meet
              case rel => exact ⟨_, (true), (by first | rfl | (simp; done) | (simp [*]; done)), H', ⟨by have := HK1.out; first | omega | exact Nat.le_refl _⟩, ⟨by (with_reducible repeat (first | apply Kd.R_alloc | apply Kd.R_drewN | apply Kd.R_drew)); exact HO_9.out⟩, ⟨by repeat (first | (with_reducible first | exact HB.out | apply below_alloc | apply pw_below_drewN | apply below_drew1) | exact HB.out)⟩⟩
          case rest =>
            clear HC15
            try clear c1
            try clear p1
            try clear q1
            try clear hx1
            try clear p2
            try clear c5
            try clear c5b0
            try clear c5b1
            try clear c6
            try clear c6b0
            try clear p6
            try clear c7
            try clear c7b0
            try clear c9
            try clear c9b0
            try clear c9b1
            try clear c16
            try clear c16b0
            try clear c16b1
            try clear p16
            try clear q16
            try clear hx16
            try clear hx169_0
            try clear p169
            try clear p2
            try clear q169
            obtain ⟨kq, x78_14, rfl, HA, HJ14, HO_9, HB⟩ := hcut
            cases kq with
            | zero => exact absurd HA.out (by simp [bellwetherlaw15_KeepLast.j1])
            | succ kj14 =>
              have H := HA.out
              clear HA
              simp only [bellwetherlaw15_KeepLast.j1] at H
              by_cases c21 : x78_14 = true
              · subst c21
                have H1 : (some false) = some r := by rw [if_pos rfl] at H; exact H
                clear H
                have H := H1
                clear H1
                obtain rfl := Option.some.inj H
                go_wp2
                repeat (go_quiet (fail); try go_wp2)
                go_ret
                exact ⟨by first | rfl | (simp [errW_none, errW_some] <;> rfl) | (simp only [← hji14]; first | rfl | (simp [errW_none, errW_some] <;> rfl)) | (simp [*, errW_none, errW_some] <;> rfl), by repeat (first | (with_reducible first | exact HB.out | apply below_alloc | apply pw_below_drewN | apply below_drew1) | exact HB.out)⟩
              · replace c21 := Bool.eq_false_iff.mpr c21
                subst c21
                have H1 : (bellwetherlaw15_KeepLast.l1 kj14 l0 (wrap64 (1 + (wrap64 (Int.tmod (IntKind.u64.wrap (a2)) 16)))) a3 x9_1 x10_1 ji14 0) = some r := by rw [if_neg (show ¬ (false = true) by decide)] at H; exact H
                clear H
                have H := H1
                clear H1
                have H' := Aside0.mk H
                clear H
                go_wp2
                repeat (go_quiet (fail); try go_wp2)
                go_loopg [15] kj14 (fun kq v15 w' => ∃ (x15_3 : Int), v15 = .int .i64 x15_3 ∧ Aside0 (bellwetherlaw15_KeepLast.l1 kq l0 (wrap64 (1 + (wrap64 (Int.tmod (IntKind.u64.wrap (a2)) 16)))) a3 x9_1 x10_1 ji14 x15_3 = some r) ∧ Aside0 (kq ≤ kj14) ∧ Aside0 (Kd.R k51 51 w' w.heap.size (fun _ => True) u9 x9_1) ∧ Aside0 (Below w.heap.size w w'))
                case atStart => exact ⟨(0), (by first | rfl | (simp; done) | (simp [*]; done)), H', ⟨Nat.le_refl _⟩, ⟨by (with_reducible repeat (first | apply Kd.R_alloc | apply Kd.R_drewN | apply Kd.R_drew)); exact HO_9.out⟩, ⟨by repeat (first | (with_reducible first | exact HB.out | apply below_alloc | apply pw_below_drewN | apply below_drew1) | exact HB.out)⟩⟩
                case round => as_aux_lemma =>
                  clear H'
                  try clear c1
                  try clear p1
                  try clear q1
                  try clear hx1
                  try clear c2
                  try clear p2
                  try clear c5
                  try clear c5b0
                  try clear c5b1
                  try clear c6
                  try clear c6b0
                  try clear p6
                  try clear c7
                  try clear c7b0
                  try clear c9
                  try clear c9b0
                  try clear c9b1
                  try clear c16
                  try clear c16b0
                  try clear c16b1
                  try clear p16
                  try clear q16
                  try clear hx16
                  try clear c21
                  try clear hx169_0
                  try clear p1
                  try clear p16
                  try clear p169
                  try clear p2
                  try clear p6
                  try clear q1
                  try clear q16
                  try clear q169
                  obtain ⟨x15_3, rfl, HA, HK3, HO_9, HB⟩ := hrel
                  cases gk with
                  | zero => exact absurd HA.out (by simp [bellwetherlaw15_KeepLast.l1])
                  | succ k3 =>
                    have H := HA.out
                    clear HA
                    simp only [bellwetherlaw15_KeepLast.l1] at H
                    by_cases c22 : x15_3 < ji14
                    · rw [if_pos c22] at H
                      have c22b0 : decide (x15_3 < ji14) = true := decide_eq_true c22
                      clear c22
                      by_cases c23 : 0 ≤ x15_3
                      · rw [if_pos c23] at H
                        have c23b0 : decide (0 ≤ x15_3) = true := decide_eq_true c23
                        clear c23
                        by_cases c24 : x15_3 < (x9_1.length : Int)
                        · rw [if_pos c24] at H
                          have c24b0 : decide (x15_3 < (x9_1.length : Int)) = true := decide_eq_true c24
                          clear c24
                          by_cases c25 : ((rd_T51 x9_1 x15_3).f0) = (wrap64 ((wrap64 (x10_1 - ji14)) + x15_3))
                          · rw [if_pos c25] at H
                            have c25b0 : (((rd_T51 x9_1 x15_3).f0) == (wrap64 ((wrap64 (x10_1 - ji14)) + x15_3))) = true := beq_iff_eq.mpr c25
                            have c25b1 : (((rd_T51 x9_1 x15_3).f0) != (wrap64 ((wrap64 (x10_1 - ji14)) + x15_3))) = false := bne_eq_false_iff_eq.mpr c25
                            clear c25
                            obtain ⟨ji26, hji26⟩ : ∃ j_ : Int, (wrap64 ((wrap64 ((l0.length : Int) - ji14)) + x15_3)) = j_ := ⟨_, rfl⟩
                            replace H : (if 0 ≤ (ji26) then (if (ji26) < (l0.length : Int) then (if ((rd_T51 x9_1 x15_3).f1) = (wrap64 (Int.tmod (IntKind.u64.wrap (rd l0 (ji26))) 1000)) then (bellwetherlaw15_KeepLast.l1 k3 l0 (wrap64 (1 + (wrap64 (Int.tmod (IntKind.u64.wrap (a2)) 16)))) a3 x9_1 x10_1 ji14 (wrap64 (x15_3 + 1))) else (some false)) else (none)) else (none)) = some r := by first | (rw [hji26] at H; exact H) | (simp only [hji26] at H ⊢; exact H)
                            have hji26w : (IntKind.i64.wrap ((wrap64 ((l0.length : Int) - ji14)) + x15_3)) = ji26 := (i64_w _).trans hji26
                            by_cases c27 : 0 ≤ (ji26)
                            · rw [if_pos c27] at H
                              have c27b0 : decide (0 ≤ (ji26)) = true := decide_eq_true c27
                              clear c27
                              by_cases c28 : (ji26) < (l0.length : Int)
                              · rw [if_pos c28] at H
                                have c28b0 : decide ((ji26) < (l0.length : Int)) = true := decide_eq_true c28
                                clear c28
                                by_cases c29 : ((rd_T51 x9_1 x15_3).f1) = (wrap64 (Int.tmod (IntKind.u64.wrap (rd l0 (ji26))) 1000))
                                · rw [if_pos c29] at H
                                  have c29b0 : (((rd_T51 x9_1 x15_3).f1) == (wrap64 (Int.tmod (IntKind.u64.wrap (rd l0 (ji26))) 1000))) = true := beq_iff_eq.mpr c29
                                  have c29b1 : (((rd_T51 x9_1 x15_3).f1) != (wrap64 (Int.tmod (IntKind.u64.wrap (rd l0 (ji26))) 1000))) = false := bne_eq_false_iff_eq.mpr c29
                                  clear c29
                                  have H' := Aside0.mk H
                                  clear H
                                  obtain ⟨Ao30, co30, eo30⟩ := Kd.R_slice HO_9.out
                                  subst eo30
                                  have p175 : 0 ≤ (x15_3 : Int) := of_decide_eq_true (by first | (with_reducible assumption) | assumption)
                                  have q175 : x15_3 < (x9_1.length : Int) := of_decide_eq_true (by first | (with_reducible assumption) | assumption)
                                  obtain ⟨ad175, e175, hx175_0, hx175_1⟩ := at_T51 (Kd.R_reads' HO_9.out).2.2 x15_3 p175 q175
                                  cases e175
                                  replace p175 := eq_true p175
                                  replace q175 := eq_true q175
                                  have p176 : 0 ≤ (x15_3 : Int) := of_decide_eq_true (by first | (with_reducible assumption) | assumption)
                                  have q176 : x15_3 < (x9_1.length : Int) := of_decide_eq_true (by first | (with_reducible assumption) | assumption)
                                  obtain ⟨ad176, e176, hx176_0, hx176_1⟩ := at_T51 (Kd.R_reads' HO_9.out).2.2 x15_3 p176 q176
                                  obtain rfl : ad175 = ad176 := (by injection e176)
                                  replace p176 := eq_true p176
                                  replace q176 := eq_true q176
                                  have p177 : 0 ≤ ((ji26) : Int) := of_decide_eq_true (by first | (with_reducible assumption) | assumption)
                                  have q177 : (ji26) < (l0.length : Int) := of_decide_eq_true (by first | (with_reducible assumption) | assumption)
                                  obtain ⟨ad177, e177, hx177_0⟩ := Kd.at_int HR0.out (ji26) p177 q177
                                  cases e177
                                  replace hx177_0 := (HB.out.cell (World.block_lt_of_cell? w _ hx177_0)).trans hx177_0
                                  replace p177 := eq_true p177
                                  replace q177 := eq_true q177
                                  go_wp2
                                  repeat (go_quiet (fail); try go_wp2)
                                  go_roundg k3
                                  case measure => have := HK1.out; have := HJ14.out; have := HK3.out; omega
                                  case rel => exact ⟨(wrap64 (x15_3 + 1)), (by first | rfl | (simp; done) | (simp [*]; done)), H', ⟨by have := HK1.out; have := HJ14.out; have := HK3.out; omega⟩, ⟨by (with_reducible repeat (first | apply Kd.R_alloc | apply Kd.R_drewN | apply Kd.R_drew)); exact HO_9.out⟩, ⟨by repeat (first | (with_reducible first | exact HB.out | apply below_alloc | apply pw_below_drewN | apply below_drew1) | exact HB.out)⟩⟩
                                · rw [if_neg c29] at H
                                  have c29b0 : (((rd_T51 x9_1 x15_3).f1) == (wrap64 (Int.tmod (IntKind.u64.wrap (rd l0 (ji26))) 1000))) = false := beq_eq_false_iff_ne.mpr c29
                                  have c29b1 : (((rd_T51 x9_1 x15_3).f1) != (wrap64 (Int.tmod (IntKind.u64.wrap (rd l0 (ji26))) 1000))) = true := bne_iff_ne.mpr c29
                                  obtain rfl := Option.some.inj H
                                  obtain ⟨Ao31, co31, eo31⟩ := Kd.R_slice HO_9.out
                                  subst eo31
                                  have p175 : 0 ≤ (x15_3 : Int) := of_decide_eq_true (by first | (with_reducible assumption) | assumption)
                                  have q175 : x15_3 < (x9_1.length : Int) := of_decide_eq_true (by first | (with_reducible assumption) | assumption)
                                  obtain ⟨ad175, e175, hx175_0, hx175_1⟩ := at_T51 (Kd.R_reads' HO_9.out).2.2 x15_3 p175 q175
                                  cases e175
                                  replace p175 := eq_true p175
                                  replace q175 := eq_true q175
                                  have p176 : 0 ≤ (x15_3 : Int) := of_decide_eq_true (by first | (with_reducible assumption) | assumption)
                                  have q176 : x15_3 < (x9_1.length : Int) := of_decide_eq_true (by first | (with_reducible assumption) | assumption)
                                  obtain ⟨ad176, e176, hx176_0, hx176_1⟩ := at_T51 (Kd.R_reads' HO_9.out).2.2 x15_3 p176 q176
                                  obtain rfl : ad175 = ad176 := (by injection e176)
                                  replace p176 := eq_true p176
                                  replace q176 := eq_true q176
                                  have p177 : 0 ≤ ((ji26) : Int) := of_decide_eq_true (by first | (with_reducible assumption) | assumption)
                                  have q177 : (ji26) < (l0.length : Int) := of_decide_eq_true (by first | (with_reducible assumption) | assumption)
                                  obtain ⟨ad177, e177, hx177_0⟩ := Kd.at_int HR0.out (ji26) p177 q177
                                  cases e177
                                  replace hx177_0 := (HB.out.cell (World.block_lt_of_cell? w _ hx177_0)).trans hx177_0
                                  replace p177 := eq_true p177
                                  replace q177 := eq_true q177
                                  go_wp2
                                  repeat (go_quiet (fail); try go_wp2)
                                  go_ret
                                  exact ⟨by first | rfl | (simp [errW_none, errW_some] <;> rfl) | (simp only [← hji14, ← hji26]; first | rfl | (simp [errW_none, errW_some] <;> rfl)) | (simp [*, errW_none, errW_some] <;> rfl), by repeat (first | (with_reducible first | exact HB.out | apply below_alloc | apply pw_below_drewN | apply below_drew1) | exact HB.out)⟩
                              · rw [if_neg c28] at H
                                exact absurd H (by simp)
                            · rw [if_neg c27] at H
                              exact absurd H (by simp)
                          · rw [if_neg c25] at H
                            have c25b0 : (((rd_T51 x9_1 x15_3).f0) == (wrap64 ((wrap64 (x10_1 - ji14)) + x15_3))) = false := beq_eq_false_iff_ne.mpr c25
                            have c25b1 : (((rd_T51 x9_1 x15_3).f0) != (wrap64 ((wrap64 (x10_1 - ji14)) + x15_3))) = true := bne_iff_ne.mpr c25
                            obtain rfl := Option.some.inj H
                            obtain ⟨Ao32, co32, eo32⟩ := Kd.R_slice HO_9.out
                            subst eo32
                            have p175 : 0 ≤ (x15_3 : Int) := of_decide_eq_true (by first | (with_reducible assumption) | assumption)
                            have q175 : x15_3 < (x9_1.length : Int) := of_decide_eq_true (by first | (with_reducible assumption) | assumption)
                            obtain ⟨ad175, e175, hx175_0, hx175_1⟩ := at_T51 (Kd.R_reads' HO_9.out).2.2 x15_3 p175 q175
                            cases e175
                            replace p175 := eq_true p175
                            replace q175 := eq_true q175
                            go_wp2
                            repeat (go_quiet (fail); try go_wp2)
                            go_ret
                            exact ⟨by first | rfl | (simp [errW_none, errW_some] <;> rfl) | (simp only [← hji14]; first | rfl | (simp [errW_none, errW_some] <;> rfl)) | (simp [*, errW_none, errW_some] <;> rfl), by repeat (first | (with_reducible first | exact HB.out | apply below_alloc | apply pw_below_drewN | apply below_drew1) | exact HB.out)⟩
                        · rw [if_neg c24] at H
                          exact absurd H (by simp)
                      · rw [if_neg c23] at H
                        exact absurd H (by simp)
                    · rw [if_neg c22] at H
                      have c22b0 : decide (x15_3 < ji14) = false := decide_eq_false c22
                      clear c22
                      by_cases c33 : (IntKind.u64.wrap (wrap64 (x10_1 + 3))) = 0
                      · rw [if_pos c33] at H
                        exact absurd H (by simp)
                      · rw [if_neg c33] at H
                        have c33b0 : ((IntKind.u64.wrap (wrap64 (x10_1 + 3))) == 0) = false := beq_eq_false_iff_ne.mpr c33
                        have c33b1 : ((IntKind.u64.wrap (wrap64 (x10_1 + 3))) != 0) = true := bne_iff_ne.mpr c33
                        have H' := Aside0.mk H
                        clear H
                        go_wp2
                        repeat (go_quiet (fail); try go_wp2)
                        go_loopg [16, 17] k3 (fun kq v16 v17 w' => ∃ (x16_4 : Int) (x17_4 : Int), v16 = .int .i64 x16_4 ∧ v17 = .int .i64 x17_4 ∧ Aside0 (bellwetherlaw15_KeepLast.l2 kq (wrap64 (1 + (wrap64 (Int.tmod (IntKind.u64.wrap (a2)) 16)))) x9_1 x10_1 ji14 x16_4 x17_4 = some r) ∧ Aside0 (kq ≤ k3) ∧ Aside0 (Kd.R k51 51 w' w.heap.size (fun _ => True) u9 x9_1) ∧ Aside0 (Below w.heap.size w w'))
                        case atStart => exact ⟨(wrap64 (1 + (wrap64 (Int.tmod (IntKind.u64.wrap (a3)) (IntKind.u64.wrap (wrap64 (x10_1 + 3))))))), (0), (by first | rfl | (simp; done) | (simp [*]; done)), (by first | rfl | (simp; done) | (simp [*]; done)), H', ⟨Nat.le_refl _⟩, ⟨by (with_reducible repeat (first | apply Kd.R_alloc | apply Kd.R_drewN | apply Kd.R_drew)); exact HO_9.out⟩, ⟨by repeat (first | (with_reducible first | exact HB.out | apply below_alloc | apply pw_below_drewN | apply below_drew1) | exact HB.out)⟩⟩
                        case round => as_aux_lemma =>
                          clear H'
                          try clear c1
                          try clear p1
                          try clear q1
                          try clear hx1
                          try clear c2
                          try clear p2
                          try clear c3
                          try clear c5
                          try clear c5b0
                          try clear c5b1
                          try clear c6
                          try clear c6b0
                          try clear p6
                          try clear c7
                          try clear c7b0
                          try clear c9
                          try clear c9b0
                          try clear c9b1
                          try clear c16
                          try clear c16b0
                          try clear c16b1
                          try clear p16
                          try clear q16
                          try clear hx16
                          try clear p17
                          try clear q17
                          try clear hx17
                          try clear c21
                          try clear c22
                          try clear c22b0
                          try clear c23
                          try clear c23b0
                          try clear c24
                          try clear c24b0
                          try clear c25
                          try clear c25b0
                          try clear c25b1
                          try clear c27
                          try clear c27b0
                          try clear c28
                          try clear c28b0
                          try clear c29
                          try clear c29b0
                          try clear c29b1
                          try clear c33
                          try clear c33b0
                          try clear c33b1
                          try clear hx169_0
                          try clear hx175_0
                          try clear hx175_1
                          try clear hx176_0
                          try clear hx176_1
                          try clear hx177_0
                          try clear p1
                          try clear p16
                          try clear p169
                          try clear p175
                          try clear p176
                          try clear p177
                          try clear p2
                          try clear p6
                          try clear q1
                          try clear q16
                          try clear q169
                          try clear q175
                          try clear q176
                          try clear q177
                          obtain ⟨x16_4, x17_4, rfl, rfl, HA, HK4, HO_9, HB⟩ := hrel
                          cases gk with
                          | zero => exact absurd HA.out (by simp [bellwetherlaw15_KeepLast.l2])
                          | succ k4 =>
                            have H := HA.out
                            clear HA
                            simp only [bellwetherlaw15_KeepLast.l2] at H
                            have HC34 := Aside0.mk H
                            clear H
                            go_upto_region 24 with (fail)
                            repeat (go_quiet (fail); go_upto_region 24 with (fail))
                            go_cut [130] (fun v130 wc => ∃ (kq : Nat) (x130_33 : Bool), v130 = .bool x130_33 ∧ Aside0 (bellwetherlaw15_KeepLast.j4 kq (wrap64 (1 + (wrap64 (Int.tmod (IntKind.u64.wrap (a2)) 16)))) x9_1 x10_1 ji14 x16_4 x17_4 x130_33 = some r) ∧ Aside0 (kq ≤ k4) ∧ Aside0 (Kd.R k51 51 wc w.heap.size (fun _ => True) u9 x9_1) ∧ Aside0 (Below w.heap.size w wc))
                            case first =>
                              have H := HC34.out
                              clear HC34
                              by_cases c35 : x17_4 < 20
                              · rw [if_pos c35] at H
                                have c35b0 : decide (x17_4 < 20) = true := decide_eq_true c35
                                clear c35
                                (first | rw [c35b0] | (simp only [i64_w, i32_w]; rw [c35b0]) | skip)
                                have H' := Aside0.mk H
                                clear H
                                go_wp2
                                repeat (go_quiet (fail); try go_wp2)
                                go_meet
                                case rel => exact ⟨_, (decide (x16_4 < x10_1)), (by first | rfl | (simp; done) | (simp [*]; done)), H', ⟨by have := HK1.out; have := HJ14.out; have := HK3.out; have := HK4.out; first | omega | exact Nat.le_refl _⟩, ⟨by (with_reducible repeat (first | apply Kd.R_alloc | apply Kd.R_drewN | apply Kd.R_drew)); exact HO_9.out⟩, ⟨by repeat (first | (with_reducible first | exact HB.out | apply below_alloc | apply pw_below_drewN | apply below_drew1) | exact HB.out)⟩⟩
                              · rw [if_neg c35] at H
                                have c35b0 : decide (x17_4 < 20) = false := decide_eq_false c35
                                clear c35
                                (first | rw [c35b0] | (simp only [i64_w, i32_w]; rw [c35b0]) | skip)
                                have H' := Aside0.mk H
                                clear H
                                go_wp2
                                repeat (go_quiet (fail); try go_wp2)
                                go_meet
                                case rel => exact ⟨_, (false), (by first | rfl | (simp; done) | (simp [*]; done)), H', ⟨by have := HK1.out; have := HJ14.out; have := HK3.out; have := HK4.out; first | omega | exact Nat.le_refl _⟩, ⟨by (with_reducible repeat (first | apply Kd.R_alloc | apply Kd.R_drewN | apply Kd.R_drew)); exact HO_9.out⟩, ⟨by repeat (first | (with_reducible first | exact HB.out | apply below_alloc | apply pw_below_drewN | apply below_drew1) | exact HB.out)⟩⟩
                            case rest =>
                              clear HC34
                              try clear c1
                              try clear p1
                              try clear q1
                              try clear hx1
                              try clear c2
                              try clear p2
                              try clear c3
                              try clear c5
                              try clear c5b0
                              try clear c5b1
                              try clear c6
                              try clear c6b0
                              try clear p6
                              try clear c7
                              try clear c7b0
                              try clear c9
                              try clear c9b0
                              try clear c9b1
                              try clear c16
                              try clear c16b0
                              try clear c16b1
                              try clear p16
                              try clear q16
                              try clear hx16
                              try clear p17
                              try clear q17
                              try clear hx17
                              try clear c21
                              try clear c22
                              try clear c22b0
                              try clear c23
                              try clear c23b0
                              try clear c24
                              try clear c24b0
                              try clear c25
                              try clear c25b0
                              try clear c25b1
                              try clear c27
                              try clear c27b0
                              try clear c28
                              try clear c28b0
                              try clear c29
                              try clear c29b0
                              try clear c29b1
                              try clear c33
                              try clear c33b0
                              try clear c33b1
                              try clear c35
                              try clear c35b0
                              try clear hx169_0
                              try clear hx175_0
                              try clear hx175_1
                              try clear hx176_0
                              try clear hx176_1
                              try clear hx177_0
                              try clear p1
                              try clear p16
                              try clear p169
                              try clear p17
                              try clear p175
                              try clear p176
                              try clear p177
                              try clear p2
                              try clear p6
                              try clear q1
                              try clear q16
                              try clear q169
                              try clear q17
                              try clear q175
                              try clear q176
                              try clear q177
                              obtain ⟨kq, x130_33, rfl, HA, HJ33, HO_9, HB⟩ := hcut
                              cases kq with
                              | zero => exact absurd HA.out (by simp [bellwetherlaw15_KeepLast.j4])
                              | succ kj33 =>
                                have H := HA.out
                                clear HA
                                simp only [bellwetherlaw15_KeepLast.j4] at H
                                by_cases c36 : x130_33 = true
                                · subst c36
                                  have H1 : ((keep_Again.f kj33 x9_1 x10_1 (wrap64 (1 + (wrap64 (Int.tmod (IntKind.u64.wrap (a2)) 16)))) x16_4).bind fun bt184 => (if bt184.2.2 = 0 then (if (bt184.2.1.length : Int) > 8 then (bellwetherlaw15_KeepLast.j5 kj33 (wrap64 (1 + (wrap64 (Int.tmod (IntKind.u64.wrap (a2)) 16)))) x9_1 x10_1 ji14 x16_4 x17_4 bt184.1 bt184.2.1 true) else (if bt184.1 > 0 then (if (x16_4 < (wrap64 (x10_1 - ji14))) then (bellwetherlaw15_KeepLast.j5 kj33 (wrap64 (1 + (wrap64 (Int.tmod (IntKind.u64.wrap (a2)) 16)))) x9_1 x10_1 ji14 x16_4 x17_4 bt184.1 bt184.2.1 (bt184.1 != (wrap64 ((wrap64 (x10_1 - ji14)) - 1)))) else (bellwetherlaw15_KeepLast.j5 kj33 (wrap64 (1 + (wrap64 (Int.tmod (IntKind.u64.wrap (a2)) 16)))) x9_1 x10_1 ji14 x16_4 x17_4 bt184.1 bt184.2.1 true)) else (if x16_4 < (wrap64 (x10_1 - ji14)) then (bellwetherlaw15_KeepLast.j5 kj33 (wrap64 (1 + (wrap64 (Int.tmod (IntKind.u64.wrap (a2)) 16)))) x9_1 x10_1 ji14 x16_4 x17_4 bt184.1 bt184.2.1 true) else (bellwetherlaw15_KeepLast.j5 kj33 (wrap64 (1 + (wrap64 (Int.tmod (IntKind.u64.wrap (a2)) 16)))) x9_1 x10_1 ji14 x16_4 x17_4 bt184.1 bt184.2.1 false)))) else (bellwetherlaw15_KeepLast.j5 kj33 (wrap64 (1 + (wrap64 (Int.tmod (IntKind.u64.wrap (a2)) 16)))) x9_1 x10_1 ji14 x16_4 x17_4 bt184.1 bt184.2.1 true))) = some r := by rw [if_pos rfl] at H; exact H
                                  clear H
                                  have H := H1
                                  clear H1
                                  replace H := Option.bind_eq_some_iff.mp H
                                  obtain ⟨⟨t184, t185, t186⟩, A370, H⟩ := H
                                  replace H : (if t186 = 0 then (if (t185.length : Int) > 8 then (bellwetherlaw15_KeepLast.j5 kj33 (wrap64 (1 + (wrap64 (Int.tmod (IntKind.u64.wrap (a2)) 16)))) x9_1 x10_1 ji14 x16_4 x17_4 t184 t185 true) else (if t184 > 0 then (if (x16_4 < (wrap64 (x10_1 - ji14))) then (bellwetherlaw15_KeepLast.j5 kj33 (wrap64 (1 + (wrap64 (Int.tmod (IntKind.u64.wrap (a2)) 16)))) x9_1 x10_1 ji14 x16_4 x17_4 t184 t185 (t184 != (wrap64 ((wrap64 (x10_1 - ji14)) - 1)))) else (bellwetherlaw15_KeepLast.j5 kj33 (wrap64 (1 + (wrap64 (Int.tmod (IntKind.u64.wrap (a2)) 16)))) x9_1 x10_1 ji14 x16_4 x17_4 t184 t185 true)) else (if x16_4 < (wrap64 (x10_1 - ji14)) then (bellwetherlaw15_KeepLast.j5 kj33 (wrap64 (1 + (wrap64 (Int.tmod (IntKind.u64.wrap (a2)) 16)))) x9_1 x10_1 ji14 x16_4 x17_4 t184 t185 true) else (bellwetherlaw15_KeepLast.j5 kj33 (wrap64 (1 + (wrap64 (Int.tmod (IntKind.u64.wrap (a2)) 16)))) x9_1 x10_1 ji14 x16_4 x17_4 t184 t185 false)))) else (bellwetherlaw15_KeepLast.j5 kj33 (wrap64 (1 + (wrap64 (Int.tmod (IntKind.u64.wrap (a2)) 16)))) x9_1 x10_1 ji14 x16_4 x17_4 t184 t185 true)) = some r := H
                                  have A37 := Aside0.mk A370
                                  clear A370
                                  have HC38 := Aside0.mk H
                                  clear H
                                  obtain ⟨Ao39, co39, eo39⟩ := Kd.R_slice HO_9.out
                                  subst eo39
                                  go_upto_region 27 with (first | (go_at_call 24; (with_reducible refine (keep_Again.calls kj33 _ _ x9_1 x10_1 (wrap64 (1 + (wrap64 (Int.tmod (IntKind.u64.wrap (a2)) 16)))) x16_4 t184 t185 t186 _ ?side1 ?side2 A37.out).mono ?_); (case side1 => repeat (first | exact (Kd.R_reads' HO_9.out).2.2 | (with_reducible refine Kd.C_alloc ?_ _) | (with_reducible refine Kd.C_drewN ?_ _) | (with_reducible refine Kd.C_drew ?_))); (case side2 => exact (Kd.R_reads' HO_9.out).2.1); rintro e w40 ⟨v187, rfl, ho0, hb⟩; have n0_ := Aside0.mk (Kd.R_elder' (by (with_reducible repeat (first | apply Kd.R_alloc | apply Kd.R_drewN | apply Kd.R_drew)); exact HO_9.out) (Kd.R_base ho0) hb); have n1_ := Aside0.mk (Kd.R_lower (Kd.R_new' ho0 (Kd.R_lt (by (with_reducible repeat (first | apply Kd.R_alloc | apply Kd.R_drewN | apply Kd.R_drew)); exact HO_9.out))) (below_size (by repeat (first | (with_reducible first | exact HB.out | apply below_alloc | apply pw_below_drewN | apply below_drew1) | exact HB.out)))); have n2_ := Aside0.mk (below_step (by repeat (first | (with_reducible first | exact HB.out | apply below_alloc | apply pw_below_drewN | apply below_drew1) | exact HB.out)) hb); clear HO_9; clear HB; have HO_9 := n0_; have HO188 := n1_; have HB := n2_; clear n0_ n1_ n2_; (try clear hb); (try clear hb2); (try clear hk); (try clear hi); (try clear ho0)))
                                  repeat (go_quiet (first | (go_at_call 24; (with_reducible refine (keep_Again.calls kj33 _ _ x9_1 x10_1 (wrap64 (1 + (wrap64 (Int.tmod (IntKind.u64.wrap (a2)) 16)))) x16_4 t184 t185 t186 _ ?side1 ?side2 A37.out).mono ?_); (case side1 => repeat (first | exact (Kd.R_reads' HO_9.out).2.2 | (with_reducible refine Kd.C_alloc ?_ _) | (with_reducible refine Kd.C_drewN ?_ _) | (with_reducible refine Kd.C_drew ?_))); (case side2 => exact (Kd.R_reads' HO_9.out).2.1); rintro e w40 ⟨v187, rfl, ho0, hb⟩; have n0_ := Aside0.mk (Kd.R_elder' (by (with_reducible repeat (first | apply Kd.R_alloc | apply Kd.R_drewN | apply Kd.R_drew)); exact HO_9.out) (Kd.R_base ho0) hb); have n1_ := Aside0.mk (Kd.R_lower (Kd.R_new' ho0 (Kd.R_lt (by (with_reducible repeat (first | apply Kd.R_alloc | apply Kd.R_drewN | apply Kd.R_drew)); exact HO_9.out))) (below_size (by repeat (first | (with_reducible first | exact HB.out | apply below_alloc | apply pw_below_drewN | apply below_drew1) | exact HB.out)))); have n2_ := Aside0.mk (below_step (by repeat (first | (with_reducible first | exact HB.out | apply below_alloc | apply pw_below_drewN | apply below_drew1) | exact HB.out)) hb); clear HO_9; clear HB; have HO_9 := n0_; have HO188 := n1_; have HB := n2_; clear n0_ n1_ n2_; (try clear hb); (try clear hb2); (try clear hk); (try clear hi); (try clear ho0))); go_upto_region 27 with (first | (go_at_call 24; (with_reducible refine (keep_Again.calls kj33 _ _ x9_1 x10_1 (wrap64 (1 + (wrap64 (Int.tmod (IntKind.u64.wrap (a2)) 16)))) x16_4 t184 t185 t186 _ ?side1 ?side2 A37.out).mono ?_); (case side1 => repeat (first | exact (Kd.R_reads' HO_9.out).2.2 | (with_reducible refine Kd.C_alloc ?_ _) | (with_reducible refine Kd.C_drewN ?_ _) | (with_reducible refine Kd.C_drew ?_))); (case side2 => exact (Kd.R_reads' HO_9.out).2.1); rintro e w40 ⟨v187, rfl, ho0, hb⟩; have n0_ := Aside0.mk (Kd.R_elder' (by (with_reducible repeat (first | apply Kd.R_alloc | apply Kd.R_drewN | apply Kd.R_drew)); exact HO_9.out) (Kd.R_base ho0) hb); have n1_ := Aside0.mk (Kd.R_lower (Kd.R_new' ho0 (Kd.R_lt (by (with_reducible repeat (first | apply Kd.R_alloc | apply Kd.R_drewN | apply Kd.R_drew)); exact HO_9.out))) (below_size (by repeat (first | (with_reducible first | exact HB.out | apply below_alloc | apply pw_below_drewN | apply below_drew1) | exact HB.out)))); have n2_ := Aside0.mk (below_step (by repeat (first | (with_reducible first | exact HB.out | apply below_alloc | apply pw_below_drewN | apply below_drew1) | exact HB.out)) hb); clear HO_9; clear HB; have HO_9 := n0_; have HO188 := n1_; have HB := n2_; clear n0_ n1_ n2_; (try clear hb); (try clear hb2); (try clear hk); (try clear hi); (try clear ho0))))
                                  (try simp only [Act.put, List.setIfInBounds_toArray, List.set_cons_zero, List.set_cons_succ])
                                  go_cut [170] (fun v170 wc => ∃ (kq : Nat) (x170_37 : Bool), v170 = .bool x170_37 ∧ Aside0 (bellwetherlaw15_KeepLast.j5 kq (wrap64 (1 + (wrap64 (Int.tmod (IntKind.u64.wrap (a2)) 16)))) x9_1 x10_1 ji14 x16_4 x17_4 t184 t185 x170_37 = some r) ∧ Aside0 (kq ≤ kj33) ∧ Aside0 (Kd.R k51 51 wc w.heap.size (fun k_ => some k_ ≠ (v187 : Value).ownBlock) (.slice Ao39 x9_1.length co39) x9_1) ∧ Aside0 (Kd.R k51 51 wc w.heap.size (fun k_ => some k_ ≠ ((.slice Ao39 x9_1.length co39) : Value).ownBlock) v187 t185) ∧ Aside0 (Below w.heap.size w wc))
                                  case first =>
                                    have H := HC38.out
                                    clear HC38
                                    by_cases c41 : t186 = 0
                                    · rw [if_pos c41] at H
                                      have c41b0 : (t186 == 0) = true := beq_iff_eq.mpr c41
                                      have c41b1 : (t186 != 0) = false := bne_eq_false_iff_eq.mpr c41
                                      clear c41
                                      (first | rw [c41b0] | (simp only [i64_w, i32_w]; rw [c41b0]) | skip)
                                      by_cases c42 : (t185.length : Int) > 8
                                      · rw [if_pos c42] at H
                                        have c42b0 : decide (8 < (t185.length : Int)) = true := decide_eq_true c42
                                        have c42b1 : decide (8 < t185.length) = true := decide_eq_true (by omega)
                                        clear c42
                                        have H' := Aside0.mk H
                                        clear H
                                        obtain ⟨Ao43, co43, eo43⟩ := Kd.R_slice HO188.out
                                        subst eo43
                                        go_wp2
                                        repeat (go_quiet (fail); try go_wp2)
                                        go_meet
                                        case rel => exact ⟨_, (true), (by first | rfl | (simp; done) | (simp [*]; done)), H', ⟨by have := HK1.out; have := HJ14.out; have := HK3.out; have := HK4.out; have := HJ33.out; first | omega | exact Nat.le_refl _⟩, ⟨by (with_reducible repeat (first | apply Kd.R_alloc | apply Kd.R_drewN | apply Kd.R_drew)); exact Kd.R_mono HO_9.out (fun _ hk => hk.2)⟩, ⟨by (with_reducible repeat (first | apply Kd.R_alloc | apply Kd.R_drewN | apply Kd.R_drew)); exact Kd.R_mono HO188.out (fun _ hk => hk.2)⟩, ⟨by repeat (first | (with_reducible first | exact HB.out | apply below_alloc | apply pw_below_drewN | apply below_drew1) | exact HB.out)⟩⟩
                                      · rw [if_neg c42] at H
                                        have c42b0 : decide (8 < (t185.length : Int)) = false := decide_eq_false c42
                                        have c42b1 : decide (8 < t185.length) = false := decide_eq_false (by omega)
                                        clear c42
                                        by_cases c44 : t184 > 0
                                        · rw [if_pos c44] at H
                                          have c44b0 : decide (0 < t184) = true := decide_eq_true c44
                                          clear c44
                                          by_cases c45 : (x16_4 < (wrap64 (x10_1 - ji14)))
                                          · rw [if_pos c45] at H
                                            have c45b0 : decide (x16_4 < (wrap64 (x10_1 - ji14))) = true := decide_eq_true c45
                                            clear c45
                                            have H' := Aside0.mk H
                                            clear H
                                            obtain ⟨Ao46, co46, eo46⟩ := Kd.R_slice HO188.out
                                            subst eo46
                                            go_wp2
                                            repeat (go_quiet (fail); try go_wp2)
                                            go_meet
                                            case rel => exact ⟨_, ((t184 != (wrap64 ((wrap64 (x10_1 - ji14)) - 1)))), (by first | rfl | (simp; done) | (simp only [← hji14] <;> (first | rfl | simp)) | (simp [*]; done)), H', ⟨by have := HK1.out; have := HJ14.out; have := HK3.out; have := HK4.out; have := HJ33.out; first | omega | exact Nat.le_refl _⟩, ⟨by (with_reducible repeat (first | apply Kd.R_alloc | apply Kd.R_drewN | apply Kd.R_drew)); exact Kd.R_mono HO_9.out (fun _ hk => hk.2)⟩, ⟨by (with_reducible repeat (first | apply Kd.R_alloc | apply Kd.R_drewN | apply Kd.R_drew)); exact Kd.R_mono HO188.out (fun _ hk => hk.2)⟩, ⟨by repeat (first | (with_reducible first | exact HB.out | apply below_alloc | apply pw_below_drewN | apply below_drew1) | exact HB.out)⟩⟩
                                          · rw [if_neg c45] at H
                                            have c45b0 : decide (x16_4 < (wrap64 (x10_1 - ji14))) = false := decide_eq_false c45
                                            clear c45
                                            have H' := Aside0.mk H
                                            clear H
                                            obtain ⟨Ao47, co47, eo47⟩ := Kd.R_slice HO188.out
                                            subst eo47
                                            go_wp2
                                            repeat (go_quiet (fail); try go_wp2)
                                            go_meet
                                            case rel => exact ⟨_, (true), (by first | rfl | (simp; done) | (simp [*]; done)), H', ⟨by have := HK1.out; have := HJ14.out; have := HK3.out; have := HK4.out; have := HJ33.out; first | omega | exact Nat.le_refl _⟩, ⟨by (with_reducible repeat (first | apply Kd.R_alloc | apply Kd.R_drewN | apply Kd.R_drew)); exact Kd.R_mono HO_9.out (fun _ hk => hk.2)⟩, ⟨by (with_reducible repeat (first | apply Kd.R_alloc | apply Kd.R_drewN | apply Kd.R_drew)); exact Kd.R_mono HO188.out (fun _ hk => hk.2)⟩, ⟨by repeat (first | (with_reducible first | exact HB.out | apply below_alloc | apply pw_below_drewN | apply below_drew1) | exact HB.out)⟩⟩
                                        · rw [if_neg c44] at H
                                          have c44b0 : decide (0 < t184) = false := decide_eq_false c44
                                          clear c44
                                          by_cases c48 : x16_4 < (wrap64 (x10_1 - ji14))
                                          · rw [if_pos c48] at H
                                            have c48b0 : decide (x16_4 < (wrap64 (x10_1 - ji14))) = true := decide_eq_true c48
                                            clear c48
                                            have H' := Aside0.mk H
                                            clear H
                                            obtain ⟨Ao49, co49, eo49⟩ := Kd.R_slice HO188.out
                                            subst eo49
                                            go_wp2
                                            repeat (go_quiet (fail); try go_wp2)
                                            go_meet
                                            case rel => exact ⟨_, (true), (by first | rfl | (simp; done) | (simp [*]; done)), H', ⟨by have := HK1.out; have := HJ14.out; have := HK3.out; have := HK4.out; have := HJ33.out; first | omega | exact Nat.le_refl _⟩, ⟨by (with_reducible repeat (first | apply Kd.R_alloc | apply Kd.R_drewN | apply Kd.R_drew)); exact Kd.R_mono HO_9.out (fun _ hk => hk.2)⟩, ⟨by (with_reducible repeat (first | apply Kd.R_alloc | apply Kd.R_drewN | apply Kd.R_drew)); exact Kd.R_mono HO188.out (fun _ hk => hk.2)⟩, ⟨by repeat (first | (with_reducible first | exact HB.out | apply below_alloc | apply pw_below_drewN | apply below_drew1) | exact HB.out)⟩⟩
                                          · rw [if_neg c48] at H
                                            have c48b0 : decide (x16_4 < (wrap64 (x10_1 - ji14))) = false := decide_eq_false c48
                                            clear c48
                                            have H' := Aside0.mk H
                                            clear H
                                            obtain ⟨Ao50, co50, eo50⟩ := Kd.R_slice HO188.out
                                            subst eo50
                                            go_wp2
                                            repeat (go_quiet (fail); try go_wp2)
                                            go_meet
                                            case rel => exact ⟨_, (false), (by first | rfl | (simp; done) | (simp [*]; done)), H', ⟨by have := HK1.out; have := HJ14.out; have := HK3.out; have := HK4.out; have := HJ33.out; first | omega | exact Nat.le_refl _⟩, ⟨by (with_reducible repeat (first | apply Kd.R_alloc | apply Kd.R_drewN | apply Kd.R_drew)); exact Kd.R_mono HO_9.out (fun _ hk => hk.2)⟩, ⟨by (with_reducible repeat (first | apply Kd.R_alloc | apply Kd.R_drewN | apply Kd.R_drew)); exact Kd.R_mono HO188.out (fun _ hk => hk.2)⟩, ⟨by repeat (first | (with_reducible first | exact HB.out | apply below_alloc | apply pw_below_drewN | apply below_drew1) | exact HB.out)⟩⟩
                                    · rw [if_neg c41] at H
                                      have c41b0 : (t186 == 0) = false := beq_eq_false_iff_ne.mpr c41
                                      have c41b1 : (t186 != 0) = true := bne_iff_ne.mpr c41
                                      (first | rw [c41b0] | (simp only [i64_w, i32_w]; rw [c41b0]) | skip)
                                      have H' := Aside0.mk H
                                      clear H
                                      go_wp2
                                      repeat (go_quiet (fail); try go_wp2)
                                      go_meet
                                      case rel => exact ⟨_, (true), (by first | rfl | (simp; done) | (simp [*]; done)), H', ⟨by have := HK1.out; have := HJ14.out; have := HK3.out; have := HK4.out; have := HJ33.out; first | omega | exact Nat.le_refl _⟩, ⟨by (with_reducible repeat (first | apply Kd.R_alloc | apply Kd.R_drewN | apply Kd.R_drew)); exact Kd.R_mono HO_9.out (fun _ hk => hk.2)⟩, ⟨by (with_reducible repeat (first | apply Kd.R_alloc | apply Kd.R_drewN | apply Kd.R_drew)); exact Kd.R_mono HO188.out (fun _ hk => hk.2)⟩, ⟨by repeat (first | (with_reducible first | exact HB.out | apply below_alloc | apply pw_below_drewN | apply below_drew1) | exact HB.out)⟩⟩
                                  case rest =>
                                    clear HC38
                                    try clear c1
                                    try clear p1
                                    try clear q1
                                    try clear hx1
                                    try clear c2
                                    try clear p2
                                    try clear c3
                                    try clear c4
                                    try clear c5
                                    try clear c5b0
                                    try clear c5b1
                                    try clear c6
                                    try clear c6b0
                                    try clear p6
                                    try clear c7
                                    try clear c7b0
                                    try clear c9
                                    try clear c9b0
                                    try clear c9b1
                                    try clear c16
                                    try clear c16b0
                                    try clear c16b1
                                    try clear p16
                                    try clear q16
                                    try clear hx16
                                    try clear p17
                                    try clear q17
                                    try clear hx17
                                    try clear c21
                                    try clear c22
                                    try clear c22b0
                                    try clear c23
                                    try clear c23b0
                                    try clear c24
                                    try clear c24b0
                                    try clear c25
                                    try clear c25b0
                                    try clear c25b1
                                    try clear c27
                                    try clear c27b0
                                    try clear c28
                                    try clear c28b0
                                    try clear c29
                                    try clear c29b0
                                    try clear c29b1
                                    try clear c33
                                    try clear c33b0
                                    try clear c33b1
                                    try clear c35
                                    try clear c35b0
                                    try clear c36
                                    try clear c41
                                    try clear c41b0
                                    try clear c41b1
                                    try clear c42
                                    try clear c42b0
                                    try clear c42b1
                                    try clear c44
                                    try clear c44b0
                                    try clear c45
                                    try clear c45b0
                                    try clear c48
                                    try clear c48b0
                                    try clear hx169_0
                                    try clear hx175_0
                                    try clear hx175_1
                                    try clear hx176_0
                                    try clear hx176_1
                                    try clear hx177_0
                                    try clear p1
                                    try clear p16
                                    try clear p169
                                    try clear p17
                                    try clear p175
                                    try clear p176
                                    try clear p177
                                    try clear p2
                                    try clear p6
                                    try clear q1
                                    try clear q16
                                    try clear q169
                                    try clear q17
                                    try clear q175
                                    try clear q176
                                    try clear q177
                                    obtain ⟨kq, x170_37, rfl, HA, HJ37, HO_9, HO_19, HB⟩ := hcut
                                    cases kq with
                                    | zero => exact absurd HA.out (by simp [bellwetherlaw15_KeepLast.j5])
                                    | succ kj37 =>
                                      have H := HA.out
                                      clear HA
                                      simp only [bellwetherlaw15_KeepLast.j5] at H
                                      by_cases c51 : x170_37 = true
                                      · subst c51
                                        have H1 : (some false) = some r := by rw [if_pos rfl] at H; exact H
                                        clear H
                                        have H := H1
                                        clear H1
                                        obtain rfl := Option.some.inj H
                                        go_wp2
                                        repeat (go_quiet (fail); try go_wp2)
                                        go_ret
                                        exact ⟨by first | rfl | (simp [errW_none, errW_some] <;> rfl) | (simp only [← hji14]; first | rfl | (simp [errW_none, errW_some] <;> rfl)) | (simp [*, errW_none, errW_some] <;> rfl), by repeat (first | (with_reducible first | exact HB.out | apply below_alloc | apply pw_below_drewN | apply below_drew1) | exact HB.out)⟩
                                      · replace c51 := Bool.eq_false_iff.mpr c51
                                        subst c51
                                        have H1 : (bellwetherlaw15_KeepLast.l3 kj37 (wrap64 (1 + (wrap64 (Int.tmod (IntKind.u64.wrap (a2)) 16)))) x9_1 x10_1 ji14 (mx x16_4 (wrap64 (t184 + 1))) x17_4 t185 0) = some r := by rw [if_neg (show ¬ (false = true) by decide)] at H; exact H
                                        clear H
                                        have H := H1
                                        clear H1
                                        obtain ⟨ji52, hji52⟩ : ∃ j_ : Int, (mx x16_4 (wrap64 (t184 + 1))) = j_ := ⟨_, rfl⟩
                                        replace H : (bellwetherlaw15_KeepLast.l3 kj37 (wrap64 (1 + (wrap64 (Int.tmod (IntKind.u64.wrap (a2)) 16)))) x9_1 x10_1 ji14 ji52 x17_4 t185 0) = some r := by first | (rw [hji52] at H; exact H) | (simp only [hji52] at H ⊢; exact H)
                                        have hji52_ : (if x16_4 < (wrap64 (t184 + 1)) then (wrap64 (t184 + 1)) else x16_4) = ji52 := hji52
                                        have H' := Aside0.mk H
                                        clear H
                                        go_wp2
                                        repeat (go_quiet (fail); try go_wp2)
                                        go_loopg [16, 21] kj37 (fun kq v16 v21 w' => ∃ (x16_7 : Int) (x21_7 : Int), v16 = .int .i64 x16_7 ∧ v21 = .int .i64 x21_7 ∧ Aside0 (bellwetherlaw15_KeepLast.l3 kq (wrap64 (1 + (wrap64 (Int.tmod (IntKind.u64.wrap (a2)) 16)))) x9_1 x10_1 ji14 x16_7 x17_4 t185 x21_7 = some r) ∧ Aside0 (kq ≤ kj37) ∧ Aside0 (Kd.R k51 51 w' w.heap.size (fun k_ => some k_ ≠ (v187 : Value).ownBlock) (.slice Ao39 x9_1.length co39) x9_1) ∧ Aside0 (Kd.R k51 51 w' w.heap.size (fun k_ => some k_ ≠ ((.slice Ao39 x9_1.length co39) : Value).ownBlock) v187 t185) ∧ Aside0 (Below w.heap.size w w'))
                                        case atStart => exact ⟨(ji52), (0), (by first | rfl | (simp; done) | (simp only [← hji52] <;> (first | rfl | simp)) | (simp [*]; done)), (by first | rfl | (simp; done) | (simp [*]; done)), H', ⟨Nat.le_refl _⟩, ⟨by (with_reducible repeat (first | apply Kd.R_alloc | apply Kd.R_drewN | apply Kd.R_drew)); exact HO_9.out⟩, ⟨by (with_reducible repeat (first | apply Kd.R_alloc | apply Kd.R_drewN | apply Kd.R_drew)); exact HO_19.out⟩, ⟨by repeat (first | (with_reducible first | exact HB.out | apply below_alloc | apply pw_below_drewN | apply below_drew1) | exact HB.out)⟩⟩
                                        case round => as_aux_lemma =>
                                          clear H'
                                          try clear c1
                                          try clear p1
                                          try clear q1
                                          try clear hx1
                                          try clear c2
                                          try clear p2
                                          try clear c3
                                          try clear c4
                                          try clear c5
                                          try clear c5b0
                                          try clear c5b1
                                          try clear c6
                                          try clear c6b0
                                          try clear p6
                                          try clear c7
                                          try clear c7b0
                                          try clear c9
                                          try clear c9b0
                                          try clear c9b1
                                          try clear c16
                                          try clear c16b0
                                          try clear c16b1
                                          try clear p16
                                          try clear q16
                                          try clear hx16
                                          try clear p17
                                          try clear q17
                                          try clear hx17
                                          try clear c21
                                          try clear c22
                                          try clear c22b0
                                          try clear c23
                                          try clear c23b0
                                          try clear c24
                                          try clear c24b0
                                          try clear c25
                                          try clear c25b0
                                          try clear c25b1
                                          try clear c27
                                          try clear c27b0
                                          try clear c28
                                          try clear c28b0
                                          try clear c29
                                          try clear c29b0
                                          try clear c29b1
                                          try clear c33
                                          try clear c33b0
                                          try clear c33b1
                                          try clear c35
                                          try clear c35b0
                                          try clear c36
                                          try clear c41
                                          try clear c41b0
                                          try clear c41b1
                                          try clear c42
                                          try clear c42b0
                                          try clear c42b1
                                          try clear c44
                                          try clear c44b0
                                          try clear c45
                                          try clear c45b0
                                          try clear c48
                                          try clear c48b0
                                          try clear c51
                                          try clear hx169_0
                                          try clear hx175_0
                                          try clear hx175_1
                                          try clear hx176_0
                                          try clear hx176_1
                                          try clear hx177_0
                                          try clear p1
                                          try clear p16
                                          try clear p169
                                          try clear p17
                                          try clear p175
                                          try clear p176
                                          try clear p177
                                          try clear p2
                                          try clear p6
                                          try clear q1
                                          try clear q16
                                          try clear q169
                                          try clear q17
                                          try clear q175
                                          try clear q176
                                          try clear q177
                                          obtain ⟨x16_7, x21_7, rfl, rfl, HA, HK7, HO_9, HO_19, HB⟩ := hrel
                                          cases gk with
                                          | zero => exact absurd HA.out (by simp [bellwetherlaw15_KeepLast.l3])
                                          | succ k7 =>
                                            have H := HA.out
                                            clear HA
                                            simp only [bellwetherlaw15_KeepLast.l3] at H
                                            by_cases c53 : x21_7 < (t185.length : Int)
                                            · rw [if_pos c53] at H
                                              have c53b0 : decide (x21_7 < (t185.length : Int)) = true := decide_eq_true c53
                                              clear c53
                                              by_cases c54 : x16_7 ≥ x10_1
                                              · rw [if_pos c54] at H
                                                have c54b0 : decide (x10_1 ≤ x16_7) = true := decide_eq_true c54
                                                clear c54
                                                obtain rfl := Option.some.inj H
                                                obtain ⟨Ao55, co55, eo55⟩ := Kd.R_slice HO_19.out
                                                subst eo55
                                                go_wp2
                                                repeat (go_quiet (fail); try go_wp2)
                                                go_ret
                                                exact ⟨by first | rfl | (simp [errW_none, errW_some] <;> rfl) | (simp only [← hji14, ← hji52]; first | rfl | (simp [errW_none, errW_some] <;> rfl)) | (simp [*, errW_none, errW_some] <;> rfl), by repeat (first | (with_reducible first | exact HB.out | apply below_alloc | apply pw_below_drewN | apply below_drew1) | exact HB.out)⟩
                                              · rw [if_neg c54] at H
                                                have c54b0 : decide (x10_1 ≤ x16_7) = false := decide_eq_false c54
                                                clear c54
                                                by_cases c56 : x16_7 < (wrap64 (x10_1 - ji14))
                                                · rw [if_pos c56] at H
                                                  have c56b0 : decide (x16_7 < (wrap64 (x10_1 - ji14))) = true := decide_eq_true c56
                                                  clear c56
                                                  obtain rfl := Option.some.inj H
                                                  obtain ⟨Ao57, co57, eo57⟩ := Kd.R_slice HO_19.out
                                                  subst eo57
                                                  go_wp2
                                                  repeat (go_quiet (fail); try go_wp2)
                                                  go_ret
                                                  exact ⟨by first | rfl | (simp [errW_none, errW_some] <;> rfl) | (simp only [← hji14, ← hji52]; first | rfl | (simp [errW_none, errW_some] <;> rfl)) | (simp [*, errW_none, errW_some] <;> rfl), by repeat (first | (with_reducible first | exact HB.out | apply below_alloc | apply pw_below_drewN | apply below_drew1) | exact HB.out)⟩
                                                · rw [if_neg c56] at H
                                                  have c56b0 : decide (x16_7 < (wrap64 (x10_1 - ji14))) = false := decide_eq_false c56
                                                  clear c56
                                                  by_cases c58 : 0 ≤ x21_7
                                                  · rw [if_pos c58] at H
                                                    have c58b0 : decide (0 ≤ x21_7) = true := decide_eq_true c58
                                                    clear c58
                                                    by_cases c59 : ((rd_T51 t185 x21_7).f0) = x16_7
                                                    · rw [if_pos c59] at H
                                                      have c59b0 : (((rd_T51 t185 x21_7).f0) == x16_7) = true := beq_iff_eq.mpr c59
                                                      have c59b1 : (((rd_T51 t185 x21_7).f0) != x16_7) = false := bne_eq_false_iff_eq.mpr c59
                                                      clear c59
                                                      obtain ⟨ji60, hji60⟩ : ∃ j_ : Int, (wrap64 ((wrap64 (x16_7 - x10_1)) + ji14)) = j_ := ⟨_, rfl⟩
                                                      replace H : (if 0 ≤ (ji60) then (if (ji60) < (x9_1.length : Int) then (if (!(((rd_T51 t185 x21_7).f0) == ((rd_T51 x9_1 (ji60)).f0)) || (!(((rd_T51 t185 x21_7).f1) == ((rd_T51 x9_1 (ji60)).f1)))) = true then (some false) else (bellwetherlaw15_KeepLast.l3 k7 (wrap64 (1 + (wrap64 (Int.tmod (IntKind.u64.wrap (a2)) 16)))) x9_1 x10_1 ji14 (wrap64 (x16_7 + 1)) x17_4 t185 (wrap64 (x21_7 + 1)))) else (none)) else (none)) = some r := by first | (rw [hji60] at H; exact H) | (simp only [hji60] at H ⊢; exact H)
                                                      have hji60w : (IntKind.i64.wrap ((wrap64 (x16_7 - x10_1)) + ji14)) = ji60 := (i64_w _).trans hji60
                                                      by_cases c61 : 0 ≤ (ji60)
                                                      · rw [if_pos c61] at H
                                                        have c61b0 : decide (0 ≤ (ji60)) = true := decide_eq_true c61
                                                        clear c61
                                                        by_cases c62 : (ji60) < (x9_1.length : Int)
                                                        · rw [if_pos c62] at H
                                                          have c62b0 : decide ((ji60) < (x9_1.length : Int)) = true := decide_eq_true c62
                                                          clear c62
                                                          by_cases c63 : (!(((rd_T51 t185 x21_7).f0) == ((rd_T51 x9_1 (ji60)).f0)) || (!(((rd_T51 t185 x21_7).f1) == ((rd_T51 x9_1 (ji60)).f1)))) = true
                                                          · rw [if_pos c63] at H
                                                            have c63b0 : (!(((rd_T51 t185 x21_7).f0) == ((rd_T51 x9_1 (ji60)).f0)) || (!(((rd_T51 t185 x21_7).f1) == ((rd_T51 x9_1 (ji60)).f1)))) = true := c63
                                                            clear c63
                                                            obtain rfl := Option.some.inj H
                                                            obtain ⟨Ao64, co64, eo64⟩ := Kd.R_slice HO_19.out
                                                            subst eo64
                                                            have p189 : 0 ≤ (x21_7 : Int) := of_decide_eq_true (by first | (with_reducible assumption) | assumption)
                                                            have q189 : x21_7 < (t185.length : Int) := of_decide_eq_true (by first | (with_reducible assumption) | assumption)
                                                            obtain ⟨ad189, e189, hx189_0, hx189_1⟩ := at_T51 (Kd.R_reads' HO_19.out).2.2 x21_7 p189 q189
                                                            cases e189
                                                            replace p189 := eq_true p189
                                                            replace q189 := eq_true q189
                                                            have p190 : 0 ≤ (x21_7 : Int) := of_decide_eq_true (by first | (with_reducible assumption) | assumption)
                                                            have q190 : x21_7 < (t185.length : Int) := of_decide_eq_true (by first | (with_reducible assumption) | assumption)
                                                            obtain ⟨ad190, e190, hx190_0, hx190_1⟩ := at_T51 (Kd.R_reads' HO_19.out).2.2 x21_7 p190 q190
                                                            obtain rfl : ad189 = ad190 := (by injection e190)
                                                            replace p190 := eq_true p190
                                                            replace q190 := eq_true q190
                                                            have p191 : 0 ≤ ((ji60) : Int) := of_decide_eq_true (by first | (with_reducible assumption) | assumption)
                                                            have q191 : (ji60) < (x9_1.length : Int) := of_decide_eq_true (by first | (with_reducible assumption) | assumption)
                                                            obtain ⟨ad191, e191, hx191_0, hx191_1⟩ := at_T51 (Kd.R_reads' HO_9.out).2.2 (ji60) p191 q191
                                                            cases e191
                                                            replace p191 := eq_true p191
                                                            replace q191 := eq_true q191
                                                            go_wp2
                                                            repeat (go_quiet (fail); try go_wp2)
                                                            go_ret
                                                            exact ⟨by first | rfl | (simp [errW_none, errW_some] <;> rfl) | (simp only [← hji14, ← hji52, ← hji60]; first | rfl | (simp [errW_none, errW_some] <;> rfl)) | (simp [*, errW_none, errW_some] <;> rfl), by repeat (first | (with_reducible first | exact HB.out | apply below_alloc | apply pw_below_drewN | apply below_drew1) | exact HB.out)⟩
                                                          · rw [if_neg c63] at H
                                                            have c63b0 : (!(((rd_T51 t185 x21_7).f0) == ((rd_T51 x9_1 (ji60)).f0)) || (!(((rd_T51 t185 x21_7).f1) == ((rd_T51 x9_1 (ji60)).f1)))) = false := by simpa using c63
                                                            clear c63
                                                            have H' := Aside0.mk H
                                                            clear H
                                                            obtain ⟨Ao65, co65, eo65⟩ := Kd.R_slice HO_19.out
                                                            subst eo65
                                                            have p189 : 0 ≤ (x21_7 : Int) := of_decide_eq_true (by first | (with_reducible assumption) | assumption)
                                                            have q189 : x21_7 < (t185.length : Int) := of_decide_eq_true (by first | (with_reducible assumption) | assumption)
                                                            obtain ⟨ad189, e189, hx189_0, hx189_1⟩ := at_T51 (Kd.R_reads' HO_19.out).2.2 x21_7 p189 q189
                                                            cases e189
                                                            replace p189 := eq_true p189
                                                            replace q189 := eq_true q189
                                                            have p190 : 0 ≤ (x21_7 : Int) := of_decide_eq_true (by first | (with_reducible assumption) | assumption)
                                                            have q190 : x21_7 < (t185.length : Int) := of_decide_eq_true (by first | (with_reducible assumption) | assumption)
                                                            obtain ⟨ad190, e190, hx190_0, hx190_1⟩ := at_T51 (Kd.R_reads' HO_19.out).2.2 x21_7 p190 q190
                                                            obtain rfl : ad189 = ad190 := (by injection e190)
                                                            replace p190 := eq_true p190
                                                            replace q190 := eq_true q190
                                                            have p191 : 0 ≤ ((ji60) : Int) := of_decide_eq_true (by first | (with_reducible assumption) | assumption)
                                                            have q191 : (ji60) < (x9_1.length : Int) := of_decide_eq_true (by first | (with_reducible assumption) | assumption)
                                                            obtain ⟨ad191, e191, hx191_0, hx191_1⟩ := at_T51 (Kd.R_reads' HO_9.out).2.2 (ji60) p191 q191
                                                            cases e191
                                                            replace p191 := eq_true p191
                                                            replace q191 := eq_true q191
                                                            go_wp2
                                                            repeat (go_quiet (fail); try go_wp2)
                                                            go_roundg k7
                                                            case measure => have := HK1.out; have := HJ14.out; have := HK3.out; have := HK4.out; have := HJ33.out; have := HJ37.out; have := HK7.out; omega
                                                            case rel => exact ⟨(wrap64 (x16_7 + 1)), (wrap64 (x21_7 + 1)), (by first | rfl | (simp; done) | (simp [*]; done)), (by first | rfl | (simp; done) | (simp [*]; done)), H', ⟨by have := HK1.out; have := HJ14.out; have := HK3.out; have := HK4.out; have := HJ33.out; have := HJ37.out; have := HK7.out; omega⟩, ⟨by (with_reducible repeat (first | apply Kd.R_alloc | apply Kd.R_drewN | apply Kd.R_drew)); exact HO_9.out⟩, ⟨by (with_reducible repeat (first | apply Kd.R_alloc | apply Kd.R_drewN | apply Kd.R_drew)); exact HO_19.out⟩, ⟨by repeat (first | (with_reducible first | exact HB.out | apply below_alloc | apply pw_below_drewN | apply below_drew1) | exact HB.out)⟩⟩
                                                        · rw [if_neg c62] at H
                                                          exact absurd H (by simp)
                                                      · rw [if_neg c61] at H
                                                        exact absurd H (by simp)
                                                    · rw [if_neg c59] at H
                                                      have c59b0 : (((rd_T51 t185 x21_7).f0) == x16_7) = false := beq_eq_false_iff_ne.mpr c59
                                                      have c59b1 : (((rd_T51 t185 x21_7).f0) != x16_7) = true := bne_iff_ne.mpr c59
                                                      obtain rfl := Option.some.inj H
                                                      obtain ⟨Ao66, co66, eo66⟩ := Kd.R_slice HO_19.out
                                                      subst eo66
                                                      have p189 : 0 ≤ (x21_7 : Int) := of_decide_eq_true (by first | (with_reducible assumption) | assumption)
                                                      have q189 : x21_7 < (t185.length : Int) := of_decide_eq_true (by first | (with_reducible assumption) | assumption)
                                                      obtain ⟨ad189, e189, hx189_0, hx189_1⟩ := at_T51 (Kd.R_reads' HO_19.out).2.2 x21_7 p189 q189
                                                      cases e189
                                                      replace p189 := eq_true p189
                                                      replace q189 := eq_true q189
                                                      go_wp2
                                                      repeat (go_quiet (fail); try go_wp2)
                                                      go_ret
                                                      exact ⟨by first | rfl | (simp [errW_none, errW_some] <;> rfl) | (simp only [← hji14, ← hji52]; first | rfl | (simp [errW_none, errW_some] <;> rfl)) | (simp [*, errW_none, errW_some] <;> rfl), by repeat (first | (with_reducible first | exact HB.out | apply below_alloc | apply pw_below_drewN | apply below_drew1) | exact HB.out)⟩
                                                  · rw [if_neg c58] at H
                                                    exact absurd H (by simp)
                                            · rw [if_neg c53] at H
                                              have c53b0 : decide (x21_7 < (t185.length : Int)) = false := decide_eq_false c53
                                              clear c53
                                              have H' := Aside0.mk H
                                              clear H
                                              obtain ⟨Ao67, co67, eo67⟩ := Kd.R_slice HO_19.out
                                              subst eo67
                                              go_wp2
                                              repeat (go_quiet (fail); try go_wp2)
                                              go_roundg k7
                                              case measure => have := HK1.out; have := HJ14.out; have := HK3.out; have := HK4.out; have := HJ33.out; have := HJ37.out; have := HK7.out; omega
                                              case rel => exact ⟨(x16_7), (wrap64 (x17_4 + 1)), (by first | rfl | (simp; done) | (simp [*]; done)), (by first | rfl | (simp; done) | (simp [*]; done)), H', ⟨by have := HK1.out; have := HJ14.out; have := HK3.out; have := HK4.out; have := HJ33.out; have := HJ37.out; have := HK7.out; omega⟩, ⟨by (with_reducible repeat (first | apply Kd.R_alloc | apply Kd.R_drewN | apply Kd.R_drew)); exact Kd.R_mono HO_9.out (fun _ hk => trivial)⟩, ⟨by repeat (first | (with_reducible first | exact HB.out | apply below_alloc | apply pw_below_drewN | apply below_drew1) | exact HB.out)⟩⟩
                                · replace c36 := Bool.eq_false_iff.mpr c36
                                  subst c36
                                  have H1 : ((keep_Again.f kj33 x9_1 x10_1 (wrap64 (1 + (wrap64 (Int.tmod (IntKind.u64.wrap (a2)) 16)))) x10_1).bind fun bt178 => (if bt178.2.2 = 0 then (if (wrap64 (bt178.1 + (bt178.2.1.length : Int))) = 0 then (if x16_4 ≥ x10_1 then ((bellwetherlaw15_wakes.f kj33).bind fun t183 => (some t183)) else (some false)) else (some false)) else (some false))) = some r := by rw [if_neg (show ¬ (false = true) by decide)] at H; exact H
                                  clear H
                                  have H := H1
                                  clear H1
                                  replace H := Option.bind_eq_some_iff.mp H
                                  obtain ⟨⟨t178, t179, t180⟩, A680, H⟩ := H
                                  replace H : (if t180 = 0 then (if (wrap64 (t178 + (t179.length : Int))) = 0 then (if x16_4 ≥ x10_1 then ((bellwetherlaw15_wakes.f kj33).bind fun t183 => (some t183)) else (some false)) else (some false)) else (some false)) = some r := H
                                  have A68 := Aside0.mk A680
                                  clear A680
                                  by_cases c69 : t180 = 0
                                  · rw [if_pos c69] at H
                                    have c69b0 : (t180 == 0) = true := beq_iff_eq.mpr c69
                                    have c69b1 : (t180 != 0) = false := bne_eq_false_iff_eq.mpr c69
                                    clear c69
                                    by_cases c70 : (wrap64 (t178 + (t179.length : Int))) = 0
                                    · rw [if_pos c70] at H
                                      have c70b0 : ((wrap64 (t178 + (t179.length : Int))) == 0) = true := beq_iff_eq.mpr c70
                                      have c70b1 : ((wrap64 (t178 + (t179.length : Int))) != 0) = false := bne_eq_false_iff_eq.mpr c70
                                      clear c70
                                      by_cases c71 : x16_4 ≥ x10_1
                                      · rw [if_pos c71] at H
                                        have c71b0 : decide (x10_1 ≤ x16_4) = true := decide_eq_true c71
                                        clear c71
                                        replace H := Option.bind_eq_some_iff.mp H
                                        obtain ⟨t183, A720, H⟩ := H
                                        replace H : (some t183) = some r := H
                                        have A72 := Aside0.mk A720
                                        clear A720
                                        obtain rfl := Option.some.inj H
                                        obtain ⟨Ao73, co73, eo73⟩ := Kd.R_slice HO_9.out
                                        subst eo73
                                        go_wp2_with (first | (go_at_call 24; (with_reducible refine (keep_Again.calls kj33 _ _ x9_1 x10_1 (wrap64 (1 + (wrap64 (Int.tmod (IntKind.u64.wrap (a2)) 16)))) x10_1 t178 t179 t180 _ ?side1 ?side2 A68.out).mono ?_); (case side1 => repeat (first | exact (Kd.R_reads' HO_9.out).2.2 | (with_reducible refine Kd.C_alloc ?_ _) | (with_reducible refine Kd.C_drewN ?_ _) | (with_reducible refine Kd.C_drew ?_))); (case side2 => exact (Kd.R_reads' HO_9.out).2.1); rintro e w74 ⟨v181, rfl, ho0, hb⟩; have n0_ := Aside0.mk (Kd.R_elder' (by (with_reducible repeat (first | apply Kd.R_alloc | apply Kd.R_drewN | apply Kd.R_drew)); exact HO_9.out) (Kd.R_base ho0) hb); have n1_ := Aside0.mk (Kd.R_lower (Kd.R_new' ho0 (Kd.R_lt (by (with_reducible repeat (first | apply Kd.R_alloc | apply Kd.R_drewN | apply Kd.R_drew)); exact HO_9.out))) (below_size (by repeat (first | (with_reducible first | exact HB.out | apply below_alloc | apply pw_below_drewN | apply below_drew1) | exact HB.out)))); have n2_ := Aside0.mk (below_step (by repeat (first | (with_reducible first | exact HB.out | apply below_alloc | apply pw_below_drewN | apply below_drew1) | exact HB.out)) hb); clear HO_9; clear HB; have HO_9 := n0_; have HO182 := n1_; have HB := n2_; clear n0_ n1_ n2_; (try clear hb); (try clear hb2); (try clear hk); (try clear hi); (try clear ho0); obtain ⟨Ao75, co75, eo75⟩ := Kd.R_slice HO182.out; subst eo75) | (go_at_call 28; (with_reducible refine (bellwetherlaw15_wakes.calls kj33  t183 _ A72.out).mono ?_); rintro e w76 ⟨rfl, hb⟩; have n0_ := Aside0.mk (Kd.R_below (by (with_reducible repeat (first | apply Kd.R_alloc | apply Kd.R_drewN | apply Kd.R_drew)); exact HO_9.out) hb); have n1_ := Aside0.mk (Kd.R_below (by (with_reducible repeat (first | apply Kd.R_alloc | apply Kd.R_drewN | apply Kd.R_drew)); exact HO182.out) hb); have n2_ := Aside0.mk (below_step (by repeat (first | (with_reducible first | exact HB.out | apply below_alloc | apply pw_below_drewN | apply below_drew1) | exact HB.out)) hb); clear HO_9; clear HO182; clear HB; have HO_9 := n0_; have HO182 := n1_; have HB := n2_; clear n0_ n1_ n2_; (try clear hb); (try clear hb2); (try clear hk); (try clear hi)))
                                        repeat (go_quiet (first | (go_at_call 24; (with_reducible refine (keep_Again.calls kj33 _ _ x9_1 x10_1 (wrap64 (1 + (wrap64 (Int.tmod (IntKind.u64.wrap (a2)) 16)))) x10_1 t178 t179 t180 _ ?side1 ?side2 A68.out).mono ?_); (case side1 => repeat (first | exact (Kd.R_reads' HO_9.out).2.2 | (with_reducible refine Kd.C_alloc ?_ _) | (with_reducible refine Kd.C_drewN ?_ _) | (with_reducible refine Kd.C_drew ?_))); (case side2 => exact (Kd.R_reads' HO_9.out).2.1); rintro e w74 ⟨v181, rfl, ho0, hb⟩; have n0_ := Aside0.mk (Kd.R_elder' (by (with_reducible repeat (first | apply Kd.R_alloc | apply Kd.R_drewN | apply Kd.R_drew)); exact HO_9.out) (Kd.R_base ho0) hb); have n1_ := Aside0.mk (Kd.R_lower (Kd.R_new' ho0 (Kd.R_lt (by (with_reducible repeat (first | apply Kd.R_alloc | apply Kd.R_drewN | apply Kd.R_drew)); exact HO_9.out))) (below_size (by repeat (first | (with_reducible first | exact HB.out | apply below_alloc | apply pw_below_drewN | apply below_drew1) | exact HB.out)))); have n2_ := Aside0.mk (below_step (by repeat (first | (with_reducible first | exact HB.out | apply below_alloc | apply pw_below_drewN | apply below_drew1) | exact HB.out)) hb); clear HO_9; clear HB; have HO_9 := n0_; have HO182 := n1_; have HB := n2_; clear n0_ n1_ n2_; (try clear hb); (try clear hb2); (try clear hk); (try clear hi); (try clear ho0); obtain ⟨Ao75, co75, eo75⟩ := Kd.R_slice HO182.out; subst eo75) | (go_at_call 28; (with_reducible refine (bellwetherlaw15_wakes.calls kj33  t183 _ A72.out).mono ?_); rintro e w76 ⟨rfl, hb⟩; have n0_ := Aside0.mk (Kd.R_below (by (with_reducible repeat (first | apply Kd.R_alloc | apply Kd.R_drewN | apply Kd.R_drew)); exact HO_9.out) hb); have n1_ := Aside0.mk (Kd.R_below (by (with_reducible repeat (first | apply Kd.R_alloc | apply Kd.R_drewN | apply Kd.R_drew)); exact HO182.out) hb); have n2_ := Aside0.mk (below_step (by repeat (first | (with_reducible first | exact HB.out | apply below_alloc | apply pw_below_drewN | apply below_drew1) | exact HB.out)) hb); clear HO_9; clear HO182; clear HB; have HO_9 := n0_; have HO182 := n1_; have HB := n2_; clear n0_ n1_ n2_; (try clear hb); (try clear hb2); (try clear hk); (try clear hi))); try go_wp2_with (first | (go_at_call 24; (with_reducible refine (keep_Again.calls kj33 _ _ x9_1 x10_1 (wrap64 (1 + (wrap64 (Int.tmod (IntKind.u64.wrap (a2)) 16)))) x10_1 t178 t179 t180 _ ?side1 ?side2 A68.out).mono ?_); (case side1 => repeat (first | exact (Kd.R_reads' HO_9.out).2.2 | (with_reducible refine Kd.C_alloc ?_ _) | (with_reducible refine Kd.C_drewN ?_ _) | (with_reducible refine Kd.C_drew ?_))); (case side2 => exact (Kd.R_reads' HO_9.out).2.1); rintro e w74 ⟨v181, rfl, ho0, hb⟩; have n0_ := Aside0.mk (Kd.R_elder' (by (with_reducible repeat (first | apply Kd.R_alloc | apply Kd.R_drewN | apply Kd.R_drew)); exact HO_9.out) (Kd.R_base ho0) hb); have n1_ := Aside0.mk (Kd.R_lower (Kd.R_new' ho0 (Kd.R_lt (by (with_reducible repeat (first | apply Kd.R_alloc | apply Kd.R_drewN | apply Kd.R_drew)); exact HO_9.out))) (below_size (by repeat (first | (with_reducible first | exact HB.out | apply below_alloc | apply pw_below_drewN | apply below_drew1) | exact HB.out)))); have n2_ := Aside0.mk (below_step (by repeat (first | (with_reducible first | exact HB.out | apply below_alloc | apply pw_below_drewN | apply below_drew1) | exact HB.out)) hb); clear HO_9; clear HB; have HO_9 := n0_; have HO182 := n1_; have HB := n2_; clear n0_ n1_ n2_; (try clear hb); (try clear hb2); (try clear hk); (try clear hi); (try clear ho0); obtain ⟨Ao75, co75, eo75⟩ := Kd.R_slice HO182.out; subst eo75) | (go_at_call 28; (with_reducible refine (bellwetherlaw15_wakes.calls kj33  t183 _ A72.out).mono ?_); rintro e w76 ⟨rfl, hb⟩; have n0_ := Aside0.mk (Kd.R_below (by (with_reducible repeat (first | apply Kd.R_alloc | apply Kd.R_drewN | apply Kd.R_drew)); exact HO_9.out) hb); have n1_ := Aside0.mk (Kd.R_below (by (with_reducible repeat (first | apply Kd.R_alloc | apply Kd.R_drewN | apply Kd.R_drew)); exact HO182.out) hb); have n2_ := Aside0.mk (below_step (by repeat (first | (with_reducible first | exact HB.out | apply below_alloc | apply pw_below_drewN | apply below_drew1) | exact HB.out)) hb); clear HO_9; clear HO182; clear HB; have HO_9 := n0_; have HO182 := n1_; have HB := n2_; clear n0_ n1_ n2_; (try clear hb); (try clear hb2); (try clear hk); (try clear hi))))
                                        go_ret
                                        exact ⟨by first | rfl | (simp [errW_none, errW_some] <;> rfl) | (simp only [← hji14]; first | rfl | (simp [errW_none, errW_some] <;> rfl)) | (simp [*, errW_none, errW_some] <;> rfl), by repeat (first | (with_reducible first | exact HB.out | apply below_alloc | apply pw_below_drewN | apply below_drew1) | exact HB.out)⟩
                                      · rw [if_neg c71] at H
                                        have c71b0 : decide (x10_1 ≤ x16_4) = false := decide_eq_false c71
                                        clear c71
                                        obtain rfl := Option.some.inj H
                                        obtain ⟨Ao77, co77, eo77⟩ := Kd.R_slice HO_9.out
                                        subst eo77
                                        go_wp2_with (first | (go_at_call 24; (with_reducible refine (keep_Again.calls kj33 _ _ x9_1 x10_1 (wrap64 (1 + (wrap64 (Int.tmod (IntKind.u64.wrap (a2)) 16)))) x10_1 t178 t179 t180 _ ?side1 ?side2 A68.out).mono ?_); (case side1 => repeat (first | exact (Kd.R_reads' HO_9.out).2.2 | (with_reducible refine Kd.C_alloc ?_ _) | (with_reducible refine Kd.C_drewN ?_ _) | (with_reducible refine Kd.C_drew ?_))); (case side2 => exact (Kd.R_reads' HO_9.out).2.1); rintro e w78 ⟨v181, rfl, ho0, hb⟩; have n0_ := Aside0.mk (Kd.R_elder' (by (with_reducible repeat (first | apply Kd.R_alloc | apply Kd.R_drewN | apply Kd.R_drew)); exact HO_9.out) (Kd.R_base ho0) hb); have n1_ := Aside0.mk (Kd.R_lower (Kd.R_new' ho0 (Kd.R_lt (by (with_reducible repeat (first | apply Kd.R_alloc | apply Kd.R_drewN | apply Kd.R_drew)); exact HO_9.out))) (below_size (by repeat (first | (with_reducible first | exact HB.out | apply below_alloc | apply pw_below_drewN | apply below_drew1) | exact HB.out)))); have n2_ := Aside0.mk (below_step (by repeat (first | (with_reducible first | exact HB.out | apply below_alloc | apply pw_below_drewN | apply below_drew1) | exact HB.out)) hb); clear HO_9; clear HB; have HO_9 := n0_; have HO182 := n1_; have HB := n2_; clear n0_ n1_ n2_; (try clear hb); (try clear hb2); (try clear hk); (try clear hi); (try clear ho0); obtain ⟨Ao79, co79, eo79⟩ := Kd.R_slice HO182.out; subst eo79))
                                        repeat (go_quiet (first | (go_at_call 24; (with_reducible refine (keep_Again.calls kj33 _ _ x9_1 x10_1 (wrap64 (1 + (wrap64 (Int.tmod (IntKind.u64.wrap (a2)) 16)))) x10_1 t178 t179 t180 _ ?side1 ?side2 A68.out).mono ?_); (case side1 => repeat (first | exact (Kd.R_reads' HO_9.out).2.2 | (with_reducible refine Kd.C_alloc ?_ _) | (with_reducible refine Kd.C_drewN ?_ _) | (with_reducible refine Kd.C_drew ?_))); (case side2 => exact (Kd.R_reads' HO_9.out).2.1); rintro e w78 ⟨v181, rfl, ho0, hb⟩; have n0_ := Aside0.mk (Kd.R_elder' (by (with_reducible repeat (first | apply Kd.R_alloc | apply Kd.R_drewN | apply Kd.R_drew)); exact HO_9.out) (Kd.R_base ho0) hb); have n1_ := Aside0.mk (Kd.R_lower (Kd.R_new' ho0 (Kd.R_lt (by (with_reducible repeat (first | apply Kd.R_alloc | apply Kd.R_drewN | apply Kd.R_drew)); exact HO_9.out))) (below_size (by repeat (first | (with_reducible first | exact HB.out | apply below_alloc | apply pw_below_drewN | apply below_drew1) | exact HB.out)))); have n2_ := Aside0.mk (below_step (by repeat (first | (with_reducible first | exact HB.out | apply below_alloc | apply pw_below_drewN | apply below_drew1) | exact HB.out)) hb); clear HO_9; clear HB; have HO_9 := n0_; have HO182 := n1_; have HB := n2_; clear n0_ n1_ n2_; (try clear hb); (try clear hb2); (try clear hk); (try clear hi); (try clear ho0); obtain ⟨Ao79, co79, eo79⟩ := Kd.R_slice HO182.out; subst eo79)); try go_wp2_with (first | (go_at_call 24; (with_reducible refine (keep_Again.calls kj33 _ _ x9_1 x10_1 (wrap64 (1 + (wrap64 (Int.tmod (IntKind.u64.wrap (a2)) 16)))) x10_1 t178 t179 t180 _ ?side1 ?side2 A68.out).mono ?_); (case side1 => repeat (first | exact (Kd.R_reads' HO_9.out).2.2 | (with_reducible refine Kd.C_alloc ?_ _) | (with_reducible refine Kd.C_drewN ?_ _) | (with_reducible refine Kd.C_drew ?_))); (case side2 => exact (Kd.R_reads' HO_9.out).2.1); rintro e w78 ⟨v181, rfl, ho0, hb⟩; have n0_ := Aside0.mk (Kd.R_elder' (by (with_reducible repeat (first | apply Kd.R_alloc | apply Kd.R_drewN | apply Kd.R_drew)); exact HO_9.out) (Kd.R_base ho0) hb); have n1_ := Aside0.mk (Kd.R_lower (Kd.R_new' ho0 (Kd.R_lt (by (with_reducible repeat (first | apply Kd.R_alloc | apply Kd.R_drewN | apply Kd.R_drew)); exact HO_9.out))) (below_size (by repeat (first | (with_reducible first | exact HB.out | apply below_alloc | apply pw_below_drewN | apply below_drew1) | exact HB.out)))); have n2_ := Aside0.mk (below_step (by repeat (first | (with_reducible first | exact HB.out | apply below_alloc | apply pw_below_drewN | apply below_drew1) | exact HB.out)) hb); clear HO_9; clear HB; have HO_9 := n0_; have HO182 := n1_; have HB := n2_; clear n0_ n1_ n2_; (try clear hb); (try clear hb2); (try clear hk); (try clear hi); (try clear ho0); obtain ⟨Ao79, co79, eo79⟩ := Kd.R_slice HO182.out; subst eo79)))
                                        go_ret
                                        exact ⟨by first | rfl | (simp [errW_none, errW_some] <;> rfl) | (simp only [← hji14]; first | rfl | (simp [errW_none, errW_some] <;> rfl)) | (simp [*, errW_none, errW_some] <;> rfl), by repeat (first | (with_reducible first | exact HB.out | apply below_alloc | apply pw_below_drewN | apply below_drew1) | exact HB.out)⟩
                                    · rw [if_neg c70] at H
                                      have c70b0 : ((wrap64 (t178 + (t179.length : Int))) == 0) = false := beq_eq_false_iff_ne.mpr c70
                                      have c70b1 : ((wrap64 (t178 + (t179.length : Int))) != 0) = true := bne_iff_ne.mpr c70
                                      obtain rfl := Option.some.inj H
                                      obtain ⟨Ao80, co80, eo80⟩ := Kd.R_slice HO_9.out
                                      subst eo80
                                      go_wp2_with (first | (go_at_call 24; (with_reducible refine (keep_Again.calls kj33 _ _ x9_1 x10_1 (wrap64 (1 + (wrap64 (Int.tmod (IntKind.u64.wrap (a2)) 16)))) x10_1 t178 t179 t180 _ ?side1 ?side2 A68.out).mono ?_); (case side1 => repeat (first | exact (Kd.R_reads' HO_9.out).2.2 | (with_reducible refine Kd.C_alloc ?_ _) | (with_reducible refine Kd.C_drewN ?_ _) | (with_reducible refine Kd.C_drew ?_))); (case side2 => exact (Kd.R_reads' HO_9.out).2.1); rintro e w81 ⟨v181, rfl, ho0, hb⟩; have n0_ := Aside0.mk (Kd.R_elder' (by (with_reducible repeat (first | apply Kd.R_alloc | apply Kd.R_drewN | apply Kd.R_drew)); exact HO_9.out) (Kd.R_base ho0) hb); have n1_ := Aside0.mk (Kd.R_lower (Kd.R_new' ho0 (Kd.R_lt (by (with_reducible repeat (first | apply Kd.R_alloc | apply Kd.R_drewN | apply Kd.R_drew)); exact HO_9.out))) (below_size (by repeat (first | (with_reducible first | exact HB.out | apply below_alloc | apply pw_below_drewN | apply below_drew1) | exact HB.out)))); have n2_ := Aside0.mk (below_step (by repeat (first | (with_reducible first | exact HB.out | apply below_alloc | apply pw_below_drewN | apply below_drew1) | exact HB.out)) hb); clear HO_9; clear HB; have HO_9 := n0_; have HO182 := n1_; have HB := n2_; clear n0_ n1_ n2_; (try clear hb); (try clear hb2); (try clear hk); (try clear hi); (try clear ho0); obtain ⟨Ao82, co82, eo82⟩ := Kd.R_slice HO182.out; subst eo82))
                                      repeat (go_quiet (first | (go_at_call 24; (with_reducible refine (keep_Again.calls kj33 _ _ x9_1 x10_1 (wrap64 (1 + (wrap64 (Int.tmod (IntKind.u64.wrap (a2)) 16)))) x10_1 t178 t179 t180 _ ?side1 ?side2 A68.out).mono ?_); (case side1 => repeat (first | exact (Kd.R_reads' HO_9.out).2.2 | (with_reducible refine Kd.C_alloc ?_ _) | (with_reducible refine Kd.C_drewN ?_ _) | (with_reducible refine Kd.C_drew ?_))); (case side2 => exact (Kd.R_reads' HO_9.out).2.1); rintro e w81 ⟨v181, rfl, ho0, hb⟩; have n0_ := Aside0.mk (Kd.R_elder' (by (with_reducible repeat (first | apply Kd.R_alloc | apply Kd.R_drewN | apply Kd.R_drew)); exact HO_9.out) (Kd.R_base ho0) hb); have n1_ := Aside0.mk (Kd.R_lower (Kd.R_new' ho0 (Kd.R_lt (by (with_reducible repeat (first | apply Kd.R_alloc | apply Kd.R_drewN | apply Kd.R_drew)); exact HO_9.out))) (below_size (by repeat (first | (with_reducible first | exact HB.out | apply below_alloc | apply pw_below_drewN | apply below_drew1) | exact HB.out)))); have n2_ := Aside0.mk (below_step (by repeat (first | (with_reducible first | exact HB.out | apply below_alloc | apply pw_below_drewN | apply below_drew1) | exact HB.out)) hb); clear HO_9; clear HB; have HO_9 := n0_; have HO182 := n1_; have HB := n2_; clear n0_ n1_ n2_; (try clear hb); (try clear hb2); (try clear hk); (try clear hi); (try clear ho0); obtain ⟨Ao82, co82, eo82⟩ := Kd.R_slice HO182.out; subst eo82)); try go_wp2_with (first | (go_at_call 24; (with_reducible refine (keep_Again.calls kj33 _ _ x9_1 x10_1 (wrap64 (1 + (wrap64 (Int.tmod (IntKind.u64.wrap (a2)) 16)))) x10_1 t178 t179 t180 _ ?side1 ?side2 A68.out).mono ?_); (case side1 => repeat (first | exact (Kd.R_reads' HO_9.out).2.2 | (with_reducible refine Kd.C_alloc ?_ _) | (with_reducible refine Kd.C_drewN ?_ _) | (with_reducible refine Kd.C_drew ?_))); (case side2 => exact (Kd.R_reads' HO_9.out).2.1); rintro e w81 ⟨v181, rfl, ho0, hb⟩; have n0_ := Aside0.mk (Kd.R_elder' (by (with_reducible repeat (first | apply Kd.R_alloc | apply Kd.R_drewN | apply Kd.R_drew)); exact HO_9.out) (Kd.R_base ho0) hb); have n1_ := Aside0.mk (Kd.R_lower (Kd.R_new' ho0 (Kd.R_lt (by (with_reducible repeat (first | apply Kd.R_alloc | apply Kd.R_drewN | apply Kd.R_drew)); exact HO_9.out))) (below_size (by repeat (first | (with_reducible first | exact HB.out | apply below_alloc | apply pw_below_drewN | apply below_drew1) | exact HB.out)))); have n2_ := Aside0.mk (below_step (by repeat (first | (with_reducible first | exact HB.out | apply below_alloc | apply pw_below_drewN | apply below_drew1) | exact HB.out)) hb); clear HO_9; clear HB; have HO_9 := n0_; have HO182 := n1_; have HB := n2_; clear n0_ n1_ n2_; (try clear hb); (try clear hb2); (try clear hk); (try clear hi); (try clear ho0); obtain ⟨Ao82, co82, eo82⟩ := Kd.R_slice HO182.out; subst eo82)))
                                      go_ret
                                      exact ⟨by first | rfl | (simp [errW_none, errW_some] <;> rfl) | (simp only [← hji14]; first | rfl | (simp [errW_none, errW_some] <;> rfl)) | (simp [*, errW_none, errW_some] <;> rfl), by repeat (first | (with_reducible first | exact HB.out | apply below_alloc | apply pw_below_drewN | apply below_drew1) | exact HB.out)⟩
                                  · rw [if_neg c69] at H
                                    have c69b0 : (t180 == 0) = false := beq_eq_false_iff_ne.mpr c69
                                    have c69b1 : (t180 != 0) = true := bne_iff_ne.mpr c69
                                    obtain rfl := Option.some.inj H
                                    obtain ⟨Ao83, co83, eo83⟩ := Kd.R_slice HO_9.out
                                    subst eo83
                                    go_wp2_with (first | (go_at_call 24; (with_reducible refine (keep_Again.calls kj33 _ _ x9_1 x10_1 (wrap64 (1 + (wrap64 (Int.tmod (IntKind.u64.wrap (a2)) 16)))) x10_1 t178 t179 t180 _ ?side1 ?side2 A68.out).mono ?_); (case side1 => repeat (first | exact (Kd.R_reads' HO_9.out).2.2 | (with_reducible refine Kd.C_alloc ?_ _) | (with_reducible refine Kd.C_drewN ?_ _) | (with_reducible refine Kd.C_drew ?_))); (case side2 => exact (Kd.R_reads' HO_9.out).2.1); rintro e w84 ⟨v181, rfl, ho0, hb⟩; have n0_ := Aside0.mk (Kd.R_elder' (by (with_reducible repeat (first | apply Kd.R_alloc | apply Kd.R_drewN | apply Kd.R_drew)); exact HO_9.out) (Kd.R_base ho0) hb); have n1_ := Aside0.mk (Kd.R_lower (Kd.R_new' ho0 (Kd.R_lt (by (with_reducible repeat (first | apply Kd.R_alloc | apply Kd.R_drewN | apply Kd.R_drew)); exact HO_9.out))) (below_size (by repeat (first | (with_reducible first | exact HB.out | apply below_alloc | apply pw_below_drewN | apply below_drew1) | exact HB.out)))); have n2_ := Aside0.mk (below_step (by repeat (first | (with_reducible first | exact HB.out | apply below_alloc | apply pw_below_drewN | apply below_drew1) | exact HB.out)) hb); clear HO_9; clear HB; have HO_9 := n0_; have HO182 := n1_; have HB := n2_; clear n0_ n1_ n2_; (try clear hb); (try clear hb2); (try clear hk); (try clear hi); (try clear ho0)))
                                    repeat (go_quiet (first | (go_at_call 24; (with_reducible refine (keep_Again.calls kj33 _ _ x9_1 x10_1 (wrap64 (1 + (wrap64 (Int.tmod (IntKind.u64.wrap (a2)) 16)))) x10_1 t178 t179 t180 _ ?side1 ?side2 A68.out).mono ?_); (case side1 => repeat (first | exact (Kd.R_reads' HO_9.out).2.2 | (with_reducible refine Kd.C_alloc ?_ _) | (with_reducible refine Kd.C_drewN ?_ _) | (with_reducible refine Kd.C_drew ?_))); (case side2 => exact (Kd.R_reads' HO_9.out).2.1); rintro e w84 ⟨v181, rfl, ho0, hb⟩; have n0_ := Aside0.mk (Kd.R_elder' (by (with_reducible repeat (first | apply Kd.R_alloc | apply Kd.R_drewN | apply Kd.R_drew)); exact HO_9.out) (Kd.R_base ho0) hb); have n1_ := Aside0.mk (Kd.R_lower (Kd.R_new' ho0 (Kd.R_lt (by (with_reducible repeat (first | apply Kd.R_alloc | apply Kd.R_drewN | apply Kd.R_drew)); exact HO_9.out))) (below_size (by repeat (first | (with_reducible first | exact HB.out | apply below_alloc | apply pw_below_drewN | apply below_drew1) | exact HB.out)))); have n2_ := Aside0.mk (below_step (by repeat (first | (with_reducible first | exact HB.out | apply below_alloc | apply pw_below_drewN | apply below_drew1) | exact HB.out)) hb); clear HO_9; clear HB; have HO_9 := n0_; have HO182 := n1_; have HB := n2_; clear n0_ n1_ n2_; (try clear hb); (try clear hb2); (try clear hk); (try clear hi); (try clear ho0))); try go_wp2_with (first | (go_at_call 24; (with_reducible refine (keep_Again.calls kj33 _ _ x9_1 x10_1 (wrap64 (1 + (wrap64 (Int.tmod (IntKind.u64.wrap (a2)) 16)))) x10_1 t178 t179 t180 _ ?side1 ?side2 A68.out).mono ?_); (case side1 => repeat (first | exact (Kd.R_reads' HO_9.out).2.2 | (with_reducible refine Kd.C_alloc ?_ _) | (with_reducible refine Kd.C_drewN ?_ _) | (with_reducible refine Kd.C_drew ?_))); (case side2 => exact (Kd.R_reads' HO_9.out).2.1); rintro e w84 ⟨v181, rfl, ho0, hb⟩; have n0_ := Aside0.mk (Kd.R_elder' (by (with_reducible repeat (first | apply Kd.R_alloc | apply Kd.R_drewN | apply Kd.R_drew)); exact HO_9.out) (Kd.R_base ho0) hb); have n1_ := Aside0.mk (Kd.R_lower (Kd.R_new' ho0 (Kd.R_lt (by (with_reducible repeat (first | apply Kd.R_alloc | apply Kd.R_drewN | apply Kd.R_drew)); exact HO_9.out))) (below_size (by repeat (first | (with_reducible first | exact HB.out | apply below_alloc | apply pw_below_drewN | apply below_drew1) | exact HB.out)))); have n2_ := Aside0.mk (below_step (by repeat (first | (with_reducible first | exact HB.out | apply below_alloc | apply pw_below_drewN | apply below_drew1) | exact HB.out)) hb); clear HO_9; clear HB; have HO_9 := n0_; have HO182 := n1_; have HB := n2_; clear n0_ n1_ n2_; (try clear hb); (try clear hb2); (try clear hk); (try clear hi); (try clear ho0))))
                                    go_ret
                                    exact ⟨by first | rfl | (simp [errW_none, errW_some] <;> rfl) | (simp only [← hji14]; first | rfl | (simp [errW_none, errW_some] <;> rfl)) | (simp [*, errW_none, errW_some] <;> rfl), by repeat (first | (with_reducible first | exact HB.out | apply below_alloc | apply pw_below_drewN | apply below_drew1) | exact HB.out)⟩

/-- THE ONE PURE STATEMENT of bellwetherlaw15_KeepLast. -/
def bellwetherlaw15_KeepLast.Pure : Prop := ∀ (l0 : List Int) (a1 : Int) (a2 : Int) (a3 : Int), (l0.length * 8 ≤ 140737488351232 ∧ ∀ y_ ∈ l0, (Lit.int .i64 y_).wf = true) → (Lit.int .i64 a1).wf = true → (Lit.int .i64 a2).wf = true → (Lit.int .i64 a3).wf = true → ∃ k, bellwetherlaw15_KeepLast.f k l0 a1 a2 a3 = some true

end Go.Proofs.Ytmjfjjnoconmoaa.PK
