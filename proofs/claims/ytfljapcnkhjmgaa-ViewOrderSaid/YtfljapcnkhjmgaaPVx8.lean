-- Written by this session's own program (wip/prog/drive.py).
import Derived.Test.YtfljapcnkhjmgaaPVx0
import Derived.Test.YtfljapcnkhjmgaaPVx1
import Derived.Test.YtfljapcnkhjmgaaPVx2
import Derived.Test.YtfljapcnkhjmgaaPVx3
import Derived.Test.YtfljapcnkhjmgaaPVx4
namespace Go.Proofs.Ytfljapcnkhjmgaa.PV
open Go.RowKit Go.Proofs.YtfljapcnkhjmgaaW.PrintWords Go.Proofs.YtfljapcnkhjmgaaW.PrintLast Go.Proofs.YtfljapcnkhjmgaaW.PrintMore Go.Proofs.YtfljapcnkhjmgaaX
attribute [local go_sem] max2_int min2_int max_two min_two max_three min_three max_four min_four   -- for this text's walks alone
set_option linter.unusedVariables false
set_option linter.unusedSimpArgs false

attribute [local go_sem high] eqA42
/-! ### L10_ViewOrder: function 6 -/
mutual
def L10_ViewOrder.j0 : Nat → List (S42) → Int → Int → Int → Int → Bool → Option (Bool)
  | 0, _, _, _, _, _, _ => none
  | k + 1, x0, x1, x2, x3, x4, x25 => if x25 = true then (some true) else (if (IntKind.u64.wrap ((x0.length : Int))) = 0 then (none) else ((view_Hear.f k x0 (wrap64 (Int.tmod (IntKind.u64.wrap (x1)) (IntKind.u64.wrap ((x0.length : Int))))) (wrap64 (1 + (wrap64 (Int.tmod (IntKind.u64.wrap (x3)) 1000))))).bind fun bt1113 => ((view_Hear.f k bt1113.1 (wrap64 (Int.tmod (IntKind.u64.wrap (x2)) (IntKind.u64.wrap ((x0.length : Int))))) (wrap64 (1 + (wrap64 (Int.tmod (IntKind.u64.wrap (x4)) 1000))))).bind fun bt1117 => ((view_Hear.f k x0 (wrap64 (Int.tmod (IntKind.u64.wrap (x2)) (IntKind.u64.wrap ((x0.length : Int))))) (wrap64 (1 + (wrap64 (Int.tmod (IntKind.u64.wrap (x4)) 1000))))).bind fun bt1121 => ((view_Hear.f k bt1121.1 (wrap64 (Int.tmod (IntKind.u64.wrap (x1)) (IntKind.u64.wrap ((x0.length : Int))))) (wrap64 (1 + (wrap64 (Int.tmod (IntKind.u64.wrap (x3)) 1000))))).bind fun bt1125 => (L10_ViewOrder.j1 k x0 (wrap64 (Int.tmod (IntKind.u64.wrap (x1)) (IntKind.u64.wrap ((x0.length : Int))))) (wrap64 (Int.tmod (IntKind.u64.wrap (x2)) (IntKind.u64.wrap ((x0.length : Int))))) (wrap64 (1 + (wrap64 (Int.tmod (IntKind.u64.wrap (x3)) 1000)))) (wrap64 (1 + (wrap64 (Int.tmod (IntKind.u64.wrap (x4)) 1000)))) bt1117.1 bt1113.2 bt1117.2 bt1125.1 bt1121.2 bt1125.2))))))
def L10_ViewOrder.j1 : Nat → List (S42) → Int → Int → Int → Int → List (S42) → Int → Int → List (S42) → Int → Int → Option (Bool)
  | 0, _, _, _, _, _, _, _, _, _, _, _ => none
  | k + 1, x0, x1, x2, x3, x4, x11, x12, x13, x14, x15, x16 => if x12 = 0 then (if x13 = 0 then (if x15 = 0 then (if x16 = 0 then (if (x11.length : Int) = (x0.length : Int) then ((bk_Peers.f k x11 x14).bind fun t1129 => (L10_ViewOrder.j2 k x0 x1 x2 x3 x4 x11 (!t1129))) else (L10_ViewOrder.j2 k x0 x1 x2 x3 x4 x11 true)) else (L10_ViewOrder.j2 k x0 x1 x2 x3 x4 x11 true)) else (L10_ViewOrder.j2 k x0 x1 x2 x3 x4 x11 true)) else (L10_ViewOrder.j2 k x0 x1 x2 x3 x4 x11 true)) else (L10_ViewOrder.j2 k x0 x1 x2 x3 x4 x11 true)
def L10_ViewOrder.j2 : Nat → List (S42) → Int → Int → Int → Int → List (S42) → Bool → Option (Bool)
  | 0, _, _, _, _, _, _, _ => none
  | k + 1, x0, x1, x2, x3, x4, x11, x104 => if x104 = true then (some false) else (L10_ViewOrder.l0 k x0 x1 x2 x3 x4 x11 0)
def L10_ViewOrder.l0 : Nat → List (S42) → Int → Int → Int → Int → List (S42) → Int → Option (Bool)
  | 0, _, _, _, _, _, _, _ => none
  | k + 1, x0, x1, x2, x3, x4, x11, x17 => if x17 < (x0.length : Int) then (if 0 ≤ x17 then (if x17 = x1 then (L10_ViewOrder.j4 k x0 x1 x2 x3 x4 x11 x17 (mx ((rd_T42 x0 x17).f0) x3)) else (L10_ViewOrder.j4 k x0 x1 x2 x3 x4 x11 x17 ((rd_T42 x0 x17).f0))) else (none)) else ((L10_wakes.f k).bind fun t1130 => (some t1130))
def L10_ViewOrder.j4 : Nat → List (S42) → Int → Int → Int → Int → List (S42) → Int → Int → Option (Bool)
  | 0, _, _, _, _, _, _, _, _ => none
  | k + 1, x0, x1, x2, x3, x4, x11, x17, x18 => if x17 = x2 then (if 0 ≤ x17 then (if x17 < (x11.length : Int) then (if ((rd_T42 x11 x17).f0) = (mx x18 x4) then (if x17 = x1 then (L10_ViewOrder.l0 k x0 x1 x2 x3 x4 x11 (wrap64 (x17 + 1))) else (L10_ViewOrder.l0 k x0 x1 x2 x3 x4 x11 (wrap64 (x17 + 1)))) else (some false)) else (none)) else (none)) else (if 0 ≤ x17 then (if x17 < (x11.length : Int) then (if ((rd_T42 x11 x17).f0) = x18 then (if x17 = x1 then (L10_ViewOrder.l0 k x0 x1 x2 x3 x4 x11 (wrap64 (x17 + 1))) else (if x17 < (x0.length : Int) then (if (!(((rd_T42 x11 x17).f0) == ((rd_T42 x0 x17).f0)) || (!(((rd_T42 x11 x17).f1) == ((rd_T42 x0 x17).f1)))) = true then (some false) else (L10_ViewOrder.l0 k x0 x1 x2 x3 x4 x11 (wrap64 (x17 + 1)))) else (none))) else (some false)) else (none)) else (none))
end
def L10_ViewOrder.f (k : Nat) (l0 : List (S42)) (a1 : Int) (a2 : Int) (a3 : Int) (a4 : Int) : Option (Bool) := (L10_Heavy.f l0).bind fun t1111 => (if t1111 = true then (L10_ViewOrder.j0 k l0 a1 a2 a3 a4 true) else ((ref10_Peers.f k l0).bind fun t1112 => (L10_ViewOrder.j0 k l0 a1 a2 a3 a4 (!t1112))))
theorem L10_ViewOrder.mono_l : ∀ k, (∀ y0 y1 y2 y3 y4 y5, LeO (L10_ViewOrder.j0 k y0 y1 y2 y3 y4 y5) (L10_ViewOrder.j0 (k + 1) y0 y1 y2 y3 y4 y5)) ∧ (∀ y0 y1 y2 y3 y4 y5 y6 y7 y8 y9 y10, LeO (L10_ViewOrder.j1 k y0 y1 y2 y3 y4 y5 y6 y7 y8 y9 y10) (L10_ViewOrder.j1 (k + 1) y0 y1 y2 y3 y4 y5 y6 y7 y8 y9 y10)) ∧ (∀ y0 y1 y2 y3 y4 y5 y6, LeO (L10_ViewOrder.j2 k y0 y1 y2 y3 y4 y5 y6) (L10_ViewOrder.j2 (k + 1) y0 y1 y2 y3 y4 y5 y6)) ∧ (∀ y0 y1 y2 y3 y4 y5 y6, LeO (L10_ViewOrder.l0 k y0 y1 y2 y3 y4 y5 y6) (L10_ViewOrder.l0 (k + 1) y0 y1 y2 y3 y4 y5 y6)) ∧ (∀ y0 y1 y2 y3 y4 y5 y6 y7, LeO (L10_ViewOrder.j4 k y0 y1 y2 y3 y4 y5 y6 y7) (L10_ViewOrder.j4 (k + 1) y0 y1 y2 y3 y4 y5 y6 y7))
  | 0 => ⟨fun _ _ _ _ _ _ r h => by simp [L10_ViewOrder.j0] at h, fun _ _ _ _ _ _ _ _ _ _ _ r h => by simp [L10_ViewOrder.j1] at h, fun _ _ _ _ _ _ _ r h => by simp [L10_ViewOrder.j2] at h, fun _ _ _ _ _ _ _ r h => by simp [L10_ViewOrder.l0] at h, fun _ _ _ _ _ _ _ _ r h => by simp [L10_ViewOrder.j4] at h⟩
  | k + 1 => by
    obtain ⟨ih0, ih1, ih2, ih3, ih4⟩ := L10_ViewOrder.mono_l k
    refine ⟨?_, ?_, ?_, ?_, ?_⟩
    · intro y0 y1 y2 y3 y4 y5
      unfold L10_ViewOrder.j0
      repeat' first
      | (with_reducible exact ih0 _ _ _ _ _ _)
      | (with_reducible exact ih1 _ _ _ _ _ _ _ _ _ _ _)
      | (with_reducible exact ih2 _ _ _ _ _ _ _)
      | (with_reducible exact ih3 _ _ _ _ _ _ _)
      | (with_reducible exact ih4 _ _ _ _ _ _ _ _)
      | (with_reducible exact L10_wakes.mono _)
      | (with_reducible exact bk_Peers.mono _ _ _)
      | (with_reducible exact ref10_Peers.mono _ _)
      | (with_reducible exact view_Hear.mono _ _ _ _)
      | (with_reducible exact LeO.refl _)
      | (with_reducible exact LeO.none _)
      | (with_reducible refine LeO.ite ?_ ?_)
      | (with_reducible refine LeO.bind ?_ (fun _ => ?_))
      | exact ih0 _ _ _ _ _ _
      | exact ih1 _ _ _ _ _ _ _ _ _ _ _
      | exact ih2 _ _ _ _ _ _ _
      | exact ih3 _ _ _ _ _ _ _
      | exact ih4 _ _ _ _ _ _ _ _
      | exact L10_wakes.mono _
      | exact bk_Peers.mono _ _ _
      | exact ref10_Peers.mono _ _
      | exact view_Hear.mono _ _ _ _
      | exact LeO.none _
      | refine LeO.ite ?_ ?_
      | refine LeO.bind ?_ (fun _ => ?_)
    · intro y0 y1 y2 y3 y4 y5 y6 y7 y8 y9 y10
      unfold L10_ViewOrder.j1
      repeat' first
      | (with_reducible exact ih0 _ _ _ _ _ _)
      | (with_reducible exact ih1 _ _ _ _ _ _ _ _ _ _ _)
      | (with_reducible exact ih2 _ _ _ _ _ _ _)
      | (with_reducible exact ih3 _ _ _ _ _ _ _)
      | (with_reducible exact ih4 _ _ _ _ _ _ _ _)
      | (with_reducible exact L10_wakes.mono _)
      | (with_reducible exact bk_Peers.mono _ _ _)
      | (with_reducible exact ref10_Peers.mono _ _)
      | (with_reducible exact view_Hear.mono _ _ _ _)
      | (with_reducible exact LeO.refl _)
      | (with_reducible exact LeO.none _)
      | (with_reducible refine LeO.ite ?_ ?_)
      | (with_reducible refine LeO.bind ?_ (fun _ => ?_))
      | exact ih0 _ _ _ _ _ _
      | exact ih1 _ _ _ _ _ _ _ _ _ _ _
      | exact ih2 _ _ _ _ _ _ _
      | exact ih3 _ _ _ _ _ _ _
      | exact ih4 _ _ _ _ _ _ _ _
      | exact L10_wakes.mono _
      | exact bk_Peers.mono _ _ _
      | exact ref10_Peers.mono _ _
      | exact view_Hear.mono _ _ _ _
      | exact LeO.none _
      | refine LeO.ite ?_ ?_
      | refine LeO.bind ?_ (fun _ => ?_)
    · intro y0 y1 y2 y3 y4 y5 y6
      unfold L10_ViewOrder.j2
      repeat' first
      | (with_reducible exact ih0 _ _ _ _ _ _)
      | (with_reducible exact ih1 _ _ _ _ _ _ _ _ _ _ _)
      | (with_reducible exact ih2 _ _ _ _ _ _ _)
      | (with_reducible exact ih3 _ _ _ _ _ _ _)
      | (with_reducible exact ih4 _ _ _ _ _ _ _ _)
      | (with_reducible exact L10_wakes.mono _)
      | (with_reducible exact bk_Peers.mono _ _ _)
      | (with_reducible exact ref10_Peers.mono _ _)
      | (with_reducible exact view_Hear.mono _ _ _ _)
      | (with_reducible exact LeO.refl _)
      | (with_reducible exact LeO.none _)
      | (with_reducible refine LeO.ite ?_ ?_)
      | (with_reducible refine LeO.bind ?_ (fun _ => ?_))
      | exact ih0 _ _ _ _ _ _
      | exact ih1 _ _ _ _ _ _ _ _ _ _ _
      | exact ih2 _ _ _ _ _ _ _
      | exact ih3 _ _ _ _ _ _ _
      | exact ih4 _ _ _ _ _ _ _ _
      | exact L10_wakes.mono _
      | exact bk_Peers.mono _ _ _
      | exact ref10_Peers.mono _ _
      | exact view_Hear.mono _ _ _ _
      | exact LeO.none _
      | refine LeO.ite ?_ ?_
      | refine LeO.bind ?_ (fun _ => ?_)
    · intro y0 y1 y2 y3 y4 y5 y6
      unfold L10_ViewOrder.l0
      repeat' first
      | (with_reducible exact ih0 _ _ _ _ _ _)
      | (with_reducible exact ih1 _ _ _ _ _ _ _ _ _ _ _)
      | (with_reducible exact ih2 _ _ _ _ _ _ _)
      | (with_reducible exact ih3 _ _ _ _ _ _ _)
      | (with_reducible exact ih4 _ _ _ _ _ _ _ _)
      | (with_reducible exact L10_wakes.mono _)
      | (with_reducible exact bk_Peers.mono _ _ _)
      | (with_reducible exact ref10_Peers.mono _ _)
      | (with_reducible exact view_Hear.mono _ _ _ _)
      | (with_reducible exact LeO.refl _)
      | (with_reducible exact LeO.none _)
      | (with_reducible refine LeO.ite ?_ ?_)
      | (with_reducible refine LeO.bind ?_ (fun _ => ?_))
      | exact ih0 _ _ _ _ _ _
      | exact ih1 _ _ _ _ _ _ _ _ _ _ _
      | exact ih2 _ _ _ _ _ _ _
      | exact ih3 _ _ _ _ _ _ _
      | exact ih4 _ _ _ _ _ _ _ _
      | exact L10_wakes.mono _
      | exact bk_Peers.mono _ _ _
      | exact ref10_Peers.mono _ _
      | exact view_Hear.mono _ _ _ _
      | exact LeO.none _
      | refine LeO.ite ?_ ?_
      | refine LeO.bind ?_ (fun _ => ?_)
    · intro y0 y1 y2 y3 y4 y5 y6 y7
      unfold L10_ViewOrder.j4
      repeat' first
      | (with_reducible exact ih0 _ _ _ _ _ _)
      | (with_reducible exact ih1 _ _ _ _ _ _ _ _ _ _ _)
      | (with_reducible exact ih2 _ _ _ _ _ _ _)
      | (with_reducible exact ih3 _ _ _ _ _ _ _)
      | (with_reducible exact ih4 _ _ _ _ _ _ _ _)
      | (with_reducible exact L10_wakes.mono _)
      | (with_reducible exact bk_Peers.mono _ _ _)
      | (with_reducible exact ref10_Peers.mono _ _)
      | (with_reducible exact view_Hear.mono _ _ _ _)
      | (with_reducible exact LeO.refl _)
      | (with_reducible exact LeO.none _)
      | (with_reducible refine LeO.ite ?_ ?_)
      | (with_reducible refine LeO.bind ?_ (fun _ => ?_))
      | exact ih0 _ _ _ _ _ _
      | exact ih1 _ _ _ _ _ _ _ _ _ _ _
      | exact ih2 _ _ _ _ _ _ _
      | exact ih3 _ _ _ _ _ _ _
      | exact ih4 _ _ _ _ _ _ _ _
      | exact L10_wakes.mono _
      | exact bk_Peers.mono _ _ _
      | exact ref10_Peers.mono _ _
      | exact view_Hear.mono _ _ _ _
      | exact LeO.none _
      | refine LeO.ite ?_ ?_
      | refine LeO.bind ?_ (fun _ => ?_)
theorem L10_ViewOrder.mono : ∀ a0 a1 a2 a3 a4 k, LeO (L10_ViewOrder.f k a0 a1 a2 a3 a4) (L10_ViewOrder.f (k + 1) a0 a1 a2 a3 a4) := by
  intro a0 a1 a2 a3 a4 k
  obtain ⟨ih0, ih1, ih2, ih3, ih4⟩ := L10_ViewOrder.mono_l k
  unfold L10_ViewOrder.f
  repeat' first
      | (with_reducible exact ih0 _ _ _ _ _ _)
      | (with_reducible exact ih1 _ _ _ _ _ _ _ _ _ _ _)
      | (with_reducible exact ih2 _ _ _ _ _ _ _)
      | (with_reducible exact ih3 _ _ _ _ _ _ _)
      | (with_reducible exact ih4 _ _ _ _ _ _ _ _)
      | (with_reducible exact L10_wakes.mono _)
      | (with_reducible exact bk_Peers.mono _ _ _)
      | (with_reducible exact ref10_Peers.mono _ _)
      | (with_reducible exact view_Hear.mono _ _ _ _)
      | (with_reducible exact LeO.refl _)
      | (with_reducible exact LeO.none _)
      | (with_reducible refine LeO.ite ?_ ?_)
      | (with_reducible refine LeO.bind ?_ (fun _ => ?_))
      | exact ih0 _ _ _ _ _ _
      | exact ih1 _ _ _ _ _ _ _ _ _ _ _
      | exact ih2 _ _ _ _ _ _ _
      | exact ih3 _ _ _ _ _ _ _
      | exact ih4 _ _ _ _ _ _ _ _
      | exact L10_wakes.mono _
      | exact bk_Peers.mono _ _ _
      | exact ref10_Peers.mono _ _
      | exact view_Hear.mono _ _ _ _
      | exact LeO.none _
      | refine LeO.ite ?_ ?_
      | refine LeO.bind ?_ (fun _ => ?_)
set_option maxHeartbeats 8000000 in
set_option maxRecDepth 100000 in
theorem L10_ViewOrder.calls (k : Nat) (A0 : Option Addr) (c0 : Nat) (l0 : List (S42)) (a1 : Int) (a2 : Int) (a3 : Int) (a4 : Int) (r : Bool) (w : World) (hr0 : Kd.C k42 w A0 l0.length l0) (hc0 : l0.length ≤ c0) (h : L10_ViewOrder.f k l0 a1 a2 a3 a4 = some r) :
    Calls Try.prog 6 #[.slice A0 l0.length c0, .int .i64 a1, .int .i64 a2, .int .i64 a3, .int .i64 a4] w fun e w' => e = .returned (.bool r) ∧ Below w.heap.size w w' := by
  have hu42 := Try.underlying42
  have HR0 := Aside0.mk hr0
  have HC0 := Aside0.mk hc0
  clear hr0 hc0
  have HB := Aside0.mk (Below.refl w.heap.size w)
  have H : ((L10_Heavy.f l0).bind fun t1111 => (if t1111 = true then (L10_ViewOrder.j0 k l0 a1 a2 a3 a4 true) else ((ref10_Peers.f k l0).bind fun t1112 => (L10_ViewOrder.j0 k l0 a1 a2 a3 a4 (!t1112))))) = some r := h
  clear h
  have HC6 := Aside0.mk H
  clear H
  go_enter Try.func6, Try.ntmps6
  go_upto_region 1 with (fail)
  repeat (go_quiet (fail); go_upto_region 1 with (fail))
  go_cut [25] (fun v25 wc => ∃ (kq : Nat) (x25_5 : Bool), v25 = .bool x25_5 ∧ Aside0 (L10_ViewOrder.j0 kq l0 a1 a2 a3 a4 x25_5 = some r) ∧ Aside0 (kq ≤ k) ∧ Aside0 (Below w.heap.size w wc))
  case first =>
    have H := HC6.out
    clear HC6
    replace H := Option.bind_eq_some_iff.mp H
    obtain ⟨t1111, A70, H⟩ := H
    replace H : (if t1111 = true then (L10_ViewOrder.j0 k l0 a1 a2 a3 a4 true) else ((ref10_Peers.f k l0).bind fun t1112 => (L10_ViewOrder.j0 k l0 a1 a2 a3 a4 (!t1112)))) = some r := H
    have A7 := Aside0.mk A70
    clear A70
    by_cases c8 : t1111 = true
    · subst c8
      have H1 : (L10_ViewOrder.j0 k l0 a1 a2 a3 a4 true) = some r := by rw [if_pos rfl] at H; exact H
      clear H
      have H := H1
      clear H1
      have H' := Aside0.mk H
      clear H
      go_wp2_with (first | (go_at_call 11; (with_reducible refine (L10_Heavy.calls _ _ l0 true _ ?side1 ?side2 A7.out).mono ?_); (case side1 => repeat (first | exact (Kd.C_below HR0.out HB.out) | (with_reducible refine Kd.C_alloc ?_ _) | (with_reducible refine Kd.C_drewN ?_ _) | (with_reducible refine Kd.C_drew ?_))); (case side2 => exact HC0.out); rintro e w' ⟨rfl, ⟨nd, rfl⟩⟩; (try first | exact ⟨rfl, _, World.drewN_drewN _ _ _⟩ | exact ⟨rfl, _, Eq.trans (World.drewN_drewN _ _ _) (congrArg (World.drewN _) (Nat.add_assoc _ _ _))⟩)))
      repeat (go_quiet (first | (go_at_call 11; (with_reducible refine (L10_Heavy.calls _ _ l0 true _ ?side1 ?side2 A7.out).mono ?_); (case side1 => repeat (first | exact (Kd.C_below HR0.out HB.out) | (with_reducible refine Kd.C_alloc ?_ _) | (with_reducible refine Kd.C_drewN ?_ _) | (with_reducible refine Kd.C_drew ?_))); (case side2 => exact HC0.out); rintro e w' ⟨rfl, ⟨nd, rfl⟩⟩; (try first | exact ⟨rfl, _, World.drewN_drewN _ _ _⟩ | exact ⟨rfl, _, Eq.trans (World.drewN_drewN _ _ _) (congrArg (World.drewN _) (Nat.add_assoc _ _ _))⟩))); try go_wp2_with (first | (go_at_call 11; (with_reducible refine (L10_Heavy.calls _ _ l0 true _ ?side1 ?side2 A7.out).mono ?_); (case side1 => repeat (first | exact (Kd.C_below HR0.out HB.out) | (with_reducible refine Kd.C_alloc ?_ _) | (with_reducible refine Kd.C_drewN ?_ _) | (with_reducible refine Kd.C_drew ?_))); (case side2 => exact HC0.out); rintro e w' ⟨rfl, ⟨nd, rfl⟩⟩; (try first | exact ⟨rfl, _, World.drewN_drewN _ _ _⟩ | exact ⟨rfl, _, Eq.trans (World.drewN_drewN _ _ _) (congrArg (World.drewN _) (Nat.add_assoc _ _ _))⟩))))
      go_meet
      case rel => exact ⟨_, (true), (by first | rfl | (simp; done) | (simp [*]; done)), H', ⟨by first | omega | exact Nat.le_refl _⟩, ⟨by repeat (first | (with_reducible first | exact HB.out | apply ba_ | apply bn_ | apply bd_) | exact HB.out)⟩⟩
    · replace c8 := Bool.eq_false_iff.mpr c8
      subst c8
      have H1 : ((ref10_Peers.f k l0).bind fun t1112 => (L10_ViewOrder.j0 k l0 a1 a2 a3 a4 (!t1112))) = some r := by rw [if_neg (show ¬ (false = true) by decide)] at H; exact H
      clear H
      have H := H1
      clear H1
      replace H := Option.bind_eq_some_iff.mp H
      obtain ⟨t1112, A90, H⟩ := H
      replace H : (L10_ViewOrder.j0 k l0 a1 a2 a3 a4 (!t1112)) = some r := H
      have A9 := Aside0.mk A90
      clear A90
      have H' := Aside0.mk H
      clear H
      go_wp2_with (first | (go_at_call 11; (with_reducible refine (L10_Heavy.calls _ _ l0 false _ ?side1 ?side2 A7.out).mono ?_); (case side1 => repeat (first | exact (Kd.C_below HR0.out HB.out) | (with_reducible refine Kd.C_alloc ?_ _) | (with_reducible refine Kd.C_drewN ?_ _) | (with_reducible refine Kd.C_drew ?_))); (case side2 => exact HC0.out); rintro e w' ⟨rfl, ⟨nd, rfl⟩⟩; (try first | exact ⟨rfl, _, World.drewN_drewN _ _ _⟩ | exact ⟨rfl, _, Eq.trans (World.drewN_drewN _ _ _) (congrArg (World.drewN _) (Nat.add_assoc _ _ _))⟩)) | (go_at_call 17; (with_reducible refine (ref10_Peers.calls k _ _ l0 t1112 _ ?side1 ?side2 A9.out).mono ?_); (case side1 => repeat (first | exact (Kd.C_below HR0.out (by repeat (first | (with_reducible first | exact HB.out | apply ba_ | apply bn_ | apply bd_) | exact HB.out))) | (with_reducible refine Kd.C_alloc ?_ _) | (with_reducible refine Kd.C_drewN ?_ _) | (with_reducible refine Kd.C_drew ?_))); (case side2 => exact HC0.out); rintro e w' ⟨rfl, ⟨nd, rfl⟩⟩; (try first | exact ⟨rfl, _, World.drewN_drewN _ _ _⟩ | exact ⟨rfl, _, Eq.trans (World.drewN_drewN _ _ _) (congrArg (World.drewN _) (Nat.add_assoc _ _ _))⟩)))
      repeat (go_quiet (first | (go_at_call 11; (with_reducible refine (L10_Heavy.calls _ _ l0 false _ ?side1 ?side2 A7.out).mono ?_); (case side1 => repeat (first | exact (Kd.C_below HR0.out HB.out) | (with_reducible refine Kd.C_alloc ?_ _) | (with_reducible refine Kd.C_drewN ?_ _) | (with_reducible refine Kd.C_drew ?_))); (case side2 => exact HC0.out); rintro e w' ⟨rfl, ⟨nd, rfl⟩⟩; (try first | exact ⟨rfl, _, World.drewN_drewN _ _ _⟩ | exact ⟨rfl, _, Eq.trans (World.drewN_drewN _ _ _) (congrArg (World.drewN _) (Nat.add_assoc _ _ _))⟩)) | (go_at_call 17; (with_reducible refine (ref10_Peers.calls k _ _ l0 t1112 _ ?side1 ?side2 A9.out).mono ?_); (case side1 => repeat (first | exact (Kd.C_below HR0.out (by repeat (first | (with_reducible first | exact HB.out | apply ba_ | apply bn_ | apply bd_) | exact HB.out))) | (with_reducible refine Kd.C_alloc ?_ _) | (with_reducible refine Kd.C_drewN ?_ _) | (with_reducible refine Kd.C_drew ?_))); (case side2 => exact HC0.out); rintro e w' ⟨rfl, ⟨nd, rfl⟩⟩; (try first | exact ⟨rfl, _, World.drewN_drewN _ _ _⟩ | exact ⟨rfl, _, Eq.trans (World.drewN_drewN _ _ _) (congrArg (World.drewN _) (Nat.add_assoc _ _ _))⟩))); try go_wp2_with (first | (go_at_call 11; (with_reducible refine (L10_Heavy.calls _ _ l0 false _ ?side1 ?side2 A7.out).mono ?_); (case side1 => repeat (first | exact (Kd.C_below HR0.out HB.out) | (with_reducible refine Kd.C_alloc ?_ _) | (with_reducible refine Kd.C_drewN ?_ _) | (with_reducible refine Kd.C_drew ?_))); (case side2 => exact HC0.out); rintro e w' ⟨rfl, ⟨nd, rfl⟩⟩; (try first | exact ⟨rfl, _, World.drewN_drewN _ _ _⟩ | exact ⟨rfl, _, Eq.trans (World.drewN_drewN _ _ _) (congrArg (World.drewN _) (Nat.add_assoc _ _ _))⟩)) | (go_at_call 17; (with_reducible refine (ref10_Peers.calls k _ _ l0 t1112 _ ?side1 ?side2 A9.out).mono ?_); (case side1 => repeat (first | exact (Kd.C_below HR0.out (by repeat (first | (with_reducible first | exact HB.out | apply ba_ | apply bn_ | apply bd_) | exact HB.out))) | (with_reducible refine Kd.C_alloc ?_ _) | (with_reducible refine Kd.C_drewN ?_ _) | (with_reducible refine Kd.C_drew ?_))); (case side2 => exact HC0.out); rintro e w' ⟨rfl, ⟨nd, rfl⟩⟩; (try first | exact ⟨rfl, _, World.drewN_drewN _ _ _⟩ | exact ⟨rfl, _, Eq.trans (World.drewN_drewN _ _ _) (congrArg (World.drewN _) (Nat.add_assoc _ _ _))⟩))))
      go_meet
      case rel => exact ⟨_, (!t1112), (by first | rfl | (simp; done) | (simp [*]; done)), H', ⟨by first | omega | exact Nat.le_refl _⟩, ⟨by repeat (first | (with_reducible first | exact HB.out | apply ba_ | apply bn_ | apply bd_) | exact HB.out)⟩⟩
  case rest => as_aux_lemma =>
    clear HC6
    (try clear p2); (try clear c6); (try clear c8)
    obtain ⟨kq, x25_5, rfl, HA, HJ5, HB⟩ := hcut
    cases kq with
    | zero => exact absurd HA.out (by simp [L10_ViewOrder.j0])
    | succ kj5 =>
      have H := HA.out
      clear HA
      simp only [L10_ViewOrder.j0] at H
      by_cases c10 : x25_5 = true
      · subst c10
        have H1 : (some true) = some r := by rw [if_pos rfl] at H; exact H
        clear H
        have H := H1
        clear H1
        obtain rfl := Option.some.inj H
        go_wp2
        repeat (go_quiet (fail); try go_wp2)
        go_ret
        exact ⟨by first | rfl | (simp [errW_none, errW_some] <;> rfl) | (simp [*, errW_none, errW_some] <;> rfl), by repeat (first | (with_reducible first | exact HB.out | apply ba_ | apply bn_ | apply bd_) | exact HB.out)⟩
      · replace c10 := Bool.eq_false_iff.mpr c10
        subst c10
        have H1 : (if (IntKind.u64.wrap ((l0.length : Int))) = 0 then (none) else ((view_Hear.f kj5 l0 (wrap64 (Int.tmod (IntKind.u64.wrap (a1)) (IntKind.u64.wrap ((l0.length : Int))))) (wrap64 (1 + (wrap64 (Int.tmod (IntKind.u64.wrap (a3)) 1000))))).bind fun bt1113 => ((view_Hear.f kj5 bt1113.1 (wrap64 (Int.tmod (IntKind.u64.wrap (a2)) (IntKind.u64.wrap ((l0.length : Int))))) (wrap64 (1 + (wrap64 (Int.tmod (IntKind.u64.wrap (a4)) 1000))))).bind fun bt1117 => ((view_Hear.f kj5 l0 (wrap64 (Int.tmod (IntKind.u64.wrap (a2)) (IntKind.u64.wrap ((l0.length : Int))))) (wrap64 (1 + (wrap64 (Int.tmod (IntKind.u64.wrap (a4)) 1000))))).bind fun bt1121 => ((view_Hear.f kj5 bt1121.1 (wrap64 (Int.tmod (IntKind.u64.wrap (a1)) (IntKind.u64.wrap ((l0.length : Int))))) (wrap64 (1 + (wrap64 (Int.tmod (IntKind.u64.wrap (a3)) 1000))))).bind fun bt1125 => (L10_ViewOrder.j1 kj5 l0 (wrap64 (Int.tmod (IntKind.u64.wrap (a1)) (IntKind.u64.wrap ((l0.length : Int))))) (wrap64 (Int.tmod (IntKind.u64.wrap (a2)) (IntKind.u64.wrap ((l0.length : Int))))) (wrap64 (1 + (wrap64 (Int.tmod (IntKind.u64.wrap (a3)) 1000)))) (wrap64 (1 + (wrap64 (Int.tmod (IntKind.u64.wrap (a4)) 1000)))) bt1117.1 bt1113.2 bt1117.2 bt1125.1 bt1121.2 bt1125.2)))))) = some r := by rw [if_neg (show ¬ (false = true) by decide)] at H; exact H
        clear H
        have H := H1
        clear H1
        by_cases c11 : (IntKind.u64.wrap ((l0.length : Int))) = 0
        · rw [if_pos c11] at H
          exact absurd H (by simp)
        · rw [if_neg c11] at H
          have c11b0 : ((IntKind.u64.wrap ((l0.length : Int))) == 0) = false := beq_eq_false_iff_ne.mpr c11
          have c11b1 : ((IntKind.u64.wrap ((l0.length : Int))) != 0) = true := bne_iff_ne.mpr c11
          replace H := Option.bind_eq_some_iff.mp H
          obtain ⟨⟨t1113, t1114⟩, A120, H⟩ := H
          replace H : ((view_Hear.f kj5 t1113 (wrap64 (Int.tmod (IntKind.u64.wrap (a2)) (IntKind.u64.wrap ((l0.length : Int))))) (wrap64 (1 + (wrap64 (Int.tmod (IntKind.u64.wrap (a4)) 1000))))).bind fun bt1117 => ((view_Hear.f kj5 l0 (wrap64 (Int.tmod (IntKind.u64.wrap (a2)) (IntKind.u64.wrap ((l0.length : Int))))) (wrap64 (1 + (wrap64 (Int.tmod (IntKind.u64.wrap (a4)) 1000))))).bind fun bt1121 => ((view_Hear.f kj5 bt1121.1 (wrap64 (Int.tmod (IntKind.u64.wrap (a1)) (IntKind.u64.wrap ((l0.length : Int))))) (wrap64 (1 + (wrap64 (Int.tmod (IntKind.u64.wrap (a3)) 1000))))).bind fun bt1125 => (L10_ViewOrder.j1 kj5 l0 (wrap64 (Int.tmod (IntKind.u64.wrap (a1)) (IntKind.u64.wrap ((l0.length : Int))))) (wrap64 (Int.tmod (IntKind.u64.wrap (a2)) (IntKind.u64.wrap ((l0.length : Int))))) (wrap64 (1 + (wrap64 (Int.tmod (IntKind.u64.wrap (a3)) 1000)))) (wrap64 (1 + (wrap64 (Int.tmod (IntKind.u64.wrap (a4)) 1000)))) bt1117.1 t1114 bt1117.2 bt1125.1 bt1121.2 bt1125.2)))) = some r := H
          have A12 := Aside0.mk A120
          clear A120
          replace H := Option.bind_eq_some_iff.mp H
          obtain ⟨⟨t1117, t1118⟩, A130, H⟩ := H
          replace H : ((view_Hear.f kj5 l0 (wrap64 (Int.tmod (IntKind.u64.wrap (a2)) (IntKind.u64.wrap ((l0.length : Int))))) (wrap64 (1 + (wrap64 (Int.tmod (IntKind.u64.wrap (a4)) 1000))))).bind fun bt1121 => ((view_Hear.f kj5 bt1121.1 (wrap64 (Int.tmod (IntKind.u64.wrap (a1)) (IntKind.u64.wrap ((l0.length : Int))))) (wrap64 (1 + (wrap64 (Int.tmod (IntKind.u64.wrap (a3)) 1000))))).bind fun bt1125 => (L10_ViewOrder.j1 kj5 l0 (wrap64 (Int.tmod (IntKind.u64.wrap (a1)) (IntKind.u64.wrap ((l0.length : Int))))) (wrap64 (Int.tmod (IntKind.u64.wrap (a2)) (IntKind.u64.wrap ((l0.length : Int))))) (wrap64 (1 + (wrap64 (Int.tmod (IntKind.u64.wrap (a3)) 1000)))) (wrap64 (1 + (wrap64 (Int.tmod (IntKind.u64.wrap (a4)) 1000)))) t1117 t1114 t1118 bt1125.1 bt1121.2 bt1125.2))) = some r := H
          have A13 := Aside0.mk A130
          clear A130
          replace H := Option.bind_eq_some_iff.mp H
          obtain ⟨⟨t1121, t1122⟩, A140, H⟩ := H
          replace H : ((view_Hear.f kj5 t1121 (wrap64 (Int.tmod (IntKind.u64.wrap (a1)) (IntKind.u64.wrap ((l0.length : Int))))) (wrap64 (1 + (wrap64 (Int.tmod (IntKind.u64.wrap (a3)) 1000))))).bind fun bt1125 => (L10_ViewOrder.j1 kj5 l0 (wrap64 (Int.tmod (IntKind.u64.wrap (a1)) (IntKind.u64.wrap ((l0.length : Int))))) (wrap64 (Int.tmod (IntKind.u64.wrap (a2)) (IntKind.u64.wrap ((l0.length : Int))))) (wrap64 (1 + (wrap64 (Int.tmod (IntKind.u64.wrap (a3)) 1000)))) (wrap64 (1 + (wrap64 (Int.tmod (IntKind.u64.wrap (a4)) 1000)))) t1117 t1114 t1118 bt1125.1 t1122 bt1125.2)) = some r := H
          have A14 := Aside0.mk A140
          clear A140
          have HC15 := Aside0.mk H
          clear H
          go_upto_region 8 with (first | (go_at_call 13; (with_reducible refine (view_Hear.calls kj5 _ _ l0 (wrap64 (Int.tmod (IntKind.u64.wrap (a1)) (IntKind.u64.wrap ((l0.length : Int))))) (wrap64 (1 + (wrap64 (Int.tmod (IntKind.u64.wrap (a3)) 1000)))) t1113 t1114 _ ?side1 ?side2 A12.out).mono ?_); (case side1 => repeat (first | exact (Kd.C_below HR0.out HB.out) | (with_reducible refine Kd.C_alloc ?_ _) | (with_reducible refine Kd.C_drewN ?_ _) | (with_reducible refine Kd.C_drew ?_))); (case side2 => exact HC0.out); rintro e w16 ⟨v1115, rfl, ho0, hb⟩; have n0_ := Aside0.mk (Kd.R_lower ho0 (below_size (by repeat (first | (with_reducible first | exact HB.out | apply ba_ | apply bn_ | apply bd_) | exact HB.out)))); have n1_ := Aside0.mk (below_step (by repeat (first | (with_reducible first | exact HB.out | apply ba_ | apply bn_ | apply bd_) | exact HB.out)) hb); clear HB; have HO1116 := n0_; have HB := n1_; clear n0_ n1_; (try clear hb); (try clear hb2); (try clear hk); (try clear hi); (try clear ho0); obtain ⟨Ao17, co17, eo17⟩ := Kd.R_slice HO1116.out; subst eo17) | (go_at_call 13; (with_reducible refine (view_Hear.calls kj5 _ _ t1113 (wrap64 (Int.tmod (IntKind.u64.wrap (a2)) (IntKind.u64.wrap ((l0.length : Int))))) (wrap64 (1 + (wrap64 (Int.tmod (IntKind.u64.wrap (a4)) 1000)))) t1117 t1118 _ ?side1 ?side2 A13.out).mono ?_); (case side1 => repeat (first | exact (Kd.R_reads' HO1116.out).2.2 | (with_reducible refine Kd.C_alloc ?_ _) | (with_reducible refine Kd.C_drewN ?_ _) | (with_reducible refine Kd.C_drew ?_))); (case side2 => exact (Kd.R_reads' HO1116.out).2.1); rintro e w18 ⟨v1119, rfl, ho0, hb⟩; have n0_ := Aside0.mk (Kd.R_elder' (by (with_reducible repeat (first | apply ra_ | apply rn_ | apply rd_)); exact HO1116.out) (Kd.R_base ho0) hb); have n1_ := Aside0.mk (Kd.R_lower (Kd.R_new' ho0 (Kd.R_lt (by (with_reducible repeat (first | apply ra_ | apply rn_ | apply rd_)); exact HO1116.out))) (below_size (by repeat (first | (with_reducible first | exact HB.out | apply ba_ | apply bn_ | apply bd_) | exact HB.out)))); have n2_ := Aside0.mk (below_step (by repeat (first | (with_reducible first | exact HB.out | apply ba_ | apply bn_ | apply bd_) | exact HB.out)) hb); clear HO1116; clear HB; have HO1116 := n0_; have HO1120 := n1_; have HB := n2_; clear n0_ n1_ n2_; (try clear hb); (try clear hb2); (try clear hk); (try clear hi); (try clear ho0)) | (go_at_call 13; (with_reducible refine (view_Hear.calls kj5 _ _ l0 (wrap64 (Int.tmod (IntKind.u64.wrap (a2)) (IntKind.u64.wrap ((l0.length : Int))))) (wrap64 (1 + (wrap64 (Int.tmod (IntKind.u64.wrap (a4)) 1000)))) t1121 t1122 _ ?side1 ?side2 A14.out).mono ?_); (case side1 => repeat (first | exact (Kd.C_below HR0.out HB.out) | (with_reducible refine Kd.C_alloc ?_ _) | (with_reducible refine Kd.C_drewN ?_ _) | (with_reducible refine Kd.C_drew ?_))); (case side2 => exact HC0.out); rintro e w19 ⟨v1123, rfl, ho0, hb⟩; have n0_ := Aside0.mk (Kd.R_elder' (by (with_reducible repeat (first | apply ra_ | apply rn_ | apply rd_)); exact HO1116.out) (Kd.R_base ho0) hb); have n1_ := Aside0.mk (Kd.R_elder' (by (with_reducible repeat (first | apply ra_ | apply rn_ | apply rd_)); exact HO1120.out) (Kd.R_base ho0) hb); have n2_ := Aside0.mk (Kd.R_lower (Kd.R_new' (Kd.R_new' ho0 (Kd.R_lt (by (with_reducible repeat (first | apply ra_ | apply rn_ | apply rd_)); exact HO1116.out))) (Kd.R_lt (by (with_reducible repeat (first | apply ra_ | apply rn_ | apply rd_)); exact HO1120.out))) (below_size (by repeat (first | (with_reducible first | exact HB.out | apply ba_ | apply bn_ | apply bd_) | exact HB.out)))); have n3_ := Aside0.mk (below_step (by repeat (first | (with_reducible first | exact HB.out | apply ba_ | apply bn_ | apply bd_) | exact HB.out)) hb); clear HO1116; clear HO1120; clear HB; have HO1116 := n0_; have HO1120 := n1_; have HO1124 := n2_; have HB := n3_; clear n0_ n1_ n2_ n3_; (try clear hb); (try clear hb2); (try clear hk); (try clear hi); (try clear ho0)))
          repeat (go_quiet (first | (go_at_call 13; (with_reducible refine (view_Hear.calls kj5 _ _ l0 (wrap64 (Int.tmod (IntKind.u64.wrap (a1)) (IntKind.u64.wrap ((l0.length : Int))))) (wrap64 (1 + (wrap64 (Int.tmod (IntKind.u64.wrap (a3)) 1000)))) t1113 t1114 _ ?side1 ?side2 A12.out).mono ?_); (case side1 => repeat (first | exact (Kd.C_below HR0.out HB.out) | (with_reducible refine Kd.C_alloc ?_ _) | (with_reducible refine Kd.C_drewN ?_ _) | (with_reducible refine Kd.C_drew ?_))); (case side2 => exact HC0.out); rintro e w16 ⟨v1115, rfl, ho0, hb⟩; have n0_ := Aside0.mk (Kd.R_lower ho0 (below_size (by repeat (first | (with_reducible first | exact HB.out | apply ba_ | apply bn_ | apply bd_) | exact HB.out)))); have n1_ := Aside0.mk (below_step (by repeat (first | (with_reducible first | exact HB.out | apply ba_ | apply bn_ | apply bd_) | exact HB.out)) hb); clear HB; have HO1116 := n0_; have HB := n1_; clear n0_ n1_; (try clear hb); (try clear hb2); (try clear hk); (try clear hi); (try clear ho0); obtain ⟨Ao17, co17, eo17⟩ := Kd.R_slice HO1116.out; subst eo17) | (go_at_call 13; (with_reducible refine (view_Hear.calls kj5 _ _ t1113 (wrap64 (Int.tmod (IntKind.u64.wrap (a2)) (IntKind.u64.wrap ((l0.length : Int))))) (wrap64 (1 + (wrap64 (Int.tmod (IntKind.u64.wrap (a4)) 1000)))) t1117 t1118 _ ?side1 ?side2 A13.out).mono ?_); (case side1 => repeat (first | exact (Kd.R_reads' HO1116.out).2.2 | (with_reducible refine Kd.C_alloc ?_ _) | (with_reducible refine Kd.C_drewN ?_ _) | (with_reducible refine Kd.C_drew ?_))); (case side2 => exact (Kd.R_reads' HO1116.out).2.1); rintro e w18 ⟨v1119, rfl, ho0, hb⟩; have n0_ := Aside0.mk (Kd.R_elder' (by (with_reducible repeat (first | apply ra_ | apply rn_ | apply rd_)); exact HO1116.out) (Kd.R_base ho0) hb); have n1_ := Aside0.mk (Kd.R_lower (Kd.R_new' ho0 (Kd.R_lt (by (with_reducible repeat (first | apply ra_ | apply rn_ | apply rd_)); exact HO1116.out))) (below_size (by repeat (first | (with_reducible first | exact HB.out | apply ba_ | apply bn_ | apply bd_) | exact HB.out)))); have n2_ := Aside0.mk (below_step (by repeat (first | (with_reducible first | exact HB.out | apply ba_ | apply bn_ | apply bd_) | exact HB.out)) hb); clear HO1116; clear HB; have HO1116 := n0_; have HO1120 := n1_; have HB := n2_; clear n0_ n1_ n2_; (try clear hb); (try clear hb2); (try clear hk); (try clear hi); (try clear ho0)) | (go_at_call 13; (with_reducible refine (view_Hear.calls kj5 _ _ l0 (wrap64 (Int.tmod (IntKind.u64.wrap (a2)) (IntKind.u64.wrap ((l0.length : Int))))) (wrap64 (1 + (wrap64 (Int.tmod (IntKind.u64.wrap (a4)) 1000)))) t1121 t1122 _ ?side1 ?side2 A14.out).mono ?_); (case side1 => repeat (first | exact (Kd.C_below HR0.out HB.out) | (with_reducible refine Kd.C_alloc ?_ _) | (with_reducible refine Kd.C_drewN ?_ _) | (with_reducible refine Kd.C_drew ?_))); (case side2 => exact HC0.out); rintro e w19 ⟨v1123, rfl, ho0, hb⟩; have n0_ := Aside0.mk (Kd.R_elder' (by (with_reducible repeat (first | apply ra_ | apply rn_ | apply rd_)); exact HO1116.out) (Kd.R_base ho0) hb); have n1_ := Aside0.mk (Kd.R_elder' (by (with_reducible repeat (first | apply ra_ | apply rn_ | apply rd_)); exact HO1120.out) (Kd.R_base ho0) hb); have n2_ := Aside0.mk (Kd.R_lower (Kd.R_new' (Kd.R_new' ho0 (Kd.R_lt (by (with_reducible repeat (first | apply ra_ | apply rn_ | apply rd_)); exact HO1116.out))) (Kd.R_lt (by (with_reducible repeat (first | apply ra_ | apply rn_ | apply rd_)); exact HO1120.out))) (below_size (by repeat (first | (with_reducible first | exact HB.out | apply ba_ | apply bn_ | apply bd_) | exact HB.out)))); have n3_ := Aside0.mk (below_step (by repeat (first | (with_reducible first | exact HB.out | apply ba_ | apply bn_ | apply bd_) | exact HB.out)) hb); clear HO1116; clear HO1120; clear HB; have HO1116 := n0_; have HO1120 := n1_; have HO1124 := n2_; have HB := n3_; clear n0_ n1_ n2_ n3_; (try clear hb); (try clear hb2); (try clear hk); (try clear hi); (try clear ho0))); go_upto_region 8 with (first | (go_at_call 13; (with_reducible refine (view_Hear.calls kj5 _ _ l0 (wrap64 (Int.tmod (IntKind.u64.wrap (a1)) (IntKind.u64.wrap ((l0.length : Int))))) (wrap64 (1 + (wrap64 (Int.tmod (IntKind.u64.wrap (a3)) 1000)))) t1113 t1114 _ ?side1 ?side2 A12.out).mono ?_); (case side1 => repeat (first | exact (Kd.C_below HR0.out HB.out) | (with_reducible refine Kd.C_alloc ?_ _) | (with_reducible refine Kd.C_drewN ?_ _) | (with_reducible refine Kd.C_drew ?_))); (case side2 => exact HC0.out); rintro e w16 ⟨v1115, rfl, ho0, hb⟩; have n0_ := Aside0.mk (Kd.R_lower ho0 (below_size (by repeat (first | (with_reducible first | exact HB.out | apply ba_ | apply bn_ | apply bd_) | exact HB.out)))); have n1_ := Aside0.mk (below_step (by repeat (first | (with_reducible first | exact HB.out | apply ba_ | apply bn_ | apply bd_) | exact HB.out)) hb); clear HB; have HO1116 := n0_; have HB := n1_; clear n0_ n1_; (try clear hb); (try clear hb2); (try clear hk); (try clear hi); (try clear ho0); obtain ⟨Ao17, co17, eo17⟩ := Kd.R_slice HO1116.out; subst eo17) | (go_at_call 13; (with_reducible refine (view_Hear.calls kj5 _ _ t1113 (wrap64 (Int.tmod (IntKind.u64.wrap (a2)) (IntKind.u64.wrap ((l0.length : Int))))) (wrap64 (1 + (wrap64 (Int.tmod (IntKind.u64.wrap (a4)) 1000)))) t1117 t1118 _ ?side1 ?side2 A13.out).mono ?_); (case side1 => repeat (first | exact (Kd.R_reads' HO1116.out).2.2 | (with_reducible refine Kd.C_alloc ?_ _) | (with_reducible refine Kd.C_drewN ?_ _) | (with_reducible refine Kd.C_drew ?_))); (case side2 => exact (Kd.R_reads' HO1116.out).2.1); rintro e w18 ⟨v1119, rfl, ho0, hb⟩; have n0_ := Aside0.mk (Kd.R_elder' (by (with_reducible repeat (first | apply ra_ | apply rn_ | apply rd_)); exact HO1116.out) (Kd.R_base ho0) hb); have n1_ := Aside0.mk (Kd.R_lower (Kd.R_new' ho0 (Kd.R_lt (by (with_reducible repeat (first | apply ra_ | apply rn_ | apply rd_)); exact HO1116.out))) (below_size (by repeat (first | (with_reducible first | exact HB.out | apply ba_ | apply bn_ | apply bd_) | exact HB.out)))); have n2_ := Aside0.mk (below_step (by repeat (first | (with_reducible first | exact HB.out | apply ba_ | apply bn_ | apply bd_) | exact HB.out)) hb); clear HO1116; clear HB; have HO1116 := n0_; have HO1120 := n1_; have HB := n2_; clear n0_ n1_ n2_; (try clear hb); (try clear hb2); (try clear hk); (try clear hi); (try clear ho0)) | (go_at_call 13; (with_reducible refine (view_Hear.calls kj5 _ _ l0 (wrap64 (Int.tmod (IntKind.u64.wrap (a2)) (IntKind.u64.wrap ((l0.length : Int))))) (wrap64 (1 + (wrap64 (Int.tmod (IntKind.u64.wrap (a4)) 1000)))) t1121 t1122 _ ?side1 ?side2 A14.out).mono ?_); (case side1 => repeat (first | exact (Kd.C_below HR0.out HB.out) | (with_reducible refine Kd.C_alloc ?_ _) | (with_reducible refine Kd.C_drewN ?_ _) | (with_reducible refine Kd.C_drew ?_))); (case side2 => exact HC0.out); rintro e w19 ⟨v1123, rfl, ho0, hb⟩; have n0_ := Aside0.mk (Kd.R_elder' (by (with_reducible repeat (first | apply ra_ | apply rn_ | apply rd_)); exact HO1116.out) (Kd.R_base ho0) hb); have n1_ := Aside0.mk (Kd.R_elder' (by (with_reducible repeat (first | apply ra_ | apply rn_ | apply rd_)); exact HO1120.out) (Kd.R_base ho0) hb); have n2_ := Aside0.mk (Kd.R_lower (Kd.R_new' (Kd.R_new' ho0 (Kd.R_lt (by (with_reducible repeat (first | apply ra_ | apply rn_ | apply rd_)); exact HO1116.out))) (Kd.R_lt (by (with_reducible repeat (first | apply ra_ | apply rn_ | apply rd_)); exact HO1120.out))) (below_size (by repeat (first | (with_reducible first | exact HB.out | apply ba_ | apply bn_ | apply bd_) | exact HB.out)))); have n3_ := Aside0.mk (below_step (by repeat (first | (with_reducible first | exact HB.out | apply ba_ | apply bn_ | apply bd_) | exact HB.out)) hb); clear HO1116; clear HO1120; clear HB; have HO1116 := n0_; have HO1120 := n1_; have HO1124 := n2_; have HB := n3_; clear n0_ n1_ n2_ n3_; (try clear hb); (try clear hb2); (try clear hk); (try clear hi); (try clear ho0))))
          (try simp only [Act.put, List.setIfInBounds_toArray, List.set_cons_zero, List.set_cons_succ])
          go_cut [14, 16] (fun v14 v16 wc => ∃ (kq : Nat) (x14_14 : List (S42)) (x16_14 : Int), v16 = .int .i64 x16_14 ∧ Aside0 (L10_ViewOrder.j1 kq l0 (wrap64 (Int.tmod (IntKind.u64.wrap (a1)) (IntKind.u64.wrap ((l0.length : Int))))) (wrap64 (Int.tmod (IntKind.u64.wrap (a2)) (IntKind.u64.wrap ((l0.length : Int))))) (wrap64 (1 + (wrap64 (Int.tmod (IntKind.u64.wrap (a3)) 1000)))) (wrap64 (1 + (wrap64 (Int.tmod (IntKind.u64.wrap (a4)) 1000)))) t1117 t1114 t1118 x14_14 t1122 x16_14 = some r) ∧ Aside0 (kq ≤ kj5) ∧ Aside0 (Kd.R k42 42 wc w.heap.size (fun k_ => some k_ ≠ (v14 : Value).ownBlock) v1119 t1117) ∧ Aside0 (Kd.R k42 42 wc w.heap.size (fun k_ => some k_ ≠ (v1119 : Value).ownBlock) v14 x14_14) ∧ Aside0 (Below w.heap.size w wc))
          case first =>
            have H := HC15.out
            clear HC15
            replace H := Option.bind_eq_some_iff.mp H
            obtain ⟨⟨t1125, t1126⟩, A200, H⟩ := H
            replace H : (L10_ViewOrder.j1 kj5 l0 (wrap64 (Int.tmod (IntKind.u64.wrap (a1)) (IntKind.u64.wrap ((l0.length : Int))))) (wrap64 (Int.tmod (IntKind.u64.wrap (a2)) (IntKind.u64.wrap ((l0.length : Int))))) (wrap64 (1 + (wrap64 (Int.tmod (IntKind.u64.wrap (a3)) 1000)))) (wrap64 (1 + (wrap64 (Int.tmod (IntKind.u64.wrap (a4)) 1000)))) t1117 t1114 t1118 t1125 t1122 t1126) = some r := H
            have A20 := Aside0.mk A200
            clear A200
            have H' := Aside0.mk H
            clear H
            obtain ⟨Ao21, co21, eo21⟩ := Kd.R_slice HO1124.out
            subst eo21
            go_wp2_with (first | (go_at_call 13; (with_reducible refine (view_Hear.calls kj5 _ _ t1121 (wrap64 (Int.tmod (IntKind.u64.wrap (a1)) (IntKind.u64.wrap ((l0.length : Int))))) (wrap64 (1 + (wrap64 (Int.tmod (IntKind.u64.wrap (a3)) 1000)))) t1125 t1126 _ ?side1 ?side2 A20.out).mono ?_); (case side1 => repeat (first | exact (Kd.R_reads' HO1124.out).2.2 | (with_reducible refine Kd.C_alloc ?_ _) | (with_reducible refine Kd.C_drewN ?_ _) | (with_reducible refine Kd.C_drew ?_))); (case side2 => exact (Kd.R_reads' HO1124.out).2.1); rintro e w22 ⟨v1127, rfl, ho0, hb⟩; have n0_ := Aside0.mk (Kd.R_elder' (by (with_reducible repeat (first | apply ra_ | apply rn_ | apply rd_)); exact HO1116.out) (Kd.R_base ho0) hb); have n1_ := Aside0.mk (Kd.R_elder' (by (with_reducible repeat (first | apply ra_ | apply rn_ | apply rd_)); exact HO1120.out) (Kd.R_base ho0) hb); have n2_ := Aside0.mk (Kd.R_elder' (by (with_reducible repeat (first | apply ra_ | apply rn_ | apply rd_)); exact HO1124.out) (Kd.R_base ho0) hb); have n3_ := Aside0.mk (Kd.R_lower (Kd.R_new' (Kd.R_new' (Kd.R_new' ho0 (Kd.R_lt (by (with_reducible repeat (first | apply ra_ | apply rn_ | apply rd_)); exact HO1116.out))) (Kd.R_lt (by (with_reducible repeat (first | apply ra_ | apply rn_ | apply rd_)); exact HO1120.out))) (Kd.R_lt (by (with_reducible repeat (first | apply ra_ | apply rn_ | apply rd_)); exact HO1124.out))) (below_size (by repeat (first | (with_reducible first | exact HB.out | apply ba_ | apply bn_ | apply bd_) | exact HB.out)))); have n4_ := Aside0.mk (below_step (by repeat (first | (with_reducible first | exact HB.out | apply ba_ | apply bn_ | apply bd_) | exact HB.out)) hb); clear HO1116; clear HO1120; clear HO1124; clear HB; have HO1116 := n0_; have HO1120 := n1_; have HO1124 := n2_; have HO1128 := n3_; have HB := n4_; clear n0_ n1_ n2_ n3_ n4_; (try clear hb); (try clear hb2); (try clear hk); (try clear hi); (try clear ho0)))
            repeat (go_quiet (first | (go_at_call 13; (with_reducible refine (view_Hear.calls kj5 _ _ t1121 (wrap64 (Int.tmod (IntKind.u64.wrap (a1)) (IntKind.u64.wrap ((l0.length : Int))))) (wrap64 (1 + (wrap64 (Int.tmod (IntKind.u64.wrap (a3)) 1000)))) t1125 t1126 _ ?side1 ?side2 A20.out).mono ?_); (case side1 => repeat (first | exact (Kd.R_reads' HO1124.out).2.2 | (with_reducible refine Kd.C_alloc ?_ _) | (with_reducible refine Kd.C_drewN ?_ _) | (with_reducible refine Kd.C_drew ?_))); (case side2 => exact (Kd.R_reads' HO1124.out).2.1); rintro e w22 ⟨v1127, rfl, ho0, hb⟩; have n0_ := Aside0.mk (Kd.R_elder' (by (with_reducible repeat (first | apply ra_ | apply rn_ | apply rd_)); exact HO1116.out) (Kd.R_base ho0) hb); have n1_ := Aside0.mk (Kd.R_elder' (by (with_reducible repeat (first | apply ra_ | apply rn_ | apply rd_)); exact HO1120.out) (Kd.R_base ho0) hb); have n2_ := Aside0.mk (Kd.R_elder' (by (with_reducible repeat (first | apply ra_ | apply rn_ | apply rd_)); exact HO1124.out) (Kd.R_base ho0) hb); have n3_ := Aside0.mk (Kd.R_lower (Kd.R_new' (Kd.R_new' (Kd.R_new' ho0 (Kd.R_lt (by (with_reducible repeat (first | apply ra_ | apply rn_ | apply rd_)); exact HO1116.out))) (Kd.R_lt (by (with_reducible repeat (first | apply ra_ | apply rn_ | apply rd_)); exact HO1120.out))) (Kd.R_lt (by (with_reducible repeat (first | apply ra_ | apply rn_ | apply rd_)); exact HO1124.out))) (below_size (by repeat (first | (with_reducible first | exact HB.out | apply ba_ | apply bn_ | apply bd_) | exact HB.out)))); have n4_ := Aside0.mk (below_step (by repeat (first | (with_reducible first | exact HB.out | apply ba_ | apply bn_ | apply bd_) | exact HB.out)) hb); clear HO1116; clear HO1120; clear HO1124; clear HB; have HO1116 := n0_; have HO1120 := n1_; have HO1124 := n2_; have HO1128 := n3_; have HB := n4_; clear n0_ n1_ n2_ n3_ n4_; (try clear hb); (try clear hb2); (try clear hk); (try clear hi); (try clear ho0))); try go_wp2_with (first | (go_at_call 13; (with_reducible refine (view_Hear.calls kj5 _ _ t1121 (wrap64 (Int.tmod (IntKind.u64.wrap (a1)) (IntKind.u64.wrap ((l0.length : Int))))) (wrap64 (1 + (wrap64 (Int.tmod (IntKind.u64.wrap (a3)) 1000)))) t1125 t1126 _ ?side1 ?side2 A20.out).mono ?_); (case side1 => repeat (first | exact (Kd.R_reads' HO1124.out).2.2 | (with_reducible refine Kd.C_alloc ?_ _) | (with_reducible refine Kd.C_drewN ?_ _) | (with_reducible refine Kd.C_drew ?_))); (case side2 => exact (Kd.R_reads' HO1124.out).2.1); rintro e w22 ⟨v1127, rfl, ho0, hb⟩; have n0_ := Aside0.mk (Kd.R_elder' (by (with_reducible repeat (first | apply ra_ | apply rn_ | apply rd_)); exact HO1116.out) (Kd.R_base ho0) hb); have n1_ := Aside0.mk (Kd.R_elder' (by (with_reducible repeat (first | apply ra_ | apply rn_ | apply rd_)); exact HO1120.out) (Kd.R_base ho0) hb); have n2_ := Aside0.mk (Kd.R_elder' (by (with_reducible repeat (first | apply ra_ | apply rn_ | apply rd_)); exact HO1124.out) (Kd.R_base ho0) hb); have n3_ := Aside0.mk (Kd.R_lower (Kd.R_new' (Kd.R_new' (Kd.R_new' ho0 (Kd.R_lt (by (with_reducible repeat (first | apply ra_ | apply rn_ | apply rd_)); exact HO1116.out))) (Kd.R_lt (by (with_reducible repeat (first | apply ra_ | apply rn_ | apply rd_)); exact HO1120.out))) (Kd.R_lt (by (with_reducible repeat (first | apply ra_ | apply rn_ | apply rd_)); exact HO1124.out))) (below_size (by repeat (first | (with_reducible first | exact HB.out | apply ba_ | apply bn_ | apply bd_) | exact HB.out)))); have n4_ := Aside0.mk (below_step (by repeat (first | (with_reducible first | exact HB.out | apply ba_ | apply bn_ | apply bd_) | exact HB.out)) hb); clear HO1116; clear HO1120; clear HO1124; clear HB; have HO1116 := n0_; have HO1120 := n1_; have HO1124 := n2_; have HO1128 := n3_; have HB := n4_; clear n0_ n1_ n2_ n3_ n4_; (try clear hb); (try clear hb2); (try clear hk); (try clear hi); (try clear ho0))))
            go_meet
            case rel => exact ⟨_, (t1125), (t1126), (by first | rfl | (simp; done) | (simp [*]; done)), H', ⟨by have := HJ5.out; first | omega | exact Nat.le_refl _⟩, ⟨by (with_reducible repeat (first | apply ra_ | apply rn_ | apply rd_)); exact Kd.R_mono HO1120.out (fun _ hk => hk.2)⟩, ⟨by (with_reducible repeat (first | apply ra_ | apply rn_ | apply rd_)); exact Kd.R_mono HO1128.out (fun _ hk => hk.1.2)⟩, ⟨by repeat (first | (with_reducible first | exact HB.out | apply ba_ | apply bn_ | apply bd_) | exact HB.out)⟩⟩
          case rest => as_aux_lemma =>
            clear HC15
            (try clear c1); (try clear p2); (try clear c6); (try clear p6); (try clear c8); (try clear c10); (try clear c11); (try clear c11b0); (try clear c11b1); (try clear p2)
            obtain ⟨kq, x14_14, x16_14, rfl, HA, HJ14, HO_11, HO_14, HB⟩ := hcut
            cases kq with
            | zero => exact absurd HA.out (by simp [L10_ViewOrder.j1])
            | succ kj14 =>
              have H := HA.out
              clear HA
              simp only [L10_ViewOrder.j1] at H
              have HC23 := Aside0.mk H
              clear H
              go_upto_region 9 with (fail)
              repeat (go_quiet (fail); go_upto_region 9 with (fail))
              go_cut [104] (fun v104 wc => ∃ (kq : Nat) (x104_22 : Bool), v104 = .bool x104_22 ∧ Aside0 (L10_ViewOrder.j2 kq l0 (wrap64 (Int.tmod (IntKind.u64.wrap (a1)) (IntKind.u64.wrap ((l0.length : Int))))) (wrap64 (Int.tmod (IntKind.u64.wrap (a2)) (IntKind.u64.wrap ((l0.length : Int))))) (wrap64 (1 + (wrap64 (Int.tmod (IntKind.u64.wrap (a3)) 1000)))) (wrap64 (1 + (wrap64 (Int.tmod (IntKind.u64.wrap (a4)) 1000)))) t1117 x104_22 = some r) ∧ Aside0 (kq ≤ kj14) ∧ Aside0 (Kd.R k42 42 wc w.heap.size (fun _ => True) v1119 t1117) ∧ Aside0 (Below w.heap.size w wc))
              case first =>
                have H := HC23.out
                clear HC23
                by_cases c24 : t1114 = 0
                · rw [if_pos c24] at H
                  have c24b0 : (t1114 == 0) = true := beq_iff_eq.mpr c24
                  have c24b1 : (t1114 != 0) = false := bne_eq_false_iff_eq.mpr c24
                  clear c24
                  (first | rw [c24b0] | (simp only [i64_w, i32_w]; rw [c24b0]) | skip)
                  by_cases c25 : t1118 = 0
                  · rw [if_pos c25] at H
                    have c25b0 : (t1118 == 0) = true := beq_iff_eq.mpr c25
                    have c25b1 : (t1118 != 0) = false := bne_eq_false_iff_eq.mpr c25
                    clear c25
                    by_cases c26 : t1122 = 0
                    · rw [if_pos c26] at H
                      have c26b0 : (t1122 == 0) = true := beq_iff_eq.mpr c26
                      have c26b1 : (t1122 != 0) = false := bne_eq_false_iff_eq.mpr c26
                      clear c26
                      by_cases c27 : x16_14 = 0
                      · rw [if_pos c27] at H
                        have c27b0 : (x16_14 == 0) = true := beq_iff_eq.mpr c27
                        have c27b1 : (x16_14 != 0) = false := bne_eq_false_iff_eq.mpr c27
                        clear c27
                        by_cases c28 : (t1117.length : Int) = (l0.length : Int)
                        · rw [if_pos c28] at H
                          have c28b0 : ((t1117.length : Int) == (l0.length : Int)) = true := beq_iff_eq.mpr c28
                          have c28b1 : ((t1117.length : Int) != (l0.length : Int)) = false := bne_eq_false_iff_eq.mpr c28
                          have c28b2 : (t1117.length == l0.length) = true := by first | simpa using c28 | (simp at c28 ⊢; omega)
                          clear c28
                          replace H := Option.bind_eq_some_iff.mp H
                          obtain ⟨t1129, A290, H⟩ := H
                          replace H : (L10_ViewOrder.j2 kj14 l0 (wrap64 (Int.tmod (IntKind.u64.wrap (a1)) (IntKind.u64.wrap ((l0.length : Int))))) (wrap64 (Int.tmod (IntKind.u64.wrap (a2)) (IntKind.u64.wrap ((l0.length : Int))))) (wrap64 (1 + (wrap64 (Int.tmod (IntKind.u64.wrap (a3)) 1000)))) (wrap64 (1 + (wrap64 (Int.tmod (IntKind.u64.wrap (a4)) 1000)))) t1117 (!t1129)) = some r := H
                          have A29 := Aside0.mk A290
                          clear A290
                          have H' := Aside0.mk H
                          clear H
                          obtain ⟨Ao30, co30, eo30⟩ := Kd.R_slice HO_11.out
                          subst eo30
                          obtain ⟨Ao31, co31, eo31⟩ := Kd.R_slice HO_14.out
                          subst eo31
                          go_wp2_with (first | (go_at_call 16; (with_reducible refine (bk_Peers.calls kj14 _ _ t1117 _ _ x14_14 t1129 _ ?side1 ?side2 ?side3 ?side4 A29.out).mono ?_); (case side1 => repeat (first | exact (Kd.R_reads' HO_11.out).2.2 | (with_reducible refine Kd.C_alloc ?_ _) | (with_reducible refine Kd.C_drewN ?_ _) | (with_reducible refine Kd.C_drew ?_))); (case side2 => exact (Kd.R_reads' HO_11.out).2.1); (case side3 => repeat (first | exact (Kd.R_reads' HO_14.out).2.2 | (with_reducible refine Kd.C_alloc ?_ _) | (with_reducible refine Kd.C_drewN ?_ _) | (with_reducible refine Kd.C_drew ?_))); (case side4 => exact (Kd.R_reads' HO_14.out).2.1); rintro e w' ⟨rfl, ⟨nd, rfl⟩⟩; (try first | exact ⟨rfl, _, World.drewN_drewN _ _ _⟩ | exact ⟨rfl, _, Eq.trans (World.drewN_drewN _ _ _) (congrArg (World.drewN _) (Nat.add_assoc _ _ _))⟩)))
                          repeat (go_quiet (first | (go_at_call 16; (with_reducible refine (bk_Peers.calls kj14 _ _ t1117 _ _ x14_14 t1129 _ ?side1 ?side2 ?side3 ?side4 A29.out).mono ?_); (case side1 => repeat (first | exact (Kd.R_reads' HO_11.out).2.2 | (with_reducible refine Kd.C_alloc ?_ _) | (with_reducible refine Kd.C_drewN ?_ _) | (with_reducible refine Kd.C_drew ?_))); (case side2 => exact (Kd.R_reads' HO_11.out).2.1); (case side3 => repeat (first | exact (Kd.R_reads' HO_14.out).2.2 | (with_reducible refine Kd.C_alloc ?_ _) | (with_reducible refine Kd.C_drewN ?_ _) | (with_reducible refine Kd.C_drew ?_))); (case side4 => exact (Kd.R_reads' HO_14.out).2.1); rintro e w' ⟨rfl, ⟨nd, rfl⟩⟩; (try first | exact ⟨rfl, _, World.drewN_drewN _ _ _⟩ | exact ⟨rfl, _, Eq.trans (World.drewN_drewN _ _ _) (congrArg (World.drewN _) (Nat.add_assoc _ _ _))⟩))); try go_wp2_with (first | (go_at_call 16; (with_reducible refine (bk_Peers.calls kj14 _ _ t1117 _ _ x14_14 t1129 _ ?side1 ?side2 ?side3 ?side4 A29.out).mono ?_); (case side1 => repeat (first | exact (Kd.R_reads' HO_11.out).2.2 | (with_reducible refine Kd.C_alloc ?_ _) | (with_reducible refine Kd.C_drewN ?_ _) | (with_reducible refine Kd.C_drew ?_))); (case side2 => exact (Kd.R_reads' HO_11.out).2.1); (case side3 => repeat (first | exact (Kd.R_reads' HO_14.out).2.2 | (with_reducible refine Kd.C_alloc ?_ _) | (with_reducible refine Kd.C_drewN ?_ _) | (with_reducible refine Kd.C_drew ?_))); (case side4 => exact (Kd.R_reads' HO_14.out).2.1); rintro e w' ⟨rfl, ⟨nd, rfl⟩⟩; (try first | exact ⟨rfl, _, World.drewN_drewN _ _ _⟩ | exact ⟨rfl, _, Eq.trans (World.drewN_drewN _ _ _) (congrArg (World.drewN _) (Nat.add_assoc _ _ _))⟩))))
                          go_meet
                          case rel => exact ⟨_, (!t1129), (by first | rfl | (simp; done) | (simp [*]; done)), H', ⟨by have := HJ5.out; have := HJ14.out; first | omega | exact Nat.le_refl _⟩, ⟨by (with_reducible repeat (first | apply ra_ | apply rn_ | apply rd_)); exact Kd.R_mono HO_11.out (fun _ hk => trivial)⟩, ⟨by repeat (first | (with_reducible first | exact HB.out | apply ba_ | apply bn_ | apply bd_) | exact HB.out)⟩⟩
                        · rw [if_neg c28] at H
                          have c28b0 : ((t1117.length : Int) == (l0.length : Int)) = false := beq_eq_false_iff_ne.mpr c28
                          have c28b1 : ((t1117.length : Int) != (l0.length : Int)) = true := bne_iff_ne.mpr c28
                          have c28b2 : (t1117.length == l0.length) = false := by first | simpa using c28 | (simp at c28 ⊢; omega)
                          have H' := Aside0.mk H
                          clear H
                          obtain ⟨Ao32, co32, eo32⟩ := Kd.R_slice HO_11.out
                          subst eo32
                          go_wp2
                          repeat (go_quiet (fail); try go_wp2)
                          go_meet
                          case rel => exact ⟨_, (true), (by first | rfl | (simp; done) | (simp [*]; done)), H', ⟨by have := HJ5.out; have := HJ14.out; first | omega | exact Nat.le_refl _⟩, ⟨by (with_reducible repeat (first | apply ra_ | apply rn_ | apply rd_)); exact Kd.R_mono HO_11.out (fun _ hk => trivial)⟩, ⟨by repeat (first | (with_reducible first | exact HB.out | apply ba_ | apply bn_ | apply bd_) | exact HB.out)⟩⟩
                      · rw [if_neg c27] at H
                        have c27b0 : (x16_14 == 0) = false := beq_eq_false_iff_ne.mpr c27
                        have c27b1 : (x16_14 != 0) = true := bne_iff_ne.mpr c27
                        have H' := Aside0.mk H
                        clear H
                        go_wp2
                        repeat (go_quiet (fail); try go_wp2)
                        go_meet
                        case rel => exact ⟨_, (true), (by first | rfl | (simp; done) | (simp [*]; done)), H', ⟨by have := HJ5.out; have := HJ14.out; first | omega | exact Nat.le_refl _⟩, ⟨by (with_reducible repeat (first | apply ra_ | apply rn_ | apply rd_)); exact Kd.R_mono HO_11.out (fun _ hk => trivial)⟩, ⟨by repeat (first | (with_reducible first | exact HB.out | apply ba_ | apply bn_ | apply bd_) | exact HB.out)⟩⟩
                    · rw [if_neg c26] at H
                      have c26b0 : (t1122 == 0) = false := beq_eq_false_iff_ne.mpr c26
                      have c26b1 : (t1122 != 0) = true := bne_iff_ne.mpr c26
                      have H' := Aside0.mk H
                      clear H
                      go_wp2
                      repeat (go_quiet (fail); try go_wp2)
                      go_meet
                      case rel => exact ⟨_, (true), (by first | rfl | (simp; done) | (simp [*]; done)), H', ⟨by have := HJ5.out; have := HJ14.out; first | omega | exact Nat.le_refl _⟩, ⟨by (with_reducible repeat (first | apply ra_ | apply rn_ | apply rd_)); exact Kd.R_mono HO_11.out (fun _ hk => trivial)⟩, ⟨by repeat (first | (with_reducible first | exact HB.out | apply ba_ | apply bn_ | apply bd_) | exact HB.out)⟩⟩
                  · rw [if_neg c25] at H
                    have c25b0 : (t1118 == 0) = false := beq_eq_false_iff_ne.mpr c25
                    have c25b1 : (t1118 != 0) = true := bne_iff_ne.mpr c25
                    have H' := Aside0.mk H
                    clear H
                    go_wp2
                    repeat (go_quiet (fail); try go_wp2)
                    go_meet
                    case rel => exact ⟨_, (true), (by first | rfl | (simp; done) | (simp [*]; done)), H', ⟨by have := HJ5.out; have := HJ14.out; first | omega | exact Nat.le_refl _⟩, ⟨by (with_reducible repeat (first | apply ra_ | apply rn_ | apply rd_)); exact Kd.R_mono HO_11.out (fun _ hk => trivial)⟩, ⟨by repeat (first | (with_reducible first | exact HB.out | apply ba_ | apply bn_ | apply bd_) | exact HB.out)⟩⟩
                · rw [if_neg c24] at H
                  have c24b0 : (t1114 == 0) = false := beq_eq_false_iff_ne.mpr c24
                  have c24b1 : (t1114 != 0) = true := bne_iff_ne.mpr c24
                  (first | rw [c24b0] | (simp only [i64_w, i32_w]; rw [c24b0]) | skip)
                  have H' := Aside0.mk H
                  clear H
                  go_wp2
                  repeat (go_quiet (fail); try go_wp2)
                  go_meet
                  case rel => exact ⟨_, (true), (by first | rfl | (simp; done) | (simp [*]; done)), H', ⟨by have := HJ5.out; have := HJ14.out; first | omega | exact Nat.le_refl _⟩, ⟨by (with_reducible repeat (first | apply ra_ | apply rn_ | apply rd_)); exact Kd.R_mono HO_11.out (fun _ hk => trivial)⟩, ⟨by repeat (first | (with_reducible first | exact HB.out | apply ba_ | apply bn_ | apply bd_) | exact HB.out)⟩⟩
              case rest => as_aux_lemma =>
                clear HC23
                (try clear c1); (try clear c2); (try clear p2); (try clear c6); (try clear p6); (try clear c8); (try clear c10); (try clear c11); (try clear c11b0); (try clear c11b1); (try clear c24); (try clear c24b0); (try clear c24b1); (try clear c25); (try clear c25b0); (try clear c25b1); (try clear c26); (try clear c26b0); (try clear c26b1); (try clear c27); (try clear c27b0); (try clear c27b1); (try clear c28); (try clear c28b0); (try clear c28b1); (try clear c28b2); (try clear p2); (try clear p6)
                obtain ⟨kq, x104_22, rfl, HA, HJ22, HO_11, HB⟩ := hcut
                cases kq with
                | zero => exact absurd HA.out (by simp [L10_ViewOrder.j2])
                | succ kj22 =>
                  have H := HA.out
                  clear HA
                  simp only [L10_ViewOrder.j2] at H
                  by_cases c33 : x104_22 = true
                  · subst c33
                    have H1 : (some false) = some r := by rw [if_pos rfl] at H; exact H
                    clear H
                    have H := H1
                    clear H1
                    obtain rfl := Option.some.inj H
                    go_wp2
                    repeat (go_quiet (fail); try go_wp2)
                    go_ret
                    exact ⟨by first | rfl | (simp [errW_none, errW_some] <;> rfl) | (simp [*, errW_none, errW_some] <;> rfl), by repeat (first | (with_reducible first | exact HB.out | apply ba_ | apply bn_ | apply bd_) | exact HB.out)⟩
                  · replace c33 := Bool.eq_false_iff.mpr c33
                    subst c33
                    have H1 : (L10_ViewOrder.l0 kj22 l0 (wrap64 (Int.tmod (IntKind.u64.wrap (a1)) (IntKind.u64.wrap ((l0.length : Int))))) (wrap64 (Int.tmod (IntKind.u64.wrap (a2)) (IntKind.u64.wrap ((l0.length : Int))))) (wrap64 (1 + (wrap64 (Int.tmod (IntKind.u64.wrap (a3)) 1000)))) (wrap64 (1 + (wrap64 (Int.tmod (IntKind.u64.wrap (a4)) 1000)))) t1117 0) = some r := by rw [if_neg (show ¬ (false = true) by decide)] at H; exact H
                    clear H
                    have H := H1
                    clear H1
                    have H' := Aside0.mk H
                    clear H
                    go_wp2
                    repeat (go_quiet (fail); try go_wp2)
                    go_loopg [17] kj22 (fun kq v17 w' => ∃ (x17_4 : Int), v17 = .int .i64 x17_4 ∧ Aside0 (L10_ViewOrder.l0 kq l0 (wrap64 (Int.tmod (IntKind.u64.wrap (a1)) (IntKind.u64.wrap ((l0.length : Int))))) (wrap64 (Int.tmod (IntKind.u64.wrap (a2)) (IntKind.u64.wrap ((l0.length : Int))))) (wrap64 (1 + (wrap64 (Int.tmod (IntKind.u64.wrap (a3)) 1000)))) (wrap64 (1 + (wrap64 (Int.tmod (IntKind.u64.wrap (a4)) 1000)))) t1117 x17_4 = some r) ∧ Aside0 (kq ≤ kj22) ∧ Aside0 (Kd.R k42 42 w' w.heap.size (fun _ => True) v1119 t1117) ∧ Aside0 (Below w.heap.size w w'))
                    case atStart => exact ⟨(0), (by first | rfl | (simp; done) | (simp [*]; done)), H', ⟨Nat.le_refl _⟩, ⟨by (with_reducible repeat (first | apply ra_ | apply rn_ | apply rd_)); exact HO_11.out⟩, ⟨by repeat (first | (with_reducible first | exact HB.out | apply ba_ | apply bn_ | apply bd_) | exact HB.out)⟩⟩
                    case round => as_aux_lemma =>
                      clear H'
                      (try clear c1); (try clear c2); (try clear p2); (try clear c3); (try clear c6); (try clear p6); (try clear c8); (try clear c10); (try clear c11); (try clear c11b0); (try clear c11b1); (try clear c24); (try clear c24b0); (try clear c24b1); (try clear c25); (try clear c25b0); (try clear c25b1); (try clear c26); (try clear c26b0); (try clear c26b1); (try clear c27); (try clear c27b0); (try clear c27b1); (try clear c28); (try clear c28b0); (try clear c28b1); (try clear c28b2); (try clear c33); (try clear p2); (try clear p6)
                      obtain ⟨x17_4, rfl, HA, HK4, HO_11, HB⟩ := hrel
                      cases gk with
                      | zero => exact absurd HA.out (by simp [L10_ViewOrder.l0])
                      | succ k4 =>
                        have H := HA.out
                        clear HA
                        simp only [L10_ViewOrder.l0] at H
                        by_cases c34 : x17_4 < (l0.length : Int)
                        · rw [if_pos c34] at H
                          have c34b0 : decide (x17_4 < (l0.length : Int)) = true := decide_eq_true c34
                          clear c34
                          by_cases c35 : 0 ≤ x17_4
                          · rw [if_pos c35] at H
                            have c35b0 : decide (0 ≤ x17_4) = true := decide_eq_true c35
                            clear c35
                            have HC36 := Aside0.mk H
                            clear H
                            have p1131 : 0 ≤ (x17_4 : Int) := of_decide_eq_true (by first | (with_reducible assumption) | assumption)
                            have q1131 : x17_4 < (l0.length : Int) := of_decide_eq_true (by first | (with_reducible assumption) | assumption)
                            obtain ⟨ad1131, e1131, hx1131_0, hx1131_1⟩ := at_T42 HR0.out x17_4 p1131 q1131
                            cases e1131
                            replace hx1131_0 := (HB.out.cell (World.block_lt_of_cell? w _ hx1131_0)).trans hx1131_0
                            replace hx1131_1 := (HB.out.cell (World.block_lt_of_cell? w _ hx1131_1)).trans hx1131_1
                            replace p1131 := eq_true p1131
                            replace q1131 := eq_true q1131
                            go_upto_if 118 with (fail)
                            repeat (go_quiet (fail); go_upto_if 118 with (fail))
                            go_cut [18] (fun v18 wc => ∃ (kq : Nat) (x18_35 : Int), v18 = .int .i64 x18_35 ∧ Aside0 (L10_ViewOrder.j4 kq l0 (wrap64 (Int.tmod (IntKind.u64.wrap (a1)) (IntKind.u64.wrap ((l0.length : Int))))) (wrap64 (Int.tmod (IntKind.u64.wrap (a2)) (IntKind.u64.wrap ((l0.length : Int))))) (wrap64 (1 + (wrap64 (Int.tmod (IntKind.u64.wrap (a3)) 1000)))) (wrap64 (1 + (wrap64 (Int.tmod (IntKind.u64.wrap (a4)) 1000)))) t1117 x17_4 x18_35 = some r) ∧ Aside0 (kq ≤ k4) ∧ Aside0 (Kd.R k42 42 wc w.heap.size (fun _ => True) v1119 t1117) ∧ Aside0 (Below w.heap.size w wc))
                            case first =>
                              have H := HC36.out
                              clear HC36
                              by_cases c37 : x17_4 = (wrap64 (Int.tmod (IntKind.u64.wrap (a1)) (IntKind.u64.wrap ((l0.length : Int)))))
                              · rw [if_pos c37] at H
                                have c37b0 : (x17_4 == (wrap64 (Int.tmod (IntKind.u64.wrap (a1)) (IntKind.u64.wrap ((l0.length : Int)))))) = true := beq_iff_eq.mpr c37
                                have c37b1 : (x17_4 != (wrap64 (Int.tmod (IntKind.u64.wrap (a1)) (IntKind.u64.wrap ((l0.length : Int)))))) = false := bne_eq_false_iff_eq.mpr c37
                                clear c37
                                (first | rw [c37b0] | (simp only [i64_w, i32_w]; rw [c37b0]) | skip)
                                obtain ⟨ji38, hji38⟩ : ∃ j_ : Int, (mx ((rd_T42 l0 x17_4).f0) (wrap64 (1 + (wrap64 (Int.tmod (IntKind.u64.wrap (a3)) 1000))))) = j_ := ⟨_, rfl⟩
                                replace H : (L10_ViewOrder.j4 k4 l0 (wrap64 (Int.tmod (IntKind.u64.wrap (a1)) (IntKind.u64.wrap ((l0.length : Int))))) (wrap64 (Int.tmod (IntKind.u64.wrap (a2)) (IntKind.u64.wrap ((l0.length : Int))))) (wrap64 (1 + (wrap64 (Int.tmod (IntKind.u64.wrap (a3)) 1000)))) (wrap64 (1 + (wrap64 (Int.tmod (IntKind.u64.wrap (a4)) 1000)))) t1117 x17_4 ji38) = some r := by first | (rw [hji38] at H; exact H) | (simp only [hji38] at H ⊢; exact H)
                                have hji38_ : (if ((rd_T42 l0 x17_4).f0) < (wrap64 (1 + (wrap64 (Int.tmod (IntKind.u64.wrap (a3)) 1000)))) then (wrap64 (1 + (wrap64 (Int.tmod (IntKind.u64.wrap (a3)) 1000)))) else ((rd_T42 l0 x17_4).f0)) = ji38 := hji38
                                have H' := Aside0.mk H
                                clear H
                                go_wp2
                                repeat (go_quiet (fail); try go_wp2)
                                go_meet
                                case rel => exact ⟨_, (ji38), (by first | rfl | (simp; done) | (simp only [← hji38] <;> (first | rfl | simp)) | (simp [*]; done)), H', ⟨by have := HJ5.out; have := HJ14.out; have := HJ22.out; have := HK4.out; first | omega | exact Nat.le_refl _⟩, ⟨by (with_reducible repeat (first | apply ra_ | apply rn_ | apply rd_)); exact HO_11.out⟩, ⟨by repeat (first | (with_reducible first | exact HB.out | apply ba_ | apply bn_ | apply bd_) | exact HB.out)⟩⟩
                              · rw [if_neg c37] at H
                                have c37b0 : (x17_4 == (wrap64 (Int.tmod (IntKind.u64.wrap (a1)) (IntKind.u64.wrap ((l0.length : Int)))))) = false := beq_eq_false_iff_ne.mpr c37
                                have c37b1 : (x17_4 != (wrap64 (Int.tmod (IntKind.u64.wrap (a1)) (IntKind.u64.wrap ((l0.length : Int)))))) = true := bne_iff_ne.mpr c37
                                (first | rw [c37b0] | (simp only [i64_w, i32_w]; rw [c37b0]) | skip)
                                have H' := Aside0.mk H
                                clear H
                                go_wp2
                                repeat (go_quiet (fail); try go_wp2)
                                go_meet
                                case rel => exact ⟨_, ((rd_T42 l0 x17_4).f0), (by first | rfl | (simp; done) | (simp [*]; done)), H', ⟨by have := HJ5.out; have := HJ14.out; have := HJ22.out; have := HK4.out; first | omega | exact Nat.le_refl _⟩, ⟨by (with_reducible repeat (first | apply ra_ | apply rn_ | apply rd_)); exact HO_11.out⟩, ⟨by repeat (first | (with_reducible first | exact HB.out | apply ba_ | apply bn_ | apply bd_) | exact HB.out)⟩⟩
                            case rest => as_aux_lemma =>
                              clear HC36
                              (try clear c1); (try clear p1); (try clear q1); (try clear hx1); (try clear c2); (try clear p2); (try clear c3); (try clear c6); (try clear p6); (try clear c8); (try clear c10); (try clear c11); (try clear c11b0); (try clear c11b1); (try clear p11); (try clear q11); (try clear hx11); (try clear c24); (try clear c24b0); (try clear c24b1); (try clear c25); (try clear c25b0); (try clear c25b1); (try clear c26); (try clear c26b0); (try clear c26b1); (try clear c27); (try clear c27b0); (try clear c27b1); (try clear c28); (try clear c28b0); (try clear c28b1); (try clear c28b2); (try clear c33); (try clear c34); (try clear c34b0); (try clear c35); (try clear c35b0); (try clear c37); (try clear c37b0); (try clear c37b1); (try clear hx1131_0); (try clear hx1131_1); (try clear p1131); (try clear p2); (try clear p6); (try clear q1131)
                              obtain ⟨kq, x18_35, rfl, HA, HJ35, HO_11, HB⟩ := hcut
                              cases kq with
                              | zero => exact absurd HA.out (by simp [L10_ViewOrder.j4])
                              | succ kj35 =>
                                have H := HA.out
                                clear HA
                                simp only [L10_ViewOrder.j4] at H
                                by_cases c39 : x17_4 = (wrap64 (Int.tmod (IntKind.u64.wrap (a2)) (IntKind.u64.wrap ((l0.length : Int)))))
                                · rw [if_pos c39] at H
                                  have c39b0 : (x17_4 == (wrap64 (Int.tmod (IntKind.u64.wrap (a2)) (IntKind.u64.wrap ((l0.length : Int)))))) = true := beq_iff_eq.mpr c39
                                  have c39b1 : (x17_4 != (wrap64 (Int.tmod (IntKind.u64.wrap (a2)) (IntKind.u64.wrap ((l0.length : Int)))))) = false := bne_eq_false_iff_eq.mpr c39
                                  clear c39
                                  obtain ⟨ji40, hji40⟩ : ∃ j_ : Int, (mx x18_35 (wrap64 (1 + (wrap64 (Int.tmod (IntKind.u64.wrap (a4)) 1000))))) = j_ := ⟨_, rfl⟩
                                  replace H : (if 0 ≤ x17_4 then (if x17_4 < (t1117.length : Int) then (if ((rd_T42 t1117 x17_4).f0) = (ji40) then (if x17_4 = (wrap64 (Int.tmod (IntKind.u64.wrap (a1)) (IntKind.u64.wrap ((l0.length : Int))))) then (L10_ViewOrder.l0 kj35 l0 (wrap64 (Int.tmod (IntKind.u64.wrap (a1)) (IntKind.u64.wrap ((l0.length : Int))))) (wrap64 (Int.tmod (IntKind.u64.wrap (a2)) (IntKind.u64.wrap ((l0.length : Int))))) (wrap64 (1 + (wrap64 (Int.tmod (IntKind.u64.wrap (a3)) 1000)))) (wrap64 (1 + (wrap64 (Int.tmod (IntKind.u64.wrap (a4)) 1000)))) t1117 (wrap64 (x17_4 + 1))) else (L10_ViewOrder.l0 kj35 l0 (wrap64 (Int.tmod (IntKind.u64.wrap (a1)) (IntKind.u64.wrap ((l0.length : Int))))) (wrap64 (Int.tmod (IntKind.u64.wrap (a2)) (IntKind.u64.wrap ((l0.length : Int))))) (wrap64 (1 + (wrap64 (Int.tmod (IntKind.u64.wrap (a3)) 1000)))) (wrap64 (1 + (wrap64 (Int.tmod (IntKind.u64.wrap (a4)) 1000)))) t1117 (wrap64 (x17_4 + 1)))) else (some false)) else (none)) else (none)) = some r := by first | (rw [hji40] at H; exact H) | (simp only [hji40] at H ⊢; exact H)
                                  have hji40_ : (if x18_35 < (wrap64 (1 + (wrap64 (Int.tmod (IntKind.u64.wrap (a4)) 1000)))) then (wrap64 (1 + (wrap64 (Int.tmod (IntKind.u64.wrap (a4)) 1000)))) else x18_35) = ji40 := hji40
                                  by_cases c41 : 0 ≤ x17_4
                                  · rw [if_pos c41] at H
                                    have c41b0 : decide (0 ≤ x17_4) = true := decide_eq_true c41
                                    clear c41
                                    by_cases c42 : x17_4 < (t1117.length : Int)
                                    · rw [if_pos c42] at H
                                      have c42b0 : decide (x17_4 < (t1117.length : Int)) = true := decide_eq_true c42
                                      clear c42
                                      by_cases c43 : ((rd_T42 t1117 x17_4).f0) = (ji40)
                                      · rw [if_pos c43] at H
                                        have c43b0 : (((rd_T42 t1117 x17_4).f0) == (ji40)) = true := beq_iff_eq.mpr c43
                                        have c43b1 : (((rd_T42 t1117 x17_4).f0) != (ji40)) = false := bne_eq_false_iff_eq.mpr c43
                                        clear c43
                                        by_cases c44 : x17_4 = (wrap64 (Int.tmod (IntKind.u64.wrap (a1)) (IntKind.u64.wrap ((l0.length : Int)))))
                                        · rw [if_pos c44] at H
                                          have c44b0 : (x17_4 == (wrap64 (Int.tmod (IntKind.u64.wrap (a1)) (IntKind.u64.wrap ((l0.length : Int)))))) = true := beq_iff_eq.mpr c44
                                          have c44b1 : (x17_4 != (wrap64 (Int.tmod (IntKind.u64.wrap (a1)) (IntKind.u64.wrap ((l0.length : Int)))))) = false := bne_eq_false_iff_eq.mpr c44
                                          clear c44
                                          have H' := Aside0.mk H
                                          clear H
                                          obtain ⟨Ao45, co45, eo45⟩ := Kd.R_slice HO_11.out
                                          subst eo45
                                          have p1132 : 0 ≤ (x17_4 : Int) := of_decide_eq_true (by first | (with_reducible assumption) | assumption)
                                          have q1132 : x17_4 < (t1117.length : Int) := of_decide_eq_true (by first | (with_reducible assumption) | assumption)
                                          obtain ⟨ad1132, e1132, hx1132_0, hx1132_1⟩ := at_T42 (Kd.R_reads' HO_11.out).2.2 x17_4 p1132 q1132
                                          cases e1132
                                          replace p1132 := eq_true p1132
                                          replace q1132 := eq_true q1132
                                          go_wp2
                                          repeat (go_quiet (fail); try go_wp2)
                                          go_roundg kj35
                                          case measure => have := HJ5.out; have := HJ14.out; have := HJ22.out; have := HK4.out; have := HJ35.out; omega
                                          case rel => exact ⟨(wrap64 (x17_4 + 1)), (by first | rfl | (simp; done) | (simp [*]; done)), H', ⟨by have := HJ5.out; have := HJ14.out; have := HJ22.out; have := HK4.out; have := HJ35.out; omega⟩, ⟨by (with_reducible repeat (first | apply ra_ | apply rn_ | apply rd_)); exact HO_11.out⟩, ⟨by repeat (first | (with_reducible first | exact HB.out | apply ba_ | apply bn_ | apply bd_) | exact HB.out)⟩⟩
                                        · rw [if_neg c44] at H
                                          have c44b0 : (x17_4 == (wrap64 (Int.tmod (IntKind.u64.wrap (a1)) (IntKind.u64.wrap ((l0.length : Int)))))) = false := beq_eq_false_iff_ne.mpr c44
                                          have c44b1 : (x17_4 != (wrap64 (Int.tmod (IntKind.u64.wrap (a1)) (IntKind.u64.wrap ((l0.length : Int)))))) = true := bne_iff_ne.mpr c44
                                          have H' := Aside0.mk H
                                          clear H
                                          obtain ⟨Ao46, co46, eo46⟩ := Kd.R_slice HO_11.out
                                          subst eo46
                                          have p1132 : 0 ≤ (x17_4 : Int) := of_decide_eq_true (by first | (with_reducible assumption) | assumption)
                                          have q1132 : x17_4 < (t1117.length : Int) := of_decide_eq_true (by first | (with_reducible assumption) | assumption)
                                          obtain ⟨ad1132, e1132, hx1132_0, hx1132_1⟩ := at_T42 (Kd.R_reads' HO_11.out).2.2 x17_4 p1132 q1132
                                          cases e1132
                                          replace p1132 := eq_true p1132
                                          replace q1132 := eq_true q1132
                                          go_wp2
                                          repeat (go_quiet (fail); try go_wp2)
                                          go_roundg kj35
                                          case measure => have := HJ5.out; have := HJ14.out; have := HJ22.out; have := HK4.out; have := HJ35.out; omega
                                          case rel => exact ⟨(wrap64 (x17_4 + 1)), (by first | rfl | (simp; done) | (simp [*]; done)), H', ⟨by have := HJ5.out; have := HJ14.out; have := HJ22.out; have := HK4.out; have := HJ35.out; omega⟩, ⟨by (with_reducible repeat (first | apply ra_ | apply rn_ | apply rd_)); exact HO_11.out⟩, ⟨by repeat (first | (with_reducible first | exact HB.out | apply ba_ | apply bn_ | apply bd_) | exact HB.out)⟩⟩
                                      · rw [if_neg c43] at H
                                        have c43b0 : (((rd_T42 t1117 x17_4).f0) == (ji40)) = false := beq_eq_false_iff_ne.mpr c43
                                        have c43b1 : (((rd_T42 t1117 x17_4).f0) != (ji40)) = true := bne_iff_ne.mpr c43
                                        obtain rfl := Option.some.inj H
                                        obtain ⟨Ao47, co47, eo47⟩ := Kd.R_slice HO_11.out
                                        subst eo47
                                        have p1132 : 0 ≤ (x17_4 : Int) := of_decide_eq_true (by first | (with_reducible assumption) | assumption)
                                        have q1132 : x17_4 < (t1117.length : Int) := of_decide_eq_true (by first | (with_reducible assumption) | assumption)
                                        obtain ⟨ad1132, e1132, hx1132_0, hx1132_1⟩ := at_T42 (Kd.R_reads' HO_11.out).2.2 x17_4 p1132 q1132
                                        cases e1132
                                        replace p1132 := eq_true p1132
                                        replace q1132 := eq_true q1132
                                        go_wp2
                                        repeat (go_quiet (fail); try go_wp2)
                                        go_ret
                                        exact ⟨by first | rfl | (simp [errW_none, errW_some] <;> rfl) | (simp only [← hji40]; first | rfl | (simp [errW_none, errW_some] <;> rfl)) | (simp [*, errW_none, errW_some] <;> rfl), by repeat (first | (with_reducible first | exact HB.out | apply ba_ | apply bn_ | apply bd_) | exact HB.out)⟩
                                    · rw [if_neg c42] at H
                                      exact absurd H (by simp)
                                  · rw [if_neg c41] at H
                                    exact absurd H (by simp)
                                · rw [if_neg c39] at H
                                  have c39b0 : (x17_4 == (wrap64 (Int.tmod (IntKind.u64.wrap (a2)) (IntKind.u64.wrap ((l0.length : Int)))))) = false := beq_eq_false_iff_ne.mpr c39
                                  have c39b1 : (x17_4 != (wrap64 (Int.tmod (IntKind.u64.wrap (a2)) (IntKind.u64.wrap ((l0.length : Int)))))) = true := bne_iff_ne.mpr c39
                                  by_cases c48 : 0 ≤ x17_4
                                  · rw [if_pos c48] at H
                                    have c48b0 : decide (0 ≤ x17_4) = true := decide_eq_true c48
                                    clear c48
                                    by_cases c49 : x17_4 < (t1117.length : Int)
                                    · rw [if_pos c49] at H
                                      have c49b0 : decide (x17_4 < (t1117.length : Int)) = true := decide_eq_true c49
                                      clear c49
                                      by_cases c50 : ((rd_T42 t1117 x17_4).f0) = x18_35
                                      · rw [if_pos c50] at H
                                        have c50b0 : (((rd_T42 t1117 x17_4).f0) == x18_35) = true := beq_iff_eq.mpr c50
                                        have c50b1 : (((rd_T42 t1117 x17_4).f0) != x18_35) = false := bne_eq_false_iff_eq.mpr c50
                                        clear c50
                                        by_cases c51 : x17_4 = (wrap64 (Int.tmod (IntKind.u64.wrap (a1)) (IntKind.u64.wrap ((l0.length : Int)))))
                                        · rw [if_pos c51] at H
                                          have c51b0 : (x17_4 == (wrap64 (Int.tmod (IntKind.u64.wrap (a1)) (IntKind.u64.wrap ((l0.length : Int)))))) = true := beq_iff_eq.mpr c51
                                          have c51b1 : (x17_4 != (wrap64 (Int.tmod (IntKind.u64.wrap (a1)) (IntKind.u64.wrap ((l0.length : Int)))))) = false := bne_eq_false_iff_eq.mpr c51
                                          clear c51
                                          have H' := Aside0.mk H
                                          clear H
                                          obtain ⟨Ao52, co52, eo52⟩ := Kd.R_slice HO_11.out
                                          subst eo52
                                          have p1133 : 0 ≤ (x17_4 : Int) := of_decide_eq_true (by first | (with_reducible assumption) | assumption)
                                          have q1133 : x17_4 < (t1117.length : Int) := of_decide_eq_true (by first | (with_reducible assumption) | assumption)
                                          obtain ⟨ad1133, e1133, hx1133_0, hx1133_1⟩ := at_T42 (Kd.R_reads' HO_11.out).2.2 x17_4 p1133 q1133
                                          cases e1133
                                          replace p1133 := eq_true p1133
                                          replace q1133 := eq_true q1133
                                          go_wp2
                                          repeat (go_quiet (fail); try go_wp2)
                                          go_roundg kj35
                                          case measure => have := HJ5.out; have := HJ14.out; have := HJ22.out; have := HK4.out; have := HJ35.out; omega
                                          case rel => exact ⟨(wrap64 (x17_4 + 1)), (by first | rfl | (simp; done) | (simp [*]; done)), H', ⟨by have := HJ5.out; have := HJ14.out; have := HJ22.out; have := HK4.out; have := HJ35.out; omega⟩, ⟨by (with_reducible repeat (first | apply ra_ | apply rn_ | apply rd_)); exact HO_11.out⟩, ⟨by repeat (first | (with_reducible first | exact HB.out | apply ba_ | apply bn_ | apply bd_) | exact HB.out)⟩⟩
                                        · rw [if_neg c51] at H
                                          have c51b0 : (x17_4 == (wrap64 (Int.tmod (IntKind.u64.wrap (a1)) (IntKind.u64.wrap ((l0.length : Int)))))) = false := beq_eq_false_iff_ne.mpr c51
                                          have c51b1 : (x17_4 != (wrap64 (Int.tmod (IntKind.u64.wrap (a1)) (IntKind.u64.wrap ((l0.length : Int)))))) = true := bne_iff_ne.mpr c51
                                          by_cases c53 : x17_4 < (l0.length : Int)
                                          · rw [if_pos c53] at H
                                            have c53b0 : decide (x17_4 < (l0.length : Int)) = true := decide_eq_true c53
                                            clear c53
                                            by_cases c54 : (!(((rd_T42 t1117 x17_4).f0) == ((rd_T42 l0 x17_4).f0)) || (!(((rd_T42 t1117 x17_4).f1) == ((rd_T42 l0 x17_4).f1)))) = true
                                            · rw [if_pos c54] at H
                                              have c54b0 : (!(((rd_T42 t1117 x17_4).f0) == ((rd_T42 l0 x17_4).f0)) || (!(((rd_T42 t1117 x17_4).f1) == ((rd_T42 l0 x17_4).f1)))) = true := c54
                                              clear c54
                                              obtain rfl := Option.some.inj H
                                              obtain ⟨Ao55, co55, eo55⟩ := Kd.R_slice HO_11.out
                                              subst eo55
                                              have p1133 : 0 ≤ (x17_4 : Int) := of_decide_eq_true (by first | (with_reducible assumption) | assumption)
                                              have q1133 : x17_4 < (t1117.length : Int) := of_decide_eq_true (by first | (with_reducible assumption) | assumption)
                                              obtain ⟨ad1133, e1133, hx1133_0, hx1133_1⟩ := at_T42 (Kd.R_reads' HO_11.out).2.2 x17_4 p1133 q1133
                                              cases e1133
                                              replace p1133 := eq_true p1133
                                              replace q1133 := eq_true q1133
                                              have p1134 : 0 ≤ (x17_4 : Int) := of_decide_eq_true (by first | (with_reducible assumption) | assumption)
                                              have q1134 : x17_4 < (t1117.length : Int) := of_decide_eq_true (by first | (with_reducible assumption) | assumption)
                                              obtain ⟨ad1134, e1134, hx1134_0, hx1134_1⟩ := at_T42 (Kd.R_reads' HO_11.out).2.2 x17_4 p1134 q1134
                                              obtain rfl : ad1133 = ad1134 := (by injection e1134)
                                              replace p1134 := eq_true p1134
                                              replace q1134 := eq_true q1134
                                              have p1135 : 0 ≤ (x17_4 : Int) := of_decide_eq_true (by first | (with_reducible assumption) | assumption)
                                              have q1135 : x17_4 < (l0.length : Int) := of_decide_eq_true (by first | (with_reducible assumption) | assumption)
                                              obtain ⟨ad1135, e1135, hx1135_0, hx1135_1⟩ := at_T42 HR0.out x17_4 p1135 q1135
                                              obtain rfl : ad1131 = ad1135 := (by injection e1135)
                                              replace hx1135_0 := (HB.out.cell (World.block_lt_of_cell? w _ hx1135_0)).trans hx1135_0
                                              replace hx1135_1 := (HB.out.cell (World.block_lt_of_cell? w _ hx1135_1)).trans hx1135_1
                                              replace p1135 := eq_true p1135
                                              replace q1135 := eq_true q1135
                                              go_wp2
                                              repeat (go_quiet (fail); try go_wp2)
                                              go_ret
                                              exact ⟨by first | rfl | (simp [errW_none, errW_some] <;> rfl) | (simp [*, errW_none, errW_some] <;> rfl), by repeat (first | (with_reducible first | exact HB.out | apply ba_ | apply bn_ | apply bd_) | exact HB.out)⟩
                                            · rw [if_neg c54] at H
                                              have c54b0 : (!(((rd_T42 t1117 x17_4).f0) == ((rd_T42 l0 x17_4).f0)) || (!(((rd_T42 t1117 x17_4).f1) == ((rd_T42 l0 x17_4).f1)))) = false := by simpa using c54
                                              clear c54
                                              have H' := Aside0.mk H
                                              clear H
                                              obtain ⟨Ao56, co56, eo56⟩ := Kd.R_slice HO_11.out
                                              subst eo56
                                              have p1133 : 0 ≤ (x17_4 : Int) := of_decide_eq_true (by first | (with_reducible assumption) | assumption)
                                              have q1133 : x17_4 < (t1117.length : Int) := of_decide_eq_true (by first | (with_reducible assumption) | assumption)
                                              obtain ⟨ad1133, e1133, hx1133_0, hx1133_1⟩ := at_T42 (Kd.R_reads' HO_11.out).2.2 x17_4 p1133 q1133
                                              cases e1133
                                              replace p1133 := eq_true p1133
                                              replace q1133 := eq_true q1133
                                              have p1134 : 0 ≤ (x17_4 : Int) := of_decide_eq_true (by first | (with_reducible assumption) | assumption)
                                              have q1134 : x17_4 < (t1117.length : Int) := of_decide_eq_true (by first | (with_reducible assumption) | assumption)
                                              obtain ⟨ad1134, e1134, hx1134_0, hx1134_1⟩ := at_T42 (Kd.R_reads' HO_11.out).2.2 x17_4 p1134 q1134
                                              obtain rfl : ad1133 = ad1134 := (by injection e1134)
                                              replace p1134 := eq_true p1134
                                              replace q1134 := eq_true q1134
                                              have p1135 : 0 ≤ (x17_4 : Int) := of_decide_eq_true (by first | (with_reducible assumption) | assumption)
                                              have q1135 : x17_4 < (l0.length : Int) := of_decide_eq_true (by first | (with_reducible assumption) | assumption)
                                              obtain ⟨ad1135, e1135, hx1135_0, hx1135_1⟩ := at_T42 HR0.out x17_4 p1135 q1135
                                              obtain rfl : ad1131 = ad1135 := (by injection e1135)
                                              replace hx1135_0 := (HB.out.cell (World.block_lt_of_cell? w _ hx1135_0)).trans hx1135_0
                                              replace hx1135_1 := (HB.out.cell (World.block_lt_of_cell? w _ hx1135_1)).trans hx1135_1
                                              replace p1135 := eq_true p1135
                                              replace q1135 := eq_true q1135
                                              go_wp2
                                              repeat (go_quiet (fail); try go_wp2)
                                              go_roundg kj35
                                              case measure => have := HJ5.out; have := HJ14.out; have := HJ22.out; have := HK4.out; have := HJ35.out; omega
                                              case rel => exact ⟨(wrap64 (x17_4 + 1)), (by first | rfl | (simp; done) | (simp [*]; done)), H', ⟨by have := HJ5.out; have := HJ14.out; have := HJ22.out; have := HK4.out; have := HJ35.out; omega⟩, ⟨by (with_reducible repeat (first | apply ra_ | apply rn_ | apply rd_)); exact HO_11.out⟩, ⟨by repeat (first | (with_reducible first | exact HB.out | apply ba_ | apply bn_ | apply bd_) | exact HB.out)⟩⟩
                                          · rw [if_neg c53] at H
                                            exact absurd H (by simp)
                                      · rw [if_neg c50] at H
                                        have c50b0 : (((rd_T42 t1117 x17_4).f0) == x18_35) = false := beq_eq_false_iff_ne.mpr c50
                                        have c50b1 : (((rd_T42 t1117 x17_4).f0) != x18_35) = true := bne_iff_ne.mpr c50
                                        obtain rfl := Option.some.inj H
                                        obtain ⟨Ao57, co57, eo57⟩ := Kd.R_slice HO_11.out
                                        subst eo57
                                        have p1133 : 0 ≤ (x17_4 : Int) := of_decide_eq_true (by first | (with_reducible assumption) | assumption)
                                        have q1133 : x17_4 < (t1117.length : Int) := of_decide_eq_true (by first | (with_reducible assumption) | assumption)
                                        obtain ⟨ad1133, e1133, hx1133_0, hx1133_1⟩ := at_T42 (Kd.R_reads' HO_11.out).2.2 x17_4 p1133 q1133
                                        cases e1133
                                        replace p1133 := eq_true p1133
                                        replace q1133 := eq_true q1133
                                        go_wp2
                                        repeat (go_quiet (fail); try go_wp2)
                                        go_ret
                                        exact ⟨by first | rfl | (simp [errW_none, errW_some] <;> rfl) | (simp [*, errW_none, errW_some] <;> rfl), by repeat (first | (with_reducible first | exact HB.out | apply ba_ | apply bn_ | apply bd_) | exact HB.out)⟩
                                    · rw [if_neg c49] at H
                                      exact absurd H (by simp)
                                  · rw [if_neg c48] at H
                                    exact absurd H (by simp)
                          · rw [if_neg c35] at H
                            exact absurd H (by simp)
                        · rw [if_neg c34] at H
                          have c34b0 : decide (x17_4 < (l0.length : Int)) = false := decide_eq_false c34
                          clear c34
                          replace H := Option.bind_eq_some_iff.mp H
                          obtain ⟨t1130, A580, H⟩ := H
                          replace H : (some t1130) = some r := H
                          have A58 := Aside0.mk A580
                          clear A580
                          obtain rfl := Option.some.inj H
                          go_wp2_with (first | (go_at_call 19; (with_reducible refine (L10_wakes.calls k4  t1130 _ A58.out).mono ?_); rintro e w59 ⟨rfl, hb⟩; have n0_ := Aside0.mk (Kd.R_below (by (with_reducible repeat (first | apply ra_ | apply rn_ | apply rd_)); exact HO_11.out) hb); have n1_ := Aside0.mk (below_step (by repeat (first | (with_reducible first | exact HB.out | apply ba_ | apply bn_ | apply bd_) | exact HB.out)) hb); clear HO_11; clear HB; have HO_11 := n0_; have HB := n1_; clear n0_ n1_; (try clear hb); (try clear hb2); (try clear hk); (try clear hi)))
                          repeat (go_quiet (first | (go_at_call 19; (with_reducible refine (L10_wakes.calls k4  t1130 _ A58.out).mono ?_); rintro e w59 ⟨rfl, hb⟩; have n0_ := Aside0.mk (Kd.R_below (by (with_reducible repeat (first | apply ra_ | apply rn_ | apply rd_)); exact HO_11.out) hb); have n1_ := Aside0.mk (below_step (by repeat (first | (with_reducible first | exact HB.out | apply ba_ | apply bn_ | apply bd_) | exact HB.out)) hb); clear HO_11; clear HB; have HO_11 := n0_; have HB := n1_; clear n0_ n1_; (try clear hb); (try clear hb2); (try clear hk); (try clear hi))); try go_wp2_with (first | (go_at_call 19; (with_reducible refine (L10_wakes.calls k4  t1130 _ A58.out).mono ?_); rintro e w59 ⟨rfl, hb⟩; have n0_ := Aside0.mk (Kd.R_below (by (with_reducible repeat (first | apply ra_ | apply rn_ | apply rd_)); exact HO_11.out) hb); have n1_ := Aside0.mk (below_step (by repeat (first | (with_reducible first | exact HB.out | apply ba_ | apply bn_ | apply bd_) | exact HB.out)) hb); clear HO_11; clear HB; have HO_11 := n0_; have HB := n1_; clear n0_ n1_; (try clear hb); (try clear hb2); (try clear hk); (try clear hi))))
                          go_ret
                          exact ⟨by first | rfl | (simp [errW_none, errW_some] <;> rfl) | (simp [*, errW_none, errW_some] <;> rfl), by repeat (first | (with_reducible first | exact HB.out | apply ba_ | apply bn_ | apply bd_) | exact HB.out)⟩

/-- THE ONE PURE STATEMENT of L10_ViewOrder. -/
def L10_ViewOrder.Pure : Prop := ∀ (l0 : List (S42)) (a1 : Int) (a2 : Int) (a3 : Int) (a4 : Int), (l0.length * 16 ≤ 140737488351232 ∧ ∀ y_ ∈ l0, wf42 y_) → (Lit.int .i64 a1).wf = true → (Lit.int .i64 a2).wf = true → (Lit.int .i64 a3).wf = true → (Lit.int .i64 a4).wf = true → ∃ k, L10_ViewOrder.f k l0 a1 a2 a3 a4 = some true

end Go.Proofs.Ytfljapcnkhjmgaa.PV
