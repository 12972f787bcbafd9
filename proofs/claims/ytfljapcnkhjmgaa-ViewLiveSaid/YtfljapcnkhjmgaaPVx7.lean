-- Written by this session's own program (wip/prog/drive.py).
import Derived.Test.YtfljapcnkhjmgaaPVx0
import Derived.Test.YtfljapcnkhjmgaaPVx2
import Derived.Test.YtfljapcnkhjmgaaPVx3
import Derived.Test.YtfljapcnkhjmgaaPVx4
namespace Go.Proofs.Ytfljapcnkhjmgaa.PV
open Go.RowKit Go.Proofs.YtfljapcnkhjmgaaW.PrintWords Go.Proofs.YtfljapcnkhjmgaaW.PrintLast Go.Proofs.YtfljapcnkhjmgaaW.PrintMore Go.Proofs.YtfljapcnkhjmgaaX
attribute [local go_sem] max2_int min2_int max_two min_two max_three min_three max_four min_four   -- for this text's walks alone
set_option linter.unusedVariables false
set_option linter.unusedSimpArgs false

/-! ### L10_ViewLive: function 5 -/
mutual
def L10_ViewLive.j0 : Nat → List (S42) → Int → Bool → Option (Bool)
  | 0, _, _, _ => none
  | k + 1, x0, x1, x20 => if x20 = true then (some true) else (if (IntKind.u64.wrap ((x0.length : Int))) = 0 then (none) else ((view_Live.f k x0 (wrap64 (Int.tmod (IntKind.u64.wrap (x1)) (IntKind.u64.wrap ((x0.length : Int)))))).bind fun bt936 => ((view_Older.f k x0).bind fun bt940 => (if bt936.2 = 0 then (L10_ViewLive.j1 k x0 (wrap64 (Int.tmod (IntKind.u64.wrap (x1)) (IntKind.u64.wrap ((x0.length : Int))))) bt936.1 bt936.2 bt940.1 bt940.2 (bt940.2 != 0)) else (L10_ViewLive.j1 k x0 (wrap64 (Int.tmod (IntKind.u64.wrap (x1)) (IntKind.u64.wrap ((x0.length : Int))))) bt936.1 bt936.2 bt940.1 bt940.2 true)))))
def L10_ViewLive.j1 : Nat → List (S42) → Int → List Int → Int → List (S42) → Int → Bool → Option (Bool)
  | 0, _, _, _, _, _, _, _ => none
  | k + 1, x0, x1, x5, x6, x7, x8, x44 => if x44 = true then (if x6 = 1 then (if x8 = 1 then ((L10_wakes.f k).bind fun t944 => (some t944)) else (some false)) else (some false)) else ((view_Live.f k x7 x1).bind fun bt945 => (L10_ViewLive.l0 k x0 x1 x5 bt945.1 bt945.2 false 0 0))
def L10_ViewLive.l0 : Nat → List (S42) → Int → List Int → List Int → Int → Bool → Int → Int → Option (Bool)
  | 0, _, _, _, _, _, _, _, _ => none
  | k + 1, x0, x1, x5, x9, x10, x11, x12, x13 => if x13 < (x5.length : Int) then (if 0 ≤ x13 then (if (rd x5 x13) < 0 then (L10_ViewLive.j3 k x0 x1 x5 x9 x10 x11 x12 x13 true) else (if (rd x5 x13) ≥ (x0.length : Int) then (L10_ViewLive.j3 k x0 x1 x5 x9 x10 x11 x12 x13 true) else (if x13 > 0 then (if 0 ≤ (wrap64 (x13 - 1)) then (if (wrap64 (x13 - 1)) < (x5.length : Int) then (if (rd x5 x13) ≤ (rd x5 (wrap64 (x13 - 1))) then (L10_ViewLive.j3 k x0 x1 x5 x9 x10 x11 x12 x13 true) else (if (rd x5 x13) = x1 then (L10_ViewLive.j3 k x0 x1 x5 x9 x10 x11 x12 x13 false) else (if 0 ≤ (rd x5 x13) then (if (rd x5 x13) < (x0.length : Int) then (L10_ViewLive.j3 k x0 x1 x5 x9 x10 x11 x12 x13 (((rd_T42 x0 (rd x5 x13)).f0) == 0)) else (none)) else (none)))) else (none)) else (none)) else (if (rd x5 x13) = x1 then (L10_ViewLive.j3 k x0 x1 x5 x9 x10 x11 x12 x13 false) else (if 0 ≤ (rd x5 x13) then (if (rd x5 x13) < (x0.length : Int) then (L10_ViewLive.j3 k x0 x1 x5 x9 x10 x11 x12 x13 (((rd_T42 x0 (rd x5 x13)).f0) == 0)) else (none)) else (none)))))) else (none)) else (if x10 = 0 then (if x11 = true then (if x12 = (x9.length : Int) then ((L10_wakes.f k).bind fun t949 => (some t949)) else (some false)) else (some false)) else (some false))
def L10_ViewLive.j3 : Nat → List (S42) → Int → List Int → List Int → Int → Bool → Int → Int → Bool → Option (Bool)
  | 0, _, _, _, _, _, _, _, _, _ => none
  | k + 1, x0, x1, x5, x9, x10, x11, x12, x13, x114 => if x114 = true then (some false) else (if x11 = true then (if x12 < (x9.length : Int) then (if 0 ≤ x12 then (if 0 ≤ x13 then (if x13 < (x5.length : Int) then (if (rd x9 x12) = (rd x5 x13) then (L10_ViewLive.l0 k x0 x1 x5 x9 x10 true (wrap64 (x12 + 1)) (wrap64 (x13 + 1))) else (L10_ViewLive.l0 k x0 x1 x5 x9 x10 true x12 (wrap64 (x13 + 1)))) else (none)) else (none)) else (none)) else (L10_ViewLive.l0 k x0 x1 x5 x9 x10 true x12 (wrap64 (x13 + 1)))) else (if 0 ≤ x13 then (if x13 < (x5.length : Int) then (if x12 < (x9.length : Int) then (if 0 ≤ x12 then (if (rd x9 x12) = (rd x5 x13) then (L10_ViewLive.l0 k x0 x1 x5 x9 x10 ((rd x5 x13) == x1) (wrap64 (x12 + 1)) (wrap64 (x13 + 1))) else (L10_ViewLive.l0 k x0 x1 x5 x9 x10 ((rd x5 x13) == x1) x12 (wrap64 (x13 + 1)))) else (none)) else (L10_ViewLive.l0 k x0 x1 x5 x9 x10 ((rd x5 x13) == x1) x12 (wrap64 (x13 + 1)))) else (none)) else (none)))
end
def L10_ViewLive.f (k : Nat) (l0 : List (S42)) (a1 : Int) : Option (Bool) := (L10_Heavy.f l0).bind fun t935 => (if t935 = true then (L10_ViewLive.j0 k l0 a1 true) else (L10_ViewLive.j0 k l0 a1 ((l0.length : Int) == 0)))
theorem L10_ViewLive.mono_l : ∀ k, (∀ y0 y1 y2, LeO (L10_ViewLive.j0 k y0 y1 y2) (L10_ViewLive.j0 (k + 1) y0 y1 y2)) ∧ (∀ y0 y1 y2 y3 y4 y5 y6, LeO (L10_ViewLive.j1 k y0 y1 y2 y3 y4 y5 y6) (L10_ViewLive.j1 (k + 1) y0 y1 y2 y3 y4 y5 y6)) ∧ (∀ y0 y1 y2 y3 y4 y5 y6 y7, LeO (L10_ViewLive.l0 k y0 y1 y2 y3 y4 y5 y6 y7) (L10_ViewLive.l0 (k + 1) y0 y1 y2 y3 y4 y5 y6 y7)) ∧ (∀ y0 y1 y2 y3 y4 y5 y6 y7 y8, LeO (L10_ViewLive.j3 k y0 y1 y2 y3 y4 y5 y6 y7 y8) (L10_ViewLive.j3 (k + 1) y0 y1 y2 y3 y4 y5 y6 y7 y8))
  | 0 => ⟨fun _ _ _ r h => by simp [L10_ViewLive.j0] at h, fun _ _ _ _ _ _ _ r h => by simp [L10_ViewLive.j1] at h, fun _ _ _ _ _ _ _ _ r h => by simp [L10_ViewLive.l0] at h, fun _ _ _ _ _ _ _ _ _ r h => by simp [L10_ViewLive.j3] at h⟩
  | k + 1 => by
    obtain ⟨ih0, ih1, ih2, ih3⟩ := L10_ViewLive.mono_l k
    refine ⟨?_, ?_, ?_, ?_⟩
    · intro y0 y1 y2
      unfold L10_ViewLive.j0
      repeat' first
      | (with_reducible exact ih0 _ _ _)
      | (with_reducible exact ih1 _ _ _ _ _ _ _)
      | (with_reducible exact ih2 _ _ _ _ _ _ _ _)
      | (with_reducible exact ih3 _ _ _ _ _ _ _ _ _)
      | (with_reducible exact L10_wakes.mono _)
      | (with_reducible exact view_Live.mono _ _ _)
      | (with_reducible exact view_Older.mono _ _)
      | (with_reducible exact LeO.refl _)
      | (with_reducible exact LeO.none _)
      | (with_reducible refine LeO.ite ?_ ?_)
      | (with_reducible refine LeO.bind ?_ (fun _ => ?_))
      | exact ih0 _ _ _
      | exact ih1 _ _ _ _ _ _ _
      | exact ih2 _ _ _ _ _ _ _ _
      | exact ih3 _ _ _ _ _ _ _ _ _
      | exact L10_wakes.mono _
      | exact view_Live.mono _ _ _
      | exact view_Older.mono _ _
      | exact LeO.none _
      | refine LeO.ite ?_ ?_
      | refine LeO.bind ?_ (fun _ => ?_)
    · intro y0 y1 y2 y3 y4 y5 y6
      unfold L10_ViewLive.j1
      repeat' first
      | (with_reducible exact ih0 _ _ _)
      | (with_reducible exact ih1 _ _ _ _ _ _ _)
      | (with_reducible exact ih2 _ _ _ _ _ _ _ _)
      | (with_reducible exact ih3 _ _ _ _ _ _ _ _ _)
      | (with_reducible exact L10_wakes.mono _)
      | (with_reducible exact view_Live.mono _ _ _)
      | (with_reducible exact view_Older.mono _ _)
      | (with_reducible exact LeO.refl _)
      | (with_reducible exact LeO.none _)
      | (with_reducible refine LeO.ite ?_ ?_)
      | (with_reducible refine LeO.bind ?_ (fun _ => ?_))
      | exact ih0 _ _ _
      | exact ih1 _ _ _ _ _ _ _
      | exact ih2 _ _ _ _ _ _ _ _
      | exact ih3 _ _ _ _ _ _ _ _ _
      | exact L10_wakes.mono _
      | exact view_Live.mono _ _ _
      | exact view_Older.mono _ _
      | exact LeO.none _
      | refine LeO.ite ?_ ?_
      | refine LeO.bind ?_ (fun _ => ?_)
    · intro y0 y1 y2 y3 y4 y5 y6 y7
      unfold L10_ViewLive.l0
      repeat' first
      | (with_reducible exact ih0 _ _ _)
      | (with_reducible exact ih1 _ _ _ _ _ _ _)
      | (with_reducible exact ih2 _ _ _ _ _ _ _ _)
      | (with_reducible exact ih3 _ _ _ _ _ _ _ _ _)
      | (with_reducible exact L10_wakes.mono _)
      | (with_reducible exact view_Live.mono _ _ _)
      | (with_reducible exact view_Older.mono _ _)
      | (with_reducible exact LeO.refl _)
      | (with_reducible exact LeO.none _)
      | (with_reducible refine LeO.ite ?_ ?_)
      | (with_reducible refine LeO.bind ?_ (fun _ => ?_))
      | exact ih0 _ _ _
      | exact ih1 _ _ _ _ _ _ _
      | exact ih2 _ _ _ _ _ _ _ _
      | exact ih3 _ _ _ _ _ _ _ _ _
      | exact L10_wakes.mono _
      | exact view_Live.mono _ _ _
      | exact view_Older.mono _ _
      | exact LeO.none _
      | refine LeO.ite ?_ ?_
      | refine LeO.bind ?_ (fun _ => ?_)
    · intro y0 y1 y2 y3 y4 y5 y6 y7 y8
      unfold L10_ViewLive.j3
      repeat' first
      | (with_reducible exact ih0 _ _ _)
      | (with_reducible exact ih1 _ _ _ _ _ _ _)
      | (with_reducible exact ih2 _ _ _ _ _ _ _ _)
      | (with_reducible exact ih3 _ _ _ _ _ _ _ _ _)
      | (with_reducible exact L10_wakes.mono _)
      | (with_reducible exact view_Live.mono _ _ _)
      | (with_reducible exact view_Older.mono _ _)
      | (with_reducible exact LeO.refl _)
      | (with_reducible exact LeO.none _)
      | (with_reducible refine LeO.ite ?_ ?_)
      | (with_reducible refine LeO.bind ?_ (fun _ => ?_))
      | exact ih0 _ _ _
      | exact ih1 _ _ _ _ _ _ _
      | exact ih2 _ _ _ _ _ _ _ _
      | exact ih3 _ _ _ _ _ _ _ _ _
      | exact L10_wakes.mono _
      | exact view_Live.mono _ _ _
      | exact view_Older.mono _ _
      | exact LeO.none _
      | refine LeO.ite ?_ ?_
      | refine LeO.bind ?_ (fun _ => ?_)
theorem L10_ViewLive.mono : ∀ a0 a1 k, LeO (L10_ViewLive.f k a0 a1) (L10_ViewLive.f (k + 1) a0 a1) := by
  intro a0 a1 k
  obtain ⟨ih0, ih1, ih2, ih3⟩ := L10_ViewLive.mono_l k
  unfold L10_ViewLive.f
  repeat' first
      | (with_reducible exact ih0 _ _ _)
      | (with_reducible exact ih1 _ _ _ _ _ _ _)
      | (with_reducible exact ih2 _ _ _ _ _ _ _ _)
      | (with_reducible exact ih3 _ _ _ _ _ _ _ _ _)
      | (with_reducible exact L10_wakes.mono _)
      | (with_reducible exact view_Live.mono _ _ _)
      | (with_reducible exact view_Older.mono _ _)
      | (with_reducible exact LeO.refl _)
      | (with_reducible exact LeO.none _)
      | (with_reducible refine LeO.ite ?_ ?_)
      | (with_reducible refine LeO.bind ?_ (fun _ => ?_))
      | exact ih0 _ _ _
      | exact ih1 _ _ _ _ _ _ _
      | exact ih2 _ _ _ _ _ _ _ _
      | exact ih3 _ _ _ _ _ _ _ _ _
      | exact L10_wakes.mono _
      | exact view_Live.mono _ _ _
      | exact view_Older.mono _ _
      | exact LeO.none _
      | refine LeO.ite ?_ ?_
      | refine LeO.bind ?_ (fun _ => ?_)
set_option maxHeartbeats 8000000 in
set_option maxRecDepth 100000 in
theorem L10_ViewLive.calls (k : Nat) (A0 : Option Addr) (c0 : Nat) (l0 : List (S42)) (a1 : Int) (r : Bool) (w : World) (hr0 : Kd.C k42 w A0 l0.length l0) (hc0 : l0.length ≤ c0) (h : L10_ViewLive.f k l0 a1 = some r) :
    Calls Try.prog 5 #[.slice A0 l0.length c0, .int .i64 a1] w fun e w' => e = .returned (.bool r) ∧ Below w.heap.size w w' := by
  have HR0 := Aside0.mk hr0
  have HC0 := Aside0.mk hc0
  clear hr0 hc0
  have HB := Aside0.mk (Below.refl w.heap.size w)
  have H : ((L10_Heavy.f l0).bind fun t935 => (if t935 = true then (L10_ViewLive.j0 k l0 a1 true) else (L10_ViewLive.j0 k l0 a1 ((l0.length : Int) == 0)))) = some r := h
  clear h
  have HC3 := Aside0.mk H
  clear H
  go_enter Try.func5, Try.ntmps5
  go_upto_region 1 with (fail)
  repeat (go_quiet (fail); go_upto_region 1 with (fail))
  go_cut [20] (fun v20 wc => ∃ (kq : Nat) (x20_2 : Bool), v20 = .bool x20_2 ∧ Aside0 (L10_ViewLive.j0 kq l0 a1 x20_2 = some r) ∧ Aside0 (kq ≤ k) ∧ Aside0 (Below w.heap.size w wc))
  case first =>
    have H := HC3.out
    clear HC3
    replace H := Option.bind_eq_some_iff.mp H
    obtain ⟨t935, A40, H⟩ := H
    replace H : (if t935 = true then (L10_ViewLive.j0 k l0 a1 true) else (L10_ViewLive.j0 k l0 a1 ((l0.length : Int) == 0))) = some r := H
    have A4 := Aside0.mk A40
    clear A40
    by_cases c5 : t935 = true
    · subst c5
      have H1 : (L10_ViewLive.j0 k l0 a1 true) = some r := by rw [if_pos rfl] at H; exact H
      clear H
      have H := H1
      clear H1
      have H' := Aside0.mk H
      clear H
      go_wp2_with (first | (go_at_call 11; (with_reducible refine (L10_Heavy.calls _ _ l0 true _ ?side1 ?side2 A4.out).mono ?_); (case side1 => repeat (first | exact (Kd.C_below HR0.out HB.out) | (with_reducible refine Kd.C_alloc ?_ _) | (with_reducible refine Kd.C_drewN ?_ _) | (with_reducible refine Kd.C_drew ?_))); (case side2 => exact HC0.out); rintro e w' ⟨rfl, ⟨nd, rfl⟩⟩; (try first | exact ⟨rfl, _, World.drewN_drewN _ _ _⟩ | exact ⟨rfl, _, Eq.trans (World.drewN_drewN _ _ _) (congrArg (World.drewN _) (Nat.add_assoc _ _ _))⟩)))
      repeat (go_quiet (first | (go_at_call 11; (with_reducible refine (L10_Heavy.calls _ _ l0 true _ ?side1 ?side2 A4.out).mono ?_); (case side1 => repeat (first | exact (Kd.C_below HR0.out HB.out) | (with_reducible refine Kd.C_alloc ?_ _) | (with_reducible refine Kd.C_drewN ?_ _) | (with_reducible refine Kd.C_drew ?_))); (case side2 => exact HC0.out); rintro e w' ⟨rfl, ⟨nd, rfl⟩⟩; (try first | exact ⟨rfl, _, World.drewN_drewN _ _ _⟩ | exact ⟨rfl, _, Eq.trans (World.drewN_drewN _ _ _) (congrArg (World.drewN _) (Nat.add_assoc _ _ _))⟩))); try go_wp2_with (first | (go_at_call 11; (with_reducible refine (L10_Heavy.calls _ _ l0 true _ ?side1 ?side2 A4.out).mono ?_); (case side1 => repeat (first | exact (Kd.C_below HR0.out HB.out) | (with_reducible refine Kd.C_alloc ?_ _) | (with_reducible refine Kd.C_drewN ?_ _) | (with_reducible refine Kd.C_drew ?_))); (case side2 => exact HC0.out); rintro e w' ⟨rfl, ⟨nd, rfl⟩⟩; (try first | exact ⟨rfl, _, World.drewN_drewN _ _ _⟩ | exact ⟨rfl, _, Eq.trans (World.drewN_drewN _ _ _) (congrArg (World.drewN _) (Nat.add_assoc _ _ _))⟩))))
      go_meet
      case rel => exact ⟨_, (true), (by first | rfl | (simp; done) | (simp [*]; done)), H', ⟨by first | omega | exact Nat.le_refl _⟩, ⟨by repeat (first | (with_reducible first | exact HB.out | apply ba_ | apply bn_ | apply bd_) | exact HB.out)⟩⟩
    · replace c5 := Bool.eq_false_iff.mpr c5
      subst c5
      have H1 : (L10_ViewLive.j0 k l0 a1 ((l0.length : Int) == 0)) = some r := by rw [if_neg (show ¬ (false = true) by decide)] at H; exact H
      clear H
      have H := H1
      clear H1
      have H' := Aside0.mk H
      clear H
      go_wp2_with (first | (go_at_call 11; (with_reducible refine (L10_Heavy.calls _ _ l0 false _ ?side1 ?side2 A4.out).mono ?_); (case side1 => repeat (first | exact (Kd.C_below HR0.out HB.out) | (with_reducible refine Kd.C_alloc ?_ _) | (with_reducible refine Kd.C_drewN ?_ _) | (with_reducible refine Kd.C_drew ?_))); (case side2 => exact HC0.out); rintro e w' ⟨rfl, ⟨nd, rfl⟩⟩; (try first | exact ⟨rfl, _, World.drewN_drewN _ _ _⟩ | exact ⟨rfl, _, Eq.trans (World.drewN_drewN _ _ _) (congrArg (World.drewN _) (Nat.add_assoc _ _ _))⟩)))
      repeat (go_quiet (first | (go_at_call 11; (with_reducible refine (L10_Heavy.calls _ _ l0 false _ ?side1 ?side2 A4.out).mono ?_); (case side1 => repeat (first | exact (Kd.C_below HR0.out HB.out) | (with_reducible refine Kd.C_alloc ?_ _) | (with_reducible refine Kd.C_drewN ?_ _) | (with_reducible refine Kd.C_drew ?_))); (case side2 => exact HC0.out); rintro e w' ⟨rfl, ⟨nd, rfl⟩⟩; (try first | exact ⟨rfl, _, World.drewN_drewN _ _ _⟩ | exact ⟨rfl, _, Eq.trans (World.drewN_drewN _ _ _) (congrArg (World.drewN _) (Nat.add_assoc _ _ _))⟩))); try go_wp2_with (first | (go_at_call 11; (with_reducible refine (L10_Heavy.calls _ _ l0 false _ ?side1 ?side2 A4.out).mono ?_); (case side1 => repeat (first | exact (Kd.C_below HR0.out HB.out) | (with_reducible refine Kd.C_alloc ?_ _) | (with_reducible refine Kd.C_drewN ?_ _) | (with_reducible refine Kd.C_drew ?_))); (case side2 => exact HC0.out); rintro e w' ⟨rfl, ⟨nd, rfl⟩⟩; (try first | exact ⟨rfl, _, World.drewN_drewN _ _ _⟩ | exact ⟨rfl, _, Eq.trans (World.drewN_drewN _ _ _) (congrArg (World.drewN _) (Nat.add_assoc _ _ _))⟩))))
      go_meet
      case rel => exact ⟨_, (((l0.length : Int) == 0)), (by first | rfl | (simp; done) | (simp [*]; done)), H', ⟨by first | omega | exact Nat.le_refl _⟩, ⟨by repeat (first | (with_reducible first | exact HB.out | apply ba_ | apply bn_ | apply bd_) | exact HB.out)⟩⟩
  case rest => as_aux_lemma =>
    clear HC3
    (try clear p2); (try clear c5)
    obtain ⟨kq, x20_2, rfl, HA, HJ2, HB⟩ := hcut
    cases kq with
    | zero => exact absurd HA.out (by simp [L10_ViewLive.j0])
    | succ kj2 =>
      have H := HA.out
      clear HA
      simp only [L10_ViewLive.j0] at H
      by_cases c6 : x20_2 = true
      · subst c6
        have H1 : (some true) = some r := by rw [if_pos rfl] at H; exact H
        clear H
        have H := H1
        clear H1
        obtain rfl := Option.some.inj H
        go_wp2
        repeat (go_quiet (fail); try go_wp2)
        go_ret
        exact ⟨by first | rfl | (simp [errW_none, errW_some] <;> rfl) | (simp [*, errW_none, errW_some] <;> rfl), by repeat (first | (with_reducible first | exact HB.out | apply ba_ | apply bn_ | apply bd_) | exact HB.out)⟩
      · replace c6 := Bool.eq_false_iff.mpr c6
        subst c6
        have H1 : (if (IntKind.u64.wrap ((l0.length : Int))) = 0 then (none) else ((view_Live.f kj2 l0 (wrap64 (Int.tmod (IntKind.u64.wrap (a1)) (IntKind.u64.wrap ((l0.length : Int)))))).bind fun bt936 => ((view_Older.f kj2 l0).bind fun bt940 => (if bt936.2 = 0 then (L10_ViewLive.j1 kj2 l0 (wrap64 (Int.tmod (IntKind.u64.wrap (a1)) (IntKind.u64.wrap ((l0.length : Int))))) bt936.1 bt936.2 bt940.1 bt940.2 (bt940.2 != 0)) else (L10_ViewLive.j1 kj2 l0 (wrap64 (Int.tmod (IntKind.u64.wrap (a1)) (IntKind.u64.wrap ((l0.length : Int))))) bt936.1 bt936.2 bt940.1 bt940.2 true))))) = some r := by rw [if_neg (show ¬ (false = true) by decide)] at H; exact H
        clear H
        have H := H1
        clear H1
        by_cases c7 : (IntKind.u64.wrap ((l0.length : Int))) = 0
        · rw [if_pos c7] at H
          exact absurd H (by simp)
        · rw [if_neg c7] at H
          have c7b0 : ((IntKind.u64.wrap ((l0.length : Int))) == 0) = false := beq_eq_false_iff_ne.mpr c7
          have c7b1 : ((IntKind.u64.wrap ((l0.length : Int))) != 0) = true := bne_iff_ne.mpr c7
          replace H := Option.bind_eq_some_iff.mp H
          obtain ⟨⟨t936, t937⟩, A80, H⟩ := H
          replace H : ((view_Older.f kj2 l0).bind fun bt940 => (if t937 = 0 then (L10_ViewLive.j1 kj2 l0 (wrap64 (Int.tmod (IntKind.u64.wrap (a1)) (IntKind.u64.wrap ((l0.length : Int))))) t936 t937 bt940.1 bt940.2 (bt940.2 != 0)) else (L10_ViewLive.j1 kj2 l0 (wrap64 (Int.tmod (IntKind.u64.wrap (a1)) (IntKind.u64.wrap ((l0.length : Int))))) t936 t937 bt940.1 bt940.2 true))) = some r := H
          have A8 := Aside0.mk A80
          clear A80
          replace H := Option.bind_eq_some_iff.mp H
          obtain ⟨⟨t940, t941⟩, A90, H⟩ := H
          replace H : (if t937 = 0 then (L10_ViewLive.j1 kj2 l0 (wrap64 (Int.tmod (IntKind.u64.wrap (a1)) (IntKind.u64.wrap ((l0.length : Int))))) t936 t937 t940 t941 (t941 != 0)) else (L10_ViewLive.j1 kj2 l0 (wrap64 (Int.tmod (IntKind.u64.wrap (a1)) (IntKind.u64.wrap ((l0.length : Int))))) t936 t937 t940 t941 true)) = some r := H
          have A9 := Aside0.mk A90
          clear A90
          have HC10 := Aside0.mk H
          clear H
          go_upto_region 6 with (first | (go_at_call 15; (with_reducible refine (view_Live.calls kj2 _ _ l0 (wrap64 (Int.tmod (IntKind.u64.wrap (a1)) (IntKind.u64.wrap ((l0.length : Int))))) t936 t937 _ ?side1 ?side2 A8.out).mono ?_); (case side1 => repeat (first | exact (Kd.C_below HR0.out HB.out) | (with_reducible refine Kd.C_alloc ?_ _) | (with_reducible refine Kd.C_drewN ?_ _) | (with_reducible refine Kd.C_drew ?_))); (case side2 => exact HC0.out); rintro e w11 ⟨v938, rfl, ho0, hb⟩; have n0_ := Aside0.mk (Kd.R_lower ho0 (below_size (by repeat (first | (with_reducible first | exact HB.out | apply ba_ | apply bn_ | apply bd_) | exact HB.out)))); have n1_ := Aside0.mk (below_step (by repeat (first | (with_reducible first | exact HB.out | apply ba_ | apply bn_ | apply bd_) | exact HB.out)) hb); clear HB; have HO939 := n0_; have HB := n1_; clear n0_ n1_; (try clear hb); (try clear hb2); (try clear hk); (try clear hi); (try clear ho0)) | (go_at_call 14; (with_reducible refine (view_Older.calls kj2 _ _ l0 t940 t941 _ ?side1 ?side2 A9.out).mono ?_); (case side1 => repeat (first | exact (Kd.C_below HR0.out HB.out) | (with_reducible refine Kd.C_alloc ?_ _) | (with_reducible refine Kd.C_drewN ?_ _) | (with_reducible refine Kd.C_drew ?_))); (case side2 => exact HC0.out); rintro e w12 ⟨v942, rfl, ho0, hb⟩; have n0_ := Aside0.mk (Kd.R_below (by (with_reducible repeat (first | apply ra_ | apply rn_ | apply rd_)); exact HO939.out) hb); have n1_ := Aside0.mk (Kd.R_lower ho0 (below_size (by repeat (first | (with_reducible first | exact HB.out | apply ba_ | apply bn_ | apply bd_) | exact HB.out)))); have n2_ := Aside0.mk (below_step (by repeat (first | (with_reducible first | exact HB.out | apply ba_ | apply bn_ | apply bd_) | exact HB.out)) hb); clear HO939; clear HB; have HO939 := n0_; have HO943 := n1_; have HB := n2_; clear n0_ n1_ n2_; (try clear hb); (try clear hb2); (try clear hk); (try clear hi); (try clear ho0)))
          repeat (go_quiet (first | (go_at_call 15; (with_reducible refine (view_Live.calls kj2 _ _ l0 (wrap64 (Int.tmod (IntKind.u64.wrap (a1)) (IntKind.u64.wrap ((l0.length : Int))))) t936 t937 _ ?side1 ?side2 A8.out).mono ?_); (case side1 => repeat (first | exact (Kd.C_below HR0.out HB.out) | (with_reducible refine Kd.C_alloc ?_ _) | (with_reducible refine Kd.C_drewN ?_ _) | (with_reducible refine Kd.C_drew ?_))); (case side2 => exact HC0.out); rintro e w11 ⟨v938, rfl, ho0, hb⟩; have n0_ := Aside0.mk (Kd.R_lower ho0 (below_size (by repeat (first | (with_reducible first | exact HB.out | apply ba_ | apply bn_ | apply bd_) | exact HB.out)))); have n1_ := Aside0.mk (below_step (by repeat (first | (with_reducible first | exact HB.out | apply ba_ | apply bn_ | apply bd_) | exact HB.out)) hb); clear HB; have HO939 := n0_; have HB := n1_; clear n0_ n1_; (try clear hb); (try clear hb2); (try clear hk); (try clear hi); (try clear ho0)) | (go_at_call 14; (with_reducible refine (view_Older.calls kj2 _ _ l0 t940 t941 _ ?side1 ?side2 A9.out).mono ?_); (case side1 => repeat (first | exact (Kd.C_below HR0.out HB.out) | (with_reducible refine Kd.C_alloc ?_ _) | (with_reducible refine Kd.C_drewN ?_ _) | (with_reducible refine Kd.C_drew ?_))); (case side2 => exact HC0.out); rintro e w12 ⟨v942, rfl, ho0, hb⟩; have n0_ := Aside0.mk (Kd.R_below (by (with_reducible repeat (first | apply ra_ | apply rn_ | apply rd_)); exact HO939.out) hb); have n1_ := Aside0.mk (Kd.R_lower ho0 (below_size (by repeat (first | (with_reducible first | exact HB.out | apply ba_ | apply bn_ | apply bd_) | exact HB.out)))); have n2_ := Aside0.mk (below_step (by repeat (first | (with_reducible first | exact HB.out | apply ba_ | apply bn_ | apply bd_) | exact HB.out)) hb); clear HO939; clear HB; have HO939 := n0_; have HO943 := n1_; have HB := n2_; clear n0_ n1_ n2_; (try clear hb); (try clear hb2); (try clear hk); (try clear hi); (try clear ho0))); go_upto_region 6 with (first | (go_at_call 15; (with_reducible refine (view_Live.calls kj2 _ _ l0 (wrap64 (Int.tmod (IntKind.u64.wrap (a1)) (IntKind.u64.wrap ((l0.length : Int))))) t936 t937 _ ?side1 ?side2 A8.out).mono ?_); (case side1 => repeat (first | exact (Kd.C_below HR0.out HB.out) | (with_reducible refine Kd.C_alloc ?_ _) | (with_reducible refine Kd.C_drewN ?_ _) | (with_reducible refine Kd.C_drew ?_))); (case side2 => exact HC0.out); rintro e w11 ⟨v938, rfl, ho0, hb⟩; have n0_ := Aside0.mk (Kd.R_lower ho0 (below_size (by repeat (first | (with_reducible first | exact HB.out | apply ba_ | apply bn_ | apply bd_) | exact HB.out)))); have n1_ := Aside0.mk (below_step (by repeat (first | (with_reducible first | exact HB.out | apply ba_ | apply bn_ | apply bd_) | exact HB.out)) hb); clear HB; have HO939 := n0_; have HB := n1_; clear n0_ n1_; (try clear hb); (try clear hb2); (try clear hk); (try clear hi); (try clear ho0)) | (go_at_call 14; (with_reducible refine (view_Older.calls kj2 _ _ l0 t940 t941 _ ?side1 ?side2 A9.out).mono ?_); (case side1 => repeat (first | exact (Kd.C_below HR0.out HB.out) | (with_reducible refine Kd.C_alloc ?_ _) | (with_reducible refine Kd.C_drewN ?_ _) | (with_reducible refine Kd.C_drew ?_))); (case side2 => exact HC0.out); rintro e w12 ⟨v942, rfl, ho0, hb⟩; have n0_ := Aside0.mk (Kd.R_below (by (with_reducible repeat (first | apply ra_ | apply rn_ | apply rd_)); exact HO939.out) hb); have n1_ := Aside0.mk (Kd.R_lower ho0 (below_size (by repeat (first | (with_reducible first | exact HB.out | apply ba_ | apply bn_ | apply bd_) | exact HB.out)))); have n2_ := Aside0.mk (below_step (by repeat (first | (with_reducible first | exact HB.out | apply ba_ | apply bn_ | apply bd_) | exact HB.out)) hb); clear HO939; clear HB; have HO939 := n0_; have HO943 := n1_; have HB := n2_; clear n0_ n1_ n2_; (try clear hb); (try clear hb2); (try clear hk); (try clear hi); (try clear ho0))))
          (try simp only [Act.put, List.setIfInBounds_toArray, List.set_cons_zero, List.set_cons_succ])
          go_cut [44] (fun v44 wc => ∃ (kq : Nat) (x44_9 : Bool), v44 = .bool x44_9 ∧ Aside0 (L10_ViewLive.j1 kq l0 (wrap64 (Int.tmod (IntKind.u64.wrap (a1)) (IntKind.u64.wrap ((l0.length : Int))))) t936 t937 t940 t941 x44_9 = some r) ∧ Aside0 (kq ≤ kj2) ∧ Aside0 (Kd.R (Kd.int .i64) 3 wc w.heap.size (fun _ => True) v938 t936) ∧ Aside0 (Kd.R k42 42 wc w.heap.size (fun _ => True) v942 t940) ∧ Aside0 (Below w.heap.size w wc))
          case first =>
            have H := HC10.out
            clear HC10
            by_cases c13 : t937 = 0
            · rw [if_pos c13] at H
              have c13b0 : (t937 == 0) = true := beq_iff_eq.mpr c13
              have c13b1 : (t937 != 0) = false := bne_eq_false_iff_eq.mpr c13
              clear c13
              (first | rw [c13b0] | (simp only [i64_w, i32_w]; rw [c13b0]) | skip)
              have H' := Aside0.mk H
              clear H
              go_wp2
              repeat (go_quiet (fail); try go_wp2)
              go_meet
              case rel => exact ⟨_, ((t941 != 0)), (by first | rfl | (simp; done) | (simp [*]; done)), H', ⟨by have := HJ2.out; first | omega | exact Nat.le_refl _⟩, ⟨by (with_reducible repeat (first | apply ra_ | apply rn_ | apply rd_)); exact HO939.out⟩, ⟨by (with_reducible repeat (first | apply ra_ | apply rn_ | apply rd_)); exact HO943.out⟩, ⟨by repeat (first | (with_reducible first | exact HB.out | apply ba_ | apply bn_ | apply bd_) | exact HB.out)⟩⟩
            · rw [if_neg c13] at H
              have c13b0 : (t937 == 0) = false := beq_eq_false_iff_ne.mpr c13
              have c13b1 : (t937 != 0) = true := bne_iff_ne.mpr c13
              (first | rw [c13b0] | (simp only [i64_w, i32_w]; rw [c13b0]) | skip)
              have H' := Aside0.mk H
              clear H
              go_wp2
              repeat (go_quiet (fail); try go_wp2)
              go_meet
              case rel => exact ⟨_, (true), (by first | rfl | (simp; done) | (simp [*]; done)), H', ⟨by have := HJ2.out; first | omega | exact Nat.le_refl _⟩, ⟨by (with_reducible repeat (first | apply ra_ | apply rn_ | apply rd_)); exact HO939.out⟩, ⟨by (with_reducible repeat (first | apply ra_ | apply rn_ | apply rd_)); exact HO943.out⟩, ⟨by repeat (first | (with_reducible first | exact HB.out | apply ba_ | apply bn_ | apply bd_) | exact HB.out)⟩⟩
          case rest => as_aux_lemma =>
            clear HC10
            (try clear c1); (try clear p2); (try clear c5); (try clear c6); (try clear p6); (try clear c7); (try clear c7b0); (try clear c7b1); (try clear c13); (try clear c13b0); (try clear c13b1); (try clear p2)
            obtain ⟨kq, x44_9, rfl, HA, HJ9, HO_5, HO_7, HB⟩ := hcut
            cases kq with
            | zero => exact absurd HA.out (by simp [L10_ViewLive.j1])
            | succ kj9 =>
              have H := HA.out
              clear HA
              simp only [L10_ViewLive.j1] at H
              by_cases c14 : x44_9 = true
              · subst c14
                have H1 : (if t937 = 1 then (if t941 = 1 then ((L10_wakes.f kj9).bind fun t944 => (some t944)) else (some false)) else (some false)) = some r := by rw [if_pos rfl] at H; exact H
                clear H
                have H := H1
                clear H1
                by_cases c15 : t937 = 1
                · rw [if_pos c15] at H
                  have c15b0 : (t937 == 1) = true := beq_iff_eq.mpr c15
                  have c15b1 : (t937 != 1) = false := bne_eq_false_iff_eq.mpr c15
                  clear c15
                  by_cases c16 : t941 = 1
                  · rw [if_pos c16] at H
                    have c16b0 : (t941 == 1) = true := beq_iff_eq.mpr c16
                    have c16b1 : (t941 != 1) = false := bne_eq_false_iff_eq.mpr c16
                    clear c16
                    replace H := Option.bind_eq_some_iff.mp H
                    obtain ⟨t944, A170, H⟩ := H
                    replace H : (some t944) = some r := H
                    have A17 := Aside0.mk A170
                    clear A170
                    obtain rfl := Option.some.inj H
                    go_wp2_with (first | (go_at_call 19; (with_reducible refine (L10_wakes.calls kj9  t944 _ A17.out).mono ?_); rintro e w18 ⟨rfl, hb⟩; have n0_ := Aside0.mk (Kd.R_below (by (with_reducible repeat (first | apply ra_ | apply rn_ | apply rd_)); exact HO_5.out) hb); have n1_ := Aside0.mk (Kd.R_below (by (with_reducible repeat (first | apply ra_ | apply rn_ | apply rd_)); exact HO_7.out) hb); have n2_ := Aside0.mk (below_step (by repeat (first | (with_reducible first | exact HB.out | apply ba_ | apply bn_ | apply bd_) | exact HB.out)) hb); clear HO_5; clear HO_7; clear HB; have HO_5 := n0_; have HO_7 := n1_; have HB := n2_; clear n0_ n1_ n2_; (try clear hb); (try clear hb2); (try clear hk); (try clear hi)))
                    repeat (go_quiet (first | (go_at_call 19; (with_reducible refine (L10_wakes.calls kj9  t944 _ A17.out).mono ?_); rintro e w18 ⟨rfl, hb⟩; have n0_ := Aside0.mk (Kd.R_below (by (with_reducible repeat (first | apply ra_ | apply rn_ | apply rd_)); exact HO_5.out) hb); have n1_ := Aside0.mk (Kd.R_below (by (with_reducible repeat (first | apply ra_ | apply rn_ | apply rd_)); exact HO_7.out) hb); have n2_ := Aside0.mk (below_step (by repeat (first | (with_reducible first | exact HB.out | apply ba_ | apply bn_ | apply bd_) | exact HB.out)) hb); clear HO_5; clear HO_7; clear HB; have HO_5 := n0_; have HO_7 := n1_; have HB := n2_; clear n0_ n1_ n2_; (try clear hb); (try clear hb2); (try clear hk); (try clear hi))); try go_wp2_with (first | (go_at_call 19; (with_reducible refine (L10_wakes.calls kj9  t944 _ A17.out).mono ?_); rintro e w18 ⟨rfl, hb⟩; have n0_ := Aside0.mk (Kd.R_below (by (with_reducible repeat (first | apply ra_ | apply rn_ | apply rd_)); exact HO_5.out) hb); have n1_ := Aside0.mk (Kd.R_below (by (with_reducible repeat (first | apply ra_ | apply rn_ | apply rd_)); exact HO_7.out) hb); have n2_ := Aside0.mk (below_step (by repeat (first | (with_reducible first | exact HB.out | apply ba_ | apply bn_ | apply bd_) | exact HB.out)) hb); clear HO_5; clear HO_7; clear HB; have HO_5 := n0_; have HO_7 := n1_; have HB := n2_; clear n0_ n1_ n2_; (try clear hb); (try clear hb2); (try clear hk); (try clear hi))))
                    go_ret
                    exact ⟨by first | rfl | (simp [errW_none, errW_some] <;> rfl) | (simp [*, errW_none, errW_some] <;> rfl), by repeat (first | (with_reducible first | exact HB.out | apply ba_ | apply bn_ | apply bd_) | exact HB.out)⟩
                  · rw [if_neg c16] at H
                    have c16b0 : (t941 == 1) = false := beq_eq_false_iff_ne.mpr c16
                    have c16b1 : (t941 != 1) = true := bne_iff_ne.mpr c16
                    obtain rfl := Option.some.inj H
                    go_wp2
                    repeat (go_quiet (fail); try go_wp2)
                    go_ret
                    exact ⟨by first | rfl | (simp [errW_none, errW_some] <;> rfl) | (simp [*, errW_none, errW_some] <;> rfl), by repeat (first | (with_reducible first | exact HB.out | apply ba_ | apply bn_ | apply bd_) | exact HB.out)⟩
                · rw [if_neg c15] at H
                  have c15b0 : (t937 == 1) = false := beq_eq_false_iff_ne.mpr c15
                  have c15b1 : (t937 != 1) = true := bne_iff_ne.mpr c15
                  obtain rfl := Option.some.inj H
                  go_wp2
                  repeat (go_quiet (fail); try go_wp2)
                  go_ret
                  exact ⟨by first | rfl | (simp [errW_none, errW_some] <;> rfl) | (simp [*, errW_none, errW_some] <;> rfl), by repeat (first | (with_reducible first | exact HB.out | apply ba_ | apply bn_ | apply bd_) | exact HB.out)⟩
              · replace c14 := Bool.eq_false_iff.mpr c14
                subst c14
                have H1 : ((view_Live.f kj9 t940 (wrap64 (Int.tmod (IntKind.u64.wrap (a1)) (IntKind.u64.wrap ((l0.length : Int)))))).bind fun bt945 => (L10_ViewLive.l0 kj9 l0 (wrap64 (Int.tmod (IntKind.u64.wrap (a1)) (IntKind.u64.wrap ((l0.length : Int))))) t936 bt945.1 bt945.2 false 0 0)) = some r := by rw [if_neg (show ¬ (false = true) by decide)] at H; exact H
                clear H
                have H := H1
                clear H1
                replace H := Option.bind_eq_some_iff.mp H
                obtain ⟨⟨t945, t946⟩, A190, H⟩ := H
                replace H : (L10_ViewLive.l0 kj9 l0 (wrap64 (Int.tmod (IntKind.u64.wrap (a1)) (IntKind.u64.wrap ((l0.length : Int))))) t936 t945 t946 false 0 0) = some r := H
                have A19 := Aside0.mk A190
                clear A190
                have H' := Aside0.mk H
                clear H
                obtain ⟨Ao20, co20, eo20⟩ := Kd.R_slice HO_7.out
                subst eo20
                go_wp2_with (first | (go_at_call 15; (with_reducible refine (view_Live.calls kj9 _ _ t940 (wrap64 (Int.tmod (IntKind.u64.wrap (a1)) (IntKind.u64.wrap ((l0.length : Int))))) t945 t946 _ ?side1 ?side2 A19.out).mono ?_); (case side1 => repeat (first | exact (Kd.R_reads' HO_7.out).2.2 | (with_reducible refine Kd.C_alloc ?_ _) | (with_reducible refine Kd.C_drewN ?_ _) | (with_reducible refine Kd.C_drew ?_))); (case side2 => exact (Kd.R_reads' HO_7.out).2.1); rintro e w21 ⟨v947, rfl, ho0, hb⟩; have n0_ := Aside0.mk (Kd.R_elder' (by (with_reducible repeat (first | apply ra_ | apply rn_ | apply rd_)); exact HO_5.out) (Kd.R_base ho0) hb); have n1_ := Aside0.mk (Kd.R_below (by (with_reducible repeat (first | apply ra_ | apply rn_ | apply rd_)); exact HO_7.out) hb); have n2_ := Aside0.mk (Kd.R_lower (Kd.R_new' ho0 (Kd.R_lt (by (with_reducible repeat (first | apply ra_ | apply rn_ | apply rd_)); exact HO_5.out))) (below_size (by repeat (first | (with_reducible first | exact HB.out | apply ba_ | apply bn_ | apply bd_) | exact HB.out)))); have n3_ := Aside0.mk (below_step (by repeat (first | (with_reducible first | exact HB.out | apply ba_ | apply bn_ | apply bd_) | exact HB.out)) hb); clear HO_5; clear HO_7; clear HB; have HO_5 := n0_; have HO_7 := n1_; have HO948 := n2_; have HB := n3_; clear n0_ n1_ n2_ n3_; (try clear hb); (try clear hb2); (try clear hk); (try clear hi); (try clear ho0)))
                repeat (go_quiet (first | (go_at_call 15; (with_reducible refine (view_Live.calls kj9 _ _ t940 (wrap64 (Int.tmod (IntKind.u64.wrap (a1)) (IntKind.u64.wrap ((l0.length : Int))))) t945 t946 _ ?side1 ?side2 A19.out).mono ?_); (case side1 => repeat (first | exact (Kd.R_reads' HO_7.out).2.2 | (with_reducible refine Kd.C_alloc ?_ _) | (with_reducible refine Kd.C_drewN ?_ _) | (with_reducible refine Kd.C_drew ?_))); (case side2 => exact (Kd.R_reads' HO_7.out).2.1); rintro e w21 ⟨v947, rfl, ho0, hb⟩; have n0_ := Aside0.mk (Kd.R_elder' (by (with_reducible repeat (first | apply ra_ | apply rn_ | apply rd_)); exact HO_5.out) (Kd.R_base ho0) hb); have n1_ := Aside0.mk (Kd.R_below (by (with_reducible repeat (first | apply ra_ | apply rn_ | apply rd_)); exact HO_7.out) hb); have n2_ := Aside0.mk (Kd.R_lower (Kd.R_new' ho0 (Kd.R_lt (by (with_reducible repeat (first | apply ra_ | apply rn_ | apply rd_)); exact HO_5.out))) (below_size (by repeat (first | (with_reducible first | exact HB.out | apply ba_ | apply bn_ | apply bd_) | exact HB.out)))); have n3_ := Aside0.mk (below_step (by repeat (first | (with_reducible first | exact HB.out | apply ba_ | apply bn_ | apply bd_) | exact HB.out)) hb); clear HO_5; clear HO_7; clear HB; have HO_5 := n0_; have HO_7 := n1_; have HO948 := n2_; have HB := n3_; clear n0_ n1_ n2_ n3_; (try clear hb); (try clear hb2); (try clear hk); (try clear hi); (try clear ho0))); try go_wp2_with (first | (go_at_call 15; (with_reducible refine (view_Live.calls kj9 _ _ t940 (wrap64 (Int.tmod (IntKind.u64.wrap (a1)) (IntKind.u64.wrap ((l0.length : Int))))) t945 t946 _ ?side1 ?side2 A19.out).mono ?_); (case side1 => repeat (first | exact (Kd.R_reads' HO_7.out).2.2 | (with_reducible refine Kd.C_alloc ?_ _) | (with_reducible refine Kd.C_drewN ?_ _) | (with_reducible refine Kd.C_drew ?_))); (case side2 => exact (Kd.R_reads' HO_7.out).2.1); rintro e w21 ⟨v947, rfl, ho0, hb⟩; have n0_ := Aside0.mk (Kd.R_elder' (by (with_reducible repeat (first | apply ra_ | apply rn_ | apply rd_)); exact HO_5.out) (Kd.R_base ho0) hb); have n1_ := Aside0.mk (Kd.R_below (by (with_reducible repeat (first | apply ra_ | apply rn_ | apply rd_)); exact HO_7.out) hb); have n2_ := Aside0.mk (Kd.R_lower (Kd.R_new' ho0 (Kd.R_lt (by (with_reducible repeat (first | apply ra_ | apply rn_ | apply rd_)); exact HO_5.out))) (below_size (by repeat (first | (with_reducible first | exact HB.out | apply ba_ | apply bn_ | apply bd_) | exact HB.out)))); have n3_ := Aside0.mk (below_step (by repeat (first | (with_reducible first | exact HB.out | apply ba_ | apply bn_ | apply bd_) | exact HB.out)) hb); clear HO_5; clear HO_7; clear HB; have HO_5 := n0_; have HO_7 := n1_; have HO948 := n2_; have HB := n3_; clear n0_ n1_ n2_ n3_; (try clear hb); (try clear hb2); (try clear hk); (try clear hi); (try clear ho0))))
                go_loopg [11, 12, 13] kj9 (fun kq v11 v12 v13 w' => ∃ (x11_3 : Bool) (x12_3 : Int) (x13_3 : Int), v11 = .bool x11_3 ∧ v12 = .int .i64 x12_3 ∧ v13 = .int .i64 x13_3 ∧ Aside0 (L10_ViewLive.l0 kq l0 (wrap64 (Int.tmod (IntKind.u64.wrap (a1)) (IntKind.u64.wrap ((l0.length : Int))))) t936 t945 t946 x11_3 x12_3 x13_3 = some r) ∧ Aside0 (kq ≤ kj9) ∧ Aside0 (Kd.R (Kd.int .i64) 3 w' w.heap.size (fun k_ => some k_ ≠ (v947 : Value).ownBlock) v938 t936) ∧ Aside0 (Kd.R (Kd.int .i64) 3 w' w.heap.size (fun k_ => some k_ ≠ (v938 : Value).ownBlock) v947 t945) ∧ Aside0 (Below w.heap.size w w'))
                case atStart => exact ⟨(false), (0), (0), (by first | rfl | (simp; done) | (simp [*]; done)), (by first | rfl | (simp; done) | (simp [*]; done)), (by first | rfl | (simp; done) | (simp [*]; done)), H', ⟨Nat.le_refl _⟩, ⟨by (with_reducible repeat (first | apply ra_ | apply rn_ | apply rd_)); exact Kd.R_mono HO_5.out (fun _ hk => hk.2)⟩, ⟨by (with_reducible repeat (first | apply ra_ | apply rn_ | apply rd_)); exact Kd.R_mono HO948.out (fun _ hk => hk.2)⟩, ⟨by repeat (first | (with_reducible first | exact HB.out | apply ba_ | apply bn_ | apply bd_) | exact HB.out)⟩⟩
                case round => as_aux_lemma =>
                  clear H'
                  (try clear c1); (try clear p2); (try clear c5); (try clear c6); (try clear p6); (try clear c7); (try clear c7b0); (try clear c7b1); (try clear c13); (try clear c13b0); (try clear c13b1); (try clear c14); (try clear c15); (try clear c15b0); (try clear c15b1); (try clear c16); (try clear c16b0); (try clear c16b1); (try clear p2); (try clear p6)
                  obtain ⟨x11_3, x12_3, x13_3, rfl, rfl, rfl, HA, HK3, HO_5, HO_9, HB⟩ := hrel
                  cases gk with
                  | zero => exact absurd HA.out (by simp [L10_ViewLive.l0])
                  | succ k3 =>
                    have H := HA.out
                    clear HA
                    simp only [L10_ViewLive.l0] at H
                    by_cases c22 : x13_3 < (t936.length : Int)
                    · rw [if_pos c22] at H
                      have c22b0 : decide (x13_3 < (t936.length : Int)) = true := decide_eq_true c22
                      clear c22
                      have HC23 := Aside0.mk H
                      clear H
                      obtain ⟨Ao24, co24, eo24⟩ := Kd.R_slice HO_5.out
                      subst eo24
                      go_upto_region 14 with (fail)
                      repeat (go_quiet (fail); go_upto_region 14 with (fail))
                      go_cut [114] (fun v114 wc => ∃ (kq : Nat) (x114_22 : Bool), v114 = .bool x114_22 ∧ Aside0 (L10_ViewLive.j3 kq l0 (wrap64 (Int.tmod (IntKind.u64.wrap (a1)) (IntKind.u64.wrap ((l0.length : Int))))) t936 t945 t946 x11_3 x12_3 x13_3 x114_22 = some r) ∧ Aside0 (kq ≤ k3) ∧ Aside0 (Kd.R (Kd.int .i64) 3 wc w.heap.size (fun k_ => some k_ ≠ (v947 : Value).ownBlock) (.slice Ao24 t936.length co24) t936) ∧ Aside0 (Kd.R (Kd.int .i64) 3 wc w.heap.size (fun k_ => some k_ ≠ ((.slice Ao24 t936.length co24) : Value).ownBlock) v947 t945) ∧ Aside0 (Below w.heap.size w wc))
                      case first =>
                        have H := HC23.out
                        clear HC23
                        by_cases c25 : 0 ≤ x13_3
                        · rw [if_pos c25] at H
                          have c25b0 : decide (0 ≤ x13_3) = true := decide_eq_true c25
                          clear c25
                          (first | rw [c25b0] | (simp only [i64_w, i32_w]; rw [c25b0]) | skip)
                          by_cases c26 : (rd t936 x13_3) < 0
                          · rw [if_pos c26] at H
                            have c26b0 : decide ((rd t936 x13_3) < 0) = true := decide_eq_true c26
                            clear c26
                            have H' := Aside0.mk H
                            clear H
                            have p950 : 0 ≤ (x13_3 : Int) := of_decide_eq_true (by first | (with_reducible assumption) | assumption)
                            have q950 : x13_3 < (t936.length : Int) := of_decide_eq_true (by first | (with_reducible assumption) | assumption)
                            obtain ⟨ad950, e950, hx950_0⟩ := Kd.at_int (Kd.R_reads' HO_5.out).2.2 x13_3 p950 q950
                            cases e950
                            replace p950 := eq_true p950
                            replace q950 := eq_true q950
                            go_wp2
                            repeat (go_quiet (fail); try go_wp2)
                            go_meet
                            case rel => exact ⟨_, (true), (by first | rfl | (simp; done) | (simp [*]; done)), H', ⟨by have := HJ2.out; have := HJ9.out; have := HK3.out; first | omega | exact Nat.le_refl _⟩, ⟨by (with_reducible repeat (first | apply ra_ | apply rn_ | apply rd_)); exact HO_5.out⟩, ⟨by (with_reducible repeat (first | apply ra_ | apply rn_ | apply rd_)); exact HO_9.out⟩, ⟨by repeat (first | (with_reducible first | exact HB.out | apply ba_ | apply bn_ | apply bd_) | exact HB.out)⟩⟩
                          · rw [if_neg c26] at H
                            have c26b0 : decide ((rd t936 x13_3) < 0) = false := decide_eq_false c26
                            clear c26
                            by_cases c27 : (rd t936 x13_3) ≥ (l0.length : Int)
                            · rw [if_pos c27] at H
                              have c27b0 : decide ((l0.length : Int) ≤ (rd t936 x13_3)) = true := decide_eq_true c27
                              clear c27
                              have H' := Aside0.mk H
                              clear H
                              have p950 : 0 ≤ (x13_3 : Int) := of_decide_eq_true (by first | (with_reducible assumption) | assumption)
                              have q950 : x13_3 < (t936.length : Int) := of_decide_eq_true (by first | (with_reducible assumption) | assumption)
                              obtain ⟨ad950, e950, hx950_0⟩ := Kd.at_int (Kd.R_reads' HO_5.out).2.2 x13_3 p950 q950
                              cases e950
                              replace p950 := eq_true p950
                              replace q950 := eq_true q950
                              have p951 : 0 ≤ (x13_3 : Int) := of_decide_eq_true (by first | (with_reducible assumption) | assumption)
                              have q951 : x13_3 < (t936.length : Int) := of_decide_eq_true (by first | (with_reducible assumption) | assumption)
                              obtain ⟨ad951, e951, hx951_0⟩ := Kd.at_int (Kd.R_reads' HO_5.out).2.2 x13_3 p951 q951
                              obtain rfl : ad950 = ad951 := (by injection e951)
                              replace p951 := eq_true p951
                              replace q951 := eq_true q951
                              go_wp2
                              repeat (go_quiet (fail); try go_wp2)
                              go_meet
                              case rel => exact ⟨_, (true), (by first | rfl | (simp; done) | (simp [*]; done)), H', ⟨by have := HJ2.out; have := HJ9.out; have := HK3.out; first | omega | exact Nat.le_refl _⟩, ⟨by (with_reducible repeat (first | apply ra_ | apply rn_ | apply rd_)); exact HO_5.out⟩, ⟨by (with_reducible repeat (first | apply ra_ | apply rn_ | apply rd_)); exact HO_9.out⟩, ⟨by repeat (first | (with_reducible first | exact HB.out | apply ba_ | apply bn_ | apply bd_) | exact HB.out)⟩⟩
                            · rw [if_neg c27] at H
                              have c27b0 : decide ((l0.length : Int) ≤ (rd t936 x13_3)) = false := decide_eq_false c27
                              clear c27
                              by_cases c28 : x13_3 > 0
                              · rw [if_pos c28] at H
                                have c28b0 : decide (0 < x13_3) = true := decide_eq_true c28
                                clear c28
                                obtain ⟨ji29, hji29⟩ : ∃ j_ : Int, (wrap64 (x13_3 - 1)) = j_ := ⟨_, rfl⟩
                                replace H : (if 0 ≤ (ji29) then (if (ji29) < (t936.length : Int) then (if (rd t936 x13_3) ≤ (rd t936 (ji29)) then (L10_ViewLive.j3 k3 l0 (wrap64 (Int.tmod (IntKind.u64.wrap (a1)) (IntKind.u64.wrap ((l0.length : Int))))) t936 t945 t946 x11_3 x12_3 x13_3 true) else (if (rd t936 x13_3) = (wrap64 (Int.tmod (IntKind.u64.wrap (a1)) (IntKind.u64.wrap ((l0.length : Int))))) then (L10_ViewLive.j3 k3 l0 (wrap64 (Int.tmod (IntKind.u64.wrap (a1)) (IntKind.u64.wrap ((l0.length : Int))))) t936 t945 t946 x11_3 x12_3 x13_3 false) else (if 0 ≤ (rd t936 x13_3) then (if (rd t936 x13_3) < (l0.length : Int) then (L10_ViewLive.j3 k3 l0 (wrap64 (Int.tmod (IntKind.u64.wrap (a1)) (IntKind.u64.wrap ((l0.length : Int))))) t936 t945 t946 x11_3 x12_3 x13_3 (((rd_T42 l0 (rd t936 x13_3)).f0) == 0)) else (none)) else (none)))) else (none)) else (none)) = some r := by first | (rw [hji29] at H; exact H) | (simp only [hji29] at H ⊢; exact H)
                                have hji29w : (IntKind.i64.wrap (x13_3 - 1)) = ji29 := (i64_w _).trans hji29
                                by_cases c30 : 0 ≤ (ji29)
                                · rw [if_pos c30] at H
                                  have c30b0 : decide (0 ≤ (ji29)) = true := decide_eq_true c30
                                  clear c30
                                  by_cases c31 : (ji29) < (t936.length : Int)
                                  · rw [if_pos c31] at H
                                    have c31b0 : decide ((ji29) < (t936.length : Int)) = true := decide_eq_true c31
                                    clear c31
                                    by_cases c32 : (rd t936 x13_3) ≤ (rd t936 (ji29))
                                    · rw [if_pos c32] at H
                                      have c32b0 : decide ((rd t936 x13_3) ≤ (rd t936 (ji29))) = true := decide_eq_true c32
                                      clear c32
                                      have H' := Aside0.mk H
                                      clear H
                                      have p950 : 0 ≤ (x13_3 : Int) := of_decide_eq_true (by first | (with_reducible assumption) | assumption)
                                      have q950 : x13_3 < (t936.length : Int) := of_decide_eq_true (by first | (with_reducible assumption) | assumption)
                                      obtain ⟨ad950, e950, hx950_0⟩ := Kd.at_int (Kd.R_reads' HO_5.out).2.2 x13_3 p950 q950
                                      cases e950
                                      replace p950 := eq_true p950
                                      replace q950 := eq_true q950
                                      have p951 : 0 ≤ (x13_3 : Int) := of_decide_eq_true (by first | (with_reducible assumption) | assumption)
                                      have q951 : x13_3 < (t936.length : Int) := of_decide_eq_true (by first | (with_reducible assumption) | assumption)
                                      obtain ⟨ad951, e951, hx951_0⟩ := Kd.at_int (Kd.R_reads' HO_5.out).2.2 x13_3 p951 q951
                                      obtain rfl : ad950 = ad951 := (by injection e951)
                                      replace p951 := eq_true p951
                                      replace q951 := eq_true q951
                                      have p952 : 0 ≤ (x13_3 : Int) := of_decide_eq_true (by first | (with_reducible assumption) | assumption)
                                      have q952 : x13_3 < (t936.length : Int) := of_decide_eq_true (by first | (with_reducible assumption) | assumption)
                                      obtain ⟨ad952, e952, hx952_0⟩ := Kd.at_int (Kd.R_reads' HO_5.out).2.2 x13_3 p952 q952
                                      obtain rfl : ad950 = ad952 := (by injection e952)
                                      replace p952 := eq_true p952
                                      replace q952 := eq_true q952
                                      have p953 : 0 ≤ ((ji29) : Int) := of_decide_eq_true (by first | (with_reducible assumption) | assumption)
                                      have q953 : (ji29) < (t936.length : Int) := of_decide_eq_true (by first | (with_reducible assumption) | assumption)
                                      obtain ⟨ad953, e953, hx953_0⟩ := Kd.at_int (Kd.R_reads' HO_5.out).2.2 (ji29) p953 q953
                                      obtain rfl : ad950 = ad953 := (by injection e953)
                                      replace p953 := eq_true p953
                                      replace q953 := eq_true q953
                                      go_wp2
                                      repeat (go_quiet (fail); try go_wp2)
                                      go_meet
                                      case rel => exact ⟨_, (true), (by first | rfl | (simp; done) | (simp [*]; done)), H', ⟨by have := HJ2.out; have := HJ9.out; have := HK3.out; first | omega | exact Nat.le_refl _⟩, ⟨by (with_reducible repeat (first | apply ra_ | apply rn_ | apply rd_)); exact HO_5.out⟩, ⟨by (with_reducible repeat (first | apply ra_ | apply rn_ | apply rd_)); exact HO_9.out⟩, ⟨by repeat (first | (with_reducible first | exact HB.out | apply ba_ | apply bn_ | apply bd_) | exact HB.out)⟩⟩
                                    · rw [if_neg c32] at H
                                      have c32b0 : decide ((rd t936 x13_3) ≤ (rd t936 (ji29))) = false := decide_eq_false c32
                                      clear c32
                                      by_cases c33 : (rd t936 x13_3) = (wrap64 (Int.tmod (IntKind.u64.wrap (a1)) (IntKind.u64.wrap ((l0.length : Int)))))
                                      · rw [if_pos c33] at H
                                        have c33b0 : ((rd t936 x13_3) == (wrap64 (Int.tmod (IntKind.u64.wrap (a1)) (IntKind.u64.wrap ((l0.length : Int)))))) = true := beq_iff_eq.mpr c33
                                        have c33b1 : ((rd t936 x13_3) != (wrap64 (Int.tmod (IntKind.u64.wrap (a1)) (IntKind.u64.wrap ((l0.length : Int)))))) = false := bne_eq_false_iff_eq.mpr c33
                                        clear c33
                                        have H' := Aside0.mk H
                                        clear H
                                        have p950 : 0 ≤ (x13_3 : Int) := of_decide_eq_true (by first | (with_reducible assumption) | assumption)
                                        have q950 : x13_3 < (t936.length : Int) := of_decide_eq_true (by first | (with_reducible assumption) | assumption)
                                        obtain ⟨ad950, e950, hx950_0⟩ := Kd.at_int (Kd.R_reads' HO_5.out).2.2 x13_3 p950 q950
                                        cases e950
                                        replace p950 := eq_true p950
                                        replace q950 := eq_true q950
                                        have p951 : 0 ≤ (x13_3 : Int) := of_decide_eq_true (by first | (with_reducible assumption) | assumption)
                                        have q951 : x13_3 < (t936.length : Int) := of_decide_eq_true (by first | (with_reducible assumption) | assumption)
                                        obtain ⟨ad951, e951, hx951_0⟩ := Kd.at_int (Kd.R_reads' HO_5.out).2.2 x13_3 p951 q951
                                        obtain rfl : ad950 = ad951 := (by injection e951)
                                        replace p951 := eq_true p951
                                        replace q951 := eq_true q951
                                        have p952 : 0 ≤ (x13_3 : Int) := of_decide_eq_true (by first | (with_reducible assumption) | assumption)
                                        have q952 : x13_3 < (t936.length : Int) := of_decide_eq_true (by first | (with_reducible assumption) | assumption)
                                        obtain ⟨ad952, e952, hx952_0⟩ := Kd.at_int (Kd.R_reads' HO_5.out).2.2 x13_3 p952 q952
                                        obtain rfl : ad950 = ad952 := (by injection e952)
                                        replace p952 := eq_true p952
                                        replace q952 := eq_true q952
                                        have p953 : 0 ≤ ((ji29) : Int) := of_decide_eq_true (by first | (with_reducible assumption) | assumption)
                                        have q953 : (ji29) < (t936.length : Int) := of_decide_eq_true (by first | (with_reducible assumption) | assumption)
                                        obtain ⟨ad953, e953, hx953_0⟩ := Kd.at_int (Kd.R_reads' HO_5.out).2.2 (ji29) p953 q953
                                        obtain rfl : ad950 = ad953 := (by injection e953)
                                        replace p953 := eq_true p953
                                        replace q953 := eq_true q953
                                        have p954 : 0 ≤ (x13_3 : Int) := of_decide_eq_true (by first | (with_reducible assumption) | assumption)
                                        have q954 : x13_3 < (t936.length : Int) := of_decide_eq_true (by first | (with_reducible assumption) | assumption)
                                        obtain ⟨ad954, e954, hx954_0⟩ := Kd.at_int (Kd.R_reads' HO_5.out).2.2 x13_3 p954 q954
                                        obtain rfl : ad950 = ad954 := (by injection e954)
                                        replace p954 := eq_true p954
                                        replace q954 := eq_true q954
                                        go_wp2
                                        repeat (go_quiet (fail); try go_wp2)
                                        go_meet
                                        case rel => exact ⟨_, (false), (by first | rfl | (simp; done) | (simp [*]; done)), H', ⟨by have := HJ2.out; have := HJ9.out; have := HK3.out; first | omega | exact Nat.le_refl _⟩, ⟨by (with_reducible repeat (first | apply ra_ | apply rn_ | apply rd_)); exact HO_5.out⟩, ⟨by (with_reducible repeat (first | apply ra_ | apply rn_ | apply rd_)); exact HO_9.out⟩, ⟨by repeat (first | (with_reducible first | exact HB.out | apply ba_ | apply bn_ | apply bd_) | exact HB.out)⟩⟩
                                      · rw [if_neg c33] at H
                                        have c33b0 : ((rd t936 x13_3) == (wrap64 (Int.tmod (IntKind.u64.wrap (a1)) (IntKind.u64.wrap ((l0.length : Int)))))) = false := beq_eq_false_iff_ne.mpr c33
                                        have c33b1 : ((rd t936 x13_3) != (wrap64 (Int.tmod (IntKind.u64.wrap (a1)) (IntKind.u64.wrap ((l0.length : Int)))))) = true := bne_iff_ne.mpr c33
                                        by_cases c34 : 0 ≤ (rd t936 x13_3)
                                        · rw [if_pos c34] at H
                                          have c34b0 : decide (0 ≤ (rd t936 x13_3)) = true := decide_eq_true c34
                                          clear c34
                                          by_cases c35 : (rd t936 x13_3) < (l0.length : Int)
                                          · rw [if_pos c35] at H
                                            have c35b0 : decide ((rd t936 x13_3) < (l0.length : Int)) = true := decide_eq_true c35
                                            clear c35
                                            have H' := Aside0.mk H
                                            clear H
                                            have p950 : 0 ≤ (x13_3 : Int) := of_decide_eq_true (by first | (with_reducible assumption) | assumption)
                                            have q950 : x13_3 < (t936.length : Int) := of_decide_eq_true (by first | (with_reducible assumption) | assumption)
                                            obtain ⟨ad950, e950, hx950_0⟩ := Kd.at_int (Kd.R_reads' HO_5.out).2.2 x13_3 p950 q950
                                            cases e950
                                            replace p950 := eq_true p950
                                            replace q950 := eq_true q950
                                            have p951 : 0 ≤ (x13_3 : Int) := of_decide_eq_true (by first | (with_reducible assumption) | assumption)
                                            have q951 : x13_3 < (t936.length : Int) := of_decide_eq_true (by first | (with_reducible assumption) | assumption)
                                            obtain ⟨ad951, e951, hx951_0⟩ := Kd.at_int (Kd.R_reads' HO_5.out).2.2 x13_3 p951 q951
                                            obtain rfl : ad950 = ad951 := (by injection e951)
                                            replace p951 := eq_true p951
                                            replace q951 := eq_true q951
                                            have p952 : 0 ≤ (x13_3 : Int) := of_decide_eq_true (by first | (with_reducible assumption) | assumption)
                                            have q952 : x13_3 < (t936.length : Int) := of_decide_eq_true (by first | (with_reducible assumption) | assumption)
                                            obtain ⟨ad952, e952, hx952_0⟩ := Kd.at_int (Kd.R_reads' HO_5.out).2.2 x13_3 p952 q952
                                            obtain rfl : ad950 = ad952 := (by injection e952)
                                            replace p952 := eq_true p952
                                            replace q952 := eq_true q952
                                            have p953 : 0 ≤ ((ji29) : Int) := of_decide_eq_true (by first | (with_reducible assumption) | assumption)
                                            have q953 : (ji29) < (t936.length : Int) := of_decide_eq_true (by first | (with_reducible assumption) | assumption)
                                            obtain ⟨ad953, e953, hx953_0⟩ := Kd.at_int (Kd.R_reads' HO_5.out).2.2 (ji29) p953 q953
                                            obtain rfl : ad950 = ad953 := (by injection e953)
                                            replace p953 := eq_true p953
                                            replace q953 := eq_true q953
                                            have p954 : 0 ≤ (x13_3 : Int) := of_decide_eq_true (by first | (with_reducible assumption) | assumption)
                                            have q954 : x13_3 < (t936.length : Int) := of_decide_eq_true (by first | (with_reducible assumption) | assumption)
                                            obtain ⟨ad954, e954, hx954_0⟩ := Kd.at_int (Kd.R_reads' HO_5.out).2.2 x13_3 p954 q954
                                            obtain rfl : ad950 = ad954 := (by injection e954)
                                            replace p954 := eq_true p954
                                            replace q954 := eq_true q954
                                            have p955 : 0 ≤ (x13_3 : Int) := of_decide_eq_true (by first | (with_reducible assumption) | assumption)
                                            have q955 : x13_3 < (t936.length : Int) := of_decide_eq_true (by first | (with_reducible assumption) | assumption)
                                            obtain ⟨ad955, e955, hx955_0⟩ := Kd.at_int (Kd.R_reads' HO_5.out).2.2 x13_3 p955 q955
                                            obtain rfl : ad950 = ad955 := (by injection e955)
                                            replace p955 := eq_true p955
                                            replace q955 := eq_true q955
                                            have p956 : 0 ≤ ((rd t936 x13_3) : Int) := of_decide_eq_true (by first | (with_reducible assumption) | assumption)
                                            have q956 : (rd t936 x13_3) < (l0.length : Int) := of_decide_eq_true (by first | (with_reducible assumption) | assumption)
                                            obtain ⟨ad956, e956, hx956_0, hx956_1⟩ := at_T42 HR0.out (rd t936 x13_3) p956 q956
                                            cases e956
                                            replace hx956_0 := (HB.out.cell (World.block_lt_of_cell? w _ hx956_0)).trans hx956_0
                                            replace hx956_1 := (HB.out.cell (World.block_lt_of_cell? w _ hx956_1)).trans hx956_1
                                            replace p956 := eq_true p956
                                            replace q956 := eq_true q956
                                            go_wp2
                                            repeat (go_quiet (fail); try go_wp2)
                                            go_meet
                                            case rel => exact ⟨_, ((((rd_T42 l0 (rd t936 x13_3)).f0) == 0)), (by first | rfl | (simp; done) | (simp [*]; done)), H', ⟨by have := HJ2.out; have := HJ9.out; have := HK3.out; first | omega | exact Nat.le_refl _⟩, ⟨by (with_reducible repeat (first | apply ra_ | apply rn_ | apply rd_)); exact HO_5.out⟩, ⟨by (with_reducible repeat (first | apply ra_ | apply rn_ | apply rd_)); exact HO_9.out⟩, ⟨by repeat (first | (with_reducible first | exact HB.out | apply ba_ | apply bn_ | apply bd_) | exact HB.out)⟩⟩
                                          · rw [if_neg c35] at H
                                            exact absurd H (by simp)
                                        · rw [if_neg c34] at H
                                          exact absurd H (by simp)
                                  · rw [if_neg c31] at H
                                    exact absurd H (by simp)
                                · rw [if_neg c30] at H
                                  exact absurd H (by simp)
                              · rw [if_neg c28] at H
                                have c28b0 : decide (0 < x13_3) = false := decide_eq_false c28
                                clear c28
                                by_cases c36 : (rd t936 x13_3) = (wrap64 (Int.tmod (IntKind.u64.wrap (a1)) (IntKind.u64.wrap ((l0.length : Int)))))
                                · rw [if_pos c36] at H
                                  have c36b0 : ((rd t936 x13_3) == (wrap64 (Int.tmod (IntKind.u64.wrap (a1)) (IntKind.u64.wrap ((l0.length : Int)))))) = true := beq_iff_eq.mpr c36
                                  have c36b1 : ((rd t936 x13_3) != (wrap64 (Int.tmod (IntKind.u64.wrap (a1)) (IntKind.u64.wrap ((l0.length : Int)))))) = false := bne_eq_false_iff_eq.mpr c36
                                  clear c36
                                  have H' := Aside0.mk H
                                  clear H
                                  have p950 : 0 ≤ (x13_3 : Int) := of_decide_eq_true (by first | (with_reducible assumption) | assumption)
                                  have q950 : x13_3 < (t936.length : Int) := of_decide_eq_true (by first | (with_reducible assumption) | assumption)
                                  obtain ⟨ad950, e950, hx950_0⟩ := Kd.at_int (Kd.R_reads' HO_5.out).2.2 x13_3 p950 q950
                                  cases e950
                                  replace p950 := eq_true p950
                                  replace q950 := eq_true q950
                                  have p951 : 0 ≤ (x13_3 : Int) := of_decide_eq_true (by first | (with_reducible assumption) | assumption)
                                  have q951 : x13_3 < (t936.length : Int) := of_decide_eq_true (by first | (with_reducible assumption) | assumption)
                                  obtain ⟨ad951, e951, hx951_0⟩ := Kd.at_int (Kd.R_reads' HO_5.out).2.2 x13_3 p951 q951
                                  obtain rfl : ad950 = ad951 := (by injection e951)
                                  replace p951 := eq_true p951
                                  replace q951 := eq_true q951
                                  have p957 : 0 ≤ (x13_3 : Int) := of_decide_eq_true (by first | (with_reducible assumption) | assumption)
                                  have q957 : x13_3 < (t936.length : Int) := of_decide_eq_true (by first | (with_reducible assumption) | assumption)
                                  obtain ⟨ad957, e957, hx957_0⟩ := Kd.at_int (Kd.R_reads' HO_5.out).2.2 x13_3 p957 q957
                                  obtain rfl : ad950 = ad957 := (by injection e957)
                                  replace p957 := eq_true p957
                                  replace q957 := eq_true q957
                                  go_wp2
                                  repeat (go_quiet (fail); try go_wp2)
                                  go_meet
                                  case rel => exact ⟨_, (false), (by first | rfl | (simp; done) | (simp [*]; done)), H', ⟨by have := HJ2.out; have := HJ9.out; have := HK3.out; first | omega | exact Nat.le_refl _⟩, ⟨by (with_reducible repeat (first | apply ra_ | apply rn_ | apply rd_)); exact HO_5.out⟩, ⟨by (with_reducible repeat (first | apply ra_ | apply rn_ | apply rd_)); exact HO_9.out⟩, ⟨by repeat (first | (with_reducible first | exact HB.out | apply ba_ | apply bn_ | apply bd_) | exact HB.out)⟩⟩
                                · rw [if_neg c36] at H
                                  have c36b0 : ((rd t936 x13_3) == (wrap64 (Int.tmod (IntKind.u64.wrap (a1)) (IntKind.u64.wrap ((l0.length : Int)))))) = false := beq_eq_false_iff_ne.mpr c36
                                  have c36b1 : ((rd t936 x13_3) != (wrap64 (Int.tmod (IntKind.u64.wrap (a1)) (IntKind.u64.wrap ((l0.length : Int)))))) = true := bne_iff_ne.mpr c36
                                  by_cases c37 : 0 ≤ (rd t936 x13_3)
                                  · rw [if_pos c37] at H
                                    have c37b0 : decide (0 ≤ (rd t936 x13_3)) = true := decide_eq_true c37
                                    clear c37
                                    by_cases c38 : (rd t936 x13_3) < (l0.length : Int)
                                    · rw [if_pos c38] at H
                                      have c38b0 : decide ((rd t936 x13_3) < (l0.length : Int)) = true := decide_eq_true c38
                                      clear c38
                                      have H' := Aside0.mk H
                                      clear H
                                      have p950 : 0 ≤ (x13_3 : Int) := of_decide_eq_true (by first | (with_reducible assumption) | assumption)
                                      have q950 : x13_3 < (t936.length : Int) := of_decide_eq_true (by first | (with_reducible assumption) | assumption)
                                      obtain ⟨ad950, e950, hx950_0⟩ := Kd.at_int (Kd.R_reads' HO_5.out).2.2 x13_3 p950 q950
                                      cases e950
                                      replace p950 := eq_true p950
                                      replace q950 := eq_true q950
                                      have p951 : 0 ≤ (x13_3 : Int) := of_decide_eq_true (by first | (with_reducible assumption) | assumption)
                                      have q951 : x13_3 < (t936.length : Int) := of_decide_eq_true (by first | (with_reducible assumption) | assumption)
                                      obtain ⟨ad951, e951, hx951_0⟩ := Kd.at_int (Kd.R_reads' HO_5.out).2.2 x13_3 p951 q951
                                      obtain rfl : ad950 = ad951 := (by injection e951)
                                      replace p951 := eq_true p951
                                      replace q951 := eq_true q951
                                      have p957 : 0 ≤ (x13_3 : Int) := of_decide_eq_true (by first | (with_reducible assumption) | assumption)
                                      have q957 : x13_3 < (t936.length : Int) := of_decide_eq_true (by first | (with_reducible assumption) | assumption)
                                      obtain ⟨ad957, e957, hx957_0⟩ := Kd.at_int (Kd.R_reads' HO_5.out).2.2 x13_3 p957 q957
                                      obtain rfl : ad950 = ad957 := (by injection e957)
                                      replace p957 := eq_true p957
                                      replace q957 := eq_true q957
                                      have p958 : 0 ≤ (x13_3 : Int) := of_decide_eq_true (by first | (with_reducible assumption) | assumption)
                                      have q958 : x13_3 < (t936.length : Int) := of_decide_eq_true (by first | (with_reducible assumption) | assumption)
                                      obtain ⟨ad958, e958, hx958_0⟩ := Kd.at_int (Kd.R_reads' HO_5.out).2.2 x13_3 p958 q958
                                      obtain rfl : ad950 = ad958 := (by injection e958)
                                      replace p958 := eq_true p958
                                      replace q958 := eq_true q958
                                      have p959 : 0 ≤ ((rd t936 x13_3) : Int) := of_decide_eq_true (by first | (with_reducible assumption) | assumption)
                                      have q959 : (rd t936 x13_3) < (l0.length : Int) := of_decide_eq_true (by first | (with_reducible assumption) | assumption)
                                      obtain ⟨ad959, e959, hx959_0, hx959_1⟩ := at_T42 HR0.out (rd t936 x13_3) p959 q959
                                      cases e959
                                      replace hx959_0 := (HB.out.cell (World.block_lt_of_cell? w _ hx959_0)).trans hx959_0
                                      replace hx959_1 := (HB.out.cell (World.block_lt_of_cell? w _ hx959_1)).trans hx959_1
                                      replace p959 := eq_true p959
                                      replace q959 := eq_true q959
                                      go_wp2
                                      repeat (go_quiet (fail); try go_wp2)
                                      go_meet
                                      case rel => exact ⟨_, ((((rd_T42 l0 (rd t936 x13_3)).f0) == 0)), (by first | rfl | (simp; done) | (simp [*]; done)), H', ⟨by have := HJ2.out; have := HJ9.out; have := HK3.out; first | omega | exact Nat.le_refl _⟩, ⟨by (with_reducible repeat (first | apply ra_ | apply rn_ | apply rd_)); exact HO_5.out⟩, ⟨by (with_reducible repeat (first | apply ra_ | apply rn_ | apply rd_)); exact HO_9.out⟩, ⟨by repeat (first | (with_reducible first | exact HB.out | apply ba_ | apply bn_ | apply bd_) | exact HB.out)⟩⟩
                                    · rw [if_neg c38] at H
                                      exact absurd H (by simp)
                                  · rw [if_neg c37] at H
                                    exact absurd H (by simp)
                        · rw [if_neg c25] at H
                          exact absurd H (by simp)
                      case rest => as_aux_lemma =>
                        clear HC23
                        (try clear c1); (try clear c2); (try clear p2); (try clear c3); (try clear c5); (try clear c6); (try clear p6); (try clear c7); (try clear c7b0); (try clear c7b1); (try clear p9); (try clear q9); (try clear hx9); (try clear c13); (try clear c13b0); (try clear c13b1); (try clear c14); (try clear c15); (try clear c15b0); (try clear c15b1); (try clear c16); (try clear c16b0); (try clear c16b1); (try clear c22); (try clear c22b0); (try clear c25); (try clear c25b0); (try clear c26); (try clear c26b0); (try clear c27); (try clear c27b0); (try clear c28); (try clear c28b0); (try clear c30); (try clear c30b0); (try clear c31); (try clear c31b0); (try clear c32); (try clear c32b0); (try clear c33); (try clear c33b0); (try clear c33b1); (try clear c34); (try clear c34b0); (try clear c35); (try clear c35b0); (try clear c36); (try clear c36b0); (try clear c36b1); (try clear c37); (try clear c37b0); (try clear c38); (try clear c38b0); (try clear hx950_0); (try clear hx951_0); (try clear hx952_0); (try clear hx953_0); (try clear hx954_0); (try clear hx955_0); (try clear hx956_0); (try clear hx956_1); (try clear hx957_0); (try clear hx958_0); (try clear hx959_0); (try clear hx959_1); (try clear p2); (try clear p6); (try clear p950); (try clear p951); (try clear p952); (try clear p953); (try clear p954); (try clear p955); (try clear p956); (try clear p957); (try clear p958); (try clear p959); (try clear q950); (try clear q951); (try clear q952); (try clear q953); (try clear q954); (try clear q955); (try clear q956); (try clear q957); (try clear q958); (try clear q959)
                        obtain ⟨kq, x114_22, rfl, HA, HJ22, HO_5, HO_9, HB⟩ := hcut
                        cases kq with
                        | zero => exact absurd HA.out (by simp [L10_ViewLive.j3])
                        | succ kj22 =>
                          have H := HA.out
                          clear HA
                          simp only [L10_ViewLive.j3] at H
                          by_cases c39 : x114_22 = true
                          · subst c39
                            have H1 : (some false) = some r := by rw [if_pos rfl] at H; exact H
                            clear H
                            have H := H1
                            clear H1
                            obtain rfl := Option.some.inj H
                            go_wp2
                            repeat (go_quiet (fail); try go_wp2)
                            go_ret
                            exact ⟨by first | rfl | (simp [errW_none, errW_some] <;> rfl) | (simp [*, errW_none, errW_some] <;> rfl), by repeat (first | (with_reducible first | exact HB.out | apply ba_ | apply bn_ | apply bd_) | exact HB.out)⟩
                          · replace c39 := Bool.eq_false_iff.mpr c39
                            subst c39
                            have H1 : (if x11_3 = true then (if x12_3 < (t945.length : Int) then (if 0 ≤ x12_3 then (if 0 ≤ x13_3 then (if x13_3 < (t936.length : Int) then (if (rd t945 x12_3) = (rd t936 x13_3) then (L10_ViewLive.l0 kj22 l0 (wrap64 (Int.tmod (IntKind.u64.wrap (a1)) (IntKind.u64.wrap ((l0.length : Int))))) t936 t945 t946 true (wrap64 (x12_3 + 1)) (wrap64 (x13_3 + 1))) else (L10_ViewLive.l0 kj22 l0 (wrap64 (Int.tmod (IntKind.u64.wrap (a1)) (IntKind.u64.wrap ((l0.length : Int))))) t936 t945 t946 true x12_3 (wrap64 (x13_3 + 1)))) else (none)) else (none)) else (none)) else (L10_ViewLive.l0 kj22 l0 (wrap64 (Int.tmod (IntKind.u64.wrap (a1)) (IntKind.u64.wrap ((l0.length : Int))))) t936 t945 t946 true x12_3 (wrap64 (x13_3 + 1)))) else (if 0 ≤ x13_3 then (if x13_3 < (t936.length : Int) then (if x12_3 < (t945.length : Int) then (if 0 ≤ x12_3 then (if (rd t945 x12_3) = (rd t936 x13_3) then (L10_ViewLive.l0 kj22 l0 (wrap64 (Int.tmod (IntKind.u64.wrap (a1)) (IntKind.u64.wrap ((l0.length : Int))))) t936 t945 t946 ((rd t936 x13_3) == (wrap64 (Int.tmod (IntKind.u64.wrap (a1)) (IntKind.u64.wrap ((l0.length : Int)))))) (wrap64 (x12_3 + 1)) (wrap64 (x13_3 + 1))) else (L10_ViewLive.l0 kj22 l0 (wrap64 (Int.tmod (IntKind.u64.wrap (a1)) (IntKind.u64.wrap ((l0.length : Int))))) t936 t945 t946 ((rd t936 x13_3) == (wrap64 (Int.tmod (IntKind.u64.wrap (a1)) (IntKind.u64.wrap ((l0.length : Int)))))) x12_3 (wrap64 (x13_3 + 1)))) else (none)) else (L10_ViewLive.l0 kj22 l0 (wrap64 (Int.tmod (IntKind.u64.wrap (a1)) (IntKind.u64.wrap ((l0.length : Int))))) t936 t945 t946 ((rd t936 x13_3) == (wrap64 (Int.tmod (IntKind.u64.wrap (a1)) (IntKind.u64.wrap ((l0.length : Int)))))) x12_3 (wrap64 (x13_3 + 1)))) else (none)) else (none))) = some r := by rw [if_neg (show ¬ (false = true) by decide)] at H; exact H
                            clear H
                            have H := H1
                            clear H1
                            by_cases c40 : x11_3 = true
                            · subst c40
                              have H1 : (if x12_3 < (t945.length : Int) then (if 0 ≤ x12_3 then (if 0 ≤ x13_3 then (if x13_3 < (t936.length : Int) then (if (rd t945 x12_3) = (rd t936 x13_3) then (L10_ViewLive.l0 kj22 l0 (wrap64 (Int.tmod (IntKind.u64.wrap (a1)) (IntKind.u64.wrap ((l0.length : Int))))) t936 t945 t946 true (wrap64 (x12_3 + 1)) (wrap64 (x13_3 + 1))) else (L10_ViewLive.l0 kj22 l0 (wrap64 (Int.tmod (IntKind.u64.wrap (a1)) (IntKind.u64.wrap ((l0.length : Int))))) t936 t945 t946 true x12_3 (wrap64 (x13_3 + 1)))) else (none)) else (none)) else (none)) else (L10_ViewLive.l0 kj22 l0 (wrap64 (Int.tmod (IntKind.u64.wrap (a1)) (IntKind.u64.wrap ((l0.length : Int))))) t936 t945 t946 true x12_3 (wrap64 (x13_3 + 1)))) = some r := by rw [if_pos rfl] at H; exact H
                              clear H
                              have H := H1
                              clear H1
                              by_cases c41 : x12_3 < (t945.length : Int)
                              · rw [if_pos c41] at H
                                have c41b0 : decide (x12_3 < (t945.length : Int)) = true := decide_eq_true c41
                                clear c41
                                by_cases c42 : 0 ≤ x12_3
                                · rw [if_pos c42] at H
                                  have c42b0 : decide (0 ≤ x12_3) = true := decide_eq_true c42
                                  clear c42
                                  by_cases c43 : 0 ≤ x13_3
                                  · rw [if_pos c43] at H
                                    have c43b0 : decide (0 ≤ x13_3) = true := decide_eq_true c43
                                    clear c43
                                    by_cases c44 : x13_3 < (t936.length : Int)
                                    · rw [if_pos c44] at H
                                      have c44b0 : decide (x13_3 < (t936.length : Int)) = true := decide_eq_true c44
                                      clear c44
                                      by_cases c45 : (rd t945 x12_3) = (rd t936 x13_3)
                                      · rw [if_pos c45] at H
                                        have c45b0 : ((rd t945 x12_3) == (rd t936 x13_3)) = true := beq_iff_eq.mpr c45
                                        have c45b1 : ((rd t945 x12_3) != (rd t936 x13_3)) = false := bne_eq_false_iff_eq.mpr c45
                                        clear c45
                                        have H' := Aside0.mk H
                                        clear H
                                        obtain ⟨Ao46, co46, eo46⟩ := Kd.R_slice HO_9.out
                                        subst eo46
                                        have p960 : 0 ≤ (x12_3 : Int) := of_decide_eq_true (by first | (with_reducible assumption) | assumption)
                                        have q960 : x12_3 < (t945.length : Int) := of_decide_eq_true (by first | (with_reducible assumption) | assumption)
                                        obtain ⟨ad960, e960, hx960_0⟩ := Kd.at_int (Kd.R_reads' HO_9.out).2.2 x12_3 p960 q960
                                        cases e960
                                        replace p960 := eq_true p960
                                        replace q960 := eq_true q960
                                        have p961 : 0 ≤ (x13_3 : Int) := of_decide_eq_true (by first | (with_reducible assumption) | assumption)
                                        have q961 : x13_3 < (t936.length : Int) := of_decide_eq_true (by first | (with_reducible assumption) | assumption)
                                        obtain ⟨ad961, e961, hx961_0⟩ := Kd.at_int (Kd.R_reads' HO_5.out).2.2 x13_3 p961 q961
                                        cases e961
                                        replace p961 := eq_true p961
                                        replace q961 := eq_true q961
                                        go_wp2
                                        repeat (go_quiet (fail); try go_wp2)
                                        go_roundg kj22
                                        case measure => have := HJ2.out; have := HJ9.out; have := HK3.out; have := HJ22.out; omega
                                        case rel => exact ⟨(true), (wrap64 (x12_3 + 1)), (wrap64 (x13_3 + 1)), (by first | rfl | (simp; done) | (simp [*]; done)), (by first | rfl | (simp; done) | (simp [*]; done)), (by first | rfl | (simp; done) | (simp [*]; done)), H', ⟨by have := HJ2.out; have := HJ9.out; have := HK3.out; have := HJ22.out; omega⟩, ⟨by (with_reducible repeat (first | apply ra_ | apply rn_ | apply rd_)); exact HO_5.out⟩, ⟨by (with_reducible repeat (first | apply ra_ | apply rn_ | apply rd_)); exact HO_9.out⟩, ⟨by repeat (first | (with_reducible first | exact HB.out | apply ba_ | apply bn_ | apply bd_) | exact HB.out)⟩⟩
                                      · rw [if_neg c45] at H
                                        have c45b0 : ((rd t945 x12_3) == (rd t936 x13_3)) = false := beq_eq_false_iff_ne.mpr c45
                                        have c45b1 : ((rd t945 x12_3) != (rd t936 x13_3)) = true := bne_iff_ne.mpr c45
                                        have H' := Aside0.mk H
                                        clear H
                                        obtain ⟨Ao47, co47, eo47⟩ := Kd.R_slice HO_9.out
                                        subst eo47
                                        have p960 : 0 ≤ (x12_3 : Int) := of_decide_eq_true (by first | (with_reducible assumption) | assumption)
                                        have q960 : x12_3 < (t945.length : Int) := of_decide_eq_true (by first | (with_reducible assumption) | assumption)
                                        obtain ⟨ad960, e960, hx960_0⟩ := Kd.at_int (Kd.R_reads' HO_9.out).2.2 x12_3 p960 q960
                                        cases e960
                                        replace p960 := eq_true p960
                                        replace q960 := eq_true q960
                                        have p961 : 0 ≤ (x13_3 : Int) := of_decide_eq_true (by first | (with_reducible assumption) | assumption)
                                        have q961 : x13_3 < (t936.length : Int) := of_decide_eq_true (by first | (with_reducible assumption) | assumption)
                                        obtain ⟨ad961, e961, hx961_0⟩ := Kd.at_int (Kd.R_reads' HO_5.out).2.2 x13_3 p961 q961
                                        cases e961
                                        replace p961 := eq_true p961
                                        replace q961 := eq_true q961
                                        go_wp2
                                        repeat (go_quiet (fail); try go_wp2)
                                        go_roundg kj22
                                        case measure => have := HJ2.out; have := HJ9.out; have := HK3.out; have := HJ22.out; omega
                                        case rel => exact ⟨(true), (x12_3), (wrap64 (x13_3 + 1)), (by first | rfl | (simp; done) | (simp [*]; done)), (by first | rfl | (simp; done) | (simp [*]; done)), (by first | rfl | (simp; done) | (simp [*]; done)), H', ⟨by have := HJ2.out; have := HJ9.out; have := HK3.out; have := HJ22.out; omega⟩, ⟨by (with_reducible repeat (first | apply ra_ | apply rn_ | apply rd_)); exact HO_5.out⟩, ⟨by (with_reducible repeat (first | apply ra_ | apply rn_ | apply rd_)); exact HO_9.out⟩, ⟨by repeat (first | (with_reducible first | exact HB.out | apply ba_ | apply bn_ | apply bd_) | exact HB.out)⟩⟩
                                    · rw [if_neg c44] at H
                                      exact absurd H (by simp)
                                  · rw [if_neg c43] at H
                                    exact absurd H (by simp)
                                · rw [if_neg c42] at H
                                  exact absurd H (by simp)
                              · rw [if_neg c41] at H
                                have c41b0 : decide (x12_3 < (t945.length : Int)) = false := decide_eq_false c41
                                clear c41
                                have H' := Aside0.mk H
                                clear H
                                obtain ⟨Ao48, co48, eo48⟩ := Kd.R_slice HO_9.out
                                subst eo48
                                go_wp2
                                repeat (go_quiet (fail); try go_wp2)
                                go_roundg kj22
                                case measure => have := HJ2.out; have := HJ9.out; have := HK3.out; have := HJ22.out; omega
                                case rel => exact ⟨(true), (x12_3), (wrap64 (x13_3 + 1)), (by first | rfl | (simp; done) | (simp [*]; done)), (by first | rfl | (simp; done) | (simp [*]; done)), (by first | rfl | (simp; done) | (simp [*]; done)), H', ⟨by have := HJ2.out; have := HJ9.out; have := HK3.out; have := HJ22.out; omega⟩, ⟨by (with_reducible repeat (first | apply ra_ | apply rn_ | apply rd_)); exact HO_5.out⟩, ⟨by (with_reducible repeat (first | apply ra_ | apply rn_ | apply rd_)); exact HO_9.out⟩, ⟨by repeat (first | (with_reducible first | exact HB.out | apply ba_ | apply bn_ | apply bd_) | exact HB.out)⟩⟩
                            · replace c40 := Bool.eq_false_iff.mpr c40
                              subst c40
                              have H1 : (if 0 ≤ x13_3 then (if x13_3 < (t936.length : Int) then (if x12_3 < (t945.length : Int) then (if 0 ≤ x12_3 then (if (rd t945 x12_3) = (rd t936 x13_3) then (L10_ViewLive.l0 kj22 l0 (wrap64 (Int.tmod (IntKind.u64.wrap (a1)) (IntKind.u64.wrap ((l0.length : Int))))) t936 t945 t946 ((rd t936 x13_3) == (wrap64 (Int.tmod (IntKind.u64.wrap (a1)) (IntKind.u64.wrap ((l0.length : Int)))))) (wrap64 (x12_3 + 1)) (wrap64 (x13_3 + 1))) else (L10_ViewLive.l0 kj22 l0 (wrap64 (Int.tmod (IntKind.u64.wrap (a1)) (IntKind.u64.wrap ((l0.length : Int))))) t936 t945 t946 ((rd t936 x13_3) == (wrap64 (Int.tmod (IntKind.u64.wrap (a1)) (IntKind.u64.wrap ((l0.length : Int)))))) x12_3 (wrap64 (x13_3 + 1)))) else (none)) else (L10_ViewLive.l0 kj22 l0 (wrap64 (Int.tmod (IntKind.u64.wrap (a1)) (IntKind.u64.wrap ((l0.length : Int))))) t936 t945 t946 ((rd t936 x13_3) == (wrap64 (Int.tmod (IntKind.u64.wrap (a1)) (IntKind.u64.wrap ((l0.length : Int)))))) x12_3 (wrap64 (x13_3 + 1)))) else (none)) else (none)) = some r := by rw [if_neg (show ¬ (false = true) by decide)] at H; exact H
                              clear H
                              have H := H1
                              clear H1
                              by_cases c49 : 0 ≤ x13_3
                              · rw [if_pos c49] at H
                                have c49b0 : decide (0 ≤ x13_3) = true := decide_eq_true c49
                                clear c49
                                by_cases c50 : x13_3 < (t936.length : Int)
                                · rw [if_pos c50] at H
                                  have c50b0 : decide (x13_3 < (t936.length : Int)) = true := decide_eq_true c50
                                  clear c50
                                  by_cases c51 : x12_3 < (t945.length : Int)
                                  · rw [if_pos c51] at H
                                    have c51b0 : decide (x12_3 < (t945.length : Int)) = true := decide_eq_true c51
                                    clear c51
                                    by_cases c52 : 0 ≤ x12_3
                                    · rw [if_pos c52] at H
                                      have c52b0 : decide (0 ≤ x12_3) = true := decide_eq_true c52
                                      clear c52
                                      by_cases c53 : (rd t945 x12_3) = (rd t936 x13_3)
                                      · rw [if_pos c53] at H
                                        have c53b0 : ((rd t945 x12_3) == (rd t936 x13_3)) = true := beq_iff_eq.mpr c53
                                        have c53b1 : ((rd t945 x12_3) != (rd t936 x13_3)) = false := bne_eq_false_iff_eq.mpr c53
                                        clear c53
                                        have H' := Aside0.mk H
                                        clear H
                                        have p962 : 0 ≤ (x13_3 : Int) := of_decide_eq_true (by first | (with_reducible assumption) | assumption)
                                        have q962 : x13_3 < (t936.length : Int) := of_decide_eq_true (by first | (with_reducible assumption) | assumption)
                                        obtain ⟨ad962, e962, hx962_0⟩ := Kd.at_int (Kd.R_reads' HO_5.out).2.2 x13_3 p962 q962
                                        cases e962
                                        replace p962 := eq_true p962
                                        replace q962 := eq_true q962
                                        obtain ⟨Ao54, co54, eo54⟩ := Kd.R_slice HO_9.out
                                        subst eo54
                                        have p963 : 0 ≤ (x12_3 : Int) := of_decide_eq_true (by first | (with_reducible assumption) | assumption)
                                        have q963 : x12_3 < (t945.length : Int) := of_decide_eq_true (by first | (with_reducible assumption) | assumption)
                                        obtain ⟨ad963, e963, hx963_0⟩ := Kd.at_int (Kd.R_reads' HO_9.out).2.2 x12_3 p963 q963
                                        cases e963
                                        replace p963 := eq_true p963
                                        replace q963 := eq_true q963
                                        have p964 : 0 ≤ (x13_3 : Int) := of_decide_eq_true (by first | (with_reducible assumption) | assumption)
                                        have q964 : x13_3 < (t936.length : Int) := of_decide_eq_true (by first | (with_reducible assumption) | assumption)
                                        obtain ⟨ad964, e964, hx964_0⟩ := Kd.at_int (Kd.R_reads' HO_5.out).2.2 x13_3 p964 q964
                                        obtain rfl : ad962 = ad964 := (by injection e964)
                                        replace p964 := eq_true p964
                                        replace q964 := eq_true q964
                                        go_wp2
                                        repeat (go_quiet (fail); try go_wp2)
                                        go_roundg kj22
                                        case measure => have := HJ2.out; have := HJ9.out; have := HK3.out; have := HJ22.out; omega
                                        case rel => exact ⟨(((rd t936 x13_3) == (wrap64 (Int.tmod (IntKind.u64.wrap (a1)) (IntKind.u64.wrap ((l0.length : Int))))))), (wrap64 (x12_3 + 1)), (wrap64 (x13_3 + 1)), (by first | rfl | (simp; done) | (simp [*]; done)), (by first | rfl | (simp; done) | (simp [*]; done)), (by first | rfl | (simp; done) | (simp [*]; done)), H', ⟨by have := HJ2.out; have := HJ9.out; have := HK3.out; have := HJ22.out; omega⟩, ⟨by (with_reducible repeat (first | apply ra_ | apply rn_ | apply rd_)); exact HO_5.out⟩, ⟨by (with_reducible repeat (first | apply ra_ | apply rn_ | apply rd_)); exact HO_9.out⟩, ⟨by repeat (first | (with_reducible first | exact HB.out | apply ba_ | apply bn_ | apply bd_) | exact HB.out)⟩⟩
                                      · rw [if_neg c53] at H
                                        have c53b0 : ((rd t945 x12_3) == (rd t936 x13_3)) = false := beq_eq_false_iff_ne.mpr c53
                                        have c53b1 : ((rd t945 x12_3) != (rd t936 x13_3)) = true := bne_iff_ne.mpr c53
                                        have H' := Aside0.mk H
                                        clear H
                                        have p962 : 0 ≤ (x13_3 : Int) := of_decide_eq_true (by first | (with_reducible assumption) | assumption)
                                        have q962 : x13_3 < (t936.length : Int) := of_decide_eq_true (by first | (with_reducible assumption) | assumption)
                                        obtain ⟨ad962, e962, hx962_0⟩ := Kd.at_int (Kd.R_reads' HO_5.out).2.2 x13_3 p962 q962
                                        cases e962
                                        replace p962 := eq_true p962
                                        replace q962 := eq_true q962
                                        obtain ⟨Ao55, co55, eo55⟩ := Kd.R_slice HO_9.out
                                        subst eo55
                                        have p963 : 0 ≤ (x12_3 : Int) := of_decide_eq_true (by first | (with_reducible assumption) | assumption)
                                        have q963 : x12_3 < (t945.length : Int) := of_decide_eq_true (by first | (with_reducible assumption) | assumption)
                                        obtain ⟨ad963, e963, hx963_0⟩ := Kd.at_int (Kd.R_reads' HO_9.out).2.2 x12_3 p963 q963
                                        cases e963
                                        replace p963 := eq_true p963
                                        replace q963 := eq_true q963
                                        have p964 : 0 ≤ (x13_3 : Int) := of_decide_eq_true (by first | (with_reducible assumption) | assumption)
                                        have q964 : x13_3 < (t936.length : Int) := of_decide_eq_true (by first | (with_reducible assumption) | assumption)
                                        obtain ⟨ad964, e964, hx964_0⟩ := Kd.at_int (Kd.R_reads' HO_5.out).2.2 x13_3 p964 q964
                                        obtain rfl : ad962 = ad964 := (by injection e964)
                                        replace p964 := eq_true p964
                                        replace q964 := eq_true q964
                                        go_wp2
                                        repeat (go_quiet (fail); try go_wp2)
                                        go_roundg kj22
                                        case measure => have := HJ2.out; have := HJ9.out; have := HK3.out; have := HJ22.out; omega
                                        case rel => exact ⟨(((rd t936 x13_3) == (wrap64 (Int.tmod (IntKind.u64.wrap (a1)) (IntKind.u64.wrap ((l0.length : Int))))))), (x12_3), (wrap64 (x13_3 + 1)), (by first | rfl | (simp; done) | (simp [*]; done)), (by first | rfl | (simp; done) | (simp [*]; done)), (by first | rfl | (simp; done) | (simp [*]; done)), H', ⟨by have := HJ2.out; have := HJ9.out; have := HK3.out; have := HJ22.out; omega⟩, ⟨by (with_reducible repeat (first | apply ra_ | apply rn_ | apply rd_)); exact HO_5.out⟩, ⟨by (with_reducible repeat (first | apply ra_ | apply rn_ | apply rd_)); exact HO_9.out⟩, ⟨by repeat (first | (with_reducible first | exact HB.out | apply ba_ | apply bn_ | apply bd_) | exact HB.out)⟩⟩
                                    · rw [if_neg c52] at H
                                      exact absurd H (by simp)
                                  · rw [if_neg c51] at H
                                    have c51b0 : decide (x12_3 < (t945.length : Int)) = false := decide_eq_false c51
                                    clear c51
                                    have H' := Aside0.mk H
                                    clear H
                                    have p962 : 0 ≤ (x13_3 : Int) := of_decide_eq_true (by first | (with_reducible assumption) | assumption)
                                    have q962 : x13_3 < (t936.length : Int) := of_decide_eq_true (by first | (with_reducible assumption) | assumption)
                                    obtain ⟨ad962, e962, hx962_0⟩ := Kd.at_int (Kd.R_reads' HO_5.out).2.2 x13_3 p962 q962
                                    cases e962
                                    replace p962 := eq_true p962
                                    replace q962 := eq_true q962
                                    obtain ⟨Ao56, co56, eo56⟩ := Kd.R_slice HO_9.out
                                    subst eo56
                                    go_wp2
                                    repeat (go_quiet (fail); try go_wp2)
                                    go_roundg kj22
                                    case measure => have := HJ2.out; have := HJ9.out; have := HK3.out; have := HJ22.out; omega
                                    case rel => exact ⟨(((rd t936 x13_3) == (wrap64 (Int.tmod (IntKind.u64.wrap (a1)) (IntKind.u64.wrap ((l0.length : Int))))))), (x12_3), (wrap64 (x13_3 + 1)), (by first | rfl | (simp; done) | (simp [*]; done)), (by first | rfl | (simp; done) | (simp [*]; done)), (by first | rfl | (simp; done) | (simp [*]; done)), H', ⟨by have := HJ2.out; have := HJ9.out; have := HK3.out; have := HJ22.out; omega⟩, ⟨by (with_reducible repeat (first | apply ra_ | apply rn_ | apply rd_)); exact HO_5.out⟩, ⟨by (with_reducible repeat (first | apply ra_ | apply rn_ | apply rd_)); exact HO_9.out⟩, ⟨by repeat (first | (with_reducible first | exact HB.out | apply ba_ | apply bn_ | apply bd_) | exact HB.out)⟩⟩
                                · rw [if_neg c50] at H
                                  exact absurd H (by simp)
                              · rw [if_neg c49] at H
                                exact absurd H (by simp)
                    · rw [if_neg c22] at H
                      have c22b0 : decide (x13_3 < (t936.length : Int)) = false := decide_eq_false c22
                      clear c22
                      by_cases c57 : t946 = 0
                      · rw [if_pos c57] at H
                        have c57b0 : (t946 == 0) = true := beq_iff_eq.mpr c57
                        have c57b1 : (t946 != 0) = false := bne_eq_false_iff_eq.mpr c57
                        clear c57
                        by_cases c58 : x11_3 = true
                        · subst c58
                          have H1 : (if x12_3 = (t945.length : Int) then ((L10_wakes.f k3).bind fun t949 => (some t949)) else (some false)) = some r := by rw [if_pos rfl] at H; exact H
                          clear H
                          have H := H1
                          clear H1
                          by_cases c59 : x12_3 = (t945.length : Int)
                          · rw [if_pos c59] at H
                            have c59b0 : (x12_3 == (t945.length : Int)) = true := beq_iff_eq.mpr c59
                            have c59b1 : (x12_3 != (t945.length : Int)) = false := bne_eq_false_iff_eq.mpr c59
                            clear c59
                            replace H := Option.bind_eq_some_iff.mp H
                            obtain ⟨t949, A600, H⟩ := H
                            replace H : (some t949) = some r := H
                            have A60 := Aside0.mk A600
                            clear A600
                            obtain rfl := Option.some.inj H
                            obtain ⟨Ao61, co61, eo61⟩ := Kd.R_slice HO_5.out
                            subst eo61
                            obtain ⟨Ao62, co62, eo62⟩ := Kd.R_slice HO_9.out
                            subst eo62
                            go_wp2_with (first | (go_at_call 19; (with_reducible refine (L10_wakes.calls k3  t949 _ A60.out).mono ?_); rintro e w63 ⟨rfl, hb⟩; have n0_ := Aside0.mk (Kd.R_below (by (with_reducible repeat (first | apply ra_ | apply rn_ | apply rd_)); exact HO_5.out) hb); have n1_ := Aside0.mk (Kd.R_below (by (with_reducible repeat (first | apply ra_ | apply rn_ | apply rd_)); exact HO_9.out) hb); have n2_ := Aside0.mk (below_step (by repeat (first | (with_reducible first | exact HB.out | apply ba_ | apply bn_ | apply bd_) | exact HB.out)) hb); clear HO_5; clear HO_9; clear HB; have HO_5 := n0_; have HO_9 := n1_; have HB := n2_; clear n0_ n1_ n2_; (try clear hb); (try clear hb2); (try clear hk); (try clear hi)))
                            repeat (go_quiet (first | (go_at_call 19; (with_reducible refine (L10_wakes.calls k3  t949 _ A60.out).mono ?_); rintro e w63 ⟨rfl, hb⟩; have n0_ := Aside0.mk (Kd.R_below (by (with_reducible repeat (first | apply ra_ | apply rn_ | apply rd_)); exact HO_5.out) hb); have n1_ := Aside0.mk (Kd.R_below (by (with_reducible repeat (first | apply ra_ | apply rn_ | apply rd_)); exact HO_9.out) hb); have n2_ := Aside0.mk (below_step (by repeat (first | (with_reducible first | exact HB.out | apply ba_ | apply bn_ | apply bd_) | exact HB.out)) hb); clear HO_5; clear HO_9; clear HB; have HO_5 := n0_; have HO_9 := n1_; have HB := n2_; clear n0_ n1_ n2_; (try clear hb); (try clear hb2); (try clear hk); (try clear hi))); try go_wp2_with (first | (go_at_call 19; (with_reducible refine (L10_wakes.calls k3  t949 _ A60.out).mono ?_); rintro e w63 ⟨rfl, hb⟩; have n0_ := Aside0.mk (Kd.R_below (by (with_reducible repeat (first | apply ra_ | apply rn_ | apply rd_)); exact HO_5.out) hb); have n1_ := Aside0.mk (Kd.R_below (by (with_reducible repeat (first | apply ra_ | apply rn_ | apply rd_)); exact HO_9.out) hb); have n2_ := Aside0.mk (below_step (by repeat (first | (with_reducible first | exact HB.out | apply ba_ | apply bn_ | apply bd_) | exact HB.out)) hb); clear HO_5; clear HO_9; clear HB; have HO_5 := n0_; have HO_9 := n1_; have HB := n2_; clear n0_ n1_ n2_; (try clear hb); (try clear hb2); (try clear hk); (try clear hi))))
                            go_ret
                            exact ⟨by first | rfl | (simp [errW_none, errW_some] <;> rfl) | (simp [*, errW_none, errW_some] <;> rfl), by repeat (first | (with_reducible first | exact HB.out | apply ba_ | apply bn_ | apply bd_) | exact HB.out)⟩
                          · rw [if_neg c59] at H
                            have c59b0 : (x12_3 == (t945.length : Int)) = false := beq_eq_false_iff_ne.mpr c59
                            have c59b1 : (x12_3 != (t945.length : Int)) = true := bne_iff_ne.mpr c59
                            obtain rfl := Option.some.inj H
                            obtain ⟨Ao64, co64, eo64⟩ := Kd.R_slice HO_5.out
                            subst eo64
                            obtain ⟨Ao65, co65, eo65⟩ := Kd.R_slice HO_9.out
                            subst eo65
                            go_wp2
                            repeat (go_quiet (fail); try go_wp2)
                            go_ret
                            exact ⟨by first | rfl | (simp [errW_none, errW_some] <;> rfl) | (simp [*, errW_none, errW_some] <;> rfl), by repeat (first | (with_reducible first | exact HB.out | apply ba_ | apply bn_ | apply bd_) | exact HB.out)⟩
                        · replace c58 := Bool.eq_false_iff.mpr c58
                          subst c58
                          have H1 : (some false) = some r := by rw [if_neg (show ¬ (false = true) by decide)] at H; exact H
                          clear H
                          have H := H1
                          clear H1
                          obtain rfl := Option.some.inj H
                          obtain ⟨Ao66, co66, eo66⟩ := Kd.R_slice HO_5.out
                          subst eo66
                          go_wp2
                          repeat (go_quiet (fail); try go_wp2)
                          go_ret
                          exact ⟨by first | rfl | (simp [errW_none, errW_some] <;> rfl) | (simp [*, errW_none, errW_some] <;> rfl), by repeat (first | (with_reducible first | exact HB.out | apply ba_ | apply bn_ | apply bd_) | exact HB.out)⟩
                      · rw [if_neg c57] at H
                        have c57b0 : (t946 == 0) = false := beq_eq_false_iff_ne.mpr c57
                        have c57b1 : (t946 != 0) = true := bne_iff_ne.mpr c57
                        obtain rfl := Option.some.inj H
                        obtain ⟨Ao67, co67, eo67⟩ := Kd.R_slice HO_5.out
                        subst eo67
                        go_wp2
                        repeat (go_quiet (fail); try go_wp2)
                        go_ret
                        exact ⟨by first | rfl | (simp [errW_none, errW_some] <;> rfl) | (simp [*, errW_none, errW_some] <;> rfl), by repeat (first | (with_reducible first | exact HB.out | apply ba_ | apply bn_ | apply bd_) | exact HB.out)⟩

/-- THE ONE PURE STATEMENT of L10_ViewLive. -/
def L10_ViewLive.Pure : Prop := ∀ (l0 : List (S42)) (a1 : Int), (l0.length * 16 ≤ 140737488351232 ∧ ∀ y_ ∈ l0, wf42 y_) → (Lit.int .i64 a1).wf = true → ∃ k, L10_ViewLive.f k l0 a1 = some true

end Go.Proofs.Ytfljapcnkhjmgaa.PV
