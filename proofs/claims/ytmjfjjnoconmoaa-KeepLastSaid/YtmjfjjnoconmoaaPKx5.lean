-- Written by this session's own program (wip/prog/drive.py).
import Derived.Test.YtmjfjjnoconmoaaPKx0
import Derived.Test.YtmjfjjnoconmoaaPKx2
import Derived.Test.YtmjfjjnoconmoaaPKx3
namespace Go.Proofs.Ytmjfjjnoconmoaa.PK
open Go.RowKit Go.Proofs.YtmjfjjnoconmoaaW.PrintWords Go.Proofs.YtmjfjjnoconmoaaW.PrintLast Go.Proofs.YtmjfjjnoconmoaaW.PrintMore
attribute [local go_sem] max2_int min2_int max_two min_two max_three min_three max_four min_four   -- for this text's walks alone
set_option linter.unusedVariables false
set_option linter.unusedSimpArgs false

/-! ### bellwetherlaw15_KeepMore: function 8 -/
def bellwetherlaw15_KeepMore.l0 : Nat → List Int → Int → Int → Int → List (S51) → List (S51) → Int → Option (Bool)
  | 0, _, _, _, _, _, _, _ => none
  | k + 1, x0, x1, x2, x3, x9, x10, x11 => if x11 < (x0.length : Int) then (if 0 ≤ x11 then ((keep_Push.f k x9 (wrap64 (x1 + x11)) (mn x2 x3) (wrap64 (Int.tmod (IntKind.u64.wrap (rd x0 x11)) 1000))).bind fun bt199 => ((keep_Push.f k x10 (wrap64 (x1 + x11)) (mx x2 x3) (wrap64 (Int.tmod (IntKind.u64.wrap (rd x0 x11)) 1000))).bind fun bt203 => (if bt199.2 = 0 then (if bt203.2 = 0 then (bellwetherlaw15_KeepMore.l0 k x0 x1 x2 x3 bt199.1 bt203.1 (wrap64 (x11 + 1))) else (some false)) else (some false)))) else (none)) else (if (x9.length : Int) ≤ (x10.length : Int) then (if (x9.length : Int) = (mn (mn x2 x3) (x0.length : Int)) then (if 0 ≤ (wrap64 ((x10.length : Int) - (x9.length : Int))) then (if (wrap64 ((x10.length : Int) - (x9.length : Int))) ≤ (x10.length : Int) then ((bellwetherkeep_Items.f k (x10.drop ((wrap64 ((x10.length : Int) - (x9.length : Int))) : Int).toNat) x9).bind fun t196 => (if t196 = true then ((bellwetherlaw15_wakes.f k).bind fun t197 => (some t197)) else (some false))) else (none)) else (none)) else (some false)) else (some false))
def bellwetherlaw15_KeepMore.f (k : Nat) (l0 : List Int) (a1 : Int) (a2 : Int) (a3 : Int) : Option (Bool) := if (l0.length : Int) > 60 then (some true) else (bellwetherlaw15_KeepMore.l0 k l0 (wrap64 (1 + (wrap64 (Int.tmod (IntKind.u64.wrap (a1)) 1000)))) (wrap64 (1 + (wrap64 (Int.tmod (IntKind.u64.wrap (a2)) 16)))) (wrap64 (1 + (wrap64 (Int.tmod (IntKind.u64.wrap (a3)) 16)))) ([] : List (S51)) ([] : List (S51)) 0)
theorem bellwetherlaw15_KeepMore.mono_l : ∀ k, (∀ y0 y1 y2 y3 y4 y5 y6, LeO (bellwetherlaw15_KeepMore.l0 k y0 y1 y2 y3 y4 y5 y6) (bellwetherlaw15_KeepMore.l0 (k + 1) y0 y1 y2 y3 y4 y5 y6))
  | 0 => fun _ _ _ _ _ _ _ r h => by simp [bellwetherlaw15_KeepMore.l0] at h
  | k + 1 => by
    have ih0 := bellwetherlaw15_KeepMore.mono_l k
    · intro y0 y1 y2 y3 y4 y5 y6
      unfold bellwetherlaw15_KeepMore.l0
      repeat' first
      | (with_reducible exact ih0 _ _ _ _ _ _ _)
      | (with_reducible exact bellwetherkeep_Items.mono _ _ _)
      | (with_reducible exact bellwetherlaw15_wakes.mono _)
      | (with_reducible exact keep_Push.mono _ _ _ _ _)
      | (with_reducible exact LeO.refl _)
      | (with_reducible exact LeO.none _)
      | (with_reducible refine LeO.ite ?_ ?_)
      | (with_reducible refine LeO.bind ?_ (fun _ => ?_))
      | exact ih0 _ _ _ _ _ _ _
      | exact bellwetherkeep_Items.mono _ _ _
      | exact bellwetherlaw15_wakes.mono _
      | exact keep_Push.mono _ _ _ _ _
      | exact LeO.none _
      | refine LeO.ite ?_ ?_
      | refine LeO.bind ?_ (fun _ => ?_)
theorem bellwetherlaw15_KeepMore.mono : ∀ a0 a1 a2 a3 k, LeO (bellwetherlaw15_KeepMore.f k a0 a1 a2 a3) (bellwetherlaw15_KeepMore.f (k + 1) a0 a1 a2 a3) := by
  intro a0 a1 a2 a3 k
  have ih0 := bellwetherlaw15_KeepMore.mono_l k
  unfold bellwetherlaw15_KeepMore.f
  repeat' first
      | (with_reducible exact ih0 _ _ _ _ _ _ _)
      | (with_reducible exact bellwetherkeep_Items.mono _ _ _)
      | (with_reducible exact bellwetherlaw15_wakes.mono _)
      | (with_reducible exact keep_Push.mono _ _ _ _ _)
      | (with_reducible exact LeO.refl _)
      | (with_reducible exact LeO.none _)
      | (with_reducible refine LeO.ite ?_ ?_)
      | (with_reducible refine LeO.bind ?_ (fun _ => ?_))
      | exact ih0 _ _ _ _ _ _ _
      | exact bellwetherkeep_Items.mono _ _ _
      | exact bellwetherlaw15_wakes.mono _
      | exact keep_Push.mono _ _ _ _ _
      | exact LeO.none _
      | refine LeO.ite ?_ ?_
      | refine LeO.bind ?_ (fun _ => ?_)
set_option maxHeartbeats 8000000 in
set_option maxRecDepth 100000 in
theorem bellwetherlaw15_KeepMore.calls (k : Nat) (A0 : Option Addr) (c0 : Nat) (l0 : List Int) (a1 : Int) (a2 : Int) (a3 : Int) (r : Bool) (w : World) (hr0 : Kd.C (Kd.int .i64) w A0 l0.length l0) (hc0 : l0.length ≤ c0) (h : bellwetherlaw15_KeepMore.f k l0 a1 a2 a3 = some r) :
    Calls Try.prog 8 #[.slice A0 l0.length c0, .int .i64 a1, .int .i64 a2, .int .i64 a3] w fun e w' => e = .returned (.bool r) ∧ Below w.heap.size w w' := by
  have HR0 := Aside0.mk hr0
  have HC0 := Aside0.mk hc0
  clear hr0 hc0
  have HB := Aside0.mk (Below.refl w.heap.size w)
  have H : (if (l0.length : Int) > 60 then (some true) else (bellwetherlaw15_KeepMore.l0 k l0 (wrap64 (1 + (wrap64 (Int.tmod (IntKind.u64.wrap (a1)) 1000)))) (wrap64 (1 + (wrap64 (Int.tmod (IntKind.u64.wrap (a2)) 16)))) (wrap64 (1 + (wrap64 (Int.tmod (IntKind.u64.wrap (a3)) 16)))) ([] : List (S51)) ([] : List (S51)) 0)) = some r := h
  clear h
  by_cases c5 : (l0.length : Int) > 60
  · rw [if_pos c5] at H
    have c5b0 : decide (60 < (l0.length : Int)) = true := decide_eq_true c5
    have c5b1 : decide (60 < l0.length) = true := decide_eq_true (by omega)
    clear c5
    obtain rfl := Option.some.inj H
    go_enter Try.func8, Try.ntmps8
    go_wp2
    go_ret
    exact ⟨by first | rfl | (simp [errW_none, errW_some] <;> rfl) | (simp [*, errW_none, errW_some] <;> rfl), by repeat (first | (with_reducible first | exact HB.out | apply below_alloc | apply pw_below_drewN | apply below_drew1) | exact HB.out)⟩
  · rw [if_neg c5] at H
    have c5b0 : decide (60 < (l0.length : Int)) = false := decide_eq_false c5
    have c5b1 : decide (60 < l0.length) = false := decide_eq_false (by omega)
    clear c5
    have H' := Aside0.mk H
    clear H
    go_enter Try.func8, Try.ntmps8
    go_wp2
    go_loopg [9, 10, 11] k (fun kq v9 v10 v11 w' => ∃ (x9_1 : List (S51)) (x10_1 : List (S51)) (x11_1 : Int), v11 = .int .i64 x11_1 ∧ Aside0 (bellwetherlaw15_KeepMore.l0 kq l0 (wrap64 (1 + (wrap64 (Int.tmod (IntKind.u64.wrap (a1)) 1000)))) (wrap64 (1 + (wrap64 (Int.tmod (IntKind.u64.wrap (a2)) 16)))) (wrap64 (1 + (wrap64 (Int.tmod (IntKind.u64.wrap (a3)) 16)))) x9_1 x10_1 x11_1 = some r) ∧ Aside0 (kq ≤ k) ∧ Aside0 (Kd.R k51 51 w' w.heap.size (fun k_ => some k_ ≠ (v10 : Value).ownBlock) v9 x9_1) ∧ Aside0 (Kd.R k51 51 w' w.heap.size (fun k_ => some k_ ≠ (v9 : Value).ownBlock) v10 x10_1) ∧ Aside0 (Below w.heap.size w w'))
    case atStart => exact ⟨(([] : List (S51))), (([] : List (S51))), (0), (by first | rfl | (simp; done) | (simp [*]; done)), H', ⟨Nat.le_refl _⟩, ⟨by first | exact Kd.R_nil _ _ _ _ _ | exact Kd.N_nil _ _ _ _ _ | exact Kd.V_nil _ _ _ _ _ | exact Kd.Q_nil _ _ _ _ _ | exact Kd.S_nil _ _ _ _ _⟩, ⟨by first | exact Kd.R_nil _ _ _ _ _ | exact Kd.N_nil _ _ _ _ _ | exact Kd.V_nil _ _ _ _ _ | exact Kd.Q_nil _ _ _ _ _ | exact Kd.S_nil _ _ _ _ _⟩, ⟨by repeat (first | (with_reducible first | exact HB.out | apply below_alloc | apply pw_below_drewN | apply below_drew1) | exact HB.out)⟩⟩
    case round =>
      clear H'
      try clear p2
      try clear c5
      try clear c5b0
      try clear c5b1
      obtain ⟨x9_1, x10_1, x11_1, rfl, HA, HK1, HO_9, HO_10, HB⟩ := hrel
      cases gk with
      | zero => exact absurd HA.out (by simp [bellwetherlaw15_KeepMore.l0])
      | succ k1 =>
        have H := HA.out
        clear HA
        simp only [bellwetherlaw15_KeepMore.l0] at H
        by_cases c6 : x11_1 < (l0.length : Int)
        · rw [if_pos c6] at H
          have c6b0 : decide (x11_1 < (l0.length : Int)) = true := decide_eq_true c6
          clear c6
          by_cases c7 : 0 ≤ x11_1
          · rw [if_pos c7] at H
            have c7b0 : decide (0 ≤ x11_1) = true := decide_eq_true c7
            clear c7
            obtain ⟨ji8, hji8⟩ : ∃ j_ : Int, (mn (wrap64 (1 + (wrap64 (Int.tmod (IntKind.u64.wrap (a2)) 16)))) (wrap64 (1 + (wrap64 (Int.tmod (IntKind.u64.wrap (a3)) 16))))) = j_ := ⟨_, rfl⟩
            replace H : ((keep_Push.f k1 x9_1 (wrap64 ((wrap64 (1 + (wrap64 (Int.tmod (IntKind.u64.wrap (a1)) 1000)))) + x11_1)) (ji8) (wrap64 (Int.tmod (IntKind.u64.wrap (rd l0 x11_1)) 1000))).bind fun bt199 => ((keep_Push.f k1 x10_1 (wrap64 ((wrap64 (1 + (wrap64 (Int.tmod (IntKind.u64.wrap (a1)) 1000)))) + x11_1)) (mx (wrap64 (1 + (wrap64 (Int.tmod (IntKind.u64.wrap (a2)) 16)))) (wrap64 (1 + (wrap64 (Int.tmod (IntKind.u64.wrap (a3)) 16))))) (wrap64 (Int.tmod (IntKind.u64.wrap (rd l0 x11_1)) 1000))).bind fun bt203 => (if bt199.2 = 0 then (if bt203.2 = 0 then (bellwetherlaw15_KeepMore.l0 k1 l0 (wrap64 (1 + (wrap64 (Int.tmod (IntKind.u64.wrap (a1)) 1000)))) (wrap64 (1 + (wrap64 (Int.tmod (IntKind.u64.wrap (a2)) 16)))) (wrap64 (1 + (wrap64 (Int.tmod (IntKind.u64.wrap (a3)) 16)))) bt199.1 bt203.1 (wrap64 (x11_1 + 1))) else (some false)) else (some false)))) = some r := by first | (rw [hji8] at H; exact H) | (simp only [hji8] at H ⊢; exact H)
            have hji8_ : (if (wrap64 (1 + (wrap64 (Int.tmod (IntKind.u64.wrap (a3)) 16)))) < (wrap64 (1 + (wrap64 (Int.tmod (IntKind.u64.wrap (a2)) 16)))) then (wrap64 (1 + (wrap64 (Int.tmod (IntKind.u64.wrap (a3)) 16)))) else (wrap64 (1 + (wrap64 (Int.tmod (IntKind.u64.wrap (a2)) 16))))) = ji8 := hji8
            replace H := Option.bind_eq_some_iff.mp H
            obtain ⟨⟨t199, t200⟩, A90, H⟩ := H
            replace H : ((keep_Push.f k1 x10_1 (wrap64 ((wrap64 (1 + (wrap64 (Int.tmod (IntKind.u64.wrap (a1)) 1000)))) + x11_1)) (mx (wrap64 (1 + (wrap64 (Int.tmod (IntKind.u64.wrap (a2)) 16)))) (wrap64 (1 + (wrap64 (Int.tmod (IntKind.u64.wrap (a3)) 16))))) (wrap64 (Int.tmod (IntKind.u64.wrap (rd l0 x11_1)) 1000))).bind fun bt203 => (if t200 = 0 then (if bt203.2 = 0 then (bellwetherlaw15_KeepMore.l0 k1 l0 (wrap64 (1 + (wrap64 (Int.tmod (IntKind.u64.wrap (a1)) 1000)))) (wrap64 (1 + (wrap64 (Int.tmod (IntKind.u64.wrap (a2)) 16)))) (wrap64 (1 + (wrap64 (Int.tmod (IntKind.u64.wrap (a3)) 16)))) t199 bt203.1 (wrap64 (x11_1 + 1))) else (some false)) else (some false))) = some r := H
            have A9 := Aside0.mk A90
            clear A90
            obtain ⟨ji10, hji10⟩ : ∃ j_ : Int, (mx (wrap64 (1 + (wrap64 (Int.tmod (IntKind.u64.wrap (a2)) 16)))) (wrap64 (1 + (wrap64 (Int.tmod (IntKind.u64.wrap (a3)) 16))))) = j_ := ⟨_, rfl⟩
            replace H : ((keep_Push.f k1 x10_1 (wrap64 ((wrap64 (1 + (wrap64 (Int.tmod (IntKind.u64.wrap (a1)) 1000)))) + x11_1)) (ji10) (wrap64 (Int.tmod (IntKind.u64.wrap (rd l0 x11_1)) 1000))).bind fun bt203 => (if t200 = 0 then (if bt203.2 = 0 then (bellwetherlaw15_KeepMore.l0 k1 l0 (wrap64 (1 + (wrap64 (Int.tmod (IntKind.u64.wrap (a1)) 1000)))) (wrap64 (1 + (wrap64 (Int.tmod (IntKind.u64.wrap (a2)) 16)))) (wrap64 (1 + (wrap64 (Int.tmod (IntKind.u64.wrap (a3)) 16)))) t199 bt203.1 (wrap64 (x11_1 + 1))) else (some false)) else (some false))) = some r := by first | (rw [hji10] at H; exact H) | (simp only [hji10] at H ⊢; exact H)
            (try rw [hji10] at A9)
            have hji10_ : (if (wrap64 (1 + (wrap64 (Int.tmod (IntKind.u64.wrap (a2)) 16)))) < (wrap64 (1 + (wrap64 (Int.tmod (IntKind.u64.wrap (a3)) 16)))) then (wrap64 (1 + (wrap64 (Int.tmod (IntKind.u64.wrap (a3)) 16)))) else (wrap64 (1 + (wrap64 (Int.tmod (IntKind.u64.wrap (a2)) 16))))) = ji10 := hji10
            replace H := Option.bind_eq_some_iff.mp H
            obtain ⟨⟨t203, t204⟩, A110, H⟩ := H
            replace H : (if t200 = 0 then (if t204 = 0 then (bellwetherlaw15_KeepMore.l0 k1 l0 (wrap64 (1 + (wrap64 (Int.tmod (IntKind.u64.wrap (a1)) 1000)))) (wrap64 (1 + (wrap64 (Int.tmod (IntKind.u64.wrap (a2)) 16)))) (wrap64 (1 + (wrap64 (Int.tmod (IntKind.u64.wrap (a3)) 16)))) t199 t203 (wrap64 (x11_1 + 1))) else (some false)) else (some false)) = some r := H
            have A11 := Aside0.mk A110
            clear A110
            by_cases c12 : t200 = 0
            · rw [if_pos c12] at H
              have c12b0 : (t200 == 0) = true := beq_iff_eq.mpr c12
              have c12b1 : (t200 != 0) = false := bne_eq_false_iff_eq.mpr c12
              clear c12
              by_cases c13 : t204 = 0
              · rw [if_pos c13] at H
                have c13b0 : (t204 == 0) = true := beq_iff_eq.mpr c13
                have c13b1 : (t204 != 0) = false := bne_eq_false_iff_eq.mpr c13
                clear c13
                have H' := Aside0.mk H
                clear H
                have p198 : 0 ≤ (x11_1 : Int) := of_decide_eq_true (by first | (with_reducible assumption) | assumption)
                have q198 : x11_1 < (l0.length : Int) := of_decide_eq_true (by first | (with_reducible assumption) | assumption)
                obtain ⟨ad198, e198, hx198_0⟩ := Kd.at_int HR0.out x11_1 p198 q198
                cases e198
                replace hx198_0 := (HB.out.cell (World.block_lt_of_cell? w _ hx198_0)).trans hx198_0
                replace p198 := eq_true p198
                replace q198 := eq_true q198
                obtain ⟨Ao14, co14, eo14⟩ := Kd.R_slice HO_9.out
                subst eo14
                go_wp2_with (first | ((with_reducible refine gate_callee (f := 23) rfl ?_); refine goesL_ (some 57) rfl rfl Try.func23 (by kernel_rfl) rfl #[.slice Ao14 x9_1.length co14, .int .i64 (wrap64 ((wrap64 (1 + (wrap64 (Int.tmod (IntKind.u64.wrap (a1)) 1000)))) + x11_1)), .int .i64 ji8, .int .i64 (wrap64 (Int.tmod (IntKind.u64.wrap (rd l0 x11_1)) 1000))] rfl (by (try simp only [List.map_toArray, List.map_cons, List.map_nil]); first | done | (simp only [hji8]; rfl) | rfl | (simp only [List.length_drop, List.length_take]; rfl)) ?_; (with_reducible refine (keep_Push.calls k1 _ _ x9_1 (wrap64 ((wrap64 (1 + (wrap64 (Int.tmod (IntKind.u64.wrap (a1)) 1000)))) + x11_1)) ji8 (wrap64 (Int.tmod (IntKind.u64.wrap (rd l0 x11_1)) 1000)) t199 t200 _ ?side1 ?side2 A9.out).mono ?_); (case side1 => repeat (first | exact (Kd.R_reads' HO_9.out).2.2 | (with_reducible refine Kd.C_alloc ?_ _) | (with_reducible refine Kd.C_drewN ?_ _) | (with_reducible refine Kd.C_drew ?_))); (case side2 => exact (Kd.R_reads' HO_9.out).2.1); rintro e w15 ⟨v201, rfl, ho0, hb⟩; refine ⟨_, rfl, ?_⟩; have n0_ := Aside0.mk (Kd.R_elder' (by (with_reducible repeat (first | apply Kd.R_alloc | apply Kd.R_drewN | apply Kd.R_drew)); exact HO_9.out) (Kd.R_base ho0) hb); have n1_ := Aside0.mk (Kd.R_elder' (by (with_reducible repeat (first | apply Kd.R_alloc | apply Kd.R_drewN | apply Kd.R_drew)); exact HO_10.out) (Kd.R_base ho0) hb); have n2_ := Aside0.mk (Kd.R_lower (Kd.R_new' (Kd.R_new' ho0 (Kd.R_lt (by (with_reducible repeat (first | apply Kd.R_alloc | apply Kd.R_drewN | apply Kd.R_drew)); exact HO_9.out))) (Kd.R_lt (by (with_reducible repeat (first | apply Kd.R_alloc | apply Kd.R_drewN | apply Kd.R_drew)); exact HO_10.out))) (below_size (by repeat (first | (with_reducible first | exact HB.out | apply below_alloc | apply pw_below_drewN | apply below_drew1) | exact HB.out)))); have n3_ := Aside0.mk (below_step (by repeat (first | (with_reducible first | exact HB.out | apply below_alloc | apply pw_below_drewN | apply below_drew1) | exact HB.out)) hb); clear HO_9; clear HO_10; clear HB; have HO_9 := n0_; have HO_10 := n1_; have HO202 := n2_; have HB := n3_; clear n0_ n1_ n2_ n3_; (try clear hb); (try clear hb2); (try clear hk); (try clear hi); (try clear ho0); obtain ⟨Ao16, co16, eo16⟩ := Kd.R_slice HO_10.out; subst eo16) | ((with_reducible refine gate_callee (f := 23) rfl ?_); refine goesL_ (some 69) rfl rfl Try.func23 (by kernel_rfl) rfl #[.slice Ao16 x10_1.length co16, .int .i64 (wrap64 ((wrap64 (1 + (wrap64 (Int.tmod (IntKind.u64.wrap (a1)) 1000)))) + x11_1)), .int .i64 ji10, .int .i64 (wrap64 (Int.tmod (IntKind.u64.wrap (rd l0 x11_1)) 1000))] rfl (by (try simp only [List.map_toArray, List.map_cons, List.map_nil]); first | done | (simp only [hji10]; rfl) | rfl | (simp only [List.length_drop, List.length_take]; rfl)) ?_; (with_reducible refine (keep_Push.calls k1 _ _ x10_1 (wrap64 ((wrap64 (1 + (wrap64 (Int.tmod (IntKind.u64.wrap (a1)) 1000)))) + x11_1)) ji10 (wrap64 (Int.tmod (IntKind.u64.wrap (rd l0 x11_1)) 1000)) t203 t204 _ ?side1 ?side2 A11.out).mono ?_); (case side1 => repeat (first | exact (Kd.R_reads' HO_10.out).2.2 | (with_reducible refine Kd.C_alloc ?_ _) | (with_reducible refine Kd.C_drewN ?_ _) | (with_reducible refine Kd.C_drew ?_))); (case side2 => exact (Kd.R_reads' HO_10.out).2.1); rintro e w17 ⟨v205, rfl, ho0, hb⟩; refine ⟨_, rfl, ?_⟩; have n0_ := Aside0.mk (Kd.R_elder' (by (with_reducible repeat (first | apply Kd.R_alloc | apply Kd.R_drewN | apply Kd.R_drew)); exact HO_9.out) (Kd.R_base ho0) hb); have n1_ := Aside0.mk (Kd.R_elder' (by (with_reducible repeat (first | apply Kd.R_alloc | apply Kd.R_drewN | apply Kd.R_drew)); exact HO_10.out) (Kd.R_base ho0) hb); have n2_ := Aside0.mk (Kd.R_elder' (by (with_reducible repeat (first | apply Kd.R_alloc | apply Kd.R_drewN | apply Kd.R_drew)); exact HO202.out) (Kd.R_base ho0) hb); have n3_ := Aside0.mk (Kd.R_lower (Kd.R_new' (Kd.R_new' (Kd.R_new' ho0 (Kd.R_lt (by (with_reducible repeat (first | apply Kd.R_alloc | apply Kd.R_drewN | apply Kd.R_drew)); exact HO_9.out))) (Kd.R_lt (by (with_reducible repeat (first | apply Kd.R_alloc | apply Kd.R_drewN | apply Kd.R_drew)); exact HO_10.out))) (Kd.R_lt (by (with_reducible repeat (first | apply Kd.R_alloc | apply Kd.R_drewN | apply Kd.R_drew)); exact HO202.out))) (below_size (by repeat (first | (with_reducible first | exact HB.out | apply below_alloc | apply pw_below_drewN | apply below_drew1) | exact HB.out)))); have n4_ := Aside0.mk (below_step (by repeat (first | (with_reducible first | exact HB.out | apply below_alloc | apply pw_below_drewN | apply below_drew1) | exact HB.out)) hb); clear HO_9; clear HO_10; clear HO202; clear HB; have HO_9 := n0_; have HO_10 := n1_; have HO202 := n2_; have HO206 := n3_; have HB := n4_; clear n0_ n1_ n2_ n3_ n4_; (try clear hb); (try clear hb2); (try clear hk); (try clear hi); (try clear ho0)))
                go_roundg k1
                case measure => have := HK1.out; omega
                case rel => exact ⟨(t199), (t203), (wrap64 (x11_1 + 1)), (by first | rfl | (simp; done) | (simp [*]; done)), H', ⟨by have := HK1.out; omega⟩, ⟨by (with_reducible repeat (first | apply Kd.R_alloc | apply Kd.R_drewN | apply Kd.R_drew)); exact Kd.R_mono HO202.out (fun _ hk => hk.2)⟩, ⟨by (with_reducible repeat (first | apply Kd.R_alloc | apply Kd.R_drewN | apply Kd.R_drew)); exact Kd.R_mono HO206.out (fun _ hk => hk.2)⟩, ⟨by repeat (first | (with_reducible first | exact HB.out | apply below_alloc | apply pw_below_drewN | apply below_drew1) | exact HB.out)⟩⟩
              · rw [if_neg c13] at H
                have c13b0 : (t204 == 0) = false := beq_eq_false_iff_ne.mpr c13
                have c13b1 : (t204 != 0) = true := bne_iff_ne.mpr c13
                obtain rfl := Option.some.inj H
                have p198 : 0 ≤ (x11_1 : Int) := of_decide_eq_true (by first | (with_reducible assumption) | assumption)
                have q198 : x11_1 < (l0.length : Int) := of_decide_eq_true (by first | (with_reducible assumption) | assumption)
                obtain ⟨ad198, e198, hx198_0⟩ := Kd.at_int HR0.out x11_1 p198 q198
                cases e198
                replace hx198_0 := (HB.out.cell (World.block_lt_of_cell? w _ hx198_0)).trans hx198_0
                replace p198 := eq_true p198
                replace q198 := eq_true q198
                obtain ⟨Ao18, co18, eo18⟩ := Kd.R_slice HO_9.out
                subst eo18
                go_wp2_with (first | ((with_reducible refine gate_callee (f := 23) rfl ?_); refine goesL_ (some 57) rfl rfl Try.func23 (by kernel_rfl) rfl #[.slice Ao18 x9_1.length co18, .int .i64 (wrap64 ((wrap64 (1 + (wrap64 (Int.tmod (IntKind.u64.wrap (a1)) 1000)))) + x11_1)), .int .i64 ji8, .int .i64 (wrap64 (Int.tmod (IntKind.u64.wrap (rd l0 x11_1)) 1000))] rfl (by (try simp only [List.map_toArray, List.map_cons, List.map_nil]); first | done | (simp only [hji8]; rfl) | rfl | (simp only [List.length_drop, List.length_take]; rfl)) ?_; (with_reducible refine (keep_Push.calls k1 _ _ x9_1 (wrap64 ((wrap64 (1 + (wrap64 (Int.tmod (IntKind.u64.wrap (a1)) 1000)))) + x11_1)) ji8 (wrap64 (Int.tmod (IntKind.u64.wrap (rd l0 x11_1)) 1000)) t199 t200 _ ?side1 ?side2 A9.out).mono ?_); (case side1 => repeat (first | exact (Kd.R_reads' HO_9.out).2.2 | (with_reducible refine Kd.C_alloc ?_ _) | (with_reducible refine Kd.C_drewN ?_ _) | (with_reducible refine Kd.C_drew ?_))); (case side2 => exact (Kd.R_reads' HO_9.out).2.1); rintro e w19 ⟨v201, rfl, ho0, hb⟩; refine ⟨_, rfl, ?_⟩; have n0_ := Aside0.mk (Kd.R_elder' (by (with_reducible repeat (first | apply Kd.R_alloc | apply Kd.R_drewN | apply Kd.R_drew)); exact HO_9.out) (Kd.R_base ho0) hb); have n1_ := Aside0.mk (Kd.R_elder' (by (with_reducible repeat (first | apply Kd.R_alloc | apply Kd.R_drewN | apply Kd.R_drew)); exact HO_10.out) (Kd.R_base ho0) hb); have n2_ := Aside0.mk (Kd.R_lower (Kd.R_new' (Kd.R_new' ho0 (Kd.R_lt (by (with_reducible repeat (first | apply Kd.R_alloc | apply Kd.R_drewN | apply Kd.R_drew)); exact HO_9.out))) (Kd.R_lt (by (with_reducible repeat (first | apply Kd.R_alloc | apply Kd.R_drewN | apply Kd.R_drew)); exact HO_10.out))) (below_size (by repeat (first | (with_reducible first | exact HB.out | apply below_alloc | apply pw_below_drewN | apply below_drew1) | exact HB.out)))); have n3_ := Aside0.mk (below_step (by repeat (first | (with_reducible first | exact HB.out | apply below_alloc | apply pw_below_drewN | apply below_drew1) | exact HB.out)) hb); clear HO_9; clear HO_10; clear HB; have HO_9 := n0_; have HO_10 := n1_; have HO202 := n2_; have HB := n3_; clear n0_ n1_ n2_ n3_; (try clear hb); (try clear hb2); (try clear hk); (try clear hi); (try clear ho0); obtain ⟨Ao20, co20, eo20⟩ := Kd.R_slice HO_10.out; subst eo20) | ((with_reducible refine gate_callee (f := 23) rfl ?_); refine goesL_ (some 69) rfl rfl Try.func23 (by kernel_rfl) rfl #[.slice Ao20 x10_1.length co20, .int .i64 (wrap64 ((wrap64 (1 + (wrap64 (Int.tmod (IntKind.u64.wrap (a1)) 1000)))) + x11_1)), .int .i64 ji10, .int .i64 (wrap64 (Int.tmod (IntKind.u64.wrap (rd l0 x11_1)) 1000))] rfl (by (try simp only [List.map_toArray, List.map_cons, List.map_nil]); first | done | (simp only [hji10]; rfl) | rfl | (simp only [List.length_drop, List.length_take]; rfl)) ?_; (with_reducible refine (keep_Push.calls k1 _ _ x10_1 (wrap64 ((wrap64 (1 + (wrap64 (Int.tmod (IntKind.u64.wrap (a1)) 1000)))) + x11_1)) ji10 (wrap64 (Int.tmod (IntKind.u64.wrap (rd l0 x11_1)) 1000)) t203 t204 _ ?side1 ?side2 A11.out).mono ?_); (case side1 => repeat (first | exact (Kd.R_reads' HO_10.out).2.2 | (with_reducible refine Kd.C_alloc ?_ _) | (with_reducible refine Kd.C_drewN ?_ _) | (with_reducible refine Kd.C_drew ?_))); (case side2 => exact (Kd.R_reads' HO_10.out).2.1); rintro e w21 ⟨v205, rfl, ho0, hb⟩; refine ⟨_, rfl, ?_⟩; have n0_ := Aside0.mk (Kd.R_elder' (by (with_reducible repeat (first | apply Kd.R_alloc | apply Kd.R_drewN | apply Kd.R_drew)); exact HO_9.out) (Kd.R_base ho0) hb); have n1_ := Aside0.mk (Kd.R_elder' (by (with_reducible repeat (first | apply Kd.R_alloc | apply Kd.R_drewN | apply Kd.R_drew)); exact HO_10.out) (Kd.R_base ho0) hb); have n2_ := Aside0.mk (Kd.R_elder' (by (with_reducible repeat (first | apply Kd.R_alloc | apply Kd.R_drewN | apply Kd.R_drew)); exact HO202.out) (Kd.R_base ho0) hb); have n3_ := Aside0.mk (Kd.R_lower (Kd.R_new' (Kd.R_new' (Kd.R_new' ho0 (Kd.R_lt (by (with_reducible repeat (first | apply Kd.R_alloc | apply Kd.R_drewN | apply Kd.R_drew)); exact HO_9.out))) (Kd.R_lt (by (with_reducible repeat (first | apply Kd.R_alloc | apply Kd.R_drewN | apply Kd.R_drew)); exact HO_10.out))) (Kd.R_lt (by (with_reducible repeat (first | apply Kd.R_alloc | apply Kd.R_drewN | apply Kd.R_drew)); exact HO202.out))) (below_size (by repeat (first | (with_reducible first | exact HB.out | apply below_alloc | apply pw_below_drewN | apply below_drew1) | exact HB.out)))); have n4_ := Aside0.mk (below_step (by repeat (first | (with_reducible first | exact HB.out | apply below_alloc | apply pw_below_drewN | apply below_drew1) | exact HB.out)) hb); clear HO_9; clear HO_10; clear HO202; clear HB; have HO_9 := n0_; have HO_10 := n1_; have HO202 := n2_; have HO206 := n3_; have HB := n4_; clear n0_ n1_ n2_ n3_ n4_; (try clear hb); (try clear hb2); (try clear hk); (try clear hi); (try clear ho0)))
                go_ret
                exact ⟨by first | rfl | (simp [errW_none, errW_some] <;> rfl) | (simp only [← hji8, ← hji10]; first | rfl | (simp [errW_none, errW_some] <;> rfl)) | (simp [*, errW_none, errW_some] <;> rfl), by repeat (first | (with_reducible first | exact HB.out | apply below_alloc | apply pw_below_drewN | apply below_drew1) | exact HB.out)⟩
            · rw [if_neg c12] at H
              have c12b0 : (t200 == 0) = false := beq_eq_false_iff_ne.mpr c12
              have c12b1 : (t200 != 0) = true := bne_iff_ne.mpr c12
              obtain rfl := Option.some.inj H
              have p198 : 0 ≤ (x11_1 : Int) := of_decide_eq_true (by first | (with_reducible assumption) | assumption)
              have q198 : x11_1 < (l0.length : Int) := of_decide_eq_true (by first | (with_reducible assumption) | assumption)
              obtain ⟨ad198, e198, hx198_0⟩ := Kd.at_int HR0.out x11_1 p198 q198
              cases e198
              replace hx198_0 := (HB.out.cell (World.block_lt_of_cell? w _ hx198_0)).trans hx198_0
              replace p198 := eq_true p198
              replace q198 := eq_true q198
              obtain ⟨Ao22, co22, eo22⟩ := Kd.R_slice HO_9.out
              subst eo22
              go_wp2_with (first | ((with_reducible refine gate_callee (f := 23) rfl ?_); refine goesL_ (some 57) rfl rfl Try.func23 (by kernel_rfl) rfl #[.slice Ao22 x9_1.length co22, .int .i64 (wrap64 ((wrap64 (1 + (wrap64 (Int.tmod (IntKind.u64.wrap (a1)) 1000)))) + x11_1)), .int .i64 ji8, .int .i64 (wrap64 (Int.tmod (IntKind.u64.wrap (rd l0 x11_1)) 1000))] rfl (by (try simp only [List.map_toArray, List.map_cons, List.map_nil]); first | done | (simp only [hji8]; rfl) | rfl | (simp only [List.length_drop, List.length_take]; rfl)) ?_; (with_reducible refine (keep_Push.calls k1 _ _ x9_1 (wrap64 ((wrap64 (1 + (wrap64 (Int.tmod (IntKind.u64.wrap (a1)) 1000)))) + x11_1)) ji8 (wrap64 (Int.tmod (IntKind.u64.wrap (rd l0 x11_1)) 1000)) t199 t200 _ ?side1 ?side2 A9.out).mono ?_); (case side1 => repeat (first | exact (Kd.R_reads' HO_9.out).2.2 | (with_reducible refine Kd.C_alloc ?_ _) | (with_reducible refine Kd.C_drewN ?_ _) | (with_reducible refine Kd.C_drew ?_))); (case side2 => exact (Kd.R_reads' HO_9.out).2.1); rintro e w23 ⟨v201, rfl, ho0, hb⟩; refine ⟨_, rfl, ?_⟩; have n0_ := Aside0.mk (Kd.R_elder' (by (with_reducible repeat (first | apply Kd.R_alloc | apply Kd.R_drewN | apply Kd.R_drew)); exact HO_9.out) (Kd.R_base ho0) hb); have n1_ := Aside0.mk (Kd.R_elder' (by (with_reducible repeat (first | apply Kd.R_alloc | apply Kd.R_drewN | apply Kd.R_drew)); exact HO_10.out) (Kd.R_base ho0) hb); have n2_ := Aside0.mk (Kd.R_lower (Kd.R_new' (Kd.R_new' ho0 (Kd.R_lt (by (with_reducible repeat (first | apply Kd.R_alloc | apply Kd.R_drewN | apply Kd.R_drew)); exact HO_9.out))) (Kd.R_lt (by (with_reducible repeat (first | apply Kd.R_alloc | apply Kd.R_drewN | apply Kd.R_drew)); exact HO_10.out))) (below_size (by repeat (first | (with_reducible first | exact HB.out | apply below_alloc | apply pw_below_drewN | apply below_drew1) | exact HB.out)))); have n3_ := Aside0.mk (below_step (by repeat (first | (with_reducible first | exact HB.out | apply below_alloc | apply pw_below_drewN | apply below_drew1) | exact HB.out)) hb); clear HO_9; clear HO_10; clear HB; have HO_9 := n0_; have HO_10 := n1_; have HO202 := n2_; have HB := n3_; clear n0_ n1_ n2_ n3_; (try clear hb); (try clear hb2); (try clear hk); (try clear hi); (try clear ho0); obtain ⟨Ao24, co24, eo24⟩ := Kd.R_slice HO_10.out; subst eo24) | ((with_reducible refine gate_callee (f := 23) rfl ?_); refine goesL_ (some 69) rfl rfl Try.func23 (by kernel_rfl) rfl #[.slice Ao24 x10_1.length co24, .int .i64 (wrap64 ((wrap64 (1 + (wrap64 (Int.tmod (IntKind.u64.wrap (a1)) 1000)))) + x11_1)), .int .i64 ji10, .int .i64 (wrap64 (Int.tmod (IntKind.u64.wrap (rd l0 x11_1)) 1000))] rfl (by (try simp only [List.map_toArray, List.map_cons, List.map_nil]); first | done | (simp only [hji10]; rfl) | rfl | (simp only [List.length_drop, List.length_take]; rfl)) ?_; (with_reducible refine (keep_Push.calls k1 _ _ x10_1 (wrap64 ((wrap64 (1 + (wrap64 (Int.tmod (IntKind.u64.wrap (a1)) 1000)))) + x11_1)) ji10 (wrap64 (Int.tmod (IntKind.u64.wrap (rd l0 x11_1)) 1000)) t203 t204 _ ?side1 ?side2 A11.out).mono ?_); (case side1 => repeat (first | exact (Kd.R_reads' HO_10.out).2.2 | (with_reducible refine Kd.C_alloc ?_ _) | (with_reducible refine Kd.C_drewN ?_ _) | (with_reducible refine Kd.C_drew ?_))); (case side2 => exact (Kd.R_reads' HO_10.out).2.1); rintro e w25 ⟨v205, rfl, ho0, hb⟩; refine ⟨_, rfl, ?_⟩; have n0_ := Aside0.mk (Kd.R_elder' (by (with_reducible repeat (first | apply Kd.R_alloc | apply Kd.R_drewN | apply Kd.R_drew)); exact HO_9.out) (Kd.R_base ho0) hb); have n1_ := Aside0.mk (Kd.R_elder' (by (with_reducible repeat (first | apply Kd.R_alloc | apply Kd.R_drewN | apply Kd.R_drew)); exact HO_10.out) (Kd.R_base ho0) hb); have n2_ := Aside0.mk (Kd.R_elder' (by (with_reducible repeat (first | apply Kd.R_alloc | apply Kd.R_drewN | apply Kd.R_drew)); exact HO202.out) (Kd.R_base ho0) hb); have n3_ := Aside0.mk (Kd.R_lower (Kd.R_new' (Kd.R_new' (Kd.R_new' ho0 (Kd.R_lt (by (with_reducible repeat (first | apply Kd.R_alloc | apply Kd.R_drewN | apply Kd.R_drew)); exact HO_9.out))) (Kd.R_lt (by (with_reducible repeat (first | apply Kd.R_alloc | apply Kd.R_drewN | apply Kd.R_drew)); exact HO_10.out))) (Kd.R_lt (by (with_reducible repeat (first | apply Kd.R_alloc | apply Kd.R_drewN | apply Kd.R_drew)); exact HO202.out))) (below_size (by repeat (first | (with_reducible first | exact HB.out | apply below_alloc | apply pw_below_drewN | apply below_drew1) | exact HB.out)))); have n4_ := Aside0.mk (below_step (by repeat (first | (with_reducible first | exact HB.out | apply below_alloc | apply pw_below_drewN | apply below_drew1) | exact HB.out)) hb); clear HO_9; clear HO_10; clear HO202; clear HB; have HO_9 := n0_; have HO_10 := n1_; have HO202 := n2_; have HO206 := n3_; have HB := n4_; clear n0_ n1_ n2_ n3_ n4_; (try clear hb); (try clear hb2); (try clear hk); (try clear hi); (try clear ho0)))
              go_ret
              exact ⟨by first | rfl | (simp [errW_none, errW_some] <;> rfl) | (simp only [← hji8, ← hji10]; first | rfl | (simp [errW_none, errW_some] <;> rfl)) | (simp [*, errW_none, errW_some] <;> rfl), by repeat (first | (with_reducible first | exact HB.out | apply below_alloc | apply pw_below_drewN | apply below_drew1) | exact HB.out)⟩
          · rw [if_neg c7] at H
            exact absurd H (by simp)
        · rw [if_neg c6] at H
          have c6b0 : decide (x11_1 < (l0.length : Int)) = false := decide_eq_false c6
          clear c6
          by_cases c26 : (x9_1.length : Int) ≤ (x10_1.length : Int)
          · rw [if_pos c26] at H
            have c26b0 : decide ((x9_1.length : Int) ≤ (x10_1.length : Int)) = true := decide_eq_true c26
            have c26b1 : decide (x9_1.length ≤ x10_1.length) = true := decide_eq_true (Int.ofNat_le.mp c26)
            clear c26
            obtain ⟨ji27, hji27⟩ : ∃ j_ : Int, (mn (wrap64 (1 + (wrap64 (Int.tmod (IntKind.u64.wrap (a2)) 16)))) (wrap64 (1 + (wrap64 (Int.tmod (IntKind.u64.wrap (a3)) 16))))) = j_ := ⟨_, rfl⟩
            replace H : (if (x9_1.length : Int) = (mn (ji27) (l0.length : Int)) then (if 0 ≤ (wrap64 ((x10_1.length : Int) - (x9_1.length : Int))) then (if (wrap64 ((x10_1.length : Int) - (x9_1.length : Int))) ≤ (x10_1.length : Int) then ((bellwetherkeep_Items.f k1 (x10_1.drop ((wrap64 ((x10_1.length : Int) - (x9_1.length : Int))) : Int).toNat) x9_1).bind fun t196 => (if t196 = true then ((bellwetherlaw15_wakes.f k1).bind fun t197 => (some t197)) else (some false))) else (none)) else (none)) else (some false)) = some r := by first | (rw [hji27] at H; exact H) | (simp only [hji27] at H ⊢; exact H)
            have hji27_ : (if (wrap64 (1 + (wrap64 (Int.tmod (IntKind.u64.wrap (a3)) 16)))) < (wrap64 (1 + (wrap64 (Int.tmod (IntKind.u64.wrap (a2)) 16)))) then (wrap64 (1 + (wrap64 (Int.tmod (IntKind.u64.wrap (a3)) 16)))) else (wrap64 (1 + (wrap64 (Int.tmod (IntKind.u64.wrap (a2)) 16))))) = ji27 := hji27
            obtain ⟨ji28, hji28⟩ : ∃ j_ : Int, (mn (ji27) (l0.length : Int)) = j_ := ⟨_, rfl⟩
            replace H : (if (x9_1.length : Int) = (ji28) then (if 0 ≤ (wrap64 ((x10_1.length : Int) - (x9_1.length : Int))) then (if (wrap64 ((x10_1.length : Int) - (x9_1.length : Int))) ≤ (x10_1.length : Int) then ((bellwetherkeep_Items.f k1 (x10_1.drop ((wrap64 ((x10_1.length : Int) - (x9_1.length : Int))) : Int).toNat) x9_1).bind fun t196 => (if t196 = true then ((bellwetherlaw15_wakes.f k1).bind fun t197 => (some t197)) else (some false))) else (none)) else (none)) else (some false)) = some r := by first | (rw [hji28] at H; exact H) | (simp only [hji28] at H ⊢; exact H)
            have hji28_ : (if (l0.length : Int) < (ji27) then (l0.length : Int) else (ji27)) = ji28 := hji28
            by_cases c29 : (x9_1.length : Int) = (ji28)
            · rw [if_pos c29] at H
              have c29b0 : ((x9_1.length : Int) == (ji28)) = true := beq_iff_eq.mpr c29
              have c29b1 : ((x9_1.length : Int) != (ji28)) = false := bne_eq_false_iff_eq.mpr c29
              clear c29
              obtain ⟨ji30, hji30⟩ : ∃ j_ : Int, (wrap64 ((x10_1.length : Int) - (x9_1.length : Int))) = j_ := ⟨_, rfl⟩
              replace H : (if 0 ≤ (ji30) then (if (ji30) ≤ (x10_1.length : Int) then ((bellwetherkeep_Items.f k1 (x10_1.drop ((ji30) : Int).toNat) x9_1).bind fun t196 => (if t196 = true then ((bellwetherlaw15_wakes.f k1).bind fun t197 => (some t197)) else (some false))) else (none)) else (none)) = some r := by first | (rw [hji30] at H; exact H) | (simp only [hji30] at H ⊢; exact H)
              have hji30w : (IntKind.i64.wrap ((x10_1.length : Int) - (x9_1.length : Int))) = ji30 := (i64_w _).trans hji30
              by_cases c31 : 0 ≤ (ji30)
              · rw [if_pos c31] at H
                have c31b0 := eq_true c31
                have c31b1 : decide (0 ≤ (ji30)) = true := decide_eq_true c31
                clear c31
                by_cases c32 : (ji30) ≤ (x10_1.length : Int)
                · rw [if_pos c32] at H
                  have c32b0 := eq_true c32
                  have c32b1 : decide ((ji30) ≤ (x10_1.length : Int)) = true := decide_eq_true c32
                  clear c32
                  obtain ⟨y192, hy192⟩ : ∃ y_ : List (S51), y_ = (x10_1.drop ((ji30) : Int).toNat) := ⟨_, rfl⟩
                  replace H : ((bellwetherkeep_Items.f k1 y192 x9_1).bind fun t196 => (if t196 = true then ((bellwetherlaw15_wakes.f k1).bind fun t197 => (some t197)) else (some false))) = some r := by first | (rw [hy192]; with_reducible exact H) | (have H2_ := (Option.bind_some _ _).symm.trans H; rw [hy192]; with_reducible exact H2_) | (have H2_ := (Option.bind_some _ _).symm.trans H; with_reducible exact H2_) | with_reducible exact H | (rw [hy192]; exact H) | exact H
                  have Ny192 := Aside0.mk hy192
                  clear hy192
                  replace H := Option.bind_eq_some_iff.mp H
                  obtain ⟨t196, A330, H⟩ := H
                  replace H : (if t196 = true then ((bellwetherlaw15_wakes.f k1).bind fun t197 => (some t197)) else (some false)) = some r := H
                  have A33 := Aside0.mk A330
                  clear A330
                  by_cases c34 : t196 = true
                  · subst c34
                    have H1 : ((bellwetherlaw15_wakes.f k1).bind fun t197 => (some t197)) = some r := by rw [if_pos rfl] at H; exact H
                    clear H
                    have H := H1
                    clear H1
                    replace H := Option.bind_eq_some_iff.mp H
                    obtain ⟨t197, A350, H⟩ := H
                    replace H : (some t197) = some r := H
                    have A35 := Aside0.mk A350
                    clear A350
                    obtain rfl := Option.some.inj H
                    obtain ⟨Ao36, co36, eo36⟩ := Kd.R_slice HO_9.out
                    subst eo36
                    obtain ⟨Ao37, co37, eo37⟩ := Kd.R_slice HO_10.out
                    subst eo37
                    have q38 : ((ji30) : Int) ≤ ((x10_1.length : Int) : Int) := of_decide_eq_true (by first | (with_reducible assumption) | assumption)
                    obtain ⟨i038, hi038, _, hsz38, _⟩ := info_parts info51
                    have hroom38 : x10_1.length ≤ co37 := (Kd.R_reads' HO_10.out).2.1
                    have hC38 : Kd.C k51 _ Ao37 x10_1.length x10_1 := (Kd.R_reads' HO_10.out).2.2
                    have q038 : (0 : Int) ≤ ((ji30) : Int) := of_decide_eq_true (by first | (with_reducible assumption) | assumption)
                    have hcut38 := cut_from (P := Try.prog) 35 51 .i64 Try.underlying35 hi038 2 hsz38 Ao37 x10_1.length co37 (ji30) q038 q38
                    have hr38 := Kd.C_drop (m := ((ji30) : Int).toNat) (c := co37) hC38 (by omega) hroom38
                    obtain ⟨A38, hA38⟩ : ∃ A1, A1 = (if co37 = ((ji30) : Int).toNat then Ao37 else (Ao37 : Option Addr).map (·.add (((ji30) : Int).toNat * 2))) := ⟨_, rfl⟩
                    obtain ⟨c38, hc38⟩ : ∃ c1, c1 = co37 - ((ji30) : Int).toNat := ⟨_, rfl⟩
                    have hy38 : y192.length = x10_1.length - ((ji30) : Int).toNat := (by rw [Ny192.out, List.length_drop] <;> omega)
                    rw [show (x10_1).drop ((ji30) : Int).toNat = y192 from Ny192.out.symm] at hr38
                    replace hr38 : Kd.C k51 _ A38 y192.length y192 := (by rw [hA38]; exact hr38)
                    rw [← hy38, ← hA38, ← hc38] at hcut38
                    have HR195 := Aside0.mk hr38
                    have HC195 := Aside0.mk (show y192.length ≤ c38 from by rw [hy38, hc38]; exact Nat.sub_le_sub_right hroom38 _)
                    clear hr38 hC38 hroom38 hi038 hsz38 hc38
                    have KY38 := Aside0.mk hy38
                    have KA38 := Aside0.mk hA38
                    clear hy38 hA38
                    have KL38 := Aside0.mk (show ((ji30) : Int).toNat ≤ x10_1.length from by omega)
                    replace q38 := eq_true q38
                    go_wp2_with (first | (go_at_call 25; (with_reducible refine (bellwetherkeep_Items.calls k1 _ _ y192 _ _ x9_1 true _ ?side1 ?side2 ?side3 ?side4 A33.out).mono ?_); (case side1 => repeat (first | exact (by repeat (first | (with_reducible exact HR195.out) | (with_reducible refine Kd.C_alloc ?_ _) | (with_reducible refine Kd.C_drewN ?_ _) | (with_reducible refine Kd.C_drew ?_) | exact HR195.out)) | (with_reducible refine Kd.C_alloc ?_ _) | (with_reducible refine Kd.C_drewN ?_ _) | (with_reducible refine Kd.C_drew ?_))); (case side2 => exact HC195.out); (case side3 => repeat (first | exact (Kd.R_reads' HO_9.out).2.2 | (with_reducible refine Kd.C_alloc ?_ _) | (with_reducible refine Kd.C_drewN ?_ _) | (with_reducible refine Kd.C_drew ?_))); (case side4 => exact (Kd.R_reads' HO_9.out).2.1); rintro e w' ⟨rfl, ⟨nd, rfl⟩⟩) | (go_at_call 28; (with_reducible refine (bellwetherlaw15_wakes.calls k1  t197 _ A35.out).mono ?_); rintro e w39 ⟨rfl, hb⟩; have n0_ := Aside0.mk (Kd.R_below (by (with_reducible repeat (first | apply Kd.R_alloc | apply Kd.R_drewN | apply Kd.R_drew)); exact HO_9.out) hb); have n1_ := Aside0.mk (Kd.R_below (by (with_reducible repeat (first | apply Kd.R_alloc | apply Kd.R_drewN | apply Kd.R_drew)); exact HO_10.out) hb); have n2_ := Aside0.mk (Kd.C_below (by repeat (first | (with_reducible exact HR195.out) | (with_reducible refine Kd.C_alloc ?_ _) | (with_reducible refine Kd.C_drewN ?_ _) | (with_reducible refine Kd.C_drew ?_) | exact HR195.out)) hb); have n3_ := Aside0.mk (below_step (by repeat (first | (with_reducible first | exact HB.out | apply below_alloc | apply pw_below_drewN | apply below_drew1) | exact HB.out)) hb); clear HO_9; clear HO_10; clear HR195; clear HB; have HO_9 := n0_; have HO_10 := n1_; have HR195 := n2_; have HB := n3_; clear n0_ n1_ n2_ n3_; (try clear hb); (try clear hb2); (try clear hk); (try clear hi)))
                    go_ret
                    exact ⟨by first | rfl | (simp [errW_none, errW_some] <;> rfl) | (simp only [← hji27, ← hji28, ← hji30]; first | rfl | (simp [errW_none, errW_some] <;> rfl)) | (simp [*, errW_none, errW_some] <;> rfl), by repeat (first | (with_reducible first | exact HB.out | apply below_alloc | apply pw_below_drewN | apply below_drew1) | exact HB.out)⟩
                  · replace c34 := Bool.eq_false_iff.mpr c34
                    subst c34
                    have H1 : (some false) = some r := by rw [if_neg (show ¬ (false = true) by decide)] at H; exact H
                    clear H
                    have H := H1
                    clear H1
                    obtain rfl := Option.some.inj H
                    obtain ⟨Ao40, co40, eo40⟩ := Kd.R_slice HO_9.out
                    subst eo40
                    obtain ⟨Ao41, co41, eo41⟩ := Kd.R_slice HO_10.out
                    subst eo41
                    have q42 : ((ji30) : Int) ≤ ((x10_1.length : Int) : Int) := of_decide_eq_true (by first | (with_reducible assumption) | assumption)
                    obtain ⟨i042, hi042, _, hsz42, _⟩ := info_parts info51
                    have hroom42 : x10_1.length ≤ co41 := (Kd.R_reads' HO_10.out).2.1
                    have hC42 : Kd.C k51 _ Ao41 x10_1.length x10_1 := (Kd.R_reads' HO_10.out).2.2
                    have q042 : (0 : Int) ≤ ((ji30) : Int) := of_decide_eq_true (by first | (with_reducible assumption) | assumption)
                    have hcut42 := cut_from (P := Try.prog) 35 51 .i64 Try.underlying35 hi042 2 hsz42 Ao41 x10_1.length co41 (ji30) q042 q42
                    have hr42 := Kd.C_drop (m := ((ji30) : Int).toNat) (c := co41) hC42 (by omega) hroom42
                    obtain ⟨A42, hA42⟩ : ∃ A1, A1 = (if co41 = ((ji30) : Int).toNat then Ao41 else (Ao41 : Option Addr).map (·.add (((ji30) : Int).toNat * 2))) := ⟨_, rfl⟩
                    obtain ⟨c42, hc42⟩ : ∃ c1, c1 = co41 - ((ji30) : Int).toNat := ⟨_, rfl⟩
                    have hy42 : y192.length = x10_1.length - ((ji30) : Int).toNat := (by rw [Ny192.out, List.length_drop] <;> omega)
                    rw [show (x10_1).drop ((ji30) : Int).toNat = y192 from Ny192.out.symm] at hr42
                    replace hr42 : Kd.C k51 _ A42 y192.length y192 := (by rw [hA42]; exact hr42)
                    rw [← hy42, ← hA42, ← hc42] at hcut42
                    have HR195 := Aside0.mk hr42
                    have HC195 := Aside0.mk (show y192.length ≤ c42 from by rw [hy42, hc42]; exact Nat.sub_le_sub_right hroom42 _)
                    clear hr42 hC42 hroom42 hi042 hsz42 hc42
                    have KY42 := Aside0.mk hy42
                    have KA42 := Aside0.mk hA42
                    clear hy42 hA42
                    have KL42 := Aside0.mk (show ((ji30) : Int).toNat ≤ x10_1.length from by omega)
                    replace q42 := eq_true q42
                    go_wp2_with (first | (go_at_call 25; (with_reducible refine (bellwetherkeep_Items.calls k1 _ _ y192 _ _ x9_1 false _ ?side1 ?side2 ?side3 ?side4 A33.out).mono ?_); (case side1 => repeat (first | exact (by repeat (first | (with_reducible exact HR195.out) | (with_reducible refine Kd.C_alloc ?_ _) | (with_reducible refine Kd.C_drewN ?_ _) | (with_reducible refine Kd.C_drew ?_) | exact HR195.out)) | (with_reducible refine Kd.C_alloc ?_ _) | (with_reducible refine Kd.C_drewN ?_ _) | (with_reducible refine Kd.C_drew ?_))); (case side2 => exact HC195.out); (case side3 => repeat (first | exact (Kd.R_reads' HO_9.out).2.2 | (with_reducible refine Kd.C_alloc ?_ _) | (with_reducible refine Kd.C_drewN ?_ _) | (with_reducible refine Kd.C_drew ?_))); (case side4 => exact (Kd.R_reads' HO_9.out).2.1); rintro e w' ⟨rfl, ⟨nd, rfl⟩⟩))
                    go_ret
                    exact ⟨by first | rfl | (simp [errW_none, errW_some] <;> rfl) | (simp only [← hji27, ← hji28, ← hji30]; first | rfl | (simp [errW_none, errW_some] <;> rfl)) | (simp [*, errW_none, errW_some] <;> rfl), by repeat (first | (with_reducible first | exact HB.out | apply below_alloc | apply pw_below_drewN | apply below_drew1) | exact HB.out)⟩
                · rw [if_neg c32] at H
                  exact absurd H (by simp)
              · rw [if_neg c31] at H
                exact absurd H (by simp)
            · rw [if_neg c29] at H
              have c29b0 : ((x9_1.length : Int) == (ji28)) = false := beq_eq_false_iff_ne.mpr c29
              have c29b1 : ((x9_1.length : Int) != (ji28)) = true := bne_iff_ne.mpr c29
              obtain rfl := Option.some.inj H
              obtain ⟨Ao43, co43, eo43⟩ := Kd.R_slice HO_9.out
              subst eo43
              obtain ⟨Ao44, co44, eo44⟩ := Kd.R_slice HO_10.out
              subst eo44
              go_wp2
              go_ret
              exact ⟨by first | rfl | (simp [errW_none, errW_some] <;> rfl) | (simp only [← hji27, ← hji28]; first | rfl | (simp [errW_none, errW_some] <;> rfl)) | (simp [*, errW_none, errW_some] <;> rfl), by repeat (first | (with_reducible first | exact HB.out | apply below_alloc | apply pw_below_drewN | apply below_drew1) | exact HB.out)⟩
          · rw [if_neg c26] at H
            have c26b0 : decide ((x9_1.length : Int) ≤ (x10_1.length : Int)) = false := decide_eq_false c26
            have c26b1 : decide (x9_1.length ≤ x10_1.length) = false := decide_eq_false (fun h => c26 (Int.ofNat_le.mpr h))
            clear c26
            obtain rfl := Option.some.inj H
            obtain ⟨Ao45, co45, eo45⟩ := Kd.R_slice HO_9.out
            subst eo45
            obtain ⟨Ao46, co46, eo46⟩ := Kd.R_slice HO_10.out
            subst eo46
            go_wp2
            go_ret
            exact ⟨by first | rfl | (simp [errW_none, errW_some] <;> rfl) | (simp [*, errW_none, errW_some] <;> rfl), by repeat (first | (with_reducible first | exact HB.out | apply below_alloc | apply pw_below_drewN | apply below_drew1) | exact HB.out)⟩

/-- THE ONE PURE STATEMENT of bellwetherlaw15_KeepMore. -/
def bellwetherlaw15_KeepMore.Pure : Prop := ∀ (l0 : List Int) (a1 : Int) (a2 : Int) (a3 : Int), (l0.length * 8 ≤ 140737488351232 ∧ ∀ y_ ∈ l0, (Lit.int .i64 y_).wf = true) → (Lit.int .i64 a1).wf = true → (Lit.int .i64 a2).wf = true → (Lit.int .i64 a3).wf = true → ∃ k, bellwetherlaw15_KeepMore.f k l0 a1 a2 a3 = some true

/-! ### bellwetherkeep_TwinItems: function 22 -/
def bellwetherkeep_TwinItems.f (l0 : List (S51)) : Option ((List (S51))) := if ([] : List (S51)).length + l0.length < 8796093022208 then (some (([] : List (S51)) ++ l0)) else (none)
set_option maxHeartbeats 8000000 in
set_option maxRecDepth 100000 in
theorem bellwetherkeep_TwinItems.calls (A0 : Option Addr) (c0 : Nat) (l0 : List (S51)) (r : List (S51)) (w : World) (hr0 : Kd.C k51 w A0 l0.length l0) (hc0 : l0.length ≤ c0) (h : bellwetherkeep_TwinItems.f l0 = some r) :
    Calls Try.prog 22 #[.slice A0 l0.length c0] w fun e w' => ∃ v0_ : Value, e = .returned (v0_) ∧ Kd.R k51 51 w' w.heap.size (fun _ => True) v0_ r ∧ Below w.heap.size w w' := by
  have HR0 := Aside0.mk hr0
  have HC0 := Aside0.mk hc0
  clear hr0 hc0
  have HB := Aside0.mk (Below.refl w.heap.size w)
  have H : (if ([] : List (S51)).length + l0.length < 8796093022208 then (some (([] : List (S51)) ++ l0)) else (none)) = some r := h
  clear h
  by_cases c2 : ([] : List (S51)).length + l0.length < 8796093022208
  · rw [if_pos c2] at H
    have LMc2 := Aside0.mk c2
    clear c2
    obtain ⟨y207, hy207⟩ : ∃ y_ : List (S51), y_ = (([] : List (S51)) ++ l0) := ⟨_, rfl⟩
    replace H : (some y207) = some r := by first | (rw [hy207]; with_reducible exact H) | (have H2_ := (Option.bind_some _ _).symm.trans H; rw [hy207]; with_reducible exact H2_) | (have H2_ := (Option.bind_some _ _).symm.trans H; with_reducible exact H2_) | with_reducible exact H | (rw [hy207]; exact H) | exact H
    have Ny207 := Aside0.mk hy207
    clear hy207
    obtain rfl := Option.some.inj H
    go_enter Try.func22, Try.ntmps22
    go_wp2_with (first | ((with_reducible refine gate_builtin (b := .append) (xs := #[.tmp 4, .tmp 5]) rfl ?_); at_builtin; refine Kd.R_append_rows k51 (w0 := w) w.heap.size rfl (.tmp 4) (.tmp 5) 35 51 (.agg #[(.int .i64 0), (.int .i64 0)]) 16 rfl Try.underlying35 info51 rfl (by decide) (by omega) (.slice none 0 0) ([] : List (S51)) l0 _ _ _ (fun _ => True) (fun _ => False) rfl rfl ?aO ?aR (fun _ _ h => h) (fun _ h => h.elim) ?aF ?aB ?aS ?aL ?_; (case aR => repeat (first | exact HR0.out | (with_reducible refine Kd.C_alloc ?_ _) | (with_reducible refine Kd.C_drewN ?_ _) | (with_reducible refine Kd.C_drew ?_))); (case aB => exact (by repeat (first | (with_reducible first | exact HB.out | apply below_alloc | apply pw_below_drewN | apply below_drew1) | exact HB.out))); (case aF => exact (fun _ _ => trivial)); (case aO => exact ((Kd.R_nil _ _ _ _ (fun _ => True)))); (case aS => exact (below_size (by repeat (first | (with_reducible first | exact HB.out | apply below_alloc | apply pw_below_drewN | apply below_drew1) | exact HB.out)))); (case aL => have := LMc2.out; omega); intro v208 w3 ho hb hg hat; rw [← Ny207.out] at ho; have n0_ := Aside0.mk (hb); have n1_ := Aside0.mk (ho); clear HB; have HB := n0_; have HO209 := n1_; clear n0_ n1_; clear ho hb hg hat))
    go_ret
    exact ⟨_, by first | rfl | (simp [errW_none, errW_some] <;> rfl) | (simp [*, errW_none, errW_some] <;> rfl), by (with_reducible repeat (first | apply Kd.R_alloc | apply Kd.R_drewN | apply Kd.R_drew)); exact HO209.out, by repeat (first | (with_reducible first | exact HB.out | apply below_alloc | apply pw_below_drewN | apply below_drew1) | exact HB.out)⟩
  · rw [if_neg c2] at H
    exact absurd H (by simp)

/-! ### bellwetherref01_In: function 43 -/
def bellwetherref01_In.f (a0 : Int) (a1 : Int) (a2 : Int) : Option (Bool) := if a0 ≥ a1 then (some (decide (a0 ≤ a2))) else (some false)
set_option maxHeartbeats 8000000 in
set_option maxRecDepth 100000 in
theorem bellwetherref01_In.calls (a0 : Int) (a1 : Int) (a2 : Int) (r : Bool) (w : World) (h : bellwetherref01_In.f a0 a1 a2 = some r) :
    Calls Try.prog 43 #[.int .i64 a0, .int .i64 a1, .int .i64 a2] w fun e w' => e = .returned (.bool r) ∧ Drawn0 w w' := by
  have H : (if a0 ≥ a1 then (some (decide (a0 ≤ a2))) else (some false)) = some r := h
  clear h
  by_cases c4 : a0 ≥ a1
  · rw [if_pos c4] at H
    have c4b0 : decide (a1 ≤ a0) = true := decide_eq_true c4
    clear c4
    obtain rfl := Option.some.inj H
    go_enter Try.func43, Try.ntmps43
    go_wp2
    go_ret
    exact ⟨by first | rfl | (simp; done) | (simp [*]; done), by repeat (first | exact Drawn0.refl _ | apply Drawn0.step)⟩
  · rw [if_neg c4] at H
    have c4b0 : decide (a1 ≤ a0) = false := decide_eq_false c4
    clear c4
    obtain rfl := Option.some.inj H
    go_enter Try.func43, Try.ntmps43
    go_wp2
    go_ret
    exact ⟨by first | rfl | (simp; done) | (simp [*]; done), by repeat (first | exact Drawn0.refl _ | apply Drawn0.step)⟩

/-! ### bellwetherref01_Value: function 29 -/
def bellwetherref01_Value.f (a0 : Int) : Option (Bool) := (bellwetherref01_In.f a0 0 2147483647).bind fun t210 => (some t210)
set_option maxHeartbeats 8000000 in
set_option maxRecDepth 100000 in
theorem bellwetherref01_Value.calls (a0 : Int) (r : Bool) (w : World) (h : bellwetherref01_Value.f a0 = some r) :
    Calls Try.prog 29 #[.int .i64 a0] w fun e w' => e = .returned (.bool r) ∧ Drawn0 w w' := by
  have H : ((bellwetherref01_In.f a0 0 2147483647).bind fun t210 => (some t210)) = some r := h
  clear h
  replace H := Option.bind_eq_some_iff.mp H
  obtain ⟨t210, A20, H⟩ := H
  replace H : (some t210) = some r := H
  have A2 := Aside0.mk A20
  clear A20
  obtain rfl := Option.some.inj H
  go_enter Try.func29, Try.ntmps29
  go_wp2_with (first | ((with_reducible refine gate_callee (f := 43) rfl ?_); refine goesL_ (some 4) rfl rfl Try.func43 (by kernel_rfl) rfl #[.int .i64 a0, .int .i64 0, .int .i64 2147483647] rfl (by (try simp only [List.map_toArray, List.map_cons, List.map_nil]); first | done | rfl | (simp only [List.length_drop, List.length_take]; rfl)) ?_; (with_reducible refine (bellwetherref01_In.calls a0 0 2147483647 t210 _ A2.out).mono ?_); rintro e w' ⟨rfl, ⟨nd, rfl⟩⟩; refine ⟨_, rfl, ?_⟩))
  go_ret
  exact ⟨by first | rfl | (simp; done) | (simp [*]; done), by repeat (first | exact Drawn0.refl _ | apply Drawn0.step)⟩

/-! ### bellwetherref10_in: function 50 -/
def bellwetherref10_in.f (a0 : Int) (a1 : Int) (a2 : Int) : Option (Bool) := if a0 ≥ a1 then (some (decide (a0 ≤ a2))) else (some false)
set_option maxHeartbeats 8000000 in
set_option maxRecDepth 100000 in
theorem bellwetherref10_in.calls (a0 : Int) (a1 : Int) (a2 : Int) (r : Bool) (w : World) (h : bellwetherref10_in.f a0 a1 a2 = some r) :
    Calls Try.prog 50 #[.int .i64 a0, .int .i64 a1, .int .i64 a2] w fun e w' => e = .returned (.bool r) ∧ Drawn0 w w' := by
  have H : (if a0 ≥ a1 then (some (decide (a0 ≤ a2))) else (some false)) = some r := h
  clear h
  by_cases c4 : a0 ≥ a1
  · rw [if_pos c4] at H
    have c4b0 : decide (a1 ≤ a0) = true := decide_eq_true c4
    clear c4
    obtain rfl := Option.some.inj H
    go_enter Try.func50, Try.ntmps50
    go_wp2
    go_ret
    exact ⟨by first | rfl | (simp; done) | (simp [*]; done), by repeat (first | exact Drawn0.refl _ | apply Drawn0.step)⟩
  · rw [if_neg c4] at H
    have c4b0 : decide (a1 ≤ a0) = false := decide_eq_false c4
    clear c4
    obtain rfl := Option.some.inj H
    go_enter Try.func50, Try.ntmps50
    go_wp2
    go_ret
    exact ⟨by first | rfl | (simp; done) | (simp [*]; done), by repeat (first | exact Drawn0.refl _ | apply Drawn0.step)⟩

/-! ### bellwetherref10_Kept: function 26 -/
mutual
def bellwetherref10_Kept.j0 : Nat → List (S51) → Int → Bool → Option (Bool)
  | 0, _, _, _ => none
  | k + 1, x0, x1, x27 => if x27 = true then (some false) else (bellwetherref10_Kept.l0 k x0 x1 0)
def bellwetherref10_Kept.l0 : Nat → List (S51) → Int → Int → Option (Bool)
  | 0, _, _, _ => none
  | k + 1, x0, x1, x7 => if x7 < (x0.length : Int) then (if 0 ≤ x7 then (if ((rd_T51 x0 x7).f0) = (wrap64 ((wrap64 (x1 - (x0.length : Int))) + x7)) then ((bellwetherref01_Value.f ((rd_T51 x0 x7).f1)).bind fun t215 => (if t215 = true then (bellwetherref10_Kept.l0 k x0 x1 (wrap64 (x7 + 1))) else (some false))) else (some false)) else (none)) else (some true)
end
def bellwetherref10_Kept.f (k : Nat) (l0 : List (S51)) (a1 : Int) (a2 : Int) : Option (Bool) := (bellwetherref10_in.f a1 1 1073741824).bind fun t211 => (if t211 = true then ((bellwetherref10_in.f a2 1 16).bind fun t212 => (if t212 = true then (if (l0.length : Int) > a2 then (bellwetherref10_Kept.j0 k l0 a1 true) else (bellwetherref10_Kept.j0 k l0 a1 (decide ((l0.length : Int) ≥ a1)))) else (bellwetherref10_Kept.j0 k l0 a1 true))) else (bellwetherref10_Kept.j0 k l0 a1 true))
theorem bellwetherref10_Kept.mono_l : ∀ k, (∀ y0 y1 y2, LeO (bellwetherref10_Kept.j0 k y0 y1 y2) (bellwetherref10_Kept.j0 (k + 1) y0 y1 y2)) ∧ (∀ y0 y1 y2, LeO (bellwetherref10_Kept.l0 k y0 y1 y2) (bellwetherref10_Kept.l0 (k + 1) y0 y1 y2))
  | 0 => ⟨fun _ _ _ r h => by simp [bellwetherref10_Kept.j0] at h, fun _ _ _ r h => by simp [bellwetherref10_Kept.l0] at h⟩
  | k + 1 => by
    obtain ⟨ih0, ih1⟩ := bellwetherref10_Kept.mono_l k
    refine ⟨?_, ?_⟩
    · intro y0 y1 y2
      unfold bellwetherref10_Kept.j0
      repeat' first
      | (with_reducible exact ih0 _ _ _)
      | (with_reducible exact ih1 _ _ _)
      | (with_reducible exact LeO.refl _)
      | (with_reducible exact LeO.none _)
      | (with_reducible refine LeO.ite ?_ ?_)
      | (with_reducible refine LeO.bind ?_ (fun _ => ?_))
      | exact ih0 _ _ _
      | exact ih1 _ _ _
      | exact LeO.none _
      | refine LeO.ite ?_ ?_
      | refine LeO.bind ?_ (fun _ => ?_)
    · intro y0 y1 y2
      unfold bellwetherref10_Kept.l0
      repeat' first
      | (with_reducible exact ih0 _ _ _)
      | (with_reducible exact ih1 _ _ _)
      | (with_reducible exact LeO.refl _)
      | (with_reducible exact LeO.none _)
      | (with_reducible refine LeO.ite ?_ ?_)
      | (with_reducible refine LeO.bind ?_ (fun _ => ?_))
      | exact ih0 _ _ _
      | exact ih1 _ _ _
      | exact LeO.none _
      | refine LeO.ite ?_ ?_
      | refine LeO.bind ?_ (fun _ => ?_)
theorem bellwetherref10_Kept.mono : ∀ a0 a1 a2 k, LeO (bellwetherref10_Kept.f k a0 a1 a2) (bellwetherref10_Kept.f (k + 1) a0 a1 a2) := by
  intro a0 a1 a2 k
  obtain ⟨ih0, ih1⟩ := bellwetherref10_Kept.mono_l k
  unfold bellwetherref10_Kept.f
  repeat' first
      | (with_reducible exact ih0 _ _ _)
      | (with_reducible exact ih1 _ _ _)
      | (with_reducible exact LeO.refl _)
      | (with_reducible exact LeO.none _)
      | (with_reducible refine LeO.ite ?_ ?_)
      | (with_reducible refine LeO.bind ?_ (fun _ => ?_))
      | exact ih0 _ _ _
      | exact ih1 _ _ _
      | exact LeO.none _
      | refine LeO.ite ?_ ?_
      | refine LeO.bind ?_ (fun _ => ?_)
set_option maxHeartbeats 8000000 in
set_option maxRecDepth 100000 in
theorem bellwetherref10_Kept.calls (k : Nat) (A0 : Option Addr) (c0 : Nat) (l0 : List (S51)) (a1 : Int) (a2 : Int) (r : Bool) (w : World) (hr0 : Kd.C k51 w A0 l0.length l0) (hc0 : l0.length ≤ c0) (h : bellwetherref10_Kept.f k l0 a1 a2 = some r) :
    Calls Try.prog 26 #[.slice A0 l0.length c0, .int .i64 a1, .int .i64 a2] w fun e w' => e = .returned (.bool r) ∧ Drawn0 w w' := by
  have HR0 := Aside0.mk hr0
  have HC0 := Aside0.mk hc0
  clear hr0 hc0
  have H : ((bellwetherref10_in.f a1 1 1073741824).bind fun t211 => (if t211 = true then ((bellwetherref10_in.f a2 1 16).bind fun t212 => (if t212 = true then (if (l0.length : Int) > a2 then (bellwetherref10_Kept.j0 k l0 a1 true) else (bellwetherref10_Kept.j0 k l0 a1 (decide ((l0.length : Int) ≥ a1)))) else (bellwetherref10_Kept.j0 k l0 a1 true))) else (bellwetherref10_Kept.j0 k l0 a1 true))) = some r := h
  clear h
  have HC4 := Aside0.mk H
  clear H
  go_enter Try.func26, Try.ntmps26
  go_upto_region 1 with (fail)
  go_cut [27] (fun v27 wc => ∃ (kq : Nat) (x27_3 : Bool), v27 = .bool x27_3 ∧ Aside0 (bellwetherref10_Kept.j0 kq l0 a1 x27_3 = some r) ∧ Aside0 (kq ≤ k) ∧ Drawn0 w wc)
  case first =>
    have H := HC4.out
    clear HC4
    replace H := Option.bind_eq_some_iff.mp H
    obtain ⟨t211, A50, H⟩ := H
    replace H : (if t211 = true then ((bellwetherref10_in.f a2 1 16).bind fun t212 => (if t212 = true then (if (l0.length : Int) > a2 then (bellwetherref10_Kept.j0 k l0 a1 true) else (bellwetherref10_Kept.j0 k l0 a1 (decide ((l0.length : Int) ≥ a1)))) else (bellwetherref10_Kept.j0 k l0 a1 true))) else (bellwetherref10_Kept.j0 k l0 a1 true)) = some r := H
    have A5 := Aside0.mk A50
    clear A50
    by_cases c6 : t211 = true
    · subst c6
      have H1 : ((bellwetherref10_in.f a2 1 16).bind fun t212 => (if t212 = true then (if (l0.length : Int) > a2 then (bellwetherref10_Kept.j0 k l0 a1 true) else (bellwetherref10_Kept.j0 k l0 a1 (decide ((l0.length : Int) ≥ a1)))) else (bellwetherref10_Kept.j0 k l0 a1 true))) = some r := by rw [if_pos rfl] at H; exact H
      clear H
      have H := H1
      clear H1
      replace H := Option.bind_eq_some_iff.mp H
      obtain ⟨t212, A70, H⟩ := H
      replace H : (if t212 = true then (if (l0.length : Int) > a2 then (bellwetherref10_Kept.j0 k l0 a1 true) else (bellwetherref10_Kept.j0 k l0 a1 (decide ((l0.length : Int) ≥ a1)))) else (bellwetherref10_Kept.j0 k l0 a1 true)) = some r := H
      have A7 := Aside0.mk A70
      clear A70
      by_cases c8 : t212 = true
      · subst c8
        have H1 : (if (l0.length : Int) > a2 then (bellwetherref10_Kept.j0 k l0 a1 true) else (bellwetherref10_Kept.j0 k l0 a1 (decide ((l0.length : Int) ≥ a1)))) = some r := by rw [if_pos rfl] at H; exact H
        clear H
        have H := H1
        clear H1
        by_cases c9 : (l0.length : Int) > a2
        · rw [if_pos c9] at H
          have c9b0 : decide (a2 < (l0.length : Int)) = true := decide_eq_true c9
          clear c9
          (first | rw [c9b0] | (simp only [i64_w, i32_w]; rw [c9b0]) | skip)
          have H' := Aside0.mk H
          clear H
          go_wp2_with (first | ((with_reducible refine gate_callee (f := 50) rfl ?_); refine goesL_ (some 9) rfl rfl Try.func50 (by kernel_rfl) rfl #[.int .i64 a1, .int .i64 1, .int .i64 1073741824] rfl (by (try simp only [List.map_toArray, List.map_cons, List.map_nil]); first | done | rfl | (simp only [List.length_drop, List.length_take]; rfl)) ?_; (with_reducible refine (bellwetherref10_in.calls a1 1 1073741824 true _ A5.out).mono ?_); rintro e w' ⟨rfl, ⟨nd, rfl⟩⟩; refine ⟨_, rfl, ?_⟩) | (go_at_call 50; (with_reducible refine (bellwetherref10_in.calls a2 1 16 true _ A7.out).mono ?_); rintro e w' ⟨rfl, ⟨nd, rfl⟩⟩))
          go_meet
          case rel => exact ⟨_, (true), (by first | rfl | (simp; done) | (simp [*]; done)), H', ⟨by first | omega | exact Nat.le_refl _⟩, by repeat (first | exact Drawn0.refl _ | apply Drawn0.step)⟩
        · rw [if_neg c9] at H
          have c9b0 : decide (a2 < (l0.length : Int)) = false := decide_eq_false c9
          clear c9
          (first | rw [c9b0] | (simp only [i64_w, i32_w]; rw [c9b0]) | skip)
          have H' := Aside0.mk H
          clear H
          go_wp2_with (first | ((with_reducible refine gate_callee (f := 50) rfl ?_); refine goesL_ (some 9) rfl rfl Try.func50 (by kernel_rfl) rfl #[.int .i64 a1, .int .i64 1, .int .i64 1073741824] rfl (by (try simp only [List.map_toArray, List.map_cons, List.map_nil]); first | done | rfl | (simp only [List.length_drop, List.length_take]; rfl)) ?_; (with_reducible refine (bellwetherref10_in.calls a1 1 1073741824 true _ A5.out).mono ?_); rintro e w' ⟨rfl, ⟨nd, rfl⟩⟩; refine ⟨_, rfl, ?_⟩) | (go_at_call 50; (with_reducible refine (bellwetherref10_in.calls a2 1 16 true _ A7.out).mono ?_); rintro e w' ⟨rfl, ⟨nd, rfl⟩⟩))
          go_meet
          case rel => exact ⟨_, (decide ((l0.length : Int) ≥ a1)), (by first | rfl | (simp; done) | (simp [*]; done)), H', ⟨by first | omega | exact Nat.le_refl _⟩, by repeat (first | exact Drawn0.refl _ | apply Drawn0.step)⟩
      · replace c8 := Bool.eq_false_iff.mpr c8
        subst c8
        have H1 : (bellwetherref10_Kept.j0 k l0 a1 true) = some r := by rw [if_neg (show ¬ (false = true) by decide)] at H; exact H
        clear H
        have H := H1
        clear H1
        have H' := Aside0.mk H
        clear H
        go_wp2_with (first | ((with_reducible refine gate_callee (f := 50) rfl ?_); refine goesL_ (some 9) rfl rfl Try.func50 (by kernel_rfl) rfl #[.int .i64 a1, .int .i64 1, .int .i64 1073741824] rfl (by (try simp only [List.map_toArray, List.map_cons, List.map_nil]); first | done | rfl | (simp only [List.length_drop, List.length_take]; rfl)) ?_; (with_reducible refine (bellwetherref10_in.calls a1 1 1073741824 true _ A5.out).mono ?_); rintro e w' ⟨rfl, ⟨nd, rfl⟩⟩; refine ⟨_, rfl, ?_⟩) | (go_at_call 50; (with_reducible refine (bellwetherref10_in.calls a2 1 16 false _ A7.out).mono ?_); rintro e w' ⟨rfl, ⟨nd, rfl⟩⟩))
        go_meet
        case rel => exact ⟨_, (true), (by first | rfl | (simp; done) | (simp [*]; done)), H', ⟨by first | omega | exact Nat.le_refl _⟩, by repeat (first | exact Drawn0.refl _ | apply Drawn0.step)⟩
    · replace c6 := Bool.eq_false_iff.mpr c6
      subst c6
      have H1 : (bellwetherref10_Kept.j0 k l0 a1 true) = some r := by rw [if_neg (show ¬ (false = true) by decide)] at H; exact H
      clear H
      have H := H1
      clear H1
      have H' := Aside0.mk H
      clear H
      go_wp2_with (first | ((with_reducible refine gate_callee (f := 50) rfl ?_); refine goesL_ (some 9) rfl rfl Try.func50 (by kernel_rfl) rfl #[.int .i64 a1, .int .i64 1, .int .i64 1073741824] rfl (by (try simp only [List.map_toArray, List.map_cons, List.map_nil]); first | done | rfl | (simp only [List.length_drop, List.length_take]; rfl)) ?_; (with_reducible refine (bellwetherref10_in.calls a1 1 1073741824 false _ A5.out).mono ?_); rintro e w' ⟨rfl, ⟨nd, rfl⟩⟩; refine ⟨_, rfl, ?_⟩))
      go_meet
      case rel => exact ⟨_, (true), (by first | rfl | (simp; done) | (simp [*]; done)), H', ⟨by first | omega | exact Nat.le_refl _⟩, by repeat (first | exact Drawn0.refl _ | apply Drawn0.step)⟩
  case rest =>
    clear HC4
    try clear c2
    try clear p2
    try clear c5
    try clear c6
    try clear c8
    try clear c9
    try clear c9b0
    obtain ⟨kq, x27_3, rfl, HA, HJ3, ⟨mc3, rfl⟩⟩ := hcut
    cases kq with
    | zero => exact absurd HA.out (by simp [bellwetherref10_Kept.j0])
    | succ kj3 =>
      have H := HA.out
      clear HA
      simp only [bellwetherref10_Kept.j0] at H
      by_cases c10 : x27_3 = true
      · subst c10
        have H1 : (some false) = some r := by rw [if_pos rfl] at H; exact H
        clear H
        have H := H1
        clear H1
        obtain rfl := Option.some.inj H
        go_wp2
        go_ret
        exact ⟨by first | rfl | (simp; done) | (simp [*]; done), by repeat (first | exact Drawn0.refl _ | apply Drawn0.step)⟩
      · replace c10 := Bool.eq_false_iff.mpr c10
        subst c10
        have H1 : (bellwetherref10_Kept.l0 kj3 l0 a1 0) = some r := by rw [if_neg (show ¬ (false = true) by decide)] at H; exact H
        clear H
        have H := H1
        clear H1
        have H' := Aside0.mk H
        clear H
        go_wp2
        go_loopg [7] kj3 (fun kq v7 w' => ∃ (x7_2 : Int), v7 = .int .i64 x7_2 ∧ Aside0 (bellwetherref10_Kept.l0 kq l0 a1 x7_2 = some r) ∧ Aside0 (kq ≤ kj3) ∧ Drawn0 w w')
        case atStart => exact ⟨(0), (by first | rfl | (simp; done) | (simp [*]; done)), H', ⟨Nat.le_refl _⟩, by repeat (first | exact Drawn0.refl _ | apply Drawn0.step)⟩
        case round =>
          clear H'
          try clear c1
          try clear c2
          try clear p2
          try clear c3
          try clear c5
          try clear c6
          try clear c8
          try clear c9
          try clear c9b0
          try clear c10
          try clear p2
          obtain ⟨x7_2, rfl, HA, HK2, ⟨m2, rfl⟩⟩ := hrel
          cases gk with
          | zero => exact absurd HA.out (by simp [bellwetherref10_Kept.l0])
          | succ k2 =>
            have H := HA.out
            clear HA
            simp only [bellwetherref10_Kept.l0] at H
            by_cases c11 : x7_2 < (l0.length : Int)
            · rw [if_pos c11] at H
              have c11b0 : decide (x7_2 < (l0.length : Int)) = true := decide_eq_true c11
              clear c11
              by_cases c12 : 0 ≤ x7_2
              · rw [if_pos c12] at H
                have c12b0 : decide (0 ≤ x7_2) = true := decide_eq_true c12
                clear c12
                by_cases c13 : ((rd_T51 l0 x7_2).f0) = (wrap64 ((wrap64 (a1 - (l0.length : Int))) + x7_2))
                · rw [if_pos c13] at H
                  have c13b0 : (((rd_T51 l0 x7_2).f0) == (wrap64 ((wrap64 (a1 - (l0.length : Int))) + x7_2))) = true := beq_iff_eq.mpr c13
                  have c13b1 : (((rd_T51 l0 x7_2).f0) != (wrap64 ((wrap64 (a1 - (l0.length : Int))) + x7_2))) = false := bne_eq_false_iff_eq.mpr c13
                  clear c13
                  replace H := Option.bind_eq_some_iff.mp H
                  obtain ⟨t215, A140, H⟩ := H
                  replace H : (if t215 = true then (bellwetherref10_Kept.l0 k2 l0 a1 (wrap64 (x7_2 + 1))) else (some false)) = some r := H
                  have A14 := Aside0.mk A140
                  clear A140
                  by_cases c15 : t215 = true
                  · subst c15
                    have H1 : (bellwetherref10_Kept.l0 k2 l0 a1 (wrap64 (x7_2 + 1))) = some r := by rw [if_pos rfl] at H; exact H
                    clear H
                    have H := H1
                    clear H1
                    have H' := Aside0.mk H
                    clear H
                    have p213 : 0 ≤ (x7_2 : Int) := of_decide_eq_true (by first | (with_reducible assumption) | assumption)
                    have q213 : x7_2 < (l0.length : Int) := of_decide_eq_true (by first | (with_reducible assumption) | assumption)
                    obtain ⟨ad213, e213, hx213_0, hx213_1⟩ := at_T51 HR0.out x7_2 p213 q213
                    cases e213
                    replace p213 := eq_true p213
                    replace q213 := eq_true q213
                    have p214 : 0 ≤ (x7_2 : Int) := of_decide_eq_true (by first | (with_reducible assumption) | assumption)
                    have q214 : x7_2 < (l0.length : Int) := of_decide_eq_true (by first | (with_reducible assumption) | assumption)
                    obtain ⟨ad214, e214, hx214_0, hx214_1⟩ := at_T51 HR0.out x7_2 p214 q214
                    obtain rfl : ad213 = ad214 := (by injection e214)
                    replace p214 := eq_true p214
                    replace q214 := eq_true q214
                    go_wp2_with (first | (go_at_call 29; (with_reducible refine (bellwetherref01_Value.calls ((rd_T51 l0 x7_2).f1) true _ A14.out).mono ?_); rintro e w' ⟨rfl, ⟨nd, rfl⟩⟩))
                    go_roundg k2
                    case measure => have := HJ3.out; have := HK2.out; omega
                    case rel => exact ⟨(wrap64 (x7_2 + 1)), (by first | rfl | (simp; done) | (simp [*]; done)), H', ⟨by have := HJ3.out; have := HK2.out; omega⟩, by repeat (first | exact Drawn0.refl _ | apply Drawn0.step)⟩
                  · replace c15 := Bool.eq_false_iff.mpr c15
                    subst c15
                    have H1 : (some false) = some r := by rw [if_neg (show ¬ (false = true) by decide)] at H; exact H
                    clear H
                    have H := H1
                    clear H1
                    obtain rfl := Option.some.inj H
                    have p213 : 0 ≤ (x7_2 : Int) := of_decide_eq_true (by first | (with_reducible assumption) | assumption)
                    have q213 : x7_2 < (l0.length : Int) := of_decide_eq_true (by first | (with_reducible assumption) | assumption)
                    obtain ⟨ad213, e213, hx213_0, hx213_1⟩ := at_T51 HR0.out x7_2 p213 q213
                    cases e213
                    replace p213 := eq_true p213
                    replace q213 := eq_true q213
                    have p214 : 0 ≤ (x7_2 : Int) := of_decide_eq_true (by first | (with_reducible assumption) | assumption)
                    have q214 : x7_2 < (l0.length : Int) := of_decide_eq_true (by first | (with_reducible assumption) | assumption)
                    obtain ⟨ad214, e214, hx214_0, hx214_1⟩ := at_T51 HR0.out x7_2 p214 q214
                    obtain rfl : ad213 = ad214 := (by injection e214)
                    replace p214 := eq_true p214
                    replace q214 := eq_true q214
                    go_wp2_with (first | (go_at_call 29; (with_reducible refine (bellwetherref01_Value.calls ((rd_T51 l0 x7_2).f1) false _ A14.out).mono ?_); rintro e w' ⟨rfl, ⟨nd, rfl⟩⟩))
                    go_ret
                    exact ⟨by first | rfl | (simp; done) | (simp [*]; done), by repeat (first | exact Drawn0.refl _ | apply Drawn0.step)⟩
                · rw [if_neg c13] at H
                  have c13b0 : (((rd_T51 l0 x7_2).f0) == (wrap64 ((wrap64 (a1 - (l0.length : Int))) + x7_2))) = false := beq_eq_false_iff_ne.mpr c13
                  have c13b1 : (((rd_T51 l0 x7_2).f0) != (wrap64 ((wrap64 (a1 - (l0.length : Int))) + x7_2))) = true := bne_iff_ne.mpr c13
                  obtain rfl := Option.some.inj H
                  have p213 : 0 ≤ (x7_2 : Int) := of_decide_eq_true (by first | (with_reducible assumption) | assumption)
                  have q213 : x7_2 < (l0.length : Int) := of_decide_eq_true (by first | (with_reducible assumption) | assumption)
                  obtain ⟨ad213, e213, hx213_0, hx213_1⟩ := at_T51 HR0.out x7_2 p213 q213
                  cases e213
                  replace p213 := eq_true p213
                  replace q213 := eq_true q213
                  go_wp2
                  go_ret
                  exact ⟨by first | rfl | (simp; done) | (simp [*]; done), by repeat (first | exact Drawn0.refl _ | apply Drawn0.step)⟩
              · rw [if_neg c12] at H
                exact absurd H (by simp)
            · rw [if_neg c11] at H
              have c11b0 : decide (x7_2 < (l0.length : Int)) = false := decide_eq_false c11
              clear c11
              obtain rfl := Option.some.inj H
              go_wp2
              go_ret
              exact ⟨by first | rfl | (simp; done) | (simp [*]; done), by repeat (first | exact Drawn0.refl _ | apply Drawn0.step)⟩

/-! ### bellwetherref10_Push: function 30 -/
def bellwetherref10_Push.f (l0 : List (S51)) (a1 : Int) (a2 : Int) (a3 : Int) : Option ((List (S51))) := if ([] : List (S51)).length + l0.length < 8796093022208 then ((some (([] : List (S51)) ++ l0 : List (S51))).bind fun y216 => (if y216.length < 8796093022208 then ((some (y216 ++ [(⟨a1, a3⟩ : S51)] : List (S51))).bind fun y219 => (if 0 ≤ (mx (wrap64 ((y219.length : Int) - a2)) 0) then (if (mx (wrap64 ((y219.length : Int) - a2)) 0) ≤ (y219.length : Int) then (some (y219.drop ((mx (wrap64 ((y219.length : Int) - a2)) 0) : Int).toNat)) else (none)) else (none))) else (none))) else (none)
set_option maxHeartbeats 8000000 in
set_option maxRecDepth 100000 in
theorem bellwetherref10_Push.calls (A0 : Option Addr) (c0 : Nat) (l0 : List (S51)) (a1 : Int) (a2 : Int) (a3 : Int) (r : List (S51)) (w : World) (hr0 : Kd.C k51 w A0 l0.length l0) (hc0 : l0.length ≤ c0) (h : bellwetherref10_Push.f l0 a1 a2 a3 = some r) :
    Calls Try.prog 30 #[.slice A0 l0.length c0, .int .i64 a1, .int .i64 a2, .int .i64 a3] w fun e w' => ∃ v0_ : Value, e = .returned (v0_) ∧ Kd.Q k51 51 w' w.heap.size (fun _ => True) v0_ r ∧ Below w.heap.size w w' := by
  have hu51 := Try.underlying51
  have HR0 := Aside0.mk hr0
  have HC0 := Aside0.mk hc0
  clear hr0 hc0
  have HB := Aside0.mk (Below.refl w.heap.size w)
  have H : (if ([] : List (S51)).length + l0.length < 8796093022208 then ((some (([] : List (S51)) ++ l0 : List (S51))).bind fun y216 => (if y216.length < 8796093022208 then ((some (y216 ++ [(⟨a1, a3⟩ : S51)] : List (S51))).bind fun y219 => (if 0 ≤ (mx (wrap64 ((y219.length : Int) - a2)) 0) then (if (mx (wrap64 ((y219.length : Int) - a2)) 0) ≤ (y219.length : Int) then (some (y219.drop ((mx (wrap64 ((y219.length : Int) - a2)) 0) : Int).toNat)) else (none)) else (none))) else (none))) else (none)) = some r := h
  clear h
  by_cases c5 : ([] : List (S51)).length + l0.length < 8796093022208
  · rw [if_pos c5] at H
    have LMc5 := Aside0.mk c5
    clear c5
    obtain ⟨y216, hy216⟩ : ∃ y_ : List (S51), y_ = (([] : List (S51)) ++ l0) := ⟨_, rfl⟩
    replace H : (if y216.length < 8796093022208 then ((some (y216 ++ [(⟨a1, a3⟩ : S51)] : List (S51))).bind fun y219 => (if 0 ≤ (mx (wrap64 ((y219.length : Int) - a2)) 0) then (if (mx (wrap64 ((y219.length : Int) - a2)) 0) ≤ (y219.length : Int) then (some (y219.drop ((mx (wrap64 ((y219.length : Int) - a2)) 0) : Int).toNat)) else (none)) else (none))) else (none)) = some r := by first | (rw [hy216]; with_reducible exact H) | (have H2_ := (Option.bind_some _ _).symm.trans H; rw [hy216]; with_reducible exact H2_) | (have H2_ := (Option.bind_some _ _).symm.trans H; with_reducible exact H2_) | with_reducible exact H | (rw [hy216]; exact H) | exact H
    have Ny216 := Aside0.mk hy216
    clear hy216
    by_cases c6 : y216.length < 8796093022208
    · rw [if_pos c6] at H
      have LMc6 := Aside0.mk c6
      clear c6
      obtain ⟨y219, hy219⟩ : ∃ y_ : List (S51), y_ = (y216 ++ [(⟨a1, a3⟩ : S51)]) := ⟨_, rfl⟩
      replace H : (if 0 ≤ (mx (wrap64 ((y219.length : Int) - a2)) 0) then (if (mx (wrap64 ((y219.length : Int) - a2)) 0) ≤ (y219.length : Int) then (some (y219.drop ((mx (wrap64 ((y219.length : Int) - a2)) 0) : Int).toNat)) else (none)) else (none)) = some r := by first | (rw [hy219]; with_reducible exact H) | (have H2_ := (Option.bind_some _ _).symm.trans H; rw [hy219]; with_reducible exact H2_) | (have H2_ := (Option.bind_some _ _).symm.trans H; with_reducible exact H2_) | with_reducible exact H | (rw [hy219]; exact H) | exact H
      have Ny219 := Aside0.mk hy219
      clear hy219
      obtain ⟨ji7, hji7⟩ : ∃ j_ : Int, (mx (wrap64 ((y219.length : Int) - a2)) 0) = j_ := ⟨_, rfl⟩
      replace H : (if 0 ≤ (ji7) then (if (ji7) ≤ (y219.length : Int) then (some (y219.drop ((ji7) : Int).toNat)) else (none)) else (none)) = some r := by first | (rw [hji7] at H; exact H) | (simp only [hji7] at H ⊢; exact H)
      (try (have hji7l : 0 ≤ ji7 := by (rw [← hji7]; unfold mx; (repeat' split) <;> omega)))
      (try (have hji7m : 0 ≤ ji7 := by omega))
      have hji7_ : (if (wrap64 ((y219.length : Int) - a2)) < 0 then 0 else (wrap64 ((y219.length : Int) - a2))) = ji7 := hji7
      by_cases c8 : 0 ≤ (ji7)
      · rw [if_pos c8] at H
        have c8b0 := eq_true c8
        have c8b1 : decide (0 ≤ (ji7)) = true := decide_eq_true c8
        clear c8
        by_cases c9 : (ji7) ≤ (y219.length : Int)
        · rw [if_pos c9] at H
          have c9b0 := eq_true c9
          have c9b1 : decide ((ji7) ≤ (y219.length : Int)) = true := decide_eq_true c9
          clear c9
          obtain ⟨y222, hy222⟩ : ∃ y_ : List (S51), y_ = (y219.drop ((ji7) : Int).toNat) := ⟨_, rfl⟩
          replace H : (some y222) = some r := by first | (rw [hy222]; with_reducible exact H) | (have H2_ := (Option.bind_some _ _).symm.trans H; rw [hy222]; with_reducible exact H2_) | (have H2_ := (Option.bind_some _ _).symm.trans H; with_reducible exact H2_) | with_reducible exact H | (rw [hy222]; exact H) | exact H
          have Ny222 := Aside0.mk hy222
          clear hy222
          obtain rfl := Option.some.inj H
          go_enter Try.func30, Try.ntmps30
          go_wp2_with (first | ((with_reducible refine gate_builtin (b := .append) (xs := #[.tmp 10, .tmp 11]) rfl ?_); at_builtin; refine Kd.R_append_rows k51 (w0 := w) w.heap.size rfl (.tmp 10) (.tmp 11) 35 51 (.agg #[(.int .i64 0), (.int .i64 0)]) 16 rfl Try.underlying35 info51 rfl (by decide) (by omega) (.slice none 0 0) ([] : List (S51)) l0 _ _ _ (fun _ => True) (fun _ => False) rfl rfl ?aO ?aR (fun _ _ h => h) (fun _ h => h.elim) ?aF ?aB ?aS ?aL ?_; (case aR => repeat (first | exact HR0.out | (with_reducible refine Kd.C_alloc ?_ _) | (with_reducible refine Kd.C_drewN ?_ _) | (with_reducible refine Kd.C_drew ?_))); (case aB => exact (by repeat (first | (with_reducible first | exact HB.out | apply below_alloc | apply pw_below_drewN | apply below_drew1) | exact HB.out))); (case aF => exact (fun _ _ => trivial)); (case aO => exact ((Kd.R_nil _ _ _ _ (fun _ => True)))); (case aS => exact (below_size (by repeat (first | (with_reducible first | exact HB.out | apply below_alloc | apply pw_below_drewN | apply below_drew1) | exact HB.out)))); (case aL => have := LMc5.out; omega); intro v217 w10 ho hb hg hat; rw [← Ny216.out] at ho; have n0_ := Aside0.mk (hb); have n1_ := Aside0.mk (ho); clear HB; have HB := n0_; have HO218 := n1_; clear n0_ n1_; clear ho hb hg hat) | ((with_reducible refine gate_builtin (b := .append) (xs := #[.tmp 13, .tmp 17]) rfl ?_); at_builtin; refine Kd.R_append k51 (w0 := w) w.heap.size rfl (.tmp 13) (.tmp 17) 35 51 (.agg #[(.int .i64 0), (.int .i64 0)]) 16 rfl Try.underlying35 info51 rfl (by decide) (by omega) v217 y216 (⟨a1, a3⟩ : S51) [.int .i64 a1, .int .i64 a3] (fun _ => True) (fun _ => False) rfl rfl ?aP (fun _ hk => hk.elim) ?aF ?aO ?aB ?aS ?aL ?_; (case aP => exact k51_mkM _ _ _ (⟨a1, a3⟩ : S51)); (case aB => exact (by repeat (first | (with_reducible first | exact HB.out | apply below_alloc | apply pw_below_drewN | apply below_drew1) | exact HB.out))); (case aF => exact (fun _ _ => trivial)); (case aO => exact (by (with_reducible repeat (first | apply Kd.R_alloc | apply Kd.R_drewN | apply Kd.R_drew)); exact HO218.out)); (case aS => exact (below_size (by repeat (first | (with_reducible first | exact HB.out | apply below_alloc | apply pw_below_drewN | apply below_drew1) | exact HB.out)))); (case aL => have := LMc6.out; omega); intro v220 w11 ho hb hg hat; rw [← Ny219.out] at ho; have n0_ := Aside0.mk (hb); have n1_ := Aside0.mk (ho); clear HB; clear HO218; have HB := n0_; have HO221 := n1_; clear n0_ n1_; clear ho hb hg hat; obtain ⟨Ao12, co12, eo12⟩ := Kd.R_slice HO221.out; subst eo12; have q13 : ((ji7) : Int) ≤ ((y219.length : Int) : Int) := of_decide_eq_true (by first | (with_reducible assumption) | assumption); obtain ⟨i013, hi013, _, hsz13, _⟩ := info_parts info51; have hcut13 := cut_from (P := Try.prog) 35 51 .i64 Try.underlying35 hi013 2 hsz13 Ao12 y219.length co12 (ji7) (of_decide_eq_true (by first | (with_reducible assumption) | assumption)) q13; have hr13 := Kd.Q_drop (k := ((ji7) : Int).toNat) (Kd.Q_of_R HO221.out) (by omega); obtain ⟨A13, hA13⟩ : ∃ A1, A1 = (if co12 = ((ji7) : Int).toNat then Ao12 else (Ao12 : Option Addr).map (·.add (((ji7) : Int).toNat * 2))) := ⟨_, rfl⟩; obtain ⟨c13, hc13⟩ : ∃ c1, c1 = co12 - ((ji7) : Int).toNat := ⟨_, rfl⟩; have hy13 : y222.length = y219.length - ((ji7) : Int).toNat := (by rw [Ny222.out, List.length_drop]); rw [← Ny222.out] at hr13; rw [← hy13, ← hA13, ← hc13] at hcut13; replace hr13 : Kd.Q k51 51 w11 w.heap.size (fun _ => True) (.slice A13 y222.length c13) y222 := (by rw [hA13, hc13, hy13]; exact hr13); have HE13 : Aside0 ((Value.slice A13 y222.length c13).ownBlock = (.slice Ao12 y219.length co12 : Value).ownBlock) := ⟨by rw [hA13]; split <;> (cases (Ao12 : Option Addr) <;> first | rfl | (simp only [Value.ownBlock, Option.map_some]; unfold Addr.add; split <;> rfl))⟩; clear hy13 hi013 hsz13 HO221 hA13 hc13; have HO224 := Aside0.mk hr13; clear hr13; replace q13 := eq_true q13))
          go_ret
          exact ⟨_, by first | rfl | (simp [errW_none, errW_some] <;> rfl) | (simp only [← hji7]; first | rfl | (simp [errW_none, errW_some] <;> rfl)) | (simp [*, errW_none, errW_some] <;> rfl), by (with_reducible repeat (first | apply Kd.Q_alloc | apply Kd.Q_drewN | apply Kd.Q_drew)); exact HO224.out, by repeat (first | (with_reducible first | exact HB.out | apply below_alloc | apply pw_below_drewN | apply below_drew1) | exact HB.out)⟩
        · rw [if_neg c9] at H
          exact absurd H (by simp)
      · rw [if_neg c8] at H
        exact absurd H (by simp)
    · rw [if_neg c6] at H
      exact absurd H (by simp)
  · rw [if_neg c5] at H
    exact absurd H (by simp)

end Go.Proofs.Ytmjfjjnoconmoaa.PK
