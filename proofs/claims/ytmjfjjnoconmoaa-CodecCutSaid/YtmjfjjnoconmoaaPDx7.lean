-- Written by this session's own program (wip/prog/drive.py).
import Derived.Test.YtmjfjjnoconmoaaPDx0
import Derived.Test.YtmjfjjnoconmoaaPDx1
import Derived.Test.YtmjfjjnoconmoaaPDx2
import Derived.Test.YtmjfjjnoconmoaaPDx3
namespace Go.Proofs.Ytmjfjjnoconmoaa.PD
open Go.RowKit Go.Proofs.YtmjfjjnoconmoaaW.PrintWords Go.Proofs.YtmjfjjnoconmoaaW.PrintLast Go.Proofs.YtmjfjjnoconmoaaW.PrintMore Go.Proofs.YtmjfjjnoconmoaaX
attribute [local go_sem] max2_int min2_int max_two min_two max_three min_three max_four min_four   -- for this text's walks alone
set_option linter.unusedVariables false
set_option linter.unusedSimpArgs false

/-! ### L04_CodecCut: function 12 -/
mutual
def L04_CodecCut.l0 : Nat → Int → Int → Int → Int → List Int → Int → List Int → Int → Option (Bool)
  | 0, _, _, _, _, _, _, _, _ => none
  | k + 1, x0, x1, x2, x3, x9, x10, x11, x12 => if x12 < x2 then (if x11.length < 17592186044416 then (L04_CodecCut.l0 k x0 x1 x2 x3 x9 x10 (x11 ++ [x12]) (wrap64 (x12 + 1))) else (none)) else ((codec_PutList.f k x9 x11).bind fun bt320 => (if x10 = 0 then (if bt320.2 = 0 then (L04_CodecCut.j1 k x0 x1 x3 bt320.1 ((bt320.1.length : Int) != (wrap64 ((wrap64 (x0 + 1)) + x2)))) else (L04_CodecCut.j1 k x0 x1 x3 bt320.1 true)) else (L04_CodecCut.j1 k x0 x1 x3 bt320.1 true)))
def L04_CodecCut.j1 : Nat → Int → Int → Int → List Int → Bool → Option (Bool)
  | 0, _, _, _, _, _ => none
  | k + 1, x0, x1, x3, x13, x72 => if x72 = true then (some false) else (if (IntKind.u64.wrap ((x13.length : Int))) = 0 then (none) else (if 0 ≤ (wrap64 (Int.tmod (IntKind.u64.wrap (x3)) (IntKind.u64.wrap ((x13.length : Int))))) then (if (wrap64 (Int.tmod (IntKind.u64.wrap (x3)) (IntKind.u64.wrap ((x13.length : Int))))) ≤ (x13.length : Int) then ((some (x13.take ((wrap64 (Int.tmod (IntKind.u64.wrap (x3)) (IntKind.u64.wrap ((x13.length : Int))))) : Int).toNat : List Int)).bind fun y324 => ((codec_Get.f k y324 0 x0).bind fun bt328 => ((codec_GetList.f k y324 x0).bind fun bt331 => (if (wrap64 (Int.tmod (IntKind.u64.wrap (x3)) (IntKind.u64.wrap ((x13.length : Int))))) < x0 then (if bt328.2.2 = 2 then (if bt331.2.2 = 2 then (if (wrap64 ((wrap64 ((wrap64 (bt328.1 + bt328.2.1)) + (bt331.1.length : Int))) + bt331.2.1)) = 0 then ((L04_wakes.f k).bind fun t336 => (some t336)) else (some false)) else (some false)) else (some false)) else (if bt328.2.2 = 0 then (if bt328.1 = x1 then (if bt328.2.1 = x0 then (if bt331.2.2 = 2 then (if (wrap64 ((bt331.1.length : Int) + bt331.2.1)) = 0 then ((L04_wakes.f k).bind fun t337 => (some t337)) else (some false)) else (some false)) else (some false)) else (some false)) else (some false)))))) else (none)) else (none)))
end
def L04_CodecCut.f (k : Nat) (a0 : Int) (a1 : Int) (a2 : Int) (a3 : Int) : Option (Bool) := (some (([1, 2, 4, 8] : List Int) : List Int)).bind fun y309 => (if 0 ≤ (wrap64 (Int.tmod (IntKind.u64.wrap (a0)) 4)) then (if (wrap64 (Int.tmod (IntKind.u64.wrap (a0)) 4)) < (y309.length : Int) then ((codec_Put.f k ([] : List Int) (rd y309 (wrap64 (Int.tmod (IntKind.u64.wrap (a0)) 4))) (wrap64 (Int.tmod (IntKind.u64.wrap (a1)) 200))).bind fun bt313 => (L04_CodecCut.l0 k (rd y309 (wrap64 (Int.tmod (IntKind.u64.wrap (a0)) 4))) (wrap64 (Int.tmod (IntKind.u64.wrap (a1)) 200)) (wrap64 (Int.tmod (IntKind.u64.wrap (a2)) 30)) a3 bt313.1 bt313.2 ([] : List Int) 0)) else (none)) else (none))
theorem L04_CodecCut.mono_l : ∀ k, (∀ y0 y1 y2 y3 y4 y5 y6 y7, LeO (L04_CodecCut.l0 k y0 y1 y2 y3 y4 y5 y6 y7) (L04_CodecCut.l0 (k + 1) y0 y1 y2 y3 y4 y5 y6 y7)) ∧ (∀ y0 y1 y2 y3 y4, LeO (L04_CodecCut.j1 k y0 y1 y2 y3 y4) (L04_CodecCut.j1 (k + 1) y0 y1 y2 y3 y4))
  | 0 => ⟨fun _ _ _ _ _ _ _ _ r h => by simp [L04_CodecCut.l0] at h, fun _ _ _ _ _ r h => by simp [L04_CodecCut.j1] at h⟩
  | k + 1 => by
    obtain ⟨ih0, ih1⟩ := L04_CodecCut.mono_l k
    refine ⟨?_, ?_⟩
    · intro y0 y1 y2 y3 y4 y5 y6 y7
      unfold L04_CodecCut.l0
      repeat' first
      | (with_reducible exact ih0 _ _ _ _ _ _ _ _)
      | (with_reducible exact ih1 _ _ _ _ _)
      | (with_reducible exact L04_wakes.mono _)
      | (with_reducible exact codec_Get.mono _ _ _ _)
      | (with_reducible exact codec_GetList.mono _ _ _)
      | (with_reducible exact codec_Put.mono _ _ _ _)
      | (with_reducible exact codec_PutList.mono _ _ _)
      | (with_reducible exact LeO.refl _)
      | (with_reducible exact LeO.none _)
      | (with_reducible refine LeO.ite ?_ ?_)
      | (with_reducible refine LeO.bind ?_ (fun _ => ?_))
      | exact ih0 _ _ _ _ _ _ _ _
      | exact ih1 _ _ _ _ _
      | exact L04_wakes.mono _
      | exact codec_Get.mono _ _ _ _
      | exact codec_GetList.mono _ _ _
      | exact codec_Put.mono _ _ _ _
      | exact codec_PutList.mono _ _ _
      | exact LeO.none _
      | refine LeO.ite ?_ ?_
      | refine LeO.bind ?_ (fun _ => ?_)
    · intro y0 y1 y2 y3 y4
      unfold L04_CodecCut.j1
      repeat' first
      | (with_reducible exact ih0 _ _ _ _ _ _ _ _)
      | (with_reducible exact ih1 _ _ _ _ _)
      | (with_reducible exact L04_wakes.mono _)
      | (with_reducible exact codec_Get.mono _ _ _ _)
      | (with_reducible exact codec_GetList.mono _ _ _)
      | (with_reducible exact codec_Put.mono _ _ _ _)
      | (with_reducible exact codec_PutList.mono _ _ _)
      | (with_reducible exact LeO.refl _)
      | (with_reducible exact LeO.none _)
      | (with_reducible refine LeO.ite ?_ ?_)
      | (with_reducible refine LeO.bind ?_ (fun _ => ?_))
      | exact ih0 _ _ _ _ _ _ _ _
      | exact ih1 _ _ _ _ _
      | exact L04_wakes.mono _
      | exact codec_Get.mono _ _ _ _
      | exact codec_GetList.mono _ _ _
      | exact codec_Put.mono _ _ _ _
      | exact codec_PutList.mono _ _ _
      | exact LeO.none _
      | refine LeO.ite ?_ ?_
      | refine LeO.bind ?_ (fun _ => ?_)
theorem L04_CodecCut.mono : ∀ a0 a1 a2 a3 k, LeO (L04_CodecCut.f k a0 a1 a2 a3) (L04_CodecCut.f (k + 1) a0 a1 a2 a3) := by
  intro a0 a1 a2 a3 k
  obtain ⟨ih0, ih1⟩ := L04_CodecCut.mono_l k
  unfold L04_CodecCut.f
  repeat' first
      | (with_reducible exact ih0 _ _ _ _ _ _ _ _)
      | (with_reducible exact ih1 _ _ _ _ _)
      | (with_reducible exact L04_wakes.mono _)
      | (with_reducible exact codec_Get.mono _ _ _ _)
      | (with_reducible exact codec_GetList.mono _ _ _)
      | (with_reducible exact codec_Put.mono _ _ _ _)
      | (with_reducible exact codec_PutList.mono _ _ _)
      | (with_reducible exact LeO.refl _)
      | (with_reducible exact LeO.none _)
      | (with_reducible refine LeO.ite ?_ ?_)
      | (with_reducible refine LeO.bind ?_ (fun _ => ?_))
      | exact ih0 _ _ _ _ _ _ _ _
      | exact ih1 _ _ _ _ _
      | exact L04_wakes.mono _
      | exact codec_Get.mono _ _ _ _
      | exact codec_GetList.mono _ _ _
      | exact codec_Put.mono _ _ _ _
      | exact codec_PutList.mono _ _ _
      | exact LeO.none _
      | refine LeO.ite ?_ ?_
      | refine LeO.bind ?_ (fun _ => ?_)
set_option maxHeartbeats 8000000 in
set_option maxRecDepth 100000 in
theorem L04_CodecCut.calls (k : Nat) (a0 : Int) (a1 : Int) (a2 : Int) (a3 : Int) (r : Bool) (w : World) (h : L04_CodecCut.f k a0 a1 a2 a3 = some r) :
    Calls Try.prog 12 #[.int .i64 a0, .int .i64 a1, .int .i64 a2, .int .i64 a3] w fun e w' => e = .returned (.bool r) ∧ Below w.heap.size w w' := by
  have HB := Aside0.mk (Below.refl w.heap.size w)
  have H : ((some (([1, 2, 4, 8] : List Int) : List Int)).bind fun y309 => (if 0 ≤ (wrap64 (Int.tmod (IntKind.u64.wrap (a0)) 4)) then (if (wrap64 (Int.tmod (IntKind.u64.wrap (a0)) 4)) < (y309.length : Int) then ((codec_Put.f k ([] : List Int) (rd y309 (wrap64 (Int.tmod (IntKind.u64.wrap (a0)) 4))) (wrap64 (Int.tmod (IntKind.u64.wrap (a1)) 200))).bind fun bt313 => (L04_CodecCut.l0 k (rd y309 (wrap64 (Int.tmod (IntKind.u64.wrap (a0)) 4))) (wrap64 (Int.tmod (IntKind.u64.wrap (a1)) 200)) (wrap64 (Int.tmod (IntKind.u64.wrap (a2)) 30)) a3 bt313.1 bt313.2 ([] : List Int) 0)) else (none)) else (none))) = some r := h
  clear h
  obtain ⟨y309, hy309⟩ : ∃ y_ : List Int, y_ = (([1, 2, 4, 8] : List Int)) := ⟨_, rfl⟩
  replace H : (if 0 ≤ (wrap64 (Int.tmod (IntKind.u64.wrap (a0)) 4)) then (if (wrap64 (Int.tmod (IntKind.u64.wrap (a0)) 4)) < (y309.length : Int) then ((codec_Put.f k ([] : List Int) (rd y309 (wrap64 (Int.tmod (IntKind.u64.wrap (a0)) 4))) (wrap64 (Int.tmod (IntKind.u64.wrap (a1)) 200))).bind fun bt313 => (L04_CodecCut.l0 k (rd y309 (wrap64 (Int.tmod (IntKind.u64.wrap (a0)) 4))) (wrap64 (Int.tmod (IntKind.u64.wrap (a1)) 200)) (wrap64 (Int.tmod (IntKind.u64.wrap (a2)) 30)) a3 bt313.1 bt313.2 ([] : List Int) 0)) else (none)) else (none)) = some r := by first | (rw [hy309]; with_reducible exact H) | (have H2_ := (Option.bind_some _ _).symm.trans H; rw [hy309]; with_reducible exact H2_) | (have H2_ := (Option.bind_some _ _).symm.trans H; with_reducible exact H2_) | with_reducible exact H | (rw [hy309]; exact H) | exact H
  have Ny309 := Aside0.mk hy309
  clear hy309
  obtain ⟨ji5, hji5⟩ : ∃ j_ : Int, (wrap64 (Int.tmod (IntKind.u64.wrap (a0)) 4)) = j_ := ⟨_, rfl⟩
  replace H : (if 0 ≤ (ji5) then (if (ji5) < (y309.length : Int) then ((codec_Put.f k ([] : List Int) (rd y309 (ji5)) (wrap64 (Int.tmod (IntKind.u64.wrap (a1)) 200))).bind fun bt313 => (L04_CodecCut.l0 k (rd y309 (ji5)) (wrap64 (Int.tmod (IntKind.u64.wrap (a1)) 200)) (wrap64 (Int.tmod (IntKind.u64.wrap (a2)) 30)) a3 bt313.1 bt313.2 ([] : List Int) 0)) else (none)) else (none)) = some r := by first | (rw [hji5] at H; exact H) | (simp only [hji5] at H ⊢; exact H)
  have hji5w : (IntKind.i64.wrap (Int.tmod (IntKind.u64.wrap (a0)) 4)) = ji5 := (i64_w _).trans hji5
  by_cases c6 : 0 ≤ (ji5)
  · rw [if_pos c6] at H
    have c6b0 : decide (0 ≤ (ji5)) = true := decide_eq_true c6
    clear c6
    by_cases c7 : (ji5) < (y309.length : Int)
    · rw [if_pos c7] at H
      have c7b0 : decide ((ji5) < (y309.length : Int)) = true := decide_eq_true c7
      clear c7
      replace H := Option.bind_eq_some_iff.mp H
      obtain ⟨⟨t313, t314⟩, A80, H⟩ := H
      replace H : (L04_CodecCut.l0 k (rd y309 (ji5)) (wrap64 (Int.tmod (IntKind.u64.wrap (a1)) 200)) (wrap64 (Int.tmod (IntKind.u64.wrap (a2)) 30)) a3 t313 t314 ([] : List Int) 0) = some r := H
      have A8 := Aside0.mk A80
      clear A80
      have H' := Aside0.mk H
      clear H
      go_enter Try.func12, Try.ntmps12
      go_wp2_with (first | ((with_reducible refine gate_dst (N := 22) rfl ?_); (try (refine gate_guard (by rfl) ?_; dsimp only)); refine Kd.R_lit (Kd.int .i64) _ 3 ?hg (N := 22) ?hd (xs := ([1, 2, 4, 8] : List Int)) (inner := [.int .i64 1, .int .i64 2, .int .i64 4, .int .i64 8]) (ok := fun _ => True) (okp := fun _ => True) ?hr ?hp (fun _ hk => hk) trivial (Below.refl _ _) (Nat.le_refl _) (by simp) ?_; (case hd => rfl); (case hg => rfl); (case hr => first | (go_simp; done) | (go_simp; rfl)); (case hp => exact (Reps.one (show Kd.M (Kd.int .i64) _ _ _ 1 [.int .i64 1] from rfl) (Reps.one (show Kd.M (Kd.int .i64) _ _ _ 2 [.int .i64 2] from rfl) (Reps.one (show Kd.M (Kd.int .i64) _ _ _ 4 [.int .i64 4] from rfl) (Reps.one (show Kd.M (Kd.int .i64) _ _ _ 8 [.int .i64 8] from rfl) (Reps.none _ _)))))); intro v310 w9 ho10 hb hg_ hnew_; clear hg_ hnew_; (first | rw [← Ny309.out] at ho10 | (simp only [Int.reduceToNat] at ho10; rw [← Ny309.out] at ho10)); have n0_ := Aside0.mk (Kd.R_lower ho10 (below_size (by repeat (first | (with_reducible first | exact HB.out | apply ba_ | apply bn_ | apply bd_) | exact HB.out)))); have n1_ := Aside0.mk (below_step (by repeat (first | (with_reducible first | exact HB.out | apply ba_ | apply bn_ | apply bd_) | exact HB.out)) hb); clear HB; have HO311 := n0_; have HB := n1_; clear n0_ n1_; clear hb ho10; obtain ⟨Ao11, co11, eo11⟩ := Kd.R_slice HO311.out; subst eo11; have p312 : 0 ≤ ((ji5) : Int) := of_decide_eq_true (by first | (with_reducible assumption) | assumption); have q312 : (ji5) < (y309.length : Int) := of_decide_eq_true (by first | (with_reducible assumption) | assumption); obtain ⟨ad312, e312, hx312_0⟩ := Kd.at_int (Kd.R_reads' HO311.out).2.2 (ji5) p312 q312; cases e312; replace p312 := eq_true p312; replace q312 := eq_true q312) | ((with_reducible refine gate_callee (f := 33) rfl ?_); refine goesL_ (some 40) rfl rfl Try.func33 (by kernel_rfl) rfl #[.slice none 0 0, .int .i64 (rd y309 (ji5)), .int .i64 (wrap64 (Int.tmod (IntKind.u64.wrap (a1)) 200))] rfl (by (try simp only [List.map_toArray, List.map_cons, List.map_nil]); first | done | (simp only [hji5]; rfl) | rfl | (simp only [List.length_drop, List.length_take]; rfl)) ?_; (refine (codec_Put.calls k _ _ ([] : List Int) (rd y309 (ji5)) (wrap64 (Int.tmod (IntKind.u64.wrap (a1)) 200)) t313 t314 _ ?side1 ?side2 A8.out).mono ?_); (case side1 => exact Kd.C_nil _ _); (case side2 => exact Nat.le_refl _); rintro e w12 ⟨v315, rfl, ho0, hb⟩; refine ⟨_, rfl, ?_⟩; have n0_ := Aside0.mk (Kd.R_below (by (with_reducible repeat (first | apply ra_ | apply rn_ | apply rd_)); exact HO311.out) hb); have n1_ := Aside0.mk (Kd.R_lower ho0 (below_size (by repeat (first | (with_reducible first | exact HB.out | apply ba_ | apply bn_ | apply bd_) | exact HB.out)))); have n2_ := Aside0.mk (below_step (by repeat (first | (with_reducible first | exact HB.out | apply ba_ | apply bn_ | apply bd_) | exact HB.out)) hb); clear HO311; clear HB; have HO311 := n0_; have HO316 := n1_; have HB := n2_; clear n0_ n1_ n2_; (try clear hb); (try clear hb2); (try clear hk); (try clear hi); (try clear ho0)))
      go_loopg [11, 12] k (fun kq v11 v12 w' => ∃ (x11_1 : List Int) (x12_1 : Int), v12 = .int .i64 x12_1 ∧ Aside0 (L04_CodecCut.l0 kq (rd y309 (ji5)) (wrap64 (Int.tmod (IntKind.u64.wrap (a1)) 200)) (wrap64 (Int.tmod (IntKind.u64.wrap (a2)) 30)) a3 t313 t314 x11_1 x12_1 = some r) ∧ Aside0 (kq ≤ k) ∧ Aside0 (Kd.R (Kd.int .u8) 5 w' w.heap.size (fun _ => True) v315 t313) ∧ Aside0 (Kd.R (Kd.int .i64) 3 w' w.heap.size (fun _ => True) v11 x11_1) ∧ Aside0 (Below w.heap.size w w'))
      case atStart => exact ⟨(([] : List Int)), (0), (by first | rfl | (simp; done) | (simp [*]; done)), H', ⟨Nat.le_refl _⟩, ⟨by (with_reducible repeat (first | apply ra_ | apply rn_ | apply rd_)); exact HO316.out⟩, ⟨by first | exact Kd.R_nil _ _ _ _ _ | exact Kd.N_nil _ _ _ _ _ | exact Kd.V_nil _ _ _ _ _ | exact Kd.Q_nil _ _ _ _ _ | exact Kd.S_nil _ _ _ _ _⟩, ⟨by repeat (first | (with_reducible first | exact HB.out | apply ba_ | apply bn_ | apply bd_) | exact HB.out)⟩⟩
      case round => as_aux_lemma =>
        clear H'
        (try clear c1); (try clear p2); (try clear c3); (try clear p3); (try clear q3); (try clear hx3); (try clear c6); (try clear c6b0); (try clear p6); (try clear c7); (try clear c7b0); (try clear c12); (try clear hx312_0); (try clear p312); (try clear q312)
        obtain ⟨x11_1, x12_1, rfl, HA, HK1, HO_9, HO_11, HB⟩ := hrel
        cases gk with
        | zero => exact absurd HA.out (by simp [L04_CodecCut.l0])
        | succ k1 =>
          have H := HA.out
          clear HA
          simp only [L04_CodecCut.l0] at H
          by_cases c13 : x12_1 < (wrap64 (Int.tmod (IntKind.u64.wrap (a2)) 30))
          · rw [if_pos c13] at H
            have c13b0 : decide (x12_1 < (wrap64 (Int.tmod (IntKind.u64.wrap (a2)) 30))) = true := decide_eq_true c13
            clear c13
            by_cases c14 : x11_1.length < 17592186044416
            · rw [if_pos c14] at H
              have LMc14 := Aside0.mk c14
              clear c14
              obtain ⟨y317, hy317⟩ : ∃ y_ : List Int, y_ = (x11_1 ++ [x12_1]) := ⟨_, rfl⟩
              replace H : (L04_CodecCut.l0 k1 (rd y309 (ji5)) (wrap64 (Int.tmod (IntKind.u64.wrap (a1)) 200)) (wrap64 (Int.tmod (IntKind.u64.wrap (a2)) 30)) a3 t313 t314 y317 (wrap64 (x12_1 + 1))) = some r := by first | (rw [hy317]; with_reducible exact H) | (have H2_ := (Option.bind_some _ _).symm.trans H; rw [hy317]; with_reducible exact H2_) | (have H2_ := (Option.bind_some _ _).symm.trans H; with_reducible exact H2_) | with_reducible exact H | (rw [hy317]; exact H) | exact H
              have Ny317 := Aside0.mk hy317
              clear hy317
              have H' := Aside0.mk H
              clear H
              go_wp2_with (first | ((with_reducible refine gate_builtin (b := .append) (xs := #[.tmp 48, .tmp 50]) rfl ?_); (try (refine gate_guard (by rfl) ?_; dsimp only)); at_builtin; refine Kd.R_append (Kd.int .i64) (w0 := w) w.heap.size rfl (.tmp 48) (.tmp 50) 49 3 (.int .i64 0) 8 rfl Try.underlying49 info3 rfl (by decide) (by omega) u11 x11_1 x12_1 [.int .i64 x12_1] (fun _ => True) (fun _ => False) rfl rfl ?aP (fun _ hk => hk.elim) ?aF ?aO ?aB ?aS ?aL ?_; (case aP => exact rfl); (case aB => exact (by repeat (first | (with_reducible first | exact HB.out | apply ba_ | apply bn_ | apply bd_) | exact HB.out))); (case aF => exact (fun _ _ => trivial)); (case aO => exact (by (with_reducible repeat (first | apply ra_ | apply rn_ | apply rd_)); exact HO_11.out)); (case aS => exact (below_size (by repeat (first | (with_reducible first | exact HB.out | apply ba_ | apply bn_ | apply bd_) | exact HB.out)))); (case aL => have := LMc14.out; omega); intro v318 w15 ho hb hg hat; rw [← Ny317.out] at ho; have n0_ := Aside0.mk (Kd.R_over' (by (with_reducible repeat (first | apply ra_ | apply rn_ | apply rd_)); exact HO_9.out) (Kd.R_typed (by (with_reducible repeat (first | apply ra_ | apply rn_ | apply rd_)); exact HO_11.out)) (by decide) hg); have n1_ := Aside0.mk (hb); have n2_ := Aside0.mk (ho); clear HO_9; clear HB; clear HO_11; have HO_9 := n0_; have HB := n1_; have HO319 := n2_; clear n0_ n1_ n2_; clear ho hb hg hat))
              go_roundg k1
              case measure => have := HK1.out; omega
              case rel => exact ⟨(y317), (wrap64 (x12_1 + 1)), (by first | rfl | (simp; done) | (simp [*]; done)), H', ⟨by have := HK1.out; omega⟩, ⟨by (with_reducible repeat (first | apply ra_ | apply rn_ | apply rd_)); exact HO_9.out⟩, ⟨by (with_reducible repeat (first | apply ra_ | apply rn_ | apply rd_)); exact HO319.out⟩, ⟨by repeat (first | (with_reducible first | exact HB.out | apply ba_ | apply bn_ | apply bd_) | exact HB.out)⟩⟩
            · rw [if_neg c14] at H
              exact absurd H (by simp)
          · rw [if_neg c13] at H
            have c13b0 : decide (x12_1 < (wrap64 (Int.tmod (IntKind.u64.wrap (a2)) 30))) = false := decide_eq_false c13
            clear c13
            replace H := Option.bind_eq_some_iff.mp H
            obtain ⟨⟨t320, t321⟩, A160, H⟩ := H
            replace H : (if t314 = 0 then (if t321 = 0 then (L04_CodecCut.j1 k1 (rd y309 (ji5)) (wrap64 (Int.tmod (IntKind.u64.wrap (a1)) 200)) a3 t320 ((t320.length : Int) != (wrap64 ((wrap64 ((rd y309 (ji5)) + 1)) + (wrap64 (Int.tmod (IntKind.u64.wrap (a2)) 30)))))) else (L04_CodecCut.j1 k1 (rd y309 (ji5)) (wrap64 (Int.tmod (IntKind.u64.wrap (a1)) 200)) a3 t320 true)) else (L04_CodecCut.j1 k1 (rd y309 (ji5)) (wrap64 (Int.tmod (IntKind.u64.wrap (a1)) 200)) a3 t320 true)) = some r := H
            have A16 := Aside0.mk A160
            clear A160
            have HC17 := Aside0.mk H
            clear H
            obtain ⟨Ao18, co18, eo18⟩ := Kd.R_slice HO_9.out
            subst eo18
            obtain ⟨Ao19, co19, eo19⟩ := Kd.R_slice HO_11.out
            subst eo19
            go_upto_region 10 with (first | ((with_reducible refine gate_callee (f := 35) rfl ?_); refine goesL_ (some 55) rfl rfl Try.func35 (by kernel_rfl) rfl #[.slice Ao18 t313.length co18, .slice Ao19 x11_1.length co19] rfl (by (try simp only [List.map_toArray, List.map_cons, List.map_nil]); first | done | rfl | (simp only [List.length_drop, List.length_take]; rfl)) ?_; (with_reducible refine (codec_PutList.calls k1 _ _ t313 _ _ x11_1 t320 t321 _ ?side1 ?side2 ?side3 ?side4 A16.out).mono ?_); (case side1 => repeat (first | exact (Kd.R_reads' HO_9.out).2.2 | (with_reducible refine Kd.C_alloc ?_ _) | (with_reducible refine Kd.C_drewN ?_ _) | (with_reducible refine Kd.C_drew ?_))); (case side2 => exact (Kd.R_reads' HO_9.out).2.1); (case side3 => repeat (first | exact (Kd.R_reads' HO_11.out).2.2 | (with_reducible refine Kd.C_alloc ?_ _) | (with_reducible refine Kd.C_drewN ?_ _) | (with_reducible refine Kd.C_drew ?_))); (case side4 => exact (Kd.R_reads' HO_11.out).2.1); rintro e w20 ⟨v322, rfl, ho0, hb⟩; refine ⟨_, rfl, ?_⟩; have n0_ := Aside0.mk (Kd.R_elder' (by (with_reducible repeat (first | apply ra_ | apply rn_ | apply rd_)); exact HO_9.out) (Kd.R_base ho0) hb); have n1_ := Aside0.mk (Kd.R_below (by (with_reducible repeat (first | apply ra_ | apply rn_ | apply rd_)); exact HO_11.out) hb); have n2_ := Aside0.mk (Kd.R_lower (Kd.R_new' ho0 (Kd.R_lt (by (with_reducible repeat (first | apply ra_ | apply rn_ | apply rd_)); exact HO_9.out))) (below_size (by repeat (first | (with_reducible first | exact HB.out | apply ba_ | apply bn_ | apply bd_) | exact HB.out)))); have n3_ := Aside0.mk (below_step (by repeat (first | (with_reducible first | exact HB.out | apply ba_ | apply bn_ | apply bd_) | exact HB.out)) hb); clear HO_9; clear HO_11; clear HB; have HO_9 := n0_; have HO_11 := n1_; have HO323 := n2_; have HB := n3_; clear n0_ n1_ n2_ n3_; (try clear hb); (try clear hb2); (try clear hk); (try clear hi); (try clear ho0)))
            (try simp only [Act.put, List.setIfInBounds_toArray, List.set_cons_zero, List.set_cons_succ])
            go_cut [72] (fun v72 wc => ∃ (kq : Nat) (x72_16 : Bool), v72 = .bool x72_16 ∧ Aside0 (L04_CodecCut.j1 kq (rd y309 (ji5)) (wrap64 (Int.tmod (IntKind.u64.wrap (a1)) 200)) a3 t320 x72_16 = some r) ∧ Aside0 (kq ≤ k1) ∧ Aside0 (Kd.R (Kd.int .u8) 5 wc w.heap.size (fun _ => True) v322 t320) ∧ Aside0 (Below w.heap.size w wc))
            case first =>
              have H := HC17.out
              clear HC17
              by_cases c21 : t314 = 0
              · rw [if_pos c21] at H
                have c21b0 : (t314 == 0) = true := beq_iff_eq.mpr c21
                have c21b1 : (t314 != 0) = false := bne_eq_false_iff_eq.mpr c21
                clear c21
                (first | rw [c21b0] | (simp only [i64_w, i32_w]; rw [c21b0]) | skip)
                by_cases c22 : t321 = 0
                · rw [if_pos c22] at H
                  have c22b0 : (t321 == 0) = true := beq_iff_eq.mpr c22
                  have c22b1 : (t321 != 0) = false := bne_eq_false_iff_eq.mpr c22
                  clear c22
                  have H' := Aside0.mk H
                  clear H
                  obtain ⟨Ao23, co23, eo23⟩ := Kd.R_slice HO323.out
                  subst eo23
                  go_wp2
                  go_meet
                  case rel => exact ⟨_, (((t320.length : Int) != (wrap64 ((wrap64 ((rd y309 (ji5)) + 1)) + (wrap64 (Int.tmod (IntKind.u64.wrap (a2)) 30)))))), (by first | rfl | (simp; done) | (simp only [← hji5] <;> (first | rfl | simp)) | (simp [*]; done)), H', ⟨by have := HK1.out; first | omega | exact Nat.le_refl _⟩, ⟨by (with_reducible repeat (first | apply ra_ | apply rn_ | apply rd_)); exact Kd.R_mono HO323.out (fun _ hk => trivial)⟩, ⟨by repeat (first | (with_reducible first | exact HB.out | apply ba_ | apply bn_ | apply bd_) | exact HB.out)⟩⟩
                · rw [if_neg c22] at H
                  have c22b0 : (t321 == 0) = false := beq_eq_false_iff_ne.mpr c22
                  have c22b1 : (t321 != 0) = true := bne_iff_ne.mpr c22
                  have H' := Aside0.mk H
                  clear H
                  go_wp2
                  go_meet
                  case rel => exact ⟨_, (true), (by first | rfl | (simp; done) | (simp [*]; done)), H', ⟨by have := HK1.out; first | omega | exact Nat.le_refl _⟩, ⟨by (with_reducible repeat (first | apply ra_ | apply rn_ | apply rd_)); exact Kd.R_mono HO323.out (fun _ hk => trivial)⟩, ⟨by repeat (first | (with_reducible first | exact HB.out | apply ba_ | apply bn_ | apply bd_) | exact HB.out)⟩⟩
              · rw [if_neg c21] at H
                have c21b0 : (t314 == 0) = false := beq_eq_false_iff_ne.mpr c21
                have c21b1 : (t314 != 0) = true := bne_iff_ne.mpr c21
                (first | rw [c21b0] | (simp only [i64_w, i32_w]; rw [c21b0]) | skip)
                have H' := Aside0.mk H
                clear H
                go_wp2
                go_meet
                case rel => exact ⟨_, (true), (by first | rfl | (simp; done) | (simp [*]; done)), H', ⟨by have := HK1.out; first | omega | exact Nat.le_refl _⟩, ⟨by (with_reducible repeat (first | apply ra_ | apply rn_ | apply rd_)); exact Kd.R_mono HO323.out (fun _ hk => trivial)⟩, ⟨by repeat (first | (with_reducible first | exact HB.out | apply ba_ | apply bn_ | apply bd_) | exact HB.out)⟩⟩
            case rest =>
              clear HC17
              (try clear c1); (try clear c2); (try clear p2); (try clear c3); (try clear p3); (try clear q3); (try clear hx3); (try clear c6); (try clear c6b0); (try clear p6); (try clear c7); (try clear c7b0); (try clear c12); (try clear c13); (try clear c13b0); (try clear c14); (try clear c21); (try clear c21b0); (try clear c21b1); (try clear c22); (try clear c22b0); (try clear c22b1); (try clear hx312_0); (try clear p2); (try clear p3); (try clear p312); (try clear p6); (try clear q3); (try clear q312)
              obtain ⟨kq, x72_16, rfl, HA, HJ16, HO_13, HB⟩ := hcut
              cases kq with
              | zero => exact absurd HA.out (by simp [L04_CodecCut.j1])
              | succ kj16 =>
                have H := HA.out
                clear HA
                simp only [L04_CodecCut.j1] at H
                by_cases c24 : x72_16 = true
                · subst c24
                  have H1 : (some false) = some r := by rw [if_pos rfl] at H; exact H
                  clear H
                  have H := H1
                  clear H1
                  obtain rfl := Option.some.inj H
                  go_wp2
                  go_ret
                  exact ⟨by first | rfl | (simp [errW_none, errW_some] <;> rfl) | (simp only [← hji5]; first | rfl | (simp [errW_none, errW_some] <;> rfl)) | (simp [*, errW_none, errW_some] <;> rfl), by repeat (first | (with_reducible first | exact HB.out | apply ba_ | apply bn_ | apply bd_) | exact HB.out)⟩
                · replace c24 := Bool.eq_false_iff.mpr c24
                  subst c24
                  have H1 : (if (IntKind.u64.wrap ((t320.length : Int))) = 0 then (none) else (if 0 ≤ (wrap64 (Int.tmod (IntKind.u64.wrap (a3)) (IntKind.u64.wrap ((t320.length : Int))))) then (if (wrap64 (Int.tmod (IntKind.u64.wrap (a3)) (IntKind.u64.wrap ((t320.length : Int))))) ≤ (t320.length : Int) then ((some (t320.take ((wrap64 (Int.tmod (IntKind.u64.wrap (a3)) (IntKind.u64.wrap ((t320.length : Int))))) : Int).toNat : List Int)).bind fun y324 => ((codec_Get.f kj16 y324 0 (rd y309 (ji5))).bind fun bt328 => ((codec_GetList.f kj16 y324 (rd y309 (ji5))).bind fun bt331 => (if (wrap64 (Int.tmod (IntKind.u64.wrap (a3)) (IntKind.u64.wrap ((t320.length : Int))))) < (rd y309 (ji5)) then (if bt328.2.2 = 2 then (if bt331.2.2 = 2 then (if (wrap64 ((wrap64 ((wrap64 (bt328.1 + bt328.2.1)) + (bt331.1.length : Int))) + bt331.2.1)) = 0 then ((L04_wakes.f kj16).bind fun t336 => (some t336)) else (some false)) else (some false)) else (some false)) else (if bt328.2.2 = 0 then (if bt328.1 = (wrap64 (Int.tmod (IntKind.u64.wrap (a1)) 200)) then (if bt328.2.1 = (rd y309 (ji5)) then (if bt331.2.2 = 2 then (if (wrap64 ((bt331.1.length : Int) + bt331.2.1)) = 0 then ((L04_wakes.f kj16).bind fun t337 => (some t337)) else (some false)) else (some false)) else (some false)) else (some false)) else (some false)))))) else (none)) else (none))) = some r := by rw [if_neg (show ¬ (false = true) by decide)] at H; exact H
                  clear H
                  have H := H1
                  clear H1
                  by_cases c25 : (IntKind.u64.wrap ((t320.length : Int))) = 0
                  · rw [if_pos c25] at H
                    exact absurd H (by simp)
                  · rw [if_neg c25] at H
                    have c25b0 : ((IntKind.u64.wrap ((t320.length : Int))) == 0) = false := beq_eq_false_iff_ne.mpr c25
                    have c25b1 : ((IntKind.u64.wrap ((t320.length : Int))) != 0) = true := bne_iff_ne.mpr c25
                    obtain ⟨ji26, hji26⟩ : ∃ j_ : Int, (wrap64 (Int.tmod (IntKind.u64.wrap (a3)) (IntKind.u64.wrap ((t320.length : Int))))) = j_ := ⟨_, rfl⟩
                    replace H : (if 0 ≤ (ji26) then (if (ji26) ≤ (t320.length : Int) then ((some (t320.take ((ji26) : Int).toNat : List Int)).bind fun y324 => ((codec_Get.f kj16 y324 0 (rd y309 (ji5))).bind fun bt328 => ((codec_GetList.f kj16 y324 (rd y309 (ji5))).bind fun bt331 => (if (ji26) < (rd y309 (ji5)) then (if bt328.2.2 = 2 then (if bt331.2.2 = 2 then (if (wrap64 ((wrap64 ((wrap64 (bt328.1 + bt328.2.1)) + (bt331.1.length : Int))) + bt331.2.1)) = 0 then ((L04_wakes.f kj16).bind fun t336 => (some t336)) else (some false)) else (some false)) else (some false)) else (if bt328.2.2 = 0 then (if bt328.1 = (wrap64 (Int.tmod (IntKind.u64.wrap (a1)) 200)) then (if bt328.2.1 = (rd y309 (ji5)) then (if bt331.2.2 = 2 then (if (wrap64 ((bt331.1.length : Int) + bt331.2.1)) = 0 then ((L04_wakes.f kj16).bind fun t337 => (some t337)) else (some false)) else (some false)) else (some false)) else (some false)) else (some false)))))) else (none)) else (none)) = some r := by first | (rw [hji26] at H; exact H) | (simp only [hji26] at H ⊢; exact H)
                    have hji26w : (IntKind.i64.wrap (Int.tmod (IntKind.u64.wrap (a3)) (IntKind.u64.wrap ((t320.length : Int))))) = ji26 := (i64_w _).trans hji26
                    by_cases c27 : 0 ≤ (ji26)
                    · rw [if_pos c27] at H
                      have c27b0 := eq_true c27
                      have c27b1 : decide (0 ≤ (ji26)) = true := decide_eq_true c27
                      clear c27
                      by_cases c28 : (ji26) ≤ (t320.length : Int)
                      · rw [if_pos c28] at H
                        have c28b0 := eq_true c28
                        have c28b1 : decide ((ji26) ≤ (t320.length : Int)) = true := decide_eq_true c28
                        clear c28
                        obtain ⟨y324, hy324⟩ : ∃ y_ : List Int, y_ = (t320.take ((ji26) : Int).toNat) := ⟨_, rfl⟩
                        replace H : ((codec_Get.f kj16 y324 0 (rd y309 (ji5))).bind fun bt328 => ((codec_GetList.f kj16 y324 (rd y309 (ji5))).bind fun bt331 => (if (ji26) < (rd y309 (ji5)) then (if bt328.2.2 = 2 then (if bt331.2.2 = 2 then (if (wrap64 ((wrap64 ((wrap64 (bt328.1 + bt328.2.1)) + (bt331.1.length : Int))) + bt331.2.1)) = 0 then ((L04_wakes.f kj16).bind fun t336 => (some t336)) else (some false)) else (some false)) else (some false)) else (if bt328.2.2 = 0 then (if bt328.1 = (wrap64 (Int.tmod (IntKind.u64.wrap (a1)) 200)) then (if bt328.2.1 = (rd y309 (ji5)) then (if bt331.2.2 = 2 then (if (wrap64 ((bt331.1.length : Int) + bt331.2.1)) = 0 then ((L04_wakes.f kj16).bind fun t337 => (some t337)) else (some false)) else (some false)) else (some false)) else (some false)) else (some false))))) = some r := by first | (rw [hy324]; with_reducible exact H) | (have H2_ := (Option.bind_some _ _).symm.trans H; rw [hy324]; with_reducible exact H2_) | (have H2_ := (Option.bind_some _ _).symm.trans H; with_reducible exact H2_) | with_reducible exact H | (rw [hy324]; exact H) | exact H
                        have Ny324 := Aside0.mk hy324
                        clear hy324
                        replace H := Option.bind_eq_some_iff.mp H
                        obtain ⟨⟨t328, t329, t330⟩, A290, H⟩ := H
                        replace H : ((codec_GetList.f kj16 y324 (rd y309 (ji5))).bind fun bt331 => (if (ji26) < (rd y309 (ji5)) then (if t330 = 2 then (if bt331.2.2 = 2 then (if (wrap64 ((wrap64 ((wrap64 (t328 + t329)) + (bt331.1.length : Int))) + bt331.2.1)) = 0 then ((L04_wakes.f kj16).bind fun t336 => (some t336)) else (some false)) else (some false)) else (some false)) else (if t330 = 0 then (if t328 = (wrap64 (Int.tmod (IntKind.u64.wrap (a1)) 200)) then (if t329 = (rd y309 (ji5)) then (if bt331.2.2 = 2 then (if (wrap64 ((bt331.1.length : Int) + bt331.2.1)) = 0 then ((L04_wakes.f kj16).bind fun t337 => (some t337)) else (some false)) else (some false)) else (some false)) else (some false)) else (some false)))) = some r := H
                        have A29 := Aside0.mk A290
                        clear A290
                        replace H := Option.bind_eq_some_iff.mp H
                        obtain ⟨⟨t331, t332, t333⟩, A300, H⟩ := H
                        replace H : (if (ji26) < (rd y309 (ji5)) then (if t330 = 2 then (if t333 = 2 then (if (wrap64 ((wrap64 ((wrap64 (t328 + t329)) + (t331.length : Int))) + t332)) = 0 then ((L04_wakes.f kj16).bind fun t336 => (some t336)) else (some false)) else (some false)) else (some false)) else (if t330 = 0 then (if t328 = (wrap64 (Int.tmod (IntKind.u64.wrap (a1)) 200)) then (if t329 = (rd y309 (ji5)) then (if t333 = 2 then (if (wrap64 ((t331.length : Int) + t332)) = 0 then ((L04_wakes.f kj16).bind fun t337 => (some t337)) else (some false)) else (some false)) else (some false)) else (some false)) else (some false))) = some r := H
                        have A30 := Aside0.mk A300
                        clear A300
                        by_cases c31 : (ji26) < (rd y309 (ji5))
                        · rw [if_pos c31] at H
                          have c31b0 : decide ((ji26) < (rd y309 (ji5))) = true := decide_eq_true c31
                          clear c31
                          by_cases c32 : t330 = 2
                          · rw [if_pos c32] at H
                            have c32b0 : (t330 == 2) = true := beq_iff_eq.mpr c32
                            have c32b1 : (t330 != 2) = false := bne_eq_false_iff_eq.mpr c32
                            clear c32
                            by_cases c33 : t333 = 2
                            · rw [if_pos c33] at H
                              have c33b0 : (t333 == 2) = true := beq_iff_eq.mpr c33
                              have c33b1 : (t333 != 2) = false := bne_eq_false_iff_eq.mpr c33
                              clear c33
                              by_cases c34 : (wrap64 ((wrap64 ((wrap64 (t328 + t329)) + (t331.length : Int))) + t332)) = 0
                              · rw [if_pos c34] at H
                                have c34b0 : ((wrap64 ((wrap64 ((wrap64 (t328 + t329)) + (t331.length : Int))) + t332)) == 0) = true := beq_iff_eq.mpr c34
                                have c34b1 : ((wrap64 ((wrap64 ((wrap64 (t328 + t329)) + (t331.length : Int))) + t332)) != 0) = false := bne_eq_false_iff_eq.mpr c34
                                clear c34
                                replace H := Option.bind_eq_some_iff.mp H
                                obtain ⟨t336, A350, H⟩ := H
                                replace H : (some t336) = some r := H
                                have A35 := Aside0.mk A350
                                clear A350
                                obtain rfl := Option.some.inj H
                                obtain ⟨Ao36, co36, eo36⟩ := Kd.R_slice HO_13.out
                                subst eo36
                                have q37 : ((ji26) : Int) ≤ ((t320.length : Int) : Int) := of_decide_eq_true (by first | (with_reducible assumption) | assumption)
                                obtain ⟨i037, hi037, _, hsz37, _⟩ := info_parts info5
                                have hroom37 : t320.length ≤ co36 := (Kd.R_reads' HO_13.out).2.1
                                have hC37 : Kd.C (Kd.int .u8) _ Ao36 t320.length t320 := (Kd.R_reads' HO_13.out).2.2
                                have hcut37 := cut_to (P := Try.prog) 22 5 .i64 Try.underlying22 hi037 Ao36 t320.length co36 (ji26) (of_decide_eq_true (by first | (with_reducible assumption) | assumption)) q37 hroom37
                                have hr37 := Kd.C_take (m := ((ji26) : Int).toNat) hC37 (by omega)
                                have hy37 : y324.length = ((ji26) : Int).toNat := (by rw [Ny324.out, List.length_take]; omega)
                                rw [← Ny324.out] at hr37
                                rw [← hy37] at hcut37
                                have HR327 := Aside0.mk hr37
                                have HC327 := Aside0.mk (show y324.length ≤ co36 from by omega)
                                clear hr37 hC37 hroom37 hi037 hsz37
                                have KY37 := Aside0.mk hy37
                                clear hy37
                                have KL37 := Aside0.mk (show ((ji26) : Int).toNat ≤ t320.length from by omega)
                                replace q37 := eq_true q37
                                go_wp2_with (first | ((with_reducible refine gate_callee (f := 34) rfl ?_); refine goesL_ (some 86) rfl rfl Try.func34 (by kernel_rfl) rfl #[.slice Ao36 y324.length co36, .int .i64 0, .int .i64 (rd y309 (ji5))] rfl (by (try simp only [List.map_toArray, List.map_cons, List.map_nil]); first | done | (simp only [hji5]; rfl) | rfl | (simp only [List.length_drop, List.length_take]; rfl)) ?_; (with_reducible refine (codec_Get.calls kj16 _ _ y324 0 (rd y309 (ji5)) t328 t329 t330 _ ?side1 ?side2 A29.out).mono ?_); (case side1 => repeat (first | exact (by repeat (first | (with_reducible exact HR327.out) | (with_reducible refine Kd.C_alloc ?_ _) | (with_reducible refine Kd.C_drewN ?_ _) | (with_reducible refine Kd.C_drew ?_) | exact HR327.out)) | (with_reducible refine Kd.C_alloc ?_ _) | (with_reducible refine Kd.C_drewN ?_ _) | (with_reducible refine Kd.C_drew ?_))); (case side2 => exact HC327.out); rintro e w' ⟨rfl, ⟨nd, rfl⟩⟩; refine ⟨_, rfl, ?_⟩) | ((with_reducible refine gate_callee (f := 36) rfl ?_); refine goesL_ (some 93) rfl rfl Try.func36 (by kernel_rfl) rfl #[.slice Ao36 y324.length co36, .int .i64 (rd y309 (ji5))] rfl (by (try simp only [List.map_toArray, List.map_cons, List.map_nil]); first | done | (simp only [hji5]; rfl) | rfl | (simp only [List.length_drop, List.length_take]; rfl)) ?_; (with_reducible refine (codec_GetList.calls kj16 _ _ y324 (rd y309 (ji5)) t331 t332 t333 _ ?side1 ?side2 A30.out).mono ?_); (case side1 => repeat (first | exact (by repeat (first | (with_reducible exact HR327.out) | (with_reducible refine Kd.C_alloc ?_ _) | (with_reducible refine Kd.C_drewN ?_ _) | (with_reducible refine Kd.C_drew ?_) | exact HR327.out)) | (with_reducible refine Kd.C_alloc ?_ _) | (with_reducible refine Kd.C_drewN ?_ _) | (with_reducible refine Kd.C_drew ?_))); (case side2 => exact HC327.out); rintro e w38 ⟨v334, rfl, ho0, hb⟩; refine ⟨_, rfl, ?_⟩; have n0_ := Aside0.mk (Kd.R_below (by (with_reducible repeat (first | apply ra_ | apply rn_ | apply rd_)); exact HO_13.out) hb); have n1_ := Aside0.mk (Kd.R_lower ho0 (below_size (by repeat (first | (with_reducible first | exact HB.out | apply ba_ | apply bn_ | apply bd_) | exact HB.out)))); have n2_ := Aside0.mk (Kd.C_below (by repeat (first | (with_reducible exact HR327.out) | (with_reducible refine Kd.C_alloc ?_ _) | (with_reducible refine Kd.C_drewN ?_ _) | (with_reducible refine Kd.C_drew ?_) | exact HR327.out)) hb); have n3_ := Aside0.mk (below_step (by repeat (first | (with_reducible first | exact HB.out | apply ba_ | apply bn_ | apply bd_) | exact HB.out)) hb); clear HO_13; clear HR327; clear HB; have HO_13 := n0_; have HO335 := n1_; have HR327 := n2_; have HB := n3_; clear n0_ n1_ n2_ n3_; (try clear hb); (try clear hb2); (try clear hk); (try clear hi); (try clear ho0); obtain ⟨Ao39, co39, eo39⟩ := Kd.R_slice HO335.out; subst eo39) | (go_at_call 44; (with_reducible refine (L04_wakes.calls kj16  t336 _ A35.out).mono ?_); rintro e w40 ⟨rfl, hb⟩; have n0_ := Aside0.mk (Kd.R_below (by (with_reducible repeat (first | apply ra_ | apply rn_ | apply rd_)); exact HO_13.out) hb); have n1_ := Aside0.mk (Kd.R_below (by (with_reducible repeat (first | apply ra_ | apply rn_ | apply rd_)); exact HO335.out) hb); have n2_ := Aside0.mk (Kd.C_below (by repeat (first | (with_reducible exact HR327.out) | (with_reducible refine Kd.C_alloc ?_ _) | (with_reducible refine Kd.C_drewN ?_ _) | (with_reducible refine Kd.C_drew ?_) | exact HR327.out)) hb); have n3_ := Aside0.mk (below_step (by repeat (first | (with_reducible first | exact HB.out | apply ba_ | apply bn_ | apply bd_) | exact HB.out)) hb); clear HO_13; clear HO335; clear HR327; clear HB; have HO_13 := n0_; have HO335 := n1_; have HR327 := n2_; have HB := n3_; clear n0_ n1_ n2_ n3_; (try clear hb); (try clear hb2); (try clear hk); (try clear hi)))
                                go_ret
                                exact ⟨by first | rfl | (simp [errW_none, errW_some] <;> rfl) | (simp only [← hji5, ← hji26]; first | rfl | (simp [errW_none, errW_some] <;> rfl)) | (simp [*, errW_none, errW_some] <;> rfl), by repeat (first | (with_reducible first | exact HB.out | apply ba_ | apply bn_ | apply bd_) | exact HB.out)⟩
                              · rw [if_neg c34] at H
                                have c34b0 : ((wrap64 ((wrap64 ((wrap64 (t328 + t329)) + (t331.length : Int))) + t332)) == 0) = false := beq_eq_false_iff_ne.mpr c34
                                have c34b1 : ((wrap64 ((wrap64 ((wrap64 (t328 + t329)) + (t331.length : Int))) + t332)) != 0) = true := bne_iff_ne.mpr c34
                                obtain rfl := Option.some.inj H
                                obtain ⟨Ao41, co41, eo41⟩ := Kd.R_slice HO_13.out
                                subst eo41
                                have q42 : ((ji26) : Int) ≤ ((t320.length : Int) : Int) := of_decide_eq_true (by first | (with_reducible assumption) | assumption)
                                obtain ⟨i042, hi042, _, hsz42, _⟩ := info_parts info5
                                have hroom42 : t320.length ≤ co41 := (Kd.R_reads' HO_13.out).2.1
                                have hC42 : Kd.C (Kd.int .u8) _ Ao41 t320.length t320 := (Kd.R_reads' HO_13.out).2.2
                                have hcut42 := cut_to (P := Try.prog) 22 5 .i64 Try.underlying22 hi042 Ao41 t320.length co41 (ji26) (of_decide_eq_true (by first | (with_reducible assumption) | assumption)) q42 hroom42
                                have hr42 := Kd.C_take (m := ((ji26) : Int).toNat) hC42 (by omega)
                                have hy42 : y324.length = ((ji26) : Int).toNat := (by rw [Ny324.out, List.length_take]; omega)
                                rw [← Ny324.out] at hr42
                                rw [← hy42] at hcut42
                                have HR327 := Aside0.mk hr42
                                have HC327 := Aside0.mk (show y324.length ≤ co41 from by omega)
                                clear hr42 hC42 hroom42 hi042 hsz42
                                have KY42 := Aside0.mk hy42
                                clear hy42
                                have KL42 := Aside0.mk (show ((ji26) : Int).toNat ≤ t320.length from by omega)
                                replace q42 := eq_true q42
                                go_wp2_with (first | ((with_reducible refine gate_callee (f := 34) rfl ?_); refine goesL_ (some 86) rfl rfl Try.func34 (by kernel_rfl) rfl #[.slice Ao41 y324.length co41, .int .i64 0, .int .i64 (rd y309 (ji5))] rfl (by (try simp only [List.map_toArray, List.map_cons, List.map_nil]); first | done | (simp only [hji5]; rfl) | rfl | (simp only [List.length_drop, List.length_take]; rfl)) ?_; (with_reducible refine (codec_Get.calls kj16 _ _ y324 0 (rd y309 (ji5)) t328 t329 t330 _ ?side1 ?side2 A29.out).mono ?_); (case side1 => repeat (first | exact (by repeat (first | (with_reducible exact HR327.out) | (with_reducible refine Kd.C_alloc ?_ _) | (with_reducible refine Kd.C_drewN ?_ _) | (with_reducible refine Kd.C_drew ?_) | exact HR327.out)) | (with_reducible refine Kd.C_alloc ?_ _) | (with_reducible refine Kd.C_drewN ?_ _) | (with_reducible refine Kd.C_drew ?_))); (case side2 => exact HC327.out); rintro e w' ⟨rfl, ⟨nd, rfl⟩⟩; refine ⟨_, rfl, ?_⟩) | ((with_reducible refine gate_callee (f := 36) rfl ?_); refine goesL_ (some 93) rfl rfl Try.func36 (by kernel_rfl) rfl #[.slice Ao41 y324.length co41, .int .i64 (rd y309 (ji5))] rfl (by (try simp only [List.map_toArray, List.map_cons, List.map_nil]); first | done | (simp only [hji5]; rfl) | rfl | (simp only [List.length_drop, List.length_take]; rfl)) ?_; (with_reducible refine (codec_GetList.calls kj16 _ _ y324 (rd y309 (ji5)) t331 t332 t333 _ ?side1 ?side2 A30.out).mono ?_); (case side1 => repeat (first | exact (by repeat (first | (with_reducible exact HR327.out) | (with_reducible refine Kd.C_alloc ?_ _) | (with_reducible refine Kd.C_drewN ?_ _) | (with_reducible refine Kd.C_drew ?_) | exact HR327.out)) | (with_reducible refine Kd.C_alloc ?_ _) | (with_reducible refine Kd.C_drewN ?_ _) | (with_reducible refine Kd.C_drew ?_))); (case side2 => exact HC327.out); rintro e w43 ⟨v334, rfl, ho0, hb⟩; refine ⟨_, rfl, ?_⟩; have n0_ := Aside0.mk (Kd.R_below (by (with_reducible repeat (first | apply ra_ | apply rn_ | apply rd_)); exact HO_13.out) hb); have n1_ := Aside0.mk (Kd.R_lower ho0 (below_size (by repeat (first | (with_reducible first | exact HB.out | apply ba_ | apply bn_ | apply bd_) | exact HB.out)))); have n2_ := Aside0.mk (Kd.C_below (by repeat (first | (with_reducible exact HR327.out) | (with_reducible refine Kd.C_alloc ?_ _) | (with_reducible refine Kd.C_drewN ?_ _) | (with_reducible refine Kd.C_drew ?_) | exact HR327.out)) hb); have n3_ := Aside0.mk (below_step (by repeat (first | (with_reducible first | exact HB.out | apply ba_ | apply bn_ | apply bd_) | exact HB.out)) hb); clear HO_13; clear HR327; clear HB; have HO_13 := n0_; have HO335 := n1_; have HR327 := n2_; have HB := n3_; clear n0_ n1_ n2_ n3_; (try clear hb); (try clear hb2); (try clear hk); (try clear hi); (try clear ho0); obtain ⟨Ao44, co44, eo44⟩ := Kd.R_slice HO335.out; subst eo44))
                                go_ret
                                exact ⟨by first | rfl | (simp [errW_none, errW_some] <;> rfl) | (simp only [← hji5, ← hji26]; first | rfl | (simp [errW_none, errW_some] <;> rfl)) | (simp [*, errW_none, errW_some] <;> rfl), by repeat (first | (with_reducible first | exact HB.out | apply ba_ | apply bn_ | apply bd_) | exact HB.out)⟩
                            · rw [if_neg c33] at H
                              have c33b0 : (t333 == 2) = false := beq_eq_false_iff_ne.mpr c33
                              have c33b1 : (t333 != 2) = true := bne_iff_ne.mpr c33
                              obtain rfl := Option.some.inj H
                              obtain ⟨Ao45, co45, eo45⟩ := Kd.R_slice HO_13.out
                              subst eo45
                              have q46 : ((ji26) : Int) ≤ ((t320.length : Int) : Int) := of_decide_eq_true (by first | (with_reducible assumption) | assumption)
                              obtain ⟨i046, hi046, _, hsz46, _⟩ := info_parts info5
                              have hroom46 : t320.length ≤ co45 := (Kd.R_reads' HO_13.out).2.1
                              have hC46 : Kd.C (Kd.int .u8) _ Ao45 t320.length t320 := (Kd.R_reads' HO_13.out).2.2
                              have hcut46 := cut_to (P := Try.prog) 22 5 .i64 Try.underlying22 hi046 Ao45 t320.length co45 (ji26) (of_decide_eq_true (by first | (with_reducible assumption) | assumption)) q46 hroom46
                              have hr46 := Kd.C_take (m := ((ji26) : Int).toNat) hC46 (by omega)
                              have hy46 : y324.length = ((ji26) : Int).toNat := (by rw [Ny324.out, List.length_take]; omega)
                              rw [← Ny324.out] at hr46
                              rw [← hy46] at hcut46
                              have HR327 := Aside0.mk hr46
                              have HC327 := Aside0.mk (show y324.length ≤ co45 from by omega)
                              clear hr46 hC46 hroom46 hi046 hsz46
                              have KY46 := Aside0.mk hy46
                              clear hy46
                              have KL46 := Aside0.mk (show ((ji26) : Int).toNat ≤ t320.length from by omega)
                              replace q46 := eq_true q46
                              go_wp2_with (first | ((with_reducible refine gate_callee (f := 34) rfl ?_); refine goesL_ (some 86) rfl rfl Try.func34 (by kernel_rfl) rfl #[.slice Ao45 y324.length co45, .int .i64 0, .int .i64 (rd y309 (ji5))] rfl (by (try simp only [List.map_toArray, List.map_cons, List.map_nil]); first | done | (simp only [hji5]; rfl) | rfl | (simp only [List.length_drop, List.length_take]; rfl)) ?_; (with_reducible refine (codec_Get.calls kj16 _ _ y324 0 (rd y309 (ji5)) t328 t329 t330 _ ?side1 ?side2 A29.out).mono ?_); (case side1 => repeat (first | exact (by repeat (first | (with_reducible exact HR327.out) | (with_reducible refine Kd.C_alloc ?_ _) | (with_reducible refine Kd.C_drewN ?_ _) | (with_reducible refine Kd.C_drew ?_) | exact HR327.out)) | (with_reducible refine Kd.C_alloc ?_ _) | (with_reducible refine Kd.C_drewN ?_ _) | (with_reducible refine Kd.C_drew ?_))); (case side2 => exact HC327.out); rintro e w' ⟨rfl, ⟨nd, rfl⟩⟩; refine ⟨_, rfl, ?_⟩) | ((with_reducible refine gate_callee (f := 36) rfl ?_); refine goesL_ (some 93) rfl rfl Try.func36 (by kernel_rfl) rfl #[.slice Ao45 y324.length co45, .int .i64 (rd y309 (ji5))] rfl (by (try simp only [List.map_toArray, List.map_cons, List.map_nil]); first | done | (simp only [hji5]; rfl) | rfl | (simp only [List.length_drop, List.length_take]; rfl)) ?_; (with_reducible refine (codec_GetList.calls kj16 _ _ y324 (rd y309 (ji5)) t331 t332 t333 _ ?side1 ?side2 A30.out).mono ?_); (case side1 => repeat (first | exact (by repeat (first | (with_reducible exact HR327.out) | (with_reducible refine Kd.C_alloc ?_ _) | (with_reducible refine Kd.C_drewN ?_ _) | (with_reducible refine Kd.C_drew ?_) | exact HR327.out)) | (with_reducible refine Kd.C_alloc ?_ _) | (with_reducible refine Kd.C_drewN ?_ _) | (with_reducible refine Kd.C_drew ?_))); (case side2 => exact HC327.out); rintro e w47 ⟨v334, rfl, ho0, hb⟩; refine ⟨_, rfl, ?_⟩; have n0_ := Aside0.mk (Kd.R_below (by (with_reducible repeat (first | apply ra_ | apply rn_ | apply rd_)); exact HO_13.out) hb); have n1_ := Aside0.mk (Kd.R_lower ho0 (below_size (by repeat (first | (with_reducible first | exact HB.out | apply ba_ | apply bn_ | apply bd_) | exact HB.out)))); have n2_ := Aside0.mk (Kd.C_below (by repeat (first | (with_reducible exact HR327.out) | (with_reducible refine Kd.C_alloc ?_ _) | (with_reducible refine Kd.C_drewN ?_ _) | (with_reducible refine Kd.C_drew ?_) | exact HR327.out)) hb); have n3_ := Aside0.mk (below_step (by repeat (first | (with_reducible first | exact HB.out | apply ba_ | apply bn_ | apply bd_) | exact HB.out)) hb); clear HO_13; clear HR327; clear HB; have HO_13 := n0_; have HO335 := n1_; have HR327 := n2_; have HB := n3_; clear n0_ n1_ n2_ n3_; (try clear hb); (try clear hb2); (try clear hk); (try clear hi); (try clear ho0)))
                              go_ret
                              exact ⟨by first | rfl | (simp [errW_none, errW_some] <;> rfl) | (simp only [← hji5, ← hji26]; first | rfl | (simp [errW_none, errW_some] <;> rfl)) | (simp [*, errW_none, errW_some] <;> rfl), by repeat (first | (with_reducible first | exact HB.out | apply ba_ | apply bn_ | apply bd_) | exact HB.out)⟩
                          · rw [if_neg c32] at H
                            have c32b0 : (t330 == 2) = false := beq_eq_false_iff_ne.mpr c32
                            have c32b1 : (t330 != 2) = true := bne_iff_ne.mpr c32
                            obtain rfl := Option.some.inj H
                            obtain ⟨Ao48, co48, eo48⟩ := Kd.R_slice HO_13.out
                            subst eo48
                            have q49 : ((ji26) : Int) ≤ ((t320.length : Int) : Int) := of_decide_eq_true (by first | (with_reducible assumption) | assumption)
                            obtain ⟨i049, hi049, _, hsz49, _⟩ := info_parts info5
                            have hroom49 : t320.length ≤ co48 := (Kd.R_reads' HO_13.out).2.1
                            have hC49 : Kd.C (Kd.int .u8) _ Ao48 t320.length t320 := (Kd.R_reads' HO_13.out).2.2
                            have hcut49 := cut_to (P := Try.prog) 22 5 .i64 Try.underlying22 hi049 Ao48 t320.length co48 (ji26) (of_decide_eq_true (by first | (with_reducible assumption) | assumption)) q49 hroom49
                            have hr49 := Kd.C_take (m := ((ji26) : Int).toNat) hC49 (by omega)
                            have hy49 : y324.length = ((ji26) : Int).toNat := (by rw [Ny324.out, List.length_take]; omega)
                            rw [← Ny324.out] at hr49
                            rw [← hy49] at hcut49
                            have HR327 := Aside0.mk hr49
                            have HC327 := Aside0.mk (show y324.length ≤ co48 from by omega)
                            clear hr49 hC49 hroom49 hi049 hsz49
                            have KY49 := Aside0.mk hy49
                            clear hy49
                            have KL49 := Aside0.mk (show ((ji26) : Int).toNat ≤ t320.length from by omega)
                            replace q49 := eq_true q49
                            go_wp2_with (first | ((with_reducible refine gate_callee (f := 34) rfl ?_); refine goesL_ (some 86) rfl rfl Try.func34 (by kernel_rfl) rfl #[.slice Ao48 y324.length co48, .int .i64 0, .int .i64 (rd y309 (ji5))] rfl (by (try simp only [List.map_toArray, List.map_cons, List.map_nil]); first | done | (simp only [hji5]; rfl) | rfl | (simp only [List.length_drop, List.length_take]; rfl)) ?_; (with_reducible refine (codec_Get.calls kj16 _ _ y324 0 (rd y309 (ji5)) t328 t329 t330 _ ?side1 ?side2 A29.out).mono ?_); (case side1 => repeat (first | exact (by repeat (first | (with_reducible exact HR327.out) | (with_reducible refine Kd.C_alloc ?_ _) | (with_reducible refine Kd.C_drewN ?_ _) | (with_reducible refine Kd.C_drew ?_) | exact HR327.out)) | (with_reducible refine Kd.C_alloc ?_ _) | (with_reducible refine Kd.C_drewN ?_ _) | (with_reducible refine Kd.C_drew ?_))); (case side2 => exact HC327.out); rintro e w' ⟨rfl, ⟨nd, rfl⟩⟩; refine ⟨_, rfl, ?_⟩) | ((with_reducible refine gate_callee (f := 36) rfl ?_); refine goesL_ (some 93) rfl rfl Try.func36 (by kernel_rfl) rfl #[.slice Ao48 y324.length co48, .int .i64 (rd y309 (ji5))] rfl (by (try simp only [List.map_toArray, List.map_cons, List.map_nil]); first | done | (simp only [hji5]; rfl) | rfl | (simp only [List.length_drop, List.length_take]; rfl)) ?_; (with_reducible refine (codec_GetList.calls kj16 _ _ y324 (rd y309 (ji5)) t331 t332 t333 _ ?side1 ?side2 A30.out).mono ?_); (case side1 => repeat (first | exact (by repeat (first | (with_reducible exact HR327.out) | (with_reducible refine Kd.C_alloc ?_ _) | (with_reducible refine Kd.C_drewN ?_ _) | (with_reducible refine Kd.C_drew ?_) | exact HR327.out)) | (with_reducible refine Kd.C_alloc ?_ _) | (with_reducible refine Kd.C_drewN ?_ _) | (with_reducible refine Kd.C_drew ?_))); (case side2 => exact HC327.out); rintro e w50 ⟨v334, rfl, ho0, hb⟩; refine ⟨_, rfl, ?_⟩; have n0_ := Aside0.mk (Kd.R_below (by (with_reducible repeat (first | apply ra_ | apply rn_ | apply rd_)); exact HO_13.out) hb); have n1_ := Aside0.mk (Kd.R_lower ho0 (below_size (by repeat (first | (with_reducible first | exact HB.out | apply ba_ | apply bn_ | apply bd_) | exact HB.out)))); have n2_ := Aside0.mk (Kd.C_below (by repeat (first | (with_reducible exact HR327.out) | (with_reducible refine Kd.C_alloc ?_ _) | (with_reducible refine Kd.C_drewN ?_ _) | (with_reducible refine Kd.C_drew ?_) | exact HR327.out)) hb); have n3_ := Aside0.mk (below_step (by repeat (first | (with_reducible first | exact HB.out | apply ba_ | apply bn_ | apply bd_) | exact HB.out)) hb); clear HO_13; clear HR327; clear HB; have HO_13 := n0_; have HO335 := n1_; have HR327 := n2_; have HB := n3_; clear n0_ n1_ n2_ n3_; (try clear hb); (try clear hb2); (try clear hk); (try clear hi); (try clear ho0)))
                            go_ret
                            exact ⟨by first | rfl | (simp [errW_none, errW_some] <;> rfl) | (simp only [← hji5, ← hji26]; first | rfl | (simp [errW_none, errW_some] <;> rfl)) | (simp [*, errW_none, errW_some] <;> rfl), by repeat (first | (with_reducible first | exact HB.out | apply ba_ | apply bn_ | apply bd_) | exact HB.out)⟩
                        · rw [if_neg c31] at H
                          have c31b0 : decide ((ji26) < (rd y309 (ji5))) = false := decide_eq_false c31
                          clear c31
                          by_cases c51 : t330 = 0
                          · rw [if_pos c51] at H
                            have c51b0 : (t330 == 0) = true := beq_iff_eq.mpr c51
                            have c51b1 : (t330 != 0) = false := bne_eq_false_iff_eq.mpr c51
                            clear c51
                            by_cases c52 : t328 = (wrap64 (Int.tmod (IntKind.u64.wrap (a1)) 200))
                            · rw [if_pos c52] at H
                              have c52b0 : (t328 == (wrap64 (Int.tmod (IntKind.u64.wrap (a1)) 200))) = true := beq_iff_eq.mpr c52
                              have c52b1 : (t328 != (wrap64 (Int.tmod (IntKind.u64.wrap (a1)) 200))) = false := bne_eq_false_iff_eq.mpr c52
                              clear c52
                              by_cases c53 : t329 = (rd y309 (ji5))
                              · rw [if_pos c53] at H
                                have c53b0 : (t329 == (rd y309 (ji5))) = true := beq_iff_eq.mpr c53
                                have c53b1 : (t329 != (rd y309 (ji5))) = false := bne_eq_false_iff_eq.mpr c53
                                clear c53
                                by_cases c54 : t333 = 2
                                · rw [if_pos c54] at H
                                  have c54b0 : (t333 == 2) = true := beq_iff_eq.mpr c54
                                  have c54b1 : (t333 != 2) = false := bne_eq_false_iff_eq.mpr c54
                                  clear c54
                                  by_cases c55 : (wrap64 ((t331.length : Int) + t332)) = 0
                                  · rw [if_pos c55] at H
                                    have c55b0 : ((wrap64 ((t331.length : Int) + t332)) == 0) = true := beq_iff_eq.mpr c55
                                    have c55b1 : ((wrap64 ((t331.length : Int) + t332)) != 0) = false := bne_eq_false_iff_eq.mpr c55
                                    clear c55
                                    replace H := Option.bind_eq_some_iff.mp H
                                    obtain ⟨t337, A560, H⟩ := H
                                    replace H : (some t337) = some r := H
                                    have A56 := Aside0.mk A560
                                    clear A560
                                    obtain rfl := Option.some.inj H
                                    obtain ⟨Ao57, co57, eo57⟩ := Kd.R_slice HO_13.out
                                    subst eo57
                                    have q58 : ((ji26) : Int) ≤ ((t320.length : Int) : Int) := of_decide_eq_true (by first | (with_reducible assumption) | assumption)
                                    obtain ⟨i058, hi058, _, hsz58, _⟩ := info_parts info5
                                    have hroom58 : t320.length ≤ co57 := (Kd.R_reads' HO_13.out).2.1
                                    have hC58 : Kd.C (Kd.int .u8) _ Ao57 t320.length t320 := (Kd.R_reads' HO_13.out).2.2
                                    have hcut58 := cut_to (P := Try.prog) 22 5 .i64 Try.underlying22 hi058 Ao57 t320.length co57 (ji26) (of_decide_eq_true (by first | (with_reducible assumption) | assumption)) q58 hroom58
                                    have hr58 := Kd.C_take (m := ((ji26) : Int).toNat) hC58 (by omega)
                                    have hy58 : y324.length = ((ji26) : Int).toNat := (by rw [Ny324.out, List.length_take]; omega)
                                    rw [← Ny324.out] at hr58
                                    rw [← hy58] at hcut58
                                    have HR327 := Aside0.mk hr58
                                    have HC327 := Aside0.mk (show y324.length ≤ co57 from by omega)
                                    clear hr58 hC58 hroom58 hi058 hsz58
                                    have KY58 := Aside0.mk hy58
                                    clear hy58
                                    have KL58 := Aside0.mk (show ((ji26) : Int).toNat ≤ t320.length from by omega)
                                    replace q58 := eq_true q58
                                    go_wp2_with (first | ((with_reducible refine gate_callee (f := 34) rfl ?_); refine goesL_ (some 86) rfl rfl Try.func34 (by kernel_rfl) rfl #[.slice Ao57 y324.length co57, .int .i64 0, .int .i64 (rd y309 (ji5))] rfl (by (try simp only [List.map_toArray, List.map_cons, List.map_nil]); first | done | (simp only [hji5]; rfl) | rfl | (simp only [List.length_drop, List.length_take]; rfl)) ?_; (with_reducible refine (codec_Get.calls kj16 _ _ y324 0 (rd y309 (ji5)) t328 t329 t330 _ ?side1 ?side2 A29.out).mono ?_); (case side1 => repeat (first | exact (by repeat (first | (with_reducible exact HR327.out) | (with_reducible refine Kd.C_alloc ?_ _) | (with_reducible refine Kd.C_drewN ?_ _) | (with_reducible refine Kd.C_drew ?_) | exact HR327.out)) | (with_reducible refine Kd.C_alloc ?_ _) | (with_reducible refine Kd.C_drewN ?_ _) | (with_reducible refine Kd.C_drew ?_))); (case side2 => exact HC327.out); rintro e w' ⟨rfl, ⟨nd, rfl⟩⟩; refine ⟨_, rfl, ?_⟩) | ((with_reducible refine gate_callee (f := 36) rfl ?_); refine goesL_ (some 93) rfl rfl Try.func36 (by kernel_rfl) rfl #[.slice Ao57 y324.length co57, .int .i64 (rd y309 (ji5))] rfl (by (try simp only [List.map_toArray, List.map_cons, List.map_nil]); first | done | (simp only [hji5]; rfl) | rfl | (simp only [List.length_drop, List.length_take]; rfl)) ?_; (with_reducible refine (codec_GetList.calls kj16 _ _ y324 (rd y309 (ji5)) t331 t332 t333 _ ?side1 ?side2 A30.out).mono ?_); (case side1 => repeat (first | exact (by repeat (first | (with_reducible exact HR327.out) | (with_reducible refine Kd.C_alloc ?_ _) | (with_reducible refine Kd.C_drewN ?_ _) | (with_reducible refine Kd.C_drew ?_) | exact HR327.out)) | (with_reducible refine Kd.C_alloc ?_ _) | (with_reducible refine Kd.C_drewN ?_ _) | (with_reducible refine Kd.C_drew ?_))); (case side2 => exact HC327.out); rintro e w59 ⟨v334, rfl, ho0, hb⟩; refine ⟨_, rfl, ?_⟩; have n0_ := Aside0.mk (Kd.R_below (by (with_reducible repeat (first | apply ra_ | apply rn_ | apply rd_)); exact HO_13.out) hb); have n1_ := Aside0.mk (Kd.R_lower ho0 (below_size (by repeat (first | (with_reducible first | exact HB.out | apply ba_ | apply bn_ | apply bd_) | exact HB.out)))); have n2_ := Aside0.mk (Kd.C_below (by repeat (first | (with_reducible exact HR327.out) | (with_reducible refine Kd.C_alloc ?_ _) | (with_reducible refine Kd.C_drewN ?_ _) | (with_reducible refine Kd.C_drew ?_) | exact HR327.out)) hb); have n3_ := Aside0.mk (below_step (by repeat (first | (with_reducible first | exact HB.out | apply ba_ | apply bn_ | apply bd_) | exact HB.out)) hb); clear HO_13; clear HR327; clear HB; have HO_13 := n0_; have HO335 := n1_; have HR327 := n2_; have HB := n3_; clear n0_ n1_ n2_ n3_; (try clear hb); (try clear hb2); (try clear hk); (try clear hi); (try clear ho0); obtain ⟨Ao60, co60, eo60⟩ := Kd.R_slice HO335.out; subst eo60) | (go_at_call 44; (with_reducible refine (L04_wakes.calls kj16  t337 _ A56.out).mono ?_); rintro e w61 ⟨rfl, hb⟩; have n0_ := Aside0.mk (Kd.R_below (by (with_reducible repeat (first | apply ra_ | apply rn_ | apply rd_)); exact HO_13.out) hb); have n1_ := Aside0.mk (Kd.R_below (by (with_reducible repeat (first | apply ra_ | apply rn_ | apply rd_)); exact HO335.out) hb); have n2_ := Aside0.mk (Kd.C_below (by repeat (first | (with_reducible exact HR327.out) | (with_reducible refine Kd.C_alloc ?_ _) | (with_reducible refine Kd.C_drewN ?_ _) | (with_reducible refine Kd.C_drew ?_) | exact HR327.out)) hb); have n3_ := Aside0.mk (below_step (by repeat (first | (with_reducible first | exact HB.out | apply ba_ | apply bn_ | apply bd_) | exact HB.out)) hb); clear HO_13; clear HO335; clear HR327; clear HB; have HO_13 := n0_; have HO335 := n1_; have HR327 := n2_; have HB := n3_; clear n0_ n1_ n2_ n3_; (try clear hb); (try clear hb2); (try clear hk); (try clear hi)))
                                    go_ret
                                    exact ⟨by first | rfl | (simp [errW_none, errW_some] <;> rfl) | (simp only [← hji5, ← hji26]; first | rfl | (simp [errW_none, errW_some] <;> rfl)) | (simp [*, errW_none, errW_some] <;> rfl), by repeat (first | (with_reducible first | exact HB.out | apply ba_ | apply bn_ | apply bd_) | exact HB.out)⟩
                                  · rw [if_neg c55] at H
                                    have c55b0 : ((wrap64 ((t331.length : Int) + t332)) == 0) = false := beq_eq_false_iff_ne.mpr c55
                                    have c55b1 : ((wrap64 ((t331.length : Int) + t332)) != 0) = true := bne_iff_ne.mpr c55
                                    obtain rfl := Option.some.inj H
                                    obtain ⟨Ao62, co62, eo62⟩ := Kd.R_slice HO_13.out
                                    subst eo62
                                    have q63 : ((ji26) : Int) ≤ ((t320.length : Int) : Int) := of_decide_eq_true (by first | (with_reducible assumption) | assumption)
                                    obtain ⟨i063, hi063, _, hsz63, _⟩ := info_parts info5
                                    have hroom63 : t320.length ≤ co62 := (Kd.R_reads' HO_13.out).2.1
                                    have hC63 : Kd.C (Kd.int .u8) _ Ao62 t320.length t320 := (Kd.R_reads' HO_13.out).2.2
                                    have hcut63 := cut_to (P := Try.prog) 22 5 .i64 Try.underlying22 hi063 Ao62 t320.length co62 (ji26) (of_decide_eq_true (by first | (with_reducible assumption) | assumption)) q63 hroom63
                                    have hr63 := Kd.C_take (m := ((ji26) : Int).toNat) hC63 (by omega)
                                    have hy63 : y324.length = ((ji26) : Int).toNat := (by rw [Ny324.out, List.length_take]; omega)
                                    rw [← Ny324.out] at hr63
                                    rw [← hy63] at hcut63
                                    have HR327 := Aside0.mk hr63
                                    have HC327 := Aside0.mk (show y324.length ≤ co62 from by omega)
                                    clear hr63 hC63 hroom63 hi063 hsz63
                                    have KY63 := Aside0.mk hy63
                                    clear hy63
                                    have KL63 := Aside0.mk (show ((ji26) : Int).toNat ≤ t320.length from by omega)
                                    replace q63 := eq_true q63
                                    go_wp2_with (first | ((with_reducible refine gate_callee (f := 34) rfl ?_); refine goesL_ (some 86) rfl rfl Try.func34 (by kernel_rfl) rfl #[.slice Ao62 y324.length co62, .int .i64 0, .int .i64 (rd y309 (ji5))] rfl (by (try simp only [List.map_toArray, List.map_cons, List.map_nil]); first | done | (simp only [hji5]; rfl) | rfl | (simp only [List.length_drop, List.length_take]; rfl)) ?_; (with_reducible refine (codec_Get.calls kj16 _ _ y324 0 (rd y309 (ji5)) t328 t329 t330 _ ?side1 ?side2 A29.out).mono ?_); (case side1 => repeat (first | exact (by repeat (first | (with_reducible exact HR327.out) | (with_reducible refine Kd.C_alloc ?_ _) | (with_reducible refine Kd.C_drewN ?_ _) | (with_reducible refine Kd.C_drew ?_) | exact HR327.out)) | (with_reducible refine Kd.C_alloc ?_ _) | (with_reducible refine Kd.C_drewN ?_ _) | (with_reducible refine Kd.C_drew ?_))); (case side2 => exact HC327.out); rintro e w' ⟨rfl, ⟨nd, rfl⟩⟩; refine ⟨_, rfl, ?_⟩) | ((with_reducible refine gate_callee (f := 36) rfl ?_); refine goesL_ (some 93) rfl rfl Try.func36 (by kernel_rfl) rfl #[.slice Ao62 y324.length co62, .int .i64 (rd y309 (ji5))] rfl (by (try simp only [List.map_toArray, List.map_cons, List.map_nil]); first | done | (simp only [hji5]; rfl) | rfl | (simp only [List.length_drop, List.length_take]; rfl)) ?_; (with_reducible refine (codec_GetList.calls kj16 _ _ y324 (rd y309 (ji5)) t331 t332 t333 _ ?side1 ?side2 A30.out).mono ?_); (case side1 => repeat (first | exact (by repeat (first | (with_reducible exact HR327.out) | (with_reducible refine Kd.C_alloc ?_ _) | (with_reducible refine Kd.C_drewN ?_ _) | (with_reducible refine Kd.C_drew ?_) | exact HR327.out)) | (with_reducible refine Kd.C_alloc ?_ _) | (with_reducible refine Kd.C_drewN ?_ _) | (with_reducible refine Kd.C_drew ?_))); (case side2 => exact HC327.out); rintro e w64 ⟨v334, rfl, ho0, hb⟩; refine ⟨_, rfl, ?_⟩; have n0_ := Aside0.mk (Kd.R_below (by (with_reducible repeat (first | apply ra_ | apply rn_ | apply rd_)); exact HO_13.out) hb); have n1_ := Aside0.mk (Kd.R_lower ho0 (below_size (by repeat (first | (with_reducible first | exact HB.out | apply ba_ | apply bn_ | apply bd_) | exact HB.out)))); have n2_ := Aside0.mk (Kd.C_below (by repeat (first | (with_reducible exact HR327.out) | (with_reducible refine Kd.C_alloc ?_ _) | (with_reducible refine Kd.C_drewN ?_ _) | (with_reducible refine Kd.C_drew ?_) | exact HR327.out)) hb); have n3_ := Aside0.mk (below_step (by repeat (first | (with_reducible first | exact HB.out | apply ba_ | apply bn_ | apply bd_) | exact HB.out)) hb); clear HO_13; clear HR327; clear HB; have HO_13 := n0_; have HO335 := n1_; have HR327 := n2_; have HB := n3_; clear n0_ n1_ n2_ n3_; (try clear hb); (try clear hb2); (try clear hk); (try clear hi); (try clear ho0); obtain ⟨Ao65, co65, eo65⟩ := Kd.R_slice HO335.out; subst eo65))
                                    go_ret
                                    exact ⟨by first | rfl | (simp [errW_none, errW_some] <;> rfl) | (simp only [← hji5, ← hji26]; first | rfl | (simp [errW_none, errW_some] <;> rfl)) | (simp [*, errW_none, errW_some] <;> rfl), by repeat (first | (with_reducible first | exact HB.out | apply ba_ | apply bn_ | apply bd_) | exact HB.out)⟩
                                · rw [if_neg c54] at H
                                  have c54b0 : (t333 == 2) = false := beq_eq_false_iff_ne.mpr c54
                                  have c54b1 : (t333 != 2) = true := bne_iff_ne.mpr c54
                                  obtain rfl := Option.some.inj H
                                  obtain ⟨Ao66, co66, eo66⟩ := Kd.R_slice HO_13.out
                                  subst eo66
                                  have q67 : ((ji26) : Int) ≤ ((t320.length : Int) : Int) := of_decide_eq_true (by first | (with_reducible assumption) | assumption)
                                  obtain ⟨i067, hi067, _, hsz67, _⟩ := info_parts info5
                                  have hroom67 : t320.length ≤ co66 := (Kd.R_reads' HO_13.out).2.1
                                  have hC67 : Kd.C (Kd.int .u8) _ Ao66 t320.length t320 := (Kd.R_reads' HO_13.out).2.2
                                  have hcut67 := cut_to (P := Try.prog) 22 5 .i64 Try.underlying22 hi067 Ao66 t320.length co66 (ji26) (of_decide_eq_true (by first | (with_reducible assumption) | assumption)) q67 hroom67
                                  have hr67 := Kd.C_take (m := ((ji26) : Int).toNat) hC67 (by omega)
                                  have hy67 : y324.length = ((ji26) : Int).toNat := (by rw [Ny324.out, List.length_take]; omega)
                                  rw [← Ny324.out] at hr67
                                  rw [← hy67] at hcut67
                                  have HR327 := Aside0.mk hr67
                                  have HC327 := Aside0.mk (show y324.length ≤ co66 from by omega)
                                  clear hr67 hC67 hroom67 hi067 hsz67
                                  have KY67 := Aside0.mk hy67
                                  clear hy67
                                  have KL67 := Aside0.mk (show ((ji26) : Int).toNat ≤ t320.length from by omega)
                                  replace q67 := eq_true q67
                                  go_wp2_with (first | ((with_reducible refine gate_callee (f := 34) rfl ?_); refine goesL_ (some 86) rfl rfl Try.func34 (by kernel_rfl) rfl #[.slice Ao66 y324.length co66, .int .i64 0, .int .i64 (rd y309 (ji5))] rfl (by (try simp only [List.map_toArray, List.map_cons, List.map_nil]); first | done | (simp only [hji5]; rfl) | rfl | (simp only [List.length_drop, List.length_take]; rfl)) ?_; (with_reducible refine (codec_Get.calls kj16 _ _ y324 0 (rd y309 (ji5)) t328 t329 t330 _ ?side1 ?side2 A29.out).mono ?_); (case side1 => repeat (first | exact (by repeat (first | (with_reducible exact HR327.out) | (with_reducible refine Kd.C_alloc ?_ _) | (with_reducible refine Kd.C_drewN ?_ _) | (with_reducible refine Kd.C_drew ?_) | exact HR327.out)) | (with_reducible refine Kd.C_alloc ?_ _) | (with_reducible refine Kd.C_drewN ?_ _) | (with_reducible refine Kd.C_drew ?_))); (case side2 => exact HC327.out); rintro e w' ⟨rfl, ⟨nd, rfl⟩⟩; refine ⟨_, rfl, ?_⟩) | ((with_reducible refine gate_callee (f := 36) rfl ?_); refine goesL_ (some 93) rfl rfl Try.func36 (by kernel_rfl) rfl #[.slice Ao66 y324.length co66, .int .i64 (rd y309 (ji5))] rfl (by (try simp only [List.map_toArray, List.map_cons, List.map_nil]); first | done | (simp only [hji5]; rfl) | rfl | (simp only [List.length_drop, List.length_take]; rfl)) ?_; (with_reducible refine (codec_GetList.calls kj16 _ _ y324 (rd y309 (ji5)) t331 t332 t333 _ ?side1 ?side2 A30.out).mono ?_); (case side1 => repeat (first | exact (by repeat (first | (with_reducible exact HR327.out) | (with_reducible refine Kd.C_alloc ?_ _) | (with_reducible refine Kd.C_drewN ?_ _) | (with_reducible refine Kd.C_drew ?_) | exact HR327.out)) | (with_reducible refine Kd.C_alloc ?_ _) | (with_reducible refine Kd.C_drewN ?_ _) | (with_reducible refine Kd.C_drew ?_))); (case side2 => exact HC327.out); rintro e w68 ⟨v334, rfl, ho0, hb⟩; refine ⟨_, rfl, ?_⟩; have n0_ := Aside0.mk (Kd.R_below (by (with_reducible repeat (first | apply ra_ | apply rn_ | apply rd_)); exact HO_13.out) hb); have n1_ := Aside0.mk (Kd.R_lower ho0 (below_size (by repeat (first | (with_reducible first | exact HB.out | apply ba_ | apply bn_ | apply bd_) | exact HB.out)))); have n2_ := Aside0.mk (Kd.C_below (by repeat (first | (with_reducible exact HR327.out) | (with_reducible refine Kd.C_alloc ?_ _) | (with_reducible refine Kd.C_drewN ?_ _) | (with_reducible refine Kd.C_drew ?_) | exact HR327.out)) hb); have n3_ := Aside0.mk (below_step (by repeat (first | (with_reducible first | exact HB.out | apply ba_ | apply bn_ | apply bd_) | exact HB.out)) hb); clear HO_13; clear HR327; clear HB; have HO_13 := n0_; have HO335 := n1_; have HR327 := n2_; have HB := n3_; clear n0_ n1_ n2_ n3_; (try clear hb); (try clear hb2); (try clear hk); (try clear hi); (try clear ho0)))
                                  go_ret
                                  exact ⟨by first | rfl | (simp [errW_none, errW_some] <;> rfl) | (simp only [← hji5, ← hji26]; first | rfl | (simp [errW_none, errW_some] <;> rfl)) | (simp [*, errW_none, errW_some] <;> rfl), by repeat (first | (with_reducible first | exact HB.out | apply ba_ | apply bn_ | apply bd_) | exact HB.out)⟩
                              · rw [if_neg c53] at H
                                have c53b0 : (t329 == (rd y309 (ji5))) = false := beq_eq_false_iff_ne.mpr c53
                                have c53b1 : (t329 != (rd y309 (ji5))) = true := bne_iff_ne.mpr c53
                                obtain rfl := Option.some.inj H
                                obtain ⟨Ao69, co69, eo69⟩ := Kd.R_slice HO_13.out
                                subst eo69
                                have q70 : ((ji26) : Int) ≤ ((t320.length : Int) : Int) := of_decide_eq_true (by first | (with_reducible assumption) | assumption)
                                obtain ⟨i070, hi070, _, hsz70, _⟩ := info_parts info5
                                have hroom70 : t320.length ≤ co69 := (Kd.R_reads' HO_13.out).2.1
                                have hC70 : Kd.C (Kd.int .u8) _ Ao69 t320.length t320 := (Kd.R_reads' HO_13.out).2.2
                                have hcut70 := cut_to (P := Try.prog) 22 5 .i64 Try.underlying22 hi070 Ao69 t320.length co69 (ji26) (of_decide_eq_true (by first | (with_reducible assumption) | assumption)) q70 hroom70
                                have hr70 := Kd.C_take (m := ((ji26) : Int).toNat) hC70 (by omega)
                                have hy70 : y324.length = ((ji26) : Int).toNat := (by rw [Ny324.out, List.length_take]; omega)
                                rw [← Ny324.out] at hr70
                                rw [← hy70] at hcut70
                                have HR327 := Aside0.mk hr70
                                have HC327 := Aside0.mk (show y324.length ≤ co69 from by omega)
                                clear hr70 hC70 hroom70 hi070 hsz70
                                have KY70 := Aside0.mk hy70
                                clear hy70
                                have KL70 := Aside0.mk (show ((ji26) : Int).toNat ≤ t320.length from by omega)
                                replace q70 := eq_true q70
                                go_wp2_with (first | ((with_reducible refine gate_callee (f := 34) rfl ?_); refine goesL_ (some 86) rfl rfl Try.func34 (by kernel_rfl) rfl #[.slice Ao69 y324.length co69, .int .i64 0, .int .i64 (rd y309 (ji5))] rfl (by (try simp only [List.map_toArray, List.map_cons, List.map_nil]); first | done | (simp only [hji5]; rfl) | rfl | (simp only [List.length_drop, List.length_take]; rfl)) ?_; (with_reducible refine (codec_Get.calls kj16 _ _ y324 0 (rd y309 (ji5)) t328 t329 t330 _ ?side1 ?side2 A29.out).mono ?_); (case side1 => repeat (first | exact (by repeat (first | (with_reducible exact HR327.out) | (with_reducible refine Kd.C_alloc ?_ _) | (with_reducible refine Kd.C_drewN ?_ _) | (with_reducible refine Kd.C_drew ?_) | exact HR327.out)) | (with_reducible refine Kd.C_alloc ?_ _) | (with_reducible refine Kd.C_drewN ?_ _) | (with_reducible refine Kd.C_drew ?_))); (case side2 => exact HC327.out); rintro e w' ⟨rfl, ⟨nd, rfl⟩⟩; refine ⟨_, rfl, ?_⟩) | ((with_reducible refine gate_callee (f := 36) rfl ?_); refine goesL_ (some 93) rfl rfl Try.func36 (by kernel_rfl) rfl #[.slice Ao69 y324.length co69, .int .i64 (rd y309 (ji5))] rfl (by (try simp only [List.map_toArray, List.map_cons, List.map_nil]); first | done | (simp only [hji5]; rfl) | rfl | (simp only [List.length_drop, List.length_take]; rfl)) ?_; (with_reducible refine (codec_GetList.calls kj16 _ _ y324 (rd y309 (ji5)) t331 t332 t333 _ ?side1 ?side2 A30.out).mono ?_); (case side1 => repeat (first | exact (by repeat (first | (with_reducible exact HR327.out) | (with_reducible refine Kd.C_alloc ?_ _) | (with_reducible refine Kd.C_drewN ?_ _) | (with_reducible refine Kd.C_drew ?_) | exact HR327.out)) | (with_reducible refine Kd.C_alloc ?_ _) | (with_reducible refine Kd.C_drewN ?_ _) | (with_reducible refine Kd.C_drew ?_))); (case side2 => exact HC327.out); rintro e w71 ⟨v334, rfl, ho0, hb⟩; refine ⟨_, rfl, ?_⟩; have n0_ := Aside0.mk (Kd.R_below (by (with_reducible repeat (first | apply ra_ | apply rn_ | apply rd_)); exact HO_13.out) hb); have n1_ := Aside0.mk (Kd.R_lower ho0 (below_size (by repeat (first | (with_reducible first | exact HB.out | apply ba_ | apply bn_ | apply bd_) | exact HB.out)))); have n2_ := Aside0.mk (Kd.C_below (by repeat (first | (with_reducible exact HR327.out) | (with_reducible refine Kd.C_alloc ?_ _) | (with_reducible refine Kd.C_drewN ?_ _) | (with_reducible refine Kd.C_drew ?_) | exact HR327.out)) hb); have n3_ := Aside0.mk (below_step (by repeat (first | (with_reducible first | exact HB.out | apply ba_ | apply bn_ | apply bd_) | exact HB.out)) hb); clear HO_13; clear HR327; clear HB; have HO_13 := n0_; have HO335 := n1_; have HR327 := n2_; have HB := n3_; clear n0_ n1_ n2_ n3_; (try clear hb); (try clear hb2); (try clear hk); (try clear hi); (try clear ho0)))
                                go_ret
                                exact ⟨by first | rfl | (simp [errW_none, errW_some] <;> rfl) | (simp only [← hji5, ← hji26]; first | rfl | (simp [errW_none, errW_some] <;> rfl)) | (simp [*, errW_none, errW_some] <;> rfl), by repeat (first | (with_reducible first | exact HB.out | apply ba_ | apply bn_ | apply bd_) | exact HB.out)⟩
                            · rw [if_neg c52] at H
                              have c52b0 : (t328 == (wrap64 (Int.tmod (IntKind.u64.wrap (a1)) 200))) = false := beq_eq_false_iff_ne.mpr c52
                              have c52b1 : (t328 != (wrap64 (Int.tmod (IntKind.u64.wrap (a1)) 200))) = true := bne_iff_ne.mpr c52
                              obtain rfl := Option.some.inj H
                              obtain ⟨Ao72, co72, eo72⟩ := Kd.R_slice HO_13.out
                              subst eo72
                              have q73 : ((ji26) : Int) ≤ ((t320.length : Int) : Int) := of_decide_eq_true (by first | (with_reducible assumption) | assumption)
                              obtain ⟨i073, hi073, _, hsz73, _⟩ := info_parts info5
                              have hroom73 : t320.length ≤ co72 := (Kd.R_reads' HO_13.out).2.1
                              have hC73 : Kd.C (Kd.int .u8) _ Ao72 t320.length t320 := (Kd.R_reads' HO_13.out).2.2
                              have hcut73 := cut_to (P := Try.prog) 22 5 .i64 Try.underlying22 hi073 Ao72 t320.length co72 (ji26) (of_decide_eq_true (by first | (with_reducible assumption) | assumption)) q73 hroom73
                              have hr73 := Kd.C_take (m := ((ji26) : Int).toNat) hC73 (by omega)
                              have hy73 : y324.length = ((ji26) : Int).toNat := (by rw [Ny324.out, List.length_take]; omega)
                              rw [← Ny324.out] at hr73
                              rw [← hy73] at hcut73
                              have HR327 := Aside0.mk hr73
                              have HC327 := Aside0.mk (show y324.length ≤ co72 from by omega)
                              clear hr73 hC73 hroom73 hi073 hsz73
                              have KY73 := Aside0.mk hy73
                              clear hy73
                              have KL73 := Aside0.mk (show ((ji26) : Int).toNat ≤ t320.length from by omega)
                              replace q73 := eq_true q73
                              go_wp2_with (first | ((with_reducible refine gate_callee (f := 34) rfl ?_); refine goesL_ (some 86) rfl rfl Try.func34 (by kernel_rfl) rfl #[.slice Ao72 y324.length co72, .int .i64 0, .int .i64 (rd y309 (ji5))] rfl (by (try simp only [List.map_toArray, List.map_cons, List.map_nil]); first | done | (simp only [hji5]; rfl) | rfl | (simp only [List.length_drop, List.length_take]; rfl)) ?_; (with_reducible refine (codec_Get.calls kj16 _ _ y324 0 (rd y309 (ji5)) t328 t329 t330 _ ?side1 ?side2 A29.out).mono ?_); (case side1 => repeat (first | exact (by repeat (first | (with_reducible exact HR327.out) | (with_reducible refine Kd.C_alloc ?_ _) | (with_reducible refine Kd.C_drewN ?_ _) | (with_reducible refine Kd.C_drew ?_) | exact HR327.out)) | (with_reducible refine Kd.C_alloc ?_ _) | (with_reducible refine Kd.C_drewN ?_ _) | (with_reducible refine Kd.C_drew ?_))); (case side2 => exact HC327.out); rintro e w' ⟨rfl, ⟨nd, rfl⟩⟩; refine ⟨_, rfl, ?_⟩) | ((with_reducible refine gate_callee (f := 36) rfl ?_); refine goesL_ (some 93) rfl rfl Try.func36 (by kernel_rfl) rfl #[.slice Ao72 y324.length co72, .int .i64 (rd y309 (ji5))] rfl (by (try simp only [List.map_toArray, List.map_cons, List.map_nil]); first | done | (simp only [hji5]; rfl) | rfl | (simp only [List.length_drop, List.length_take]; rfl)) ?_; (with_reducible refine (codec_GetList.calls kj16 _ _ y324 (rd y309 (ji5)) t331 t332 t333 _ ?side1 ?side2 A30.out).mono ?_); (case side1 => repeat (first | exact (by repeat (first | (with_reducible exact HR327.out) | (with_reducible refine Kd.C_alloc ?_ _) | (with_reducible refine Kd.C_drewN ?_ _) | (with_reducible refine Kd.C_drew ?_) | exact HR327.out)) | (with_reducible refine Kd.C_alloc ?_ _) | (with_reducible refine Kd.C_drewN ?_ _) | (with_reducible refine Kd.C_drew ?_))); (case side2 => exact HC327.out); rintro e w74 ⟨v334, rfl, ho0, hb⟩; refine ⟨_, rfl, ?_⟩; have n0_ := Aside0.mk (Kd.R_below (by (with_reducible repeat (first | apply ra_ | apply rn_ | apply rd_)); exact HO_13.out) hb); have n1_ := Aside0.mk (Kd.R_lower ho0 (below_size (by repeat (first | (with_reducible first | exact HB.out | apply ba_ | apply bn_ | apply bd_) | exact HB.out)))); have n2_ := Aside0.mk (Kd.C_below (by repeat (first | (with_reducible exact HR327.out) | (with_reducible refine Kd.C_alloc ?_ _) | (with_reducible refine Kd.C_drewN ?_ _) | (with_reducible refine Kd.C_drew ?_) | exact HR327.out)) hb); have n3_ := Aside0.mk (below_step (by repeat (first | (with_reducible first | exact HB.out | apply ba_ | apply bn_ | apply bd_) | exact HB.out)) hb); clear HO_13; clear HR327; clear HB; have HO_13 := n0_; have HO335 := n1_; have HR327 := n2_; have HB := n3_; clear n0_ n1_ n2_ n3_; (try clear hb); (try clear hb2); (try clear hk); (try clear hi); (try clear ho0)))
                              go_ret
                              exact ⟨by first | rfl | (simp [errW_none, errW_some] <;> rfl) | (simp only [← hji5, ← hji26]; first | rfl | (simp [errW_none, errW_some] <;> rfl)) | (simp [*, errW_none, errW_some] <;> rfl), by repeat (first | (with_reducible first | exact HB.out | apply ba_ | apply bn_ | apply bd_) | exact HB.out)⟩
                          · rw [if_neg c51] at H
                            have c51b0 : (t330 == 0) = false := beq_eq_false_iff_ne.mpr c51
                            have c51b1 : (t330 != 0) = true := bne_iff_ne.mpr c51
                            obtain rfl := Option.some.inj H
                            obtain ⟨Ao75, co75, eo75⟩ := Kd.R_slice HO_13.out
                            subst eo75
                            have q76 : ((ji26) : Int) ≤ ((t320.length : Int) : Int) := of_decide_eq_true (by first | (with_reducible assumption) | assumption)
                            obtain ⟨i076, hi076, _, hsz76, _⟩ := info_parts info5
                            have hroom76 : t320.length ≤ co75 := (Kd.R_reads' HO_13.out).2.1
                            have hC76 : Kd.C (Kd.int .u8) _ Ao75 t320.length t320 := (Kd.R_reads' HO_13.out).2.2
                            have hcut76 := cut_to (P := Try.prog) 22 5 .i64 Try.underlying22 hi076 Ao75 t320.length co75 (ji26) (of_decide_eq_true (by first | (with_reducible assumption) | assumption)) q76 hroom76
                            have hr76 := Kd.C_take (m := ((ji26) : Int).toNat) hC76 (by omega)
                            have hy76 : y324.length = ((ji26) : Int).toNat := (by rw [Ny324.out, List.length_take]; omega)
                            rw [← Ny324.out] at hr76
                            rw [← hy76] at hcut76
                            have HR327 := Aside0.mk hr76
                            have HC327 := Aside0.mk (show y324.length ≤ co75 from by omega)
                            clear hr76 hC76 hroom76 hi076 hsz76
                            have KY76 := Aside0.mk hy76
                            clear hy76
                            have KL76 := Aside0.mk (show ((ji26) : Int).toNat ≤ t320.length from by omega)
                            replace q76 := eq_true q76
                            go_wp2_with (first | ((with_reducible refine gate_callee (f := 34) rfl ?_); refine goesL_ (some 86) rfl rfl Try.func34 (by kernel_rfl) rfl #[.slice Ao75 y324.length co75, .int .i64 0, .int .i64 (rd y309 (ji5))] rfl (by (try simp only [List.map_toArray, List.map_cons, List.map_nil]); first | done | (simp only [hji5]; rfl) | rfl | (simp only [List.length_drop, List.length_take]; rfl)) ?_; (with_reducible refine (codec_Get.calls kj16 _ _ y324 0 (rd y309 (ji5)) t328 t329 t330 _ ?side1 ?side2 A29.out).mono ?_); (case side1 => repeat (first | exact (by repeat (first | (with_reducible exact HR327.out) | (with_reducible refine Kd.C_alloc ?_ _) | (with_reducible refine Kd.C_drewN ?_ _) | (with_reducible refine Kd.C_drew ?_) | exact HR327.out)) | (with_reducible refine Kd.C_alloc ?_ _) | (with_reducible refine Kd.C_drewN ?_ _) | (with_reducible refine Kd.C_drew ?_))); (case side2 => exact HC327.out); rintro e w' ⟨rfl, ⟨nd, rfl⟩⟩; refine ⟨_, rfl, ?_⟩) | ((with_reducible refine gate_callee (f := 36) rfl ?_); refine goesL_ (some 93) rfl rfl Try.func36 (by kernel_rfl) rfl #[.slice Ao75 y324.length co75, .int .i64 (rd y309 (ji5))] rfl (by (try simp only [List.map_toArray, List.map_cons, List.map_nil]); first | done | (simp only [hji5]; rfl) | rfl | (simp only [List.length_drop, List.length_take]; rfl)) ?_; (with_reducible refine (codec_GetList.calls kj16 _ _ y324 (rd y309 (ji5)) t331 t332 t333 _ ?side1 ?side2 A30.out).mono ?_); (case side1 => repeat (first | exact (by repeat (first | (with_reducible exact HR327.out) | (with_reducible refine Kd.C_alloc ?_ _) | (with_reducible refine Kd.C_drewN ?_ _) | (with_reducible refine Kd.C_drew ?_) | exact HR327.out)) | (with_reducible refine Kd.C_alloc ?_ _) | (with_reducible refine Kd.C_drewN ?_ _) | (with_reducible refine Kd.C_drew ?_))); (case side2 => exact HC327.out); rintro e w77 ⟨v334, rfl, ho0, hb⟩; refine ⟨_, rfl, ?_⟩; have n0_ := Aside0.mk (Kd.R_below (by (with_reducible repeat (first | apply ra_ | apply rn_ | apply rd_)); exact HO_13.out) hb); have n1_ := Aside0.mk (Kd.R_lower ho0 (below_size (by repeat (first | (with_reducible first | exact HB.out | apply ba_ | apply bn_ | apply bd_) | exact HB.out)))); have n2_ := Aside0.mk (Kd.C_below (by repeat (first | (with_reducible exact HR327.out) | (with_reducible refine Kd.C_alloc ?_ _) | (with_reducible refine Kd.C_drewN ?_ _) | (with_reducible refine Kd.C_drew ?_) | exact HR327.out)) hb); have n3_ := Aside0.mk (below_step (by repeat (first | (with_reducible first | exact HB.out | apply ba_ | apply bn_ | apply bd_) | exact HB.out)) hb); clear HO_13; clear HR327; clear HB; have HO_13 := n0_; have HO335 := n1_; have HR327 := n2_; have HB := n3_; clear n0_ n1_ n2_ n3_; (try clear hb); (try clear hb2); (try clear hk); (try clear hi); (try clear ho0)))
                            go_ret
                            exact ⟨by first | rfl | (simp [errW_none, errW_some] <;> rfl) | (simp only [← hji5, ← hji26]; first | rfl | (simp [errW_none, errW_some] <;> rfl)) | (simp [*, errW_none, errW_some] <;> rfl), by repeat (first | (with_reducible first | exact HB.out | apply ba_ | apply bn_ | apply bd_) | exact HB.out)⟩
                      · rw [if_neg c28] at H
                        exact absurd H (by simp)
                    · rw [if_neg c27] at H
                      exact absurd H (by simp)
    · rw [if_neg c7] at H
      exact absurd H (by simp)
  · rw [if_neg c6] at H
    exact absurd H (by simp)

/-- THE ONE PURE STATEMENT of L04_CodecCut. -/
def L04_CodecCut.Pure : Prop := ∀ (a0 : Int) (a1 : Int) (a2 : Int) (a3 : Int), (Lit.int .i64 a0).wf = true → (Lit.int .i64 a1).wf = true → (Lit.int .i64 a2).wf = true → (Lit.int .i64 a3).wf = true → ∃ k, L04_CodecCut.f k a0 a1 a2 a3 = some true

end Go.Proofs.Ytmjfjjnoconmoaa.PD
