-- Written by this session's own program (wip/prog/drive.py).
import Derived.Test.YtfljapcnkhjmgaaPVx0
import Derived.Test.YtfljapcnkhjmgaaPVx2
import Derived.Test.YtfljapcnkhjmgaaPVx3
namespace Go.Proofs.Ytfljapcnkhjmgaa.PV
open Go.RowKit Go.Proofs.YtfljapcnkhjmgaaW.PrintWords Go.Proofs.YtfljapcnkhjmgaaW.PrintLast Go.Proofs.YtfljapcnkhjmgaaW.PrintMore Go.Proofs.YtfljapcnkhjmgaaX
attribute [local go_sem] max2_int min2_int max_two min_two max_three min_three max_four min_four   -- for this text's walks alone
set_option linter.unusedVariables false
set_option linter.unusedSimpArgs false

/-! ### L10_wakes: function 19 -/
def L10_wakes.j0 : Nat → List (S42) → Int → List (S42) → Int → List Int → Int → Option (Bool)
  | 0, _, _, _, _, _, _ => none
  | k + 1, x1, x2, x3, x4, x5, x6 => if x2 = 0 then (if (x1.length : Int) = 3 then (if 1 < (x1.length : Int) then (if ((rd_T42 x1 1).f0) = 4 then (if x4 = 0 then (if (x3.length : Int) = 3 then (if 1 < (x3.length : Int) then (if ((rd_T42 x3 1).f1) = 1 then (if x6 = 0 then ((bk_Ints.f k x5 (([0, 1] : List Int))).bind fun t235 => (if t235 = true then ((view_Check.f k ([] : List (S42))).bind fun t236 => (some (t236 == 1))) else (some false))) else (some false)) else (some false)) else (none)) else (some false)) else (some false)) else (some false)) else (none)) else (some false)) else (some false)
def L10_wakes.f (k : Nat)  : Option (Bool) := if 3 ≤ 17592186044416 then ((view_Hear.f k (List.replicate 3 z42) 1 4).bind fun bt218 => ((view_Older.f k bt218.1).bind fun bt222 => ((view_Live.f k bt222.1 0).bind fun bt226 => (L10_wakes.j0 k bt218.1 bt218.2 bt222.1 bt222.2 bt226.1 bt226.2)))) else (none)
theorem L10_wakes.mono_l : ∀ k, (∀ y0 y1 y2 y3 y4 y5, LeO (L10_wakes.j0 k y0 y1 y2 y3 y4 y5) (L10_wakes.j0 (k + 1) y0 y1 y2 y3 y4 y5))
  | 0 => fun _ _ _ _ _ _ r h => by simp [L10_wakes.j0] at h
  | k + 1 => by
    have ih0 := L10_wakes.mono_l k
    · intro y0 y1 y2 y3 y4 y5
      unfold L10_wakes.j0
      repeat' first
      | (with_reducible exact ih0 _ _ _ _ _ _)
      | (with_reducible exact bk_Ints.mono _ _ _)
      | (with_reducible exact view_Check.mono _ _)
      | (with_reducible exact view_Hear.mono _ _ _ _)
      | (with_reducible exact view_Live.mono _ _ _)
      | (with_reducible exact view_Older.mono _ _)
      | (with_reducible exact LeO.refl _)
      | (with_reducible exact LeO.none _)
      | (with_reducible refine LeO.ite ?_ ?_)
      | (with_reducible refine LeO.bind ?_ (fun _ => ?_))
      | exact ih0 _ _ _ _ _ _
      | exact bk_Ints.mono _ _ _
      | exact view_Check.mono _ _
      | exact view_Hear.mono _ _ _ _
      | exact view_Live.mono _ _ _
      | exact view_Older.mono _ _
      | exact LeO.none _
      | refine LeO.ite ?_ ?_
      | refine LeO.bind ?_ (fun _ => ?_)
theorem L10_wakes.mono : ∀ k, LeO (L10_wakes.f k ) (L10_wakes.f (k + 1) ) := by
  intro  k
  have ih0 := L10_wakes.mono_l k
  unfold L10_wakes.f
  repeat' first
      | (with_reducible exact ih0 _ _ _ _ _ _)
      | (with_reducible exact bk_Ints.mono _ _ _)
      | (with_reducible exact view_Check.mono _ _)
      | (with_reducible exact view_Hear.mono _ _ _ _)
      | (with_reducible exact view_Live.mono _ _ _)
      | (with_reducible exact view_Older.mono _ _)
      | (with_reducible exact LeO.refl _)
      | (with_reducible exact LeO.none _)
      | (with_reducible refine LeO.ite ?_ ?_)
      | (with_reducible refine LeO.bind ?_ (fun _ => ?_))
      | exact ih0 _ _ _ _ _ _
      | exact bk_Ints.mono _ _ _
      | exact view_Check.mono _ _
      | exact view_Hear.mono _ _ _ _
      | exact view_Live.mono _ _ _
      | exact view_Older.mono _ _
      | exact LeO.none _
      | refine LeO.ite ?_ ?_
      | refine LeO.bind ?_ (fun _ => ?_)
set_option maxHeartbeats 8000000 in
set_option maxRecDepth 100000 in
theorem L10_wakes.calls (k : Nat)  (r : Bool) (w : World) (h : L10_wakes.f k  = some r) :
    Calls Try.prog 19 #[] w fun e w' => e = .returned (.bool r) ∧ Below w.heap.size w w' := by
  have HB := Aside0.mk (Below.refl w.heap.size w)
  have H : (if 3 ≤ 17592186044416 then ((view_Hear.f k (List.replicate 3 z42) 1 4).bind fun bt218 => ((view_Older.f k bt218.1).bind fun bt222 => ((view_Live.f k bt222.1 0).bind fun bt226 => (L10_wakes.j0 k bt218.1 bt218.2 bt222.1 bt222.2 bt226.1 bt226.2)))) else (none)) = some r := h
  clear h
  by_cases c1 : 3 ≤ 17592186044416
  · rw [if_pos c1] at H
    have c1b0 := eq_true c1
    have c1b1 : decide (3 ≤ 17592186044416) = true := decide_eq_true c1
    clear c1
    obtain ⟨y215, hy215⟩ : ∃ y_ : List (S42), y_ = (List.replicate 3 z42) := ⟨_, rfl⟩
    replace H : ((view_Hear.f k y215 1 4).bind fun bt218 => ((view_Older.f k bt218.1).bind fun bt222 => ((view_Live.f k bt222.1 0).bind fun bt226 => (L10_wakes.j0 k bt218.1 bt218.2 bt222.1 bt222.2 bt226.1 bt226.2)))) = some r := by first | (rw [hy215]; with_reducible exact H) | (have H2_ := (Option.bind_some _ _).symm.trans H; rw [hy215]; with_reducible exact H2_) | (have H2_ := (Option.bind_some _ _).symm.trans H; with_reducible exact H2_) | with_reducible exact H | (rw [hy215]; exact H) | exact H
    have Ny215 := Aside0.mk hy215
    clear hy215
    replace H := Option.bind_eq_some_iff.mp H
    obtain ⟨⟨t218, t219⟩, A20, H⟩ := H
    replace H : ((view_Older.f k t218).bind fun bt222 => ((view_Live.f k bt222.1 0).bind fun bt226 => (L10_wakes.j0 k t218 t219 bt222.1 bt222.2 bt226.1 bt226.2))) = some r := H
    have A2 := Aside0.mk A20
    clear A20
    replace H := Option.bind_eq_some_iff.mp H
    obtain ⟨⟨t222, t223⟩, A30, H⟩ := H
    replace H : ((view_Live.f k t222 0).bind fun bt226 => (L10_wakes.j0 k t218 t219 t222 t223 bt226.1 bt226.2)) = some r := H
    have A3 := Aside0.mk A30
    clear A30
    have HC4 := Aside0.mk H
    clear H
    go_enter Try.func19, Try.ntmps19
    go_upto_region 3 with (first | ((with_reducible refine gate_dst (N := 8) rfl ?_); (try (refine gate_guard (by rfl) ?_; dsimp only)); refine Kd.R_make k42 _ 42 rfl (N := 8) rfl 22 _ _ rfl 3 rfl rfl Try.underlying22 (.agg #[(.int .i64 0), (.int .i64 0)]) 16 info42 rfl (by decide) (by omega) z42 (ok := fun _ => True) (okp := fun _ => True) (k42_mkM _ _ _ z42 ) (fun _ hk => hk) trivial (by omega) (by omega) (Below.refl _ _) (Nat.le_refl _) ?_; intro v216 w5 ho6 hb hg_ hnew_; clear hg_ hnew_; (first | rw [← Ny215.out] at ho6 | (simp only [Int.reduceToNat] at ho6; rw [← Ny215.out] at ho6)); have n0_ := Aside0.mk (Kd.R_lower ho6 (below_size (by repeat (first | (with_reducible first | exact HB.out | apply ba_ | apply bn_ | apply bd_) | exact HB.out)))); have n1_ := Aside0.mk (below_step (by repeat (first | (with_reducible first | exact HB.out | apply ba_ | apply bn_ | apply bd_) | exact HB.out)) hb); clear HB; have HO217 := n0_; have HB := n1_; clear n0_ n1_; clear hb ho6; obtain ⟨Ao7, co7, eo7⟩ := Kd.R_slice HO217.out; subst eo7) | ((with_reducible refine gate_callee (f := 13) rfl ?_); refine goesL_ (some 9) rfl rfl Try.func13 (by kernel_rfl) rfl #[.slice Ao7 y215.length co7, .int .i64 1, .int .i64 4] rfl (by (try simp only [List.map_toArray, List.map_cons, List.map_nil]); first | done | rfl | (simp only [List.length_drop, List.length_take]; rfl)) ?_; (with_reducible refine (view_Hear.calls k _ _ y215 1 4 t218 t219 _ ?side1 ?side2 A2.out).mono ?_); (case side1 => repeat (first | exact (Kd.R_reads' HO217.out).2.2 | (with_reducible refine Kd.C_alloc ?_ _) | (with_reducible refine Kd.C_drewN ?_ _) | (with_reducible refine Kd.C_drew ?_))); (case side2 => exact (Kd.R_reads' HO217.out).2.1); rintro e w8 ⟨v220, rfl, ho0, hb⟩; refine ⟨_, rfl, ?_⟩; have n0_ := Aside0.mk (Kd.R_elder' (by (with_reducible repeat (first | apply ra_ | apply rn_ | apply rd_)); exact HO217.out) (Kd.R_base ho0) hb); have n1_ := Aside0.mk (Kd.R_lower (Kd.R_new' ho0 (Kd.R_lt (by (with_reducible repeat (first | apply ra_ | apply rn_ | apply rd_)); exact HO217.out))) (below_size (by repeat (first | (with_reducible first | exact HB.out | apply ba_ | apply bn_ | apply bd_) | exact HB.out)))); have n2_ := Aside0.mk (below_step (by repeat (first | (with_reducible first | exact HB.out | apply ba_ | apply bn_ | apply bd_) | exact HB.out)) hb); clear HO217; clear HB; have HO217 := n0_; have HO221 := n1_; have HB := n2_; clear n0_ n1_ n2_; (try clear hb); (try clear hb2); (try clear hk); (try clear hi); (try clear ho0); obtain ⟨Ao9, co9, eo9⟩ := Kd.R_slice HO221.out; subst eo9) | ((with_reducible refine gate_callee (f := 14) rfl ?_); refine goesL_ (some 14) rfl rfl Try.func14 (by kernel_rfl) rfl #[.slice Ao9 t218.length co9] rfl (by (try simp only [List.map_toArray, List.map_cons, List.map_nil]); first | done | rfl | (simp only [List.length_drop, List.length_take]; rfl)) ?_; (with_reducible refine (view_Older.calls k _ _ t218 t222 t223 _ ?side1 ?side2 A3.out).mono ?_); (case side1 => repeat (first | exact (Kd.R_reads' HO221.out).2.2 | (with_reducible refine Kd.C_alloc ?_ _) | (with_reducible refine Kd.C_drewN ?_ _) | (with_reducible refine Kd.C_drew ?_))); (case side2 => exact (Kd.R_reads' HO221.out).2.1); rintro e w10 ⟨v224, rfl, ho0, hb⟩; refine ⟨_, rfl, ?_⟩; have n0_ := Aside0.mk (Kd.R_elder' (by (with_reducible repeat (first | apply ra_ | apply rn_ | apply rd_)); exact HO217.out) (Kd.R_base ho0) hb); have n1_ := Aside0.mk (Kd.R_elder' (by (with_reducible repeat (first | apply ra_ | apply rn_ | apply rd_)); exact HO221.out) (Kd.R_base ho0) hb); have n2_ := Aside0.mk (Kd.R_lower (Kd.R_new' (Kd.R_new' ho0 (Kd.R_lt (by (with_reducible repeat (first | apply ra_ | apply rn_ | apply rd_)); exact HO217.out))) (Kd.R_lt (by (with_reducible repeat (first | apply ra_ | apply rn_ | apply rd_)); exact HO221.out))) (below_size (by repeat (first | (with_reducible first | exact HB.out | apply ba_ | apply bn_ | apply bd_) | exact HB.out)))); have n3_ := Aside0.mk (below_step (by repeat (first | (with_reducible first | exact HB.out | apply ba_ | apply bn_ | apply bd_) | exact HB.out)) hb); clear HO217; clear HO221; clear HB; have HO217 := n0_; have HO221 := n1_; have HO225 := n2_; have HB := n3_; clear n0_ n1_ n2_ n3_; (try clear hb); (try clear hb2); (try clear hk); (try clear hi); (try clear ho0)))
    (try simp only [Act.put, List.setIfInBounds_toArray, List.set_cons_zero, List.set_cons_succ])
    go_cut [5, 6] (fun v5 v6 wc => ∃ (kq : Nat) (x5_3 : List Int) (x6_3 : Int), v6 = .int .i64 x6_3 ∧ Aside0 (L10_wakes.j0 kq t218 t219 t222 t223 x5_3 x6_3 = some r) ∧ Aside0 (kq ≤ k) ∧ Aside0 (Kd.R k42 42 wc w.heap.size (fun k_ => some k_ ≠ (v224 : Value).ownBlock) (.slice Ao9 t218.length co9) t218) ∧ Aside0 (Kd.R k42 42 wc w.heap.size (fun k_ => some k_ ≠ ((.slice Ao9 t218.length co9) : Value).ownBlock) v224 t222) ∧ Aside0 (Kd.R (Kd.int .i64) 3 wc w.heap.size (fun _ => True) v5 x5_3) ∧ Aside0 (Below w.heap.size w wc))
    case first =>
      have H := HC4.out
      clear HC4
      replace H := Option.bind_eq_some_iff.mp H
      obtain ⟨⟨t226, t227⟩, A110, H⟩ := H
      replace H : (L10_wakes.j0 k t218 t219 t222 t223 t226 t227) = some r := H
      have A11 := Aside0.mk A110
      clear A110
      have H' := Aside0.mk H
      clear H
      obtain ⟨Ao12, co12, eo12⟩ := Kd.R_slice HO225.out
      subst eo12
      go_wp2_with (first | ((with_reducible refine gate_callee (f := 15) rfl ?_); refine goesL_ (some 19) rfl rfl Try.func15 (by kernel_rfl) rfl #[.slice Ao12 t222.length co12, .int .i64 0] rfl (by (try simp only [List.map_toArray, List.map_cons, List.map_nil]); first | done | rfl | (simp only [List.length_drop, List.length_take]; rfl)) ?_; (with_reducible refine (view_Live.calls k _ _ t222 0 t226 t227 _ ?side1 ?side2 A11.out).mono ?_); (case side1 => repeat (first | exact (Kd.R_reads' HO225.out).2.2 | (with_reducible refine Kd.C_alloc ?_ _) | (with_reducible refine Kd.C_drewN ?_ _) | (with_reducible refine Kd.C_drew ?_))); (case side2 => exact (Kd.R_reads' HO225.out).2.1); rintro e w13 ⟨v228, rfl, ho0, hb⟩; refine ⟨_, rfl, ?_⟩; have n0_ := Aside0.mk (Kd.R_below (by (with_reducible repeat (first | apply ra_ | apply rn_ | apply rd_)); exact HO217.out) hb); have n1_ := Aside0.mk (Kd.R_below (by (with_reducible repeat (first | apply ra_ | apply rn_ | apply rd_)); exact HO221.out) hb); have n2_ := Aside0.mk (Kd.R_below (by (with_reducible repeat (first | apply ra_ | apply rn_ | apply rd_)); exact HO225.out) hb); have n3_ := Aside0.mk (Kd.R_lower ho0 (below_size (by repeat (first | (with_reducible first | exact HB.out | apply ba_ | apply bn_ | apply bd_) | exact HB.out)))); have n4_ := Aside0.mk (below_step (by repeat (first | (with_reducible first | exact HB.out | apply ba_ | apply bn_ | apply bd_) | exact HB.out)) hb); clear HO217; clear HO221; clear HO225; clear HB; have HO217 := n0_; have HO221 := n1_; have HO225 := n2_; have HO229 := n3_; have HB := n4_; clear n0_ n1_ n2_ n3_ n4_; (try clear hb); (try clear hb2); (try clear hk); (try clear hi); (try clear ho0)))
      go_meet
      case rel => exact ⟨_, (t226), (t227), (by first | rfl | (simp; done) | (simp [*]; done)), H', ⟨by first | omega | exact Nat.le_refl _⟩, ⟨by (with_reducible repeat (first | apply ra_ | apply rn_ | apply rd_)); exact Kd.R_mono HO221.out (fun _ hk => hk.2)⟩, ⟨by (with_reducible repeat (first | apply ra_ | apply rn_ | apply rd_)); exact Kd.R_mono HO225.out (fun _ hk => hk.2)⟩, ⟨by (with_reducible repeat (first | apply ra_ | apply rn_ | apply rd_)); exact HO229.out⟩, ⟨by repeat (first | (with_reducible first | exact HB.out | apply ba_ | apply bn_ | apply bd_) | exact HB.out)⟩⟩
    case rest =>
      clear HC4
      (try clear c1); (try clear c1b0); (try clear c1b1); (try clear p2); (try clear c13)
      obtain ⟨kq, x5_3, x6_3, rfl, HA, HJ3, HO_1, HO_3, HO_5, HB⟩ := hcut
      cases kq with
      | zero => exact absurd HA.out (by simp [L10_wakes.j0])
      | succ kj3 =>
        have H := HA.out
        clear HA
        simp only [L10_wakes.j0] at H
        by_cases c14 : t219 = 0
        · rw [if_pos c14] at H
          have c14b0 : (t219 == 0) = true := beq_iff_eq.mpr c14
          have c14b1 : (t219 != 0) = false := bne_eq_false_iff_eq.mpr c14
          clear c14
          by_cases c15 : (t218.length : Int) = 3
          · rw [if_pos c15] at H
            have c15b0 : ((t218.length : Int) == 3) = true := beq_iff_eq.mpr c15
            have c15b1 : ((t218.length : Int) != 3) = false := bne_eq_false_iff_eq.mpr c15
            clear c15
            by_cases c16 : 1 < (t218.length : Int)
            · rw [if_pos c16] at H
              have c16b0 : decide (1 < (t218.length : Int)) = true := decide_eq_true c16
              have c16b1 : decide (1 < t218.length) = true := decide_eq_true (by omega)
              clear c16
              by_cases c17 : ((rd_T42 t218 1).f0) = 4
              · rw [if_pos c17] at H
                have c17b0 : (((rd_T42 t218 1).f0) == 4) = true := beq_iff_eq.mpr c17
                have c17b1 : (((rd_T42 t218 1).f0) != 4) = false := bne_eq_false_iff_eq.mpr c17
                clear c17
                by_cases c18 : t223 = 0
                · rw [if_pos c18] at H
                  have c18b0 : (t223 == 0) = true := beq_iff_eq.mpr c18
                  have c18b1 : (t223 != 0) = false := bne_eq_false_iff_eq.mpr c18
                  clear c18
                  by_cases c19 : (t222.length : Int) = 3
                  · rw [if_pos c19] at H
                    have c19b0 : ((t222.length : Int) == 3) = true := beq_iff_eq.mpr c19
                    have c19b1 : ((t222.length : Int) != 3) = false := bne_eq_false_iff_eq.mpr c19
                    clear c19
                    by_cases c20 : 1 < (t222.length : Int)
                    · rw [if_pos c20] at H
                      have c20b0 : decide (1 < (t222.length : Int)) = true := decide_eq_true c20
                      have c20b1 : decide (1 < t222.length) = true := decide_eq_true (by omega)
                      clear c20
                      by_cases c21 : ((rd_T42 t222 1).f1) = 1
                      · rw [if_pos c21] at H
                        have c21b0 : (((rd_T42 t222 1).f1) == 1) = true := beq_iff_eq.mpr c21
                        have c21b1 : (((rd_T42 t222 1).f1) != 1) = false := bne_eq_false_iff_eq.mpr c21
                        clear c21
                        by_cases c22 : x6_3 = 0
                        · rw [if_pos c22] at H
                          have c22b0 : (x6_3 == 0) = true := beq_iff_eq.mpr c22
                          have c22b1 : (x6_3 != 0) = false := bne_eq_false_iff_eq.mpr c22
                          clear c22
                          obtain ⟨y232, hy232⟩ : ∃ y_ : List Int, y_ = (([0, 1] : List Int)) := ⟨_, rfl⟩
                          replace H : ((bk_Ints.f kj3 x5_3 y232).bind fun t235 => (if t235 = true then ((view_Check.f kj3 ([] : List (S42))).bind fun t236 => (some (t236 == 1))) else (some false))) = some r := by first | (rw [hy232]; with_reducible exact H) | (have H2_ := (Option.bind_some _ _).symm.trans H; rw [hy232]; with_reducible exact H2_) | (have H2_ := (Option.bind_some _ _).symm.trans H; with_reducible exact H2_) | with_reducible exact H | (rw [hy232]; exact H) | exact H
                          have Ny232 := Aside0.mk hy232
                          clear hy232
                          replace H := Option.bind_eq_some_iff.mp H
                          obtain ⟨t235, A230, H⟩ := H
                          replace H : (if t235 = true then ((view_Check.f kj3 ([] : List (S42))).bind fun t236 => (some (t236 == 1))) else (some false)) = some r := H
                          have A23 := Aside0.mk A230
                          clear A230
                          by_cases c24 : t235 = true
                          · subst c24
                            have H1 : ((view_Check.f kj3 ([] : List (S42))).bind fun t236 => (some (t236 == 1))) = some r := by rw [if_pos rfl] at H; exact H
                            clear H
                            have H := H1
                            clear H1
                            replace H := Option.bind_eq_some_iff.mp H
                            obtain ⟨t236, A250, H⟩ := H
                            replace H : (some (t236 == 1)) = some r := H
                            have A25 := Aside0.mk A250
                            clear A250
                            obtain rfl := Option.some.inj H
                            have p230 : 0 ≤ (1 : Int) := (by omega)
                            have q230 : 1 < (t218.length : Int) := of_decide_eq_true (by first | (with_reducible assumption) | assumption)
                            obtain ⟨ad230, e230, hx230_0, hx230_1⟩ := at_T42 (Kd.R_reads' HO_1.out).2.2 1 p230 q230
                            cases e230
                            (try simp only [show (1 : Int).toNat = 1 from rfl, Nat.reduceMul, Nat.reduceEqDiff, Go.Addr.add, ↓reduceIte] at hx230_0)
                            (try simp only [show (1 : Int).toNat = 1 from rfl, Nat.reduceMul, Nat.reduceEqDiff, Go.Addr.add, ↓reduceIte] at hx230_1)
                            have qi230 : (1 < t218.length) = True := eq_true (by omega)
                            (try rw [show ((1 : Int)).toNat = 1 from rfl] at hx230_0)
                            (try rw [show 1 * 2 = 2 from rfl] at hx230_0)
                            (try rw [show ((1 : Int)).toNat = 1 from rfl] at hx230_1)
                            (try rw [show 1 * 2 = 2 from rfl] at hx230_1)
                            replace p230 := eq_true p230
                            replace q230 := eq_true q230
                            obtain ⟨Ao26, co26, eo26⟩ := Kd.R_slice HO_3.out
                            subst eo26
                            have p231 : 0 ≤ (1 : Int) := (by omega)
                            have q231 : 1 < (t222.length : Int) := of_decide_eq_true (by first | (with_reducible assumption) | assumption)
                            obtain ⟨ad231, e231, hx231_0, hx231_1⟩ := at_T42 (Kd.R_reads' HO_3.out).2.2 1 p231 q231
                            cases e231
                            (try simp only [show (1 : Int).toNat = 1 from rfl, Nat.reduceMul, Nat.reduceEqDiff, Go.Addr.add, ↓reduceIte] at hx231_0)
                            (try simp only [show (1 : Int).toNat = 1 from rfl, Nat.reduceMul, Nat.reduceEqDiff, Go.Addr.add, ↓reduceIte] at hx231_1)
                            have qi231 : (1 < t222.length) = True := eq_true (by omega)
                            (try rw [show ((1 : Int)).toNat = 1 from rfl] at hx231_0)
                            (try rw [show 1 * 2 = 2 from rfl] at hx231_0)
                            (try rw [show ((1 : Int)).toNat = 1 from rfl] at hx231_1)
                            (try rw [show 1 * 2 = 2 from rfl] at hx231_1)
                            replace p231 := eq_true p231
                            replace q231 := eq_true q231
                            go_wp2_with (first | ((with_reducible refine gate_dst (N := 58) rfl ?_); (try (refine gate_guard (by rfl) ?_; dsimp only)); refine Kd.R_lit (Kd.int .i64) _ 3 ?hg (N := 58) ?hd (xs := ([0, 1] : List Int)) (inner := [.int .i64 0, .int .i64 1]) (ok := fun _ => True) (okp := fun _ => True) ?hr ?hp (fun _ hk => hk) trivial (Below.refl _ _) (Nat.le_refl _) (by simp) ?_; (case hd => rfl); (case hg => rfl); (case hr => first | (go_simp; done) | (go_simp; rfl)); (case hp => exact (Reps.one (show Kd.M (Kd.int .i64) _ _ _ 0 [.int .i64 0] from rfl) (Reps.one (show Kd.M (Kd.int .i64) _ _ _ 1 [.int .i64 1] from rfl) (Reps.none _ _)))); intro v233 w27 ho28 hb hg_ hnew_; clear hg_ hnew_; (first | rw [← Ny232.out] at ho28 | (simp only [Int.reduceToNat] at ho28; rw [← Ny232.out] at ho28)); have n0_ := Aside0.mk (Kd.R_below (by (with_reducible repeat (first | apply ra_ | apply rn_ | apply rd_)); exact HO_1.out) hb); have n1_ := Aside0.mk (Kd.R_below (by (with_reducible repeat (first | apply ra_ | apply rn_ | apply rd_)); exact HO_3.out) hb); have n2_ := Aside0.mk (Kd.R_elder' (by (with_reducible repeat (first | apply ra_ | apply rn_ | apply rd_)); exact HO_5.out) (Kd.R_base ho28) hb); have n3_ := Aside0.mk (Kd.R_lower (Kd.R_new' ho28 (Kd.R_lt (by (with_reducible repeat (first | apply ra_ | apply rn_ | apply rd_)); exact HO_5.out))) (below_size (by repeat (first | (with_reducible first | exact HB.out | apply ba_ | apply bn_ | apply bd_) | exact HB.out)))); have n4_ := Aside0.mk (below_step (by repeat (first | (with_reducible first | exact HB.out | apply ba_ | apply bn_ | apply bd_) | exact HB.out)) hb); clear HO_1; clear HO_3; clear HO_5; clear HB; have HO_1 := n0_; have HO_3 := n1_; have HO_5 := n2_; have HO234 := n3_; have HB := n4_; clear n0_ n1_ n2_ n3_ n4_; clear hb ho28; obtain ⟨Ao29, co29, eo29⟩ := Kd.R_slice HO_5.out; subst eo29; obtain ⟨Ao30, co30, eo30⟩ := Kd.R_slice HO234.out; subst eo30) | (go_at_call 22; (with_reducible refine (bk_Ints.calls kj3 _ _ x5_3 _ _ y232 true _ ?side1 ?side2 ?side3 ?side4 A23.out).mono ?_); (case side1 => repeat (first | exact (Kd.R_reads' HO_5.out).2.2 | (with_reducible refine Kd.C_alloc ?_ _) | (with_reducible refine Kd.C_drewN ?_ _) | (with_reducible refine Kd.C_drew ?_))); (case side2 => exact (Kd.R_reads' HO_5.out).2.1); (case side3 => repeat (first | exact (Kd.R_reads' HO234.out).2.2 | (with_reducible refine Kd.C_alloc ?_ _) | (with_reducible refine Kd.C_drewN ?_ _) | (with_reducible refine Kd.C_drew ?_))); (case side4 => exact (Kd.R_reads' HO234.out).2.1); rintro e w' ⟨rfl, ⟨nd, rfl⟩⟩) | (go_at_call 18; (refine (view_Check.calls kj3 _ _ ([] : List (S42)) t236 _ ?side1 ?side2 A25.out).mono ?_); (case side1 => exact Kd.C_nil _ _); (case side2 => exact Nat.le_refl _); rintro e w31 ⟨rfl, hb⟩; have n0_ := Aside0.mk (Kd.R_below (by (with_reducible repeat (first | apply ra_ | apply rn_ | apply rd_)); exact HO_1.out) hb); have n1_ := Aside0.mk (Kd.R_below (by (with_reducible repeat (first | apply ra_ | apply rn_ | apply rd_)); exact HO_3.out) hb); have n2_ := Aside0.mk (Kd.R_below (by (with_reducible repeat (first | apply ra_ | apply rn_ | apply rd_)); exact HO_5.out) hb); have n3_ := Aside0.mk (Kd.R_below (by (with_reducible repeat (first | apply ra_ | apply rn_ | apply rd_)); exact HO234.out) hb); have n4_ := Aside0.mk (below_step (by repeat (first | (with_reducible first | exact HB.out | apply ba_ | apply bn_ | apply bd_) | exact HB.out)) hb); clear HO_1; clear HO_3; clear HO_5; clear HO234; clear HB; have HO_1 := n0_; have HO_3 := n1_; have HO_5 := n2_; have HO234 := n3_; have HB := n4_; clear n0_ n1_ n2_ n3_ n4_; (try clear hb); (try clear hb2); (try clear hk); (try clear hi)))
                            go_ret
                            exact ⟨by first | rfl | (simp [errW_none, errW_some] <;> rfl) | (simp [*, errW_none, errW_some] <;> rfl), by repeat (first | (with_reducible first | exact HB.out | apply ba_ | apply bn_ | apply bd_) | exact HB.out)⟩
                          · replace c24 := Bool.eq_false_iff.mpr c24
                            subst c24
                            have H1 : (some false) = some r := by rw [if_neg (show ¬ (false = true) by decide)] at H; exact H
                            clear H
                            have H := H1
                            clear H1
                            obtain rfl := Option.some.inj H
                            have p230 : 0 ≤ (1 : Int) := (by omega)
                            have q230 : 1 < (t218.length : Int) := of_decide_eq_true (by first | (with_reducible assumption) | assumption)
                            obtain ⟨ad230, e230, hx230_0, hx230_1⟩ := at_T42 (Kd.R_reads' HO_1.out).2.2 1 p230 q230
                            cases e230
                            (try simp only [show (1 : Int).toNat = 1 from rfl, Nat.reduceMul, Nat.reduceEqDiff, Go.Addr.add, ↓reduceIte] at hx230_0)
                            (try simp only [show (1 : Int).toNat = 1 from rfl, Nat.reduceMul, Nat.reduceEqDiff, Go.Addr.add, ↓reduceIte] at hx230_1)
                            have qi230 : (1 < t218.length) = True := eq_true (by omega)
                            (try rw [show ((1 : Int)).toNat = 1 from rfl] at hx230_0)
                            (try rw [show 1 * 2 = 2 from rfl] at hx230_0)
                            (try rw [show ((1 : Int)).toNat = 1 from rfl] at hx230_1)
                            (try rw [show 1 * 2 = 2 from rfl] at hx230_1)
                            replace p230 := eq_true p230
                            replace q230 := eq_true q230
                            obtain ⟨Ao32, co32, eo32⟩ := Kd.R_slice HO_3.out
                            subst eo32
                            have p231 : 0 ≤ (1 : Int) := (by omega)
                            have q231 : 1 < (t222.length : Int) := of_decide_eq_true (by first | (with_reducible assumption) | assumption)
                            obtain ⟨ad231, e231, hx231_0, hx231_1⟩ := at_T42 (Kd.R_reads' HO_3.out).2.2 1 p231 q231
                            cases e231
                            (try simp only [show (1 : Int).toNat = 1 from rfl, Nat.reduceMul, Nat.reduceEqDiff, Go.Addr.add, ↓reduceIte] at hx231_0)
                            (try simp only [show (1 : Int).toNat = 1 from rfl, Nat.reduceMul, Nat.reduceEqDiff, Go.Addr.add, ↓reduceIte] at hx231_1)
                            have qi231 : (1 < t222.length) = True := eq_true (by omega)
                            (try rw [show ((1 : Int)).toNat = 1 from rfl] at hx231_0)
                            (try rw [show 1 * 2 = 2 from rfl] at hx231_0)
                            (try rw [show ((1 : Int)).toNat = 1 from rfl] at hx231_1)
                            (try rw [show 1 * 2 = 2 from rfl] at hx231_1)
                            replace p231 := eq_true p231
                            replace q231 := eq_true q231
                            go_wp2_with (first | ((with_reducible refine gate_dst (N := 58) rfl ?_); (try (refine gate_guard (by rfl) ?_; dsimp only)); refine Kd.R_lit (Kd.int .i64) _ 3 ?hg (N := 58) ?hd (xs := ([0, 1] : List Int)) (inner := [.int .i64 0, .int .i64 1]) (ok := fun _ => True) (okp := fun _ => True) ?hr ?hp (fun _ hk => hk) trivial (Below.refl _ _) (Nat.le_refl _) (by simp) ?_; (case hd => rfl); (case hg => rfl); (case hr => first | (go_simp; done) | (go_simp; rfl)); (case hp => exact (Reps.one (show Kd.M (Kd.int .i64) _ _ _ 0 [.int .i64 0] from rfl) (Reps.one (show Kd.M (Kd.int .i64) _ _ _ 1 [.int .i64 1] from rfl) (Reps.none _ _)))); intro v233 w33 ho34 hb hg_ hnew_; clear hg_ hnew_; (first | rw [← Ny232.out] at ho34 | (simp only [Int.reduceToNat] at ho34; rw [← Ny232.out] at ho34)); have n0_ := Aside0.mk (Kd.R_below (by (with_reducible repeat (first | apply ra_ | apply rn_ | apply rd_)); exact HO_1.out) hb); have n1_ := Aside0.mk (Kd.R_below (by (with_reducible repeat (first | apply ra_ | apply rn_ | apply rd_)); exact HO_3.out) hb); have n2_ := Aside0.mk (Kd.R_elder' (by (with_reducible repeat (first | apply ra_ | apply rn_ | apply rd_)); exact HO_5.out) (Kd.R_base ho34) hb); have n3_ := Aside0.mk (Kd.R_lower (Kd.R_new' ho34 (Kd.R_lt (by (with_reducible repeat (first | apply ra_ | apply rn_ | apply rd_)); exact HO_5.out))) (below_size (by repeat (first | (with_reducible first | exact HB.out | apply ba_ | apply bn_ | apply bd_) | exact HB.out)))); have n4_ := Aside0.mk (below_step (by repeat (first | (with_reducible first | exact HB.out | apply ba_ | apply bn_ | apply bd_) | exact HB.out)) hb); clear HO_1; clear HO_3; clear HO_5; clear HB; have HO_1 := n0_; have HO_3 := n1_; have HO_5 := n2_; have HO234 := n3_; have HB := n4_; clear n0_ n1_ n2_ n3_ n4_; clear hb ho34; obtain ⟨Ao35, co35, eo35⟩ := Kd.R_slice HO_5.out; subst eo35; obtain ⟨Ao36, co36, eo36⟩ := Kd.R_slice HO234.out; subst eo36) | (go_at_call 22; (with_reducible refine (bk_Ints.calls kj3 _ _ x5_3 _ _ y232 false _ ?side1 ?side2 ?side3 ?side4 A23.out).mono ?_); (case side1 => repeat (first | exact (Kd.R_reads' HO_5.out).2.2 | (with_reducible refine Kd.C_alloc ?_ _) | (with_reducible refine Kd.C_drewN ?_ _) | (with_reducible refine Kd.C_drew ?_))); (case side2 => exact (Kd.R_reads' HO_5.out).2.1); (case side3 => repeat (first | exact (Kd.R_reads' HO234.out).2.2 | (with_reducible refine Kd.C_alloc ?_ _) | (with_reducible refine Kd.C_drewN ?_ _) | (with_reducible refine Kd.C_drew ?_))); (case side4 => exact (Kd.R_reads' HO234.out).2.1); rintro e w' ⟨rfl, ⟨nd, rfl⟩⟩))
                            go_ret
                            exact ⟨by first | rfl | (simp [errW_none, errW_some] <;> rfl) | (simp [*, errW_none, errW_some] <;> rfl), by repeat (first | (with_reducible first | exact HB.out | apply ba_ | apply bn_ | apply bd_) | exact HB.out)⟩
                        · rw [if_neg c22] at H
                          have c22b0 : (x6_3 == 0) = false := beq_eq_false_iff_ne.mpr c22
                          have c22b1 : (x6_3 != 0) = true := bne_iff_ne.mpr c22
                          obtain rfl := Option.some.inj H
                          have p230 : 0 ≤ (1 : Int) := (by omega)
                          have q230 : 1 < (t218.length : Int) := of_decide_eq_true (by first | (with_reducible assumption) | assumption)
                          obtain ⟨ad230, e230, hx230_0, hx230_1⟩ := at_T42 (Kd.R_reads' HO_1.out).2.2 1 p230 q230
                          cases e230
                          (try simp only [show (1 : Int).toNat = 1 from rfl, Nat.reduceMul, Nat.reduceEqDiff, Go.Addr.add, ↓reduceIte] at hx230_0)
                          (try simp only [show (1 : Int).toNat = 1 from rfl, Nat.reduceMul, Nat.reduceEqDiff, Go.Addr.add, ↓reduceIte] at hx230_1)
                          have qi230 : (1 < t218.length) = True := eq_true (by omega)
                          (try rw [show ((1 : Int)).toNat = 1 from rfl] at hx230_0)
                          (try rw [show 1 * 2 = 2 from rfl] at hx230_0)
                          (try rw [show ((1 : Int)).toNat = 1 from rfl] at hx230_1)
                          (try rw [show 1 * 2 = 2 from rfl] at hx230_1)
                          replace p230 := eq_true p230
                          replace q230 := eq_true q230
                          obtain ⟨Ao37, co37, eo37⟩ := Kd.R_slice HO_3.out
                          subst eo37
                          have p231 : 0 ≤ (1 : Int) := (by omega)
                          have q231 : 1 < (t222.length : Int) := of_decide_eq_true (by first | (with_reducible assumption) | assumption)
                          obtain ⟨ad231, e231, hx231_0, hx231_1⟩ := at_T42 (Kd.R_reads' HO_3.out).2.2 1 p231 q231
                          cases e231
                          (try simp only [show (1 : Int).toNat = 1 from rfl, Nat.reduceMul, Nat.reduceEqDiff, Go.Addr.add, ↓reduceIte] at hx231_0)
                          (try simp only [show (1 : Int).toNat = 1 from rfl, Nat.reduceMul, Nat.reduceEqDiff, Go.Addr.add, ↓reduceIte] at hx231_1)
                          have qi231 : (1 < t222.length) = True := eq_true (by omega)
                          (try rw [show ((1 : Int)).toNat = 1 from rfl] at hx231_0)
                          (try rw [show 1 * 2 = 2 from rfl] at hx231_0)
                          (try rw [show ((1 : Int)).toNat = 1 from rfl] at hx231_1)
                          (try rw [show 1 * 2 = 2 from rfl] at hx231_1)
                          replace p231 := eq_true p231
                          replace q231 := eq_true q231
                          go_wp2
                          go_ret
                          exact ⟨by first | rfl | (simp [errW_none, errW_some] <;> rfl) | (simp [*, errW_none, errW_some] <;> rfl), by repeat (first | (with_reducible first | exact HB.out | apply ba_ | apply bn_ | apply bd_) | exact HB.out)⟩
                      · rw [if_neg c21] at H
                        have c21b0 : (((rd_T42 t222 1).f1) == 1) = false := beq_eq_false_iff_ne.mpr c21
                        have c21b1 : (((rd_T42 t222 1).f1) != 1) = true := bne_iff_ne.mpr c21
                        obtain rfl := Option.some.inj H
                        have p230 : 0 ≤ (1 : Int) := (by omega)
                        have q230 : 1 < (t218.length : Int) := of_decide_eq_true (by first | (with_reducible assumption) | assumption)
                        obtain ⟨ad230, e230, hx230_0, hx230_1⟩ := at_T42 (Kd.R_reads' HO_1.out).2.2 1 p230 q230
                        cases e230
                        (try simp only [show (1 : Int).toNat = 1 from rfl, Nat.reduceMul, Nat.reduceEqDiff, Go.Addr.add, ↓reduceIte] at hx230_0)
                        (try simp only [show (1 : Int).toNat = 1 from rfl, Nat.reduceMul, Nat.reduceEqDiff, Go.Addr.add, ↓reduceIte] at hx230_1)
                        have qi230 : (1 < t218.length) = True := eq_true (by omega)
                        (try rw [show ((1 : Int)).toNat = 1 from rfl] at hx230_0)
                        (try rw [show 1 * 2 = 2 from rfl] at hx230_0)
                        (try rw [show ((1 : Int)).toNat = 1 from rfl] at hx230_1)
                        (try rw [show 1 * 2 = 2 from rfl] at hx230_1)
                        replace p230 := eq_true p230
                        replace q230 := eq_true q230
                        obtain ⟨Ao38, co38, eo38⟩ := Kd.R_slice HO_3.out
                        subst eo38
                        have p231 : 0 ≤ (1 : Int) := (by omega)
                        have q231 : 1 < (t222.length : Int) := of_decide_eq_true (by first | (with_reducible assumption) | assumption)
                        obtain ⟨ad231, e231, hx231_0, hx231_1⟩ := at_T42 (Kd.R_reads' HO_3.out).2.2 1 p231 q231
                        cases e231
                        (try simp only [show (1 : Int).toNat = 1 from rfl, Nat.reduceMul, Nat.reduceEqDiff, Go.Addr.add, ↓reduceIte] at hx231_0)
                        (try simp only [show (1 : Int).toNat = 1 from rfl, Nat.reduceMul, Nat.reduceEqDiff, Go.Addr.add, ↓reduceIte] at hx231_1)
                        have qi231 : (1 < t222.length) = True := eq_true (by omega)
                        (try rw [show ((1 : Int)).toNat = 1 from rfl] at hx231_0)
                        (try rw [show 1 * 2 = 2 from rfl] at hx231_0)
                        (try rw [show ((1 : Int)).toNat = 1 from rfl] at hx231_1)
                        (try rw [show 1 * 2 = 2 from rfl] at hx231_1)
                        replace p231 := eq_true p231
                        replace q231 := eq_true q231
                        go_wp2
                        go_ret
                        exact ⟨by first | rfl | (simp [errW_none, errW_some] <;> rfl) | (simp [*, errW_none, errW_some] <;> rfl), by repeat (first | (with_reducible first | exact HB.out | apply ba_ | apply bn_ | apply bd_) | exact HB.out)⟩
                    · rw [if_neg c20] at H
                      exact absurd H (by simp)
                  · rw [if_neg c19] at H
                    have c19b0 : ((t222.length : Int) == 3) = false := beq_eq_false_iff_ne.mpr c19
                    have c19b1 : ((t222.length : Int) != 3) = true := bne_iff_ne.mpr c19
                    obtain rfl := Option.some.inj H
                    have p230 : 0 ≤ (1 : Int) := (by omega)
                    have q230 : 1 < (t218.length : Int) := of_decide_eq_true (by first | (with_reducible assumption) | assumption)
                    obtain ⟨ad230, e230, hx230_0, hx230_1⟩ := at_T42 (Kd.R_reads' HO_1.out).2.2 1 p230 q230
                    cases e230
                    (try simp only [show (1 : Int).toNat = 1 from rfl, Nat.reduceMul, Nat.reduceEqDiff, Go.Addr.add, ↓reduceIte] at hx230_0)
                    (try simp only [show (1 : Int).toNat = 1 from rfl, Nat.reduceMul, Nat.reduceEqDiff, Go.Addr.add, ↓reduceIte] at hx230_1)
                    have qi230 : (1 < t218.length) = True := eq_true (by omega)
                    (try rw [show ((1 : Int)).toNat = 1 from rfl] at hx230_0)
                    (try rw [show 1 * 2 = 2 from rfl] at hx230_0)
                    (try rw [show ((1 : Int)).toNat = 1 from rfl] at hx230_1)
                    (try rw [show 1 * 2 = 2 from rfl] at hx230_1)
                    replace p230 := eq_true p230
                    replace q230 := eq_true q230
                    obtain ⟨Ao39, co39, eo39⟩ := Kd.R_slice HO_3.out
                    subst eo39
                    go_wp2
                    go_ret
                    exact ⟨by first | rfl | (simp [errW_none, errW_some] <;> rfl) | (simp [*, errW_none, errW_some] <;> rfl), by repeat (first | (with_reducible first | exact HB.out | apply ba_ | apply bn_ | apply bd_) | exact HB.out)⟩
                · rw [if_neg c18] at H
                  have c18b0 : (t223 == 0) = false := beq_eq_false_iff_ne.mpr c18
                  have c18b1 : (t223 != 0) = true := bne_iff_ne.mpr c18
                  obtain rfl := Option.some.inj H
                  have p230 : 0 ≤ (1 : Int) := (by omega)
                  have q230 : 1 < (t218.length : Int) := of_decide_eq_true (by first | (with_reducible assumption) | assumption)
                  obtain ⟨ad230, e230, hx230_0, hx230_1⟩ := at_T42 (Kd.R_reads' HO_1.out).2.2 1 p230 q230
                  cases e230
                  (try simp only [show (1 : Int).toNat = 1 from rfl, Nat.reduceMul, Nat.reduceEqDiff, Go.Addr.add, ↓reduceIte] at hx230_0)
                  (try simp only [show (1 : Int).toNat = 1 from rfl, Nat.reduceMul, Nat.reduceEqDiff, Go.Addr.add, ↓reduceIte] at hx230_1)
                  have qi230 : (1 < t218.length) = True := eq_true (by omega)
                  (try rw [show ((1 : Int)).toNat = 1 from rfl] at hx230_0)
                  (try rw [show 1 * 2 = 2 from rfl] at hx230_0)
                  (try rw [show ((1 : Int)).toNat = 1 from rfl] at hx230_1)
                  (try rw [show 1 * 2 = 2 from rfl] at hx230_1)
                  replace p230 := eq_true p230
                  replace q230 := eq_true q230
                  go_wp2
                  go_ret
                  exact ⟨by first | rfl | (simp [errW_none, errW_some] <;> rfl) | (simp [*, errW_none, errW_some] <;> rfl), by repeat (first | (with_reducible first | exact HB.out | apply ba_ | apply bn_ | apply bd_) | exact HB.out)⟩
              · rw [if_neg c17] at H
                have c17b0 : (((rd_T42 t218 1).f0) == 4) = false := beq_eq_false_iff_ne.mpr c17
                have c17b1 : (((rd_T42 t218 1).f0) != 4) = true := bne_iff_ne.mpr c17
                obtain rfl := Option.some.inj H
                have p230 : 0 ≤ (1 : Int) := (by omega)
                have q230 : 1 < (t218.length : Int) := of_decide_eq_true (by first | (with_reducible assumption) | assumption)
                obtain ⟨ad230, e230, hx230_0, hx230_1⟩ := at_T42 (Kd.R_reads' HO_1.out).2.2 1 p230 q230
                cases e230
                (try simp only [show (1 : Int).toNat = 1 from rfl, Nat.reduceMul, Nat.reduceEqDiff, Go.Addr.add, ↓reduceIte] at hx230_0)
                (try simp only [show (1 : Int).toNat = 1 from rfl, Nat.reduceMul, Nat.reduceEqDiff, Go.Addr.add, ↓reduceIte] at hx230_1)
                have qi230 : (1 < t218.length) = True := eq_true (by omega)
                (try rw [show ((1 : Int)).toNat = 1 from rfl] at hx230_0)
                (try rw [show 1 * 2 = 2 from rfl] at hx230_0)
                (try rw [show ((1 : Int)).toNat = 1 from rfl] at hx230_1)
                (try rw [show 1 * 2 = 2 from rfl] at hx230_1)
                replace p230 := eq_true p230
                replace q230 := eq_true q230
                go_wp2
                go_ret
                exact ⟨by first | rfl | (simp [errW_none, errW_some] <;> rfl) | (simp [*, errW_none, errW_some] <;> rfl), by repeat (first | (with_reducible first | exact HB.out | apply ba_ | apply bn_ | apply bd_) | exact HB.out)⟩
            · rw [if_neg c16] at H
              exact absurd H (by simp)
          · rw [if_neg c15] at H
            have c15b0 : ((t218.length : Int) == 3) = false := beq_eq_false_iff_ne.mpr c15
            have c15b1 : ((t218.length : Int) != 3) = true := bne_iff_ne.mpr c15
            obtain rfl := Option.some.inj H
            go_wp2
            go_ret
            exact ⟨by first | rfl | (simp [errW_none, errW_some] <;> rfl) | (simp [*, errW_none, errW_some] <;> rfl), by repeat (first | (with_reducible first | exact HB.out | apply ba_ | apply bn_ | apply bd_) | exact HB.out)⟩
        · rw [if_neg c14] at H
          have c14b0 : (t219 == 0) = false := beq_eq_false_iff_ne.mpr c14
          have c14b1 : (t219 != 0) = true := bne_iff_ne.mpr c14
          obtain rfl := Option.some.inj H
          go_wp2
          go_ret
          exact ⟨by first | rfl | (simp [errW_none, errW_some] <;> rfl) | (simp [*, errW_none, errW_some] <;> rfl), by repeat (first | (with_reducible first | exact HB.out | apply ba_ | apply bn_ | apply bd_) | exact HB.out)⟩
  · rw [if_neg c1] at H
    exact absurd H (by simp)

/-! ### ref10_Older: function 20 -/
def ref10_Older.l0 : Nat → List (S42) → Int → Option ((List (S42)))
  | 0, _, _ => none
  | k + 1, x3, x4 => if x4 < (x3.length : Int) then (if 0 ≤ x4 then (ref10_Older.l0 k (x3.set (x4 : Int).toNat (⟨(rd_T42 x3 x4).f0, mn (wrap64 (((rd_T42 x3 x4).f1) + 1)) 1000⟩ : S42)) (wrap64 (x4 + 1))) else (none)) else (some x3)
def ref10_Older.f (k : Nat) (l0 : List (S42)) : Option ((List (S42))) := (bk_TwinPeers.f l0).bind fun t242 => (ref10_Older.l0 k t242 0)
theorem ref10_Older.mono_l : ∀ k, (∀ y0 y1, LeO (ref10_Older.l0 k y0 y1) (ref10_Older.l0 (k + 1) y0 y1))
  | 0 => fun _ _ r h => by simp [ref10_Older.l0] at h
  | k + 1 => by
    have ih0 := ref10_Older.mono_l k
    · intro y0 y1
      unfold ref10_Older.l0
      repeat' first
      | (with_reducible exact ih0 _ _)
      | (with_reducible exact LeO.refl _)
      | (with_reducible exact LeO.none _)
      | (with_reducible refine LeO.ite ?_ ?_)
      | (with_reducible refine LeO.bind ?_ (fun _ => ?_))
      | exact ih0 _ _
      | exact LeO.none _
      | refine LeO.ite ?_ ?_
      | refine LeO.bind ?_ (fun _ => ?_)
theorem ref10_Older.mono : ∀ a0 k, LeO (ref10_Older.f k a0) (ref10_Older.f (k + 1) a0) := by
  intro a0 k
  have ih0 := ref10_Older.mono_l k
  unfold ref10_Older.f
  repeat' first
      | (with_reducible exact ih0 _ _)
      | (with_reducible exact LeO.refl _)
      | (with_reducible exact LeO.none _)
      | (with_reducible refine LeO.ite ?_ ?_)
      | (with_reducible refine LeO.bind ?_ (fun _ => ?_))
      | exact ih0 _ _
      | exact LeO.none _
      | refine LeO.ite ?_ ?_
      | refine LeO.bind ?_ (fun _ => ?_)
set_option maxHeartbeats 8000000 in
set_option maxRecDepth 100000 in
theorem ref10_Older.calls (k : Nat) (A0 : Option Addr) (c0 : Nat) (l0 : List (S42)) (r : List (S42)) (w : World) (hr0 : Kd.C k42 w A0 l0.length l0) (hc0 : l0.length ≤ c0) (h : ref10_Older.f k l0 = some r) :
    Calls Try.prog 20 #[.slice A0 l0.length c0] w fun e w' => ∃ v0_ : Value, e = .returned (v0_) ∧ Kd.R k42 42 w' w.heap.size (fun _ => True) v0_ r ∧ Below w.heap.size w w' := by
  have HR0 := Aside0.mk hr0
  have HC0 := Aside0.mk hc0
  clear hr0 hc0
  have HB := Aside0.mk (Below.refl w.heap.size w)
  have H : ((bk_TwinPeers.f l0).bind fun t242 => (ref10_Older.l0 k t242 0)) = some r := h
  clear h
  replace H := Option.bind_eq_some_iff.mp H
  obtain ⟨t242, A20, H⟩ := H
  replace H : (ref10_Older.l0 k t242 0) = some r := H
  have A2 := Aside0.mk A20
  clear A20
  have H' := Aside0.mk H
  clear H
  go_enter Try.func20, Try.ntmps20
  go_wp2_with (first | ((with_reducible refine gate_callee (f := 12) rfl ?_); refine goesL_ (some 6) rfl rfl Try.func12 (by kernel_rfl) rfl #[.slice A0 l0.length c0] rfl (by (try simp only [List.map_toArray, List.map_cons, List.map_nil]); first | done | rfl | (simp only [List.length_drop, List.length_take]; rfl)) ?_; (with_reducible refine (bk_TwinPeers.calls _ _ l0 t242 _ ?side1 ?side2 A2.out).mono ?_); (case side1 => repeat (first | exact HR0.out | (with_reducible refine Kd.C_alloc ?_ _) | (with_reducible refine Kd.C_drewN ?_ _) | (with_reducible refine Kd.C_drew ?_))); (case side2 => exact HC0.out); rintro e w3 ⟨v243, rfl, ho0, hb⟩; refine ⟨_, rfl, ?_⟩; have n0_ := Aside0.mk (Kd.R_lower ho0 (below_size (by repeat (first | (with_reducible first | exact HB.out | apply ba_ | apply bn_ | apply bd_) | exact HB.out)))); have n1_ := Aside0.mk (below_step (by repeat (first | (with_reducible first | exact HB.out | apply ba_ | apply bn_ | apply bd_) | exact HB.out)) hb); clear HB; have HO244 := n0_; have HB := n1_; clear n0_ n1_; (try clear hb); (try clear hb2); (try clear hk); (try clear hi); (try clear ho0)))
  go_loopg [4] k (fun kq v4 w' => ∃ (x3_1 : List (S42)) (x4_1 : Int), v4 = .int .i64 x4_1 ∧ Aside0 (ref10_Older.l0 kq x3_1 x4_1 = some r) ∧ Aside0 (kq ≤ k) ∧ Aside0 (Kd.R k42 42 w' w.heap.size (fun _ => True) v243 x3_1) ∧ Aside0 (Below w.heap.size w w'))
  case atStart => exact ⟨(t242), (0), (by first | rfl | (simp; done) | (simp [*]; done)), H', ⟨Nat.le_refl _⟩, ⟨by (with_reducible repeat (first | apply ra_ | apply rn_ | apply rd_)); exact HO244.out⟩, ⟨by repeat (first | (with_reducible first | exact HB.out | apply ba_ | apply bn_ | apply bd_) | exact HB.out)⟩⟩
  case round =>
    clear H'
    (try clear c1); (try clear c2); (try clear p2)
    obtain ⟨x3_1, x4_1, rfl, HA, HK1, HO_3, HB⟩ := hrel
    cases gk with
    | zero => exact absurd HA.out (by simp [ref10_Older.l0])
    | succ k1 =>
      have H := HA.out
      clear HA
      simp only [ref10_Older.l0] at H
      by_cases c4 : x4_1 < (x3_1.length : Int)
      · rw [if_pos c4] at H
        have c4b0 : decide (x4_1 < (x3_1.length : Int)) = true := decide_eq_true c4
        clear c4
        by_cases c5 : 0 ≤ x4_1
        · rw [if_pos c5] at H
          have c5b0 : decide (0 ≤ x4_1) = true := decide_eq_true c5
          clear c5
          obtain ⟨ji6, hji6⟩ : ∃ j_ : Int, (mn (wrap64 (((rd_T42 x3_1 x4_1).f1) + 1)) 1000) = j_ := ⟨_, rfl⟩
          replace H : (ref10_Older.l0 k1 (x3_1.set (x4_1 : Int).toNat (⟨(rd_T42 x3_1 x4_1).f0, ji6⟩ : S42)) (wrap64 (x4_1 + 1))) = some r := by first | (rw [hji6] at H; exact H) | (simp only [hji6] at H ⊢; exact H)
          have hji6_ : (if 1000 < (wrap64 (((rd_T42 x3_1 x4_1).f1) + 1)) then 1000 else (wrap64 (((rd_T42 x3_1 x4_1).f1) + 1))) = ji6 := hji6
          obtain ⟨y246, hy246⟩ : ∃ y_ : List (S42), y_ = (x3_1.set (x4_1 : Int).toNat (⟨(rd_T42 x3_1 x4_1).f0, ji6⟩ : S42)) := ⟨_, rfl⟩
          replace H : (ref10_Older.l0 k1 y246 (wrap64 (x4_1 + 1))) = some r := by first | (rw [hy246]; with_reducible exact H) | (have H2_ := (Option.bind_some _ _).symm.trans H; rw [hy246]; with_reducible exact H2_) | (have H2_ := (Option.bind_some _ _).symm.trans H; with_reducible exact H2_) | with_reducible exact H | (rw [hy246]; exact H) | exact H
          have Ny246 := Aside0.mk hy246
          clear hy246
          have H' := Aside0.mk H
          clear H
          obtain ⟨Ao8, co8, eo8⟩ := Kd.R_slice HO_3.out
          subst eo8
          have p245 : 0 ≤ (x4_1 : Int) := of_decide_eq_true (by first | (with_reducible assumption) | assumption)
          have q245 : x4_1 < (x3_1.length : Int) := of_decide_eq_true (by first | (with_reducible assumption) | assumption)
          obtain ⟨ad245, e245, hx245_0, hx245_1⟩ := at_T42 (Kd.R_reads' HO_3.out).2.2 x4_1 p245 q245
          cases e245
          replace p245 := eq_true p245
          replace q245 := eq_true q245
          have p7 : 0 ≤ (x4_1 : Int) := of_decide_eq_true (by first | (with_reducible assumption) | assumption)
          have q7 : (x4_1 : Int) < ((x3_1.length : Int) : Int) := of_decide_eq_true (by first | (with_reducible assumption) | assumption)
          obtain ⟨go7, co7, eo7, gb7, gl7, cl7, HG7⟩ := Kd.R_form HO_3.out (by omega)
          (first | cases eo7 | (injection eo7 with ea_ en_ ec_; (first | subst ea_ | (injection ea_ with ea_; subst ea_)); subst ec_; clear en_))
          have GB7 := Aside0.mk gb7
          have GG7 := Aside0.mk HG7
          clear gb7 gl7 HG7
          (first | simp only [add_plain] at hx245_0 | skip)
          (first | simp only [add_plain] at hx245_1 | skip)
          obtain ⟨ce7, hcl7, hM7, hcc7, hfr7⟩ := Kd.R_elem HO_3.out z42 (x4_1 : Int) p7 q7
          obtain rfl := k42_openM hM7
          have hx7_0 : wr.cell? ⟨go7, (x4_1 : Int).toNat * 2, none⟩ = some (.int .i64 ((rd_T42 x3_1 x4_1).f0)) := hcc7 0 _ rfl
          have hx7_1 : wr.cell? ⟨go7, (x4_1 : Int).toNat * 2 + 1, none⟩ = some (.int .i64 ((rd_T42 x3_1 x4_1).f1)) := hcc7 1 _ rfl
          have hf7_0 : wr.frozen? ⟨go7, (x4_1 : Int).toNat * 2, none⟩ = false := hfr7 0
          have hf7_1 : wr.frozen? ⟨go7, (x4_1 : Int).toNat * 2 + 1, none⟩ = false := hfr7 1
          clear hcl7 hcc7 hfr7 hM7
          replace p7 := eq_true p7
          replace q7 := eq_true q7
          have HX9 := Aside0.mk (show Kd.R k42 42 wr w.heap.size (fun _ => True) (.slice (some ⟨go7, 0, none⟩) x3_1.length co8) x3_1 from (by (with_reducible repeat (first | apply ra_ | apply rn_ | apply rd_)); exact HO_3.out))
          obtain ⟨ce9, hcl9, hM9, hcc9, hfr9⟩ := Kd.R_elem HX9.out z42 (x4_1 : Int) (of_decide_eq_true (by first | (with_reducible assumption) | assumption)) (by have h_ : (x4_1 : Int) < ((x3_1.length : Int) : Int) := of_decide_eq_true (by first | (with_reducible assumption) | assumption); first | exact h_ | (have e_ := (Kd.R_reads' HO_3.out).1; omega) | simpa using h_)
          obtain rfl := k42_openM hM9
          have HP9 := Kd.R_seg HX9.out (x4_1 : Int) (of_decide_eq_true (by first | (with_reducible assumption) | assumption)) (by have h_ : (x4_1 : Int) < ((x3_1.length : Int) : Int) := of_decide_eq_true (by first | (with_reducible assumption) | assumption); first | exact h_ | (have e_ := (Kd.R_reads' HO_3.out).1; omega) | simpa using h_) (seg := [.int .i64 ji6]) (j := 1) hcl9 hcc9 (show 2 ≤ 2 from by decide) (x' := (⟨(rd_T42 x3_1 x4_1).f0, ji6⟩ : S42)) (k42_mkM _ _ _ (⟨(rd_T42 x3_1 x4_1).f0, ji6⟩ : S42) ) (fun _ hk => hk)
          have hx9_1 := hcc9 1 _ rfl
          (try simp only [show (k42).sz = 2 from rfl, Nat.mul_one, Nat.add_zero] at hx9_1)
          have hf9_1 := hfr9 1
          (try simp only [show (k42).sz = 2 from rfl, Nat.mul_one, Nat.add_zero] at hf9_1)
          clear hcl9 hcc9 hfr9 hM9
          go_wp2_with (first | ((with_reducible refine gate_store (t := 3) (p := 23) rfl ?_); refine store_event (t := 3) (p := 23) (v := ?vo_w10) (w1 := (wr.setCell ⟨go7, (x4_1 : Int).toNat * 2 + 1, none⟩ (.int .i64 ji6))) ?hg ?ho ?hn ?hr ?_; (case ho => rfl); (case hg => rfl); (case hn => rfl); (case hr => first | (go_simp; done) | (go_simp; rfl)); intro w10 hw; have hg : wr.grownBy w10 (some go7) := (by rw [hw]; exact HP9.2); have hp_ : Kd.R k42 42 w10 w.heap.size (fun _ => True) (.slice (some ⟨go7, 0, none⟩) x3_1.length co8) y246 := (by rw [hw, Ny246.out]; exact HP9.1); clear HP9; have n0_ := Aside0.mk (hp_); have n1_ := Aside0.mk ((by rw [hw]; exact below_set (HB.out) GB7.out : Below w.heap.size w w10)); clear HO_3; clear HB; have HO_3 := n0_; have HB := n1_; clear n0_ n1_; clear hg hw hp_))
          go_roundg k1
          case measure => have := HK1.out; omega
          case rel => exact ⟨(y246), (wrap64 (x4_1 + 1)), (by first | rfl | (simp; done) | (simp [*]; done)), H', ⟨by have := HK1.out; omega⟩, ⟨by (with_reducible repeat (first | apply ra_ | apply rn_ | apply rd_)); exact HO_3.out⟩, ⟨by repeat (first | (with_reducible first | exact HB.out | apply ba_ | apply bn_ | apply bd_) | exact HB.out)⟩⟩
        · rw [if_neg c5] at H
          exact absurd H (by simp)
      · rw [if_neg c4] at H
        have c4b0 : decide (x4_1 < (x3_1.length : Int)) = false := decide_eq_false c4
        clear c4
        obtain rfl := Option.some.inj H
        obtain ⟨Ao11, co11, eo11⟩ := Kd.R_slice HO_3.out
        subst eo11
        go_wp2
        go_ret
        exact ⟨_, by first | rfl | (simp [errW_none, errW_some] <;> rfl) | (simp [*, errW_none, errW_some] <;> rfl), by (with_reducible repeat (first | apply ra_ | apply rn_ | apply rd_)); exact HO_3.out, by repeat (first | (with_reducible first | exact HB.out | apply ba_ | apply bn_ | apply bd_) | exact HB.out)⟩

/-! ### ref10_Hear: function 21 -/
def ref10_Hear.f (l0 : List (S42)) (a1 : Int) (a2 : Int) : Option ((List (S42))) := (bk_TwinPeers.f l0).bind fun t252 => (if 0 ≤ a1 then (if a1 < (t252.length : Int) then (if ((rd_T42 t252 a1).f0) ≤ a2 then (some (t252.set (a1 : Int).toNat (⟨a2, 0⟩ : S42))) else (some t252)) else (none)) else (none))
set_option maxHeartbeats 8000000 in
set_option maxRecDepth 100000 in
theorem ref10_Hear.calls (A0 : Option Addr) (c0 : Nat) (l0 : List (S42)) (a1 : Int) (a2 : Int) (r : List (S42)) (w : World) (hr0 : Kd.C k42 w A0 l0.length l0) (hc0 : l0.length ≤ c0) (h : ref10_Hear.f l0 a1 a2 = some r) :
    Calls Try.prog 21 #[.slice A0 l0.length c0, .int .i64 a1, .int .i64 a2] w fun e w' => ∃ v0_ : Value, e = .returned (v0_) ∧ Kd.R k42 42 w' w.heap.size (fun _ => True) v0_ r ∧ Below w.heap.size w w' := by
  have hu42 := Try.underlying42
  have HR0 := Aside0.mk hr0
  have HC0 := Aside0.mk hc0
  clear hr0 hc0
  have HB := Aside0.mk (Below.refl w.heap.size w)
  have H : ((bk_TwinPeers.f l0).bind fun t252 => (if 0 ≤ a1 then (if a1 < (t252.length : Int) then (if ((rd_T42 t252 a1).f0) ≤ a2 then (some (t252.set (a1 : Int).toNat (⟨a2, 0⟩ : S42))) else (some t252)) else (none)) else (none))) = some r := h
  clear h
  replace H := Option.bind_eq_some_iff.mp H
  obtain ⟨t252, A40, H⟩ := H
  replace H : (if 0 ≤ a1 then (if a1 < (t252.length : Int) then (if ((rd_T42 t252 a1).f0) ≤ a2 then (some (t252.set (a1 : Int).toNat (⟨a2, 0⟩ : S42))) else (some t252)) else (none)) else (none)) = some r := H
  have A4 := Aside0.mk A40
  clear A40
  by_cases c5 : 0 ≤ a1
  · rw [if_pos c5] at H
    have c5b0 : decide (0 ≤ a1) = true := decide_eq_true c5
    clear c5
    by_cases c6 : a1 < (t252.length : Int)
    · rw [if_pos c6] at H
      have c6b0 : decide (a1 < (t252.length : Int)) = true := decide_eq_true c6
      clear c6
      by_cases c7 : ((rd_T42 t252 a1).f0) ≤ a2
      · rw [if_pos c7] at H
        have c7b0 : decide (((rd_T42 t252 a1).f0) ≤ a2) = true := decide_eq_true c7
        clear c7
        obtain ⟨y256, hy256⟩ : ∃ y_ : List (S42), y_ = (t252.set (a1 : Int).toNat (⟨a2, 0⟩ : S42)) := ⟨_, rfl⟩
        replace H : (some y256) = some r := by first | (rw [hy256]; with_reducible exact H) | (have H2_ := (Option.bind_some _ _).symm.trans H; rw [hy256]; with_reducible exact H2_) | (have H2_ := (Option.bind_some _ _).symm.trans H; with_reducible exact H2_) | with_reducible exact H | (rw [hy256]; exact H) | exact H
        have Ny256 := Aside0.mk hy256
        clear hy256
        obtain rfl := Option.some.inj H
        go_enter Try.func21, Try.ntmps21
        go_wp2_with (first | ((with_reducible refine gate_callee (f := 12) rfl ?_); refine goesL_ (some 9) rfl rfl Try.func12 (by kernel_rfl) rfl #[.slice A0 l0.length c0] rfl (by (try simp only [List.map_toArray, List.map_cons, List.map_nil]); first | done | rfl | (simp only [List.length_drop, List.length_take]; rfl)) ?_; (with_reducible refine (bk_TwinPeers.calls _ _ l0 t252 _ ?side1 ?side2 A4.out).mono ?_); (case side1 => repeat (first | exact HR0.out | (with_reducible refine Kd.C_alloc ?_ _) | (with_reducible refine Kd.C_drewN ?_ _) | (with_reducible refine Kd.C_drew ?_))); (case side2 => exact HC0.out); rintro e w9 ⟨v253, rfl, ho0, hb⟩; refine ⟨_, rfl, ?_⟩; have n0_ := Aside0.mk (Kd.R_lower ho0 (below_size (by repeat (first | (with_reducible first | exact HB.out | apply ba_ | apply bn_ | apply bd_) | exact HB.out)))); have n1_ := Aside0.mk (below_step (by repeat (first | (with_reducible first | exact HB.out | apply ba_ | apply bn_ | apply bd_) | exact HB.out)) hb); clear HB; have HO254 := n0_; have HB := n1_; clear n0_ n1_; (try clear hb); (try clear hb2); (try clear hk); (try clear hi); (try clear ho0); obtain ⟨Ao10, co10, eo10⟩ := Kd.R_slice HO254.out; subst eo10; have p255 : 0 ≤ (a1 : Int) := of_decide_eq_true (by first | (with_reducible assumption) | assumption); have q255 : a1 < (t252.length : Int) := of_decide_eq_true (by first | (with_reducible assumption) | assumption); obtain ⟨ad255, e255, hx255_0, hx255_1⟩ := at_T42 (Kd.R_reads' HO254.out).2.2 a1 p255 q255; cases e255; replace p255 := eq_true p255; replace q255 := eq_true q255; have p8 : 0 ≤ (a1 : Int) := of_decide_eq_true (by first | (with_reducible assumption) | assumption); have q8 : (a1 : Int) < ((t252.length : Int) : Int) := of_decide_eq_true (by first | (with_reducible assumption) | assumption); obtain ⟨go8, co8, eo8, gb8, gl8, cl8, HG8⟩ := Kd.R_form HO254.out (by omega); (first | cases eo8 | (injection eo8 with ea_ en_ ec_; (first | subst ea_ | (injection ea_ with ea_; subst ea_)); subst ec_; clear en_)); have GB8 := Aside0.mk gb8; have GG8 := Aside0.mk HG8; clear gb8 gl8 HG8; (first | simp only [add_plain] at hx255_0 | skip); (first | simp only [add_plain] at hx255_1 | skip); obtain ⟨ce8, hcl8, hM8, hcc8, hfr8⟩ := Kd.R_elem HO254.out z42 (a1 : Int) p8 q8; obtain rfl := k42_openM hM8; have hx8_0 : w9.cell? ⟨go8, (a1 : Int).toNat * 2, none⟩ = some (.int .i64 ((rd_T42 t252 a1).f0)) := hcc8 0 _ rfl; have hx8_1 : w9.cell? ⟨go8, (a1 : Int).toNat * 2 + 1, none⟩ = some (.int .i64 ((rd_T42 t252 a1).f1)) := hcc8 1 _ rfl; have hf8_0 : w9.frozen? ⟨go8, (a1 : Int).toNat * 2, none⟩ = false := hfr8 0; have hf8_1 : w9.frozen? ⟨go8, (a1 : Int).toNat * 2 + 1, none⟩ = false := hfr8 1; clear hcl8 hcc8 hfr8 hM8; replace p8 := eq_true p8; replace q8 := eq_true q8; have HX11 := Aside0.mk (show Kd.R k42 42 w9 w.heap.size (fun _ => True) (.slice (some ⟨go8, 0, none⟩) t252.length co10) t252 from (by (with_reducible repeat (first | apply ra_ | apply rn_ | apply rd_)); exact HO254.out)); obtain ⟨ce11, hcl11, hM11, hcc11, hfr11⟩ := Kd.R_elem HX11.out z42 (a1 : Int) (of_decide_eq_true (by first | (with_reducible assumption) | assumption)) (by have h_ : (a1 : Int) < ((t252.length : Int) : Int) := of_decide_eq_true (by first | (with_reducible assumption) | assumption); first | exact h_ | (have e_ := (Kd.R_reads' HO254.out).1; omega) | simpa using h_); obtain rfl := k42_openM hM11; have HP11 := Kd.R_seg HX11.out (a1 : Int) (of_decide_eq_true (by first | (with_reducible assumption) | assumption)) (by have h_ : (a1 : Int) < ((t252.length : Int) : Int) := of_decide_eq_true (by first | (with_reducible assumption) | assumption); first | exact h_ | (have e_ := (Kd.R_reads' HO254.out).1; omega) | simpa using h_) (seg := [.int .i64 a2, .int .i64 0]) (j := 0) hcl11 hcc11 (show 2 ≤ 2 from by decide) (x' := (⟨a2, 0⟩ : S42)) (k42_mkM _ _ _ (⟨a2, 0⟩ : S42) ) (fun _ hk => hk); have hx11_0 := hcc11 0 _ rfl; (try simp only [show (k42).sz = 2 from rfl, Nat.mul_one, Nat.add_zero] at hx11_0); have hf11_0 := hfr11 0; (try simp only [show (k42).sz = 2 from rfl, Nat.mul_one, Nat.add_zero] at hf11_0); have hx11_1 := hcc11 1 _ rfl; (try simp only [show (k42).sz = 2 from rfl, Nat.mul_one, Nat.add_zero] at hx11_1); have hf11_1 := hfr11 1; (try simp only [show (k42).sz = 2 from rfl, Nat.mul_one, Nat.add_zero] at hf11_1); clear hcl11 hcc11 hfr11 hM11) | ((with_reducible refine gate_store (t := 42) (p := 21) rfl ?_); refine store_event (t := 42) (p := 21) (v := ?vo_w12) (w1 := ((w9.setCell ⟨go8, (a1 : Int).toNat * 2, none⟩ (.int .i64 a2)).setCell ⟨go8, (a1 : Int).toNat * 2 + 1, none⟩ (.int .i64 0))) ?hg ?ho ?hn ?hr ?_; (case ho => rfl); (case hg => rfl); (case hn => rfl); (case hr => first | (go_simp; done) | (go_simp; rfl)); intro w12 hw; have hg : w9.grownBy w12 (some go8) := (by rw [hw]; exact HP11.2); have hp_ : Kd.R k42 42 w12 w.heap.size (fun _ => True) (.slice (some ⟨go8, 0, none⟩) t252.length co10) y256 := (by rw [hw, Ny256.out]; exact HP11.1); clear HP11; have n0_ := Aside0.mk (hp_); have n1_ := Aside0.mk ((by rw [hw]; exact below_set (below_set (HB.out) GB8.out) GB8.out : Below w.heap.size w w12)); clear HO254; clear HB; have HO254 := n0_; have HB := n1_; clear n0_ n1_; clear hg hw hp_))
        go_ret
        exact ⟨_, by first | rfl | (simp [errW_none, errW_some] <;> rfl) | (simp [*, errW_none, errW_some] <;> rfl), by (with_reducible repeat (first | apply ra_ | apply rn_ | apply rd_)); exact HO254.out, by repeat (first | (with_reducible first | exact HB.out | apply ba_ | apply bn_ | apply bd_) | exact HB.out)⟩
      · rw [if_neg c7] at H
        have c7b0 : decide (((rd_T42 t252 a1).f0) ≤ a2) = false := decide_eq_false c7
        clear c7
        obtain rfl := Option.some.inj H
        go_enter Try.func21, Try.ntmps21
        go_wp2_with (first | ((with_reducible refine gate_callee (f := 12) rfl ?_); refine goesL_ (some 9) rfl rfl Try.func12 (by kernel_rfl) rfl #[.slice A0 l0.length c0] rfl (by (try simp only [List.map_toArray, List.map_cons, List.map_nil]); first | done | rfl | (simp only [List.length_drop, List.length_take]; rfl)) ?_; (with_reducible refine (bk_TwinPeers.calls _ _ l0 t252 _ ?side1 ?side2 A4.out).mono ?_); (case side1 => repeat (first | exact HR0.out | (with_reducible refine Kd.C_alloc ?_ _) | (with_reducible refine Kd.C_drewN ?_ _) | (with_reducible refine Kd.C_drew ?_))); (case side2 => exact HC0.out); rintro e w13 ⟨v253, rfl, ho0, hb⟩; refine ⟨_, rfl, ?_⟩; have n0_ := Aside0.mk (Kd.R_lower ho0 (below_size (by repeat (first | (with_reducible first | exact HB.out | apply ba_ | apply bn_ | apply bd_) | exact HB.out)))); have n1_ := Aside0.mk (below_step (by repeat (first | (with_reducible first | exact HB.out | apply ba_ | apply bn_ | apply bd_) | exact HB.out)) hb); clear HB; have HO254 := n0_; have HB := n1_; clear n0_ n1_; (try clear hb); (try clear hb2); (try clear hk); (try clear hi); (try clear ho0); obtain ⟨Ao14, co14, eo14⟩ := Kd.R_slice HO254.out; subst eo14; have p255 : 0 ≤ (a1 : Int) := of_decide_eq_true (by first | (with_reducible assumption) | assumption); have q255 : a1 < (t252.length : Int) := of_decide_eq_true (by first | (with_reducible assumption) | assumption); obtain ⟨ad255, e255, hx255_0, hx255_1⟩ := at_T42 (Kd.R_reads' HO254.out).2.2 a1 p255 q255; cases e255; replace p255 := eq_true p255; replace q255 := eq_true q255))
        go_ret
        exact ⟨_, by first | rfl | (simp [errW_none, errW_some] <;> rfl) | (simp [*, errW_none, errW_some] <;> rfl), by (with_reducible repeat (first | apply ra_ | apply rn_ | apply rd_)); exact HO254.out, by repeat (first | (with_reducible first | exact HB.out | apply ba_ | apply bn_ | apply bd_) | exact HB.out)⟩
    · rw [if_neg c6] at H
      exact absurd H (by simp)
  · rw [if_neg c5] at H
    exact absurd H (by simp)

/-! ### ref10_Live: function 23 -/
def ref10_Live.l0 : Nat → List (S42) → Int → List Int → Int → Option (List Int)
  | 0, _, _, _, _ => none
  | k + 1, x0, x1, x5, x6 => if x6 < (x0.length : Int) then (if x6 = x1 then (if x5.length < 17592186044416 then (ref10_Live.l0 k x0 x1 (x5 ++ [x6]) (wrap64 (x6 + 1))) else (none)) else (if 0 ≤ x6 then (if ((rd_T42 x0 x6).f0) > 0 then (if ((rd_T42 x0 x6).f1) < 4 then (if x5.length < 17592186044416 then (ref10_Live.l0 k x0 x1 (x5 ++ [x6]) (wrap64 (x6 + 1))) else (none)) else (ref10_Live.l0 k x0 x1 x5 (wrap64 (x6 + 1)))) else (ref10_Live.l0 k x0 x1 x5 (wrap64 (x6 + 1)))) else (none))) else (some x5)
def ref10_Live.f (k : Nat) (l0 : List (S42)) (a1 : Int) : Option (List Int) := ref10_Live.l0 k l0 a1 ([] : List Int) 0
theorem ref10_Live.mono_l : ∀ k, (∀ y0 y1 y2 y3, LeO (ref10_Live.l0 k y0 y1 y2 y3) (ref10_Live.l0 (k + 1) y0 y1 y2 y3))
  | 0 => fun _ _ _ _ r h => by simp [ref10_Live.l0] at h
  | k + 1 => by
    have ih0 := ref10_Live.mono_l k
    · intro y0 y1 y2 y3
      unfold ref10_Live.l0
      repeat' first
      | (with_reducible exact ih0 _ _ _ _)
      | (with_reducible exact LeO.refl _)
      | (with_reducible exact LeO.none _)
      | (with_reducible refine LeO.ite ?_ ?_)
      | (with_reducible refine LeO.bind ?_ (fun _ => ?_))
      | exact ih0 _ _ _ _
      | exact LeO.none _
      | refine LeO.ite ?_ ?_
      | refine LeO.bind ?_ (fun _ => ?_)
theorem ref10_Live.mono : ∀ a0 a1 k, LeO (ref10_Live.f k a0 a1) (ref10_Live.f (k + 1) a0 a1) := by
  intro a0 a1 k
  have ih0 := ref10_Live.mono_l k
  unfold ref10_Live.f
  repeat' first
      | (with_reducible exact ih0 _ _ _ _)
      | (with_reducible exact LeO.refl _)
      | (with_reducible exact LeO.none _)
      | (with_reducible refine LeO.ite ?_ ?_)
      | (with_reducible refine LeO.bind ?_ (fun _ => ?_))
      | exact ih0 _ _ _ _
      | exact LeO.none _
      | refine LeO.ite ?_ ?_
      | refine LeO.bind ?_ (fun _ => ?_)
set_option maxHeartbeats 8000000 in
set_option maxRecDepth 100000 in
theorem ref10_Live.calls (k : Nat) (A0 : Option Addr) (c0 : Nat) (l0 : List (S42)) (a1 : Int) (r : List Int) (w : World) (hr0 : Kd.C k42 w A0 l0.length l0) (hc0 : l0.length ≤ c0) (h : ref10_Live.f k l0 a1 = some r) :
    Calls Try.prog 23 #[.slice A0 l0.length c0, .int .i64 a1] w fun e w' => ∃ v0_ : Value, e = .returned (v0_) ∧ Kd.R (Kd.int .i64) 3 w' w.heap.size (fun _ => True) v0_ r ∧ Below w.heap.size w w' := by
  have HR0 := Aside0.mk hr0
  have HC0 := Aside0.mk hc0
  clear hr0 hc0
  have HB := Aside0.mk (Below.refl w.heap.size w)
  have H : (ref10_Live.l0 k l0 a1 ([] : List Int) 0) = some r := h
  clear h
  have H' := Aside0.mk H
  clear H
  go_enter Try.func23, Try.ntmps23
  go_wp2
  go_loopg [5, 6] k (fun kq v5 v6 w' => ∃ (x5_1 : List Int) (x6_1 : Int), v6 = .int .i64 x6_1 ∧ Aside0 (ref10_Live.l0 kq l0 a1 x5_1 x6_1 = some r) ∧ Aside0 (kq ≤ k) ∧ Aside0 (Kd.R (Kd.int .i64) 3 w' w.heap.size (fun _ => True) v5 x5_1) ∧ Aside0 (Below w.heap.size w w'))
  case atStart => exact ⟨(([] : List Int)), (0), (by first | rfl | (simp; done) | (simp [*]; done)), H', ⟨Nat.le_refl _⟩, ⟨by first | exact Kd.R_nil _ _ _ _ _ | exact Kd.N_nil _ _ _ _ _ | exact Kd.V_nil _ _ _ _ _ | exact Kd.Q_nil _ _ _ _ _ | exact Kd.S_nil _ _ _ _ _⟩, ⟨by repeat (first | (with_reducible first | exact HB.out | apply ba_ | apply bn_ | apply bd_) | exact HB.out)⟩⟩
  case round =>
    clear H'
    (try clear c2); (try clear p2)
    obtain ⟨x5_1, x6_1, rfl, HA, HK1, HO_5, HB⟩ := hrel
    cases gk with
    | zero => exact absurd HA.out (by simp [ref10_Live.l0])
    | succ k1 =>
      have H := HA.out
      clear HA
      simp only [ref10_Live.l0] at H
      by_cases c3 : x6_1 < (l0.length : Int)
      · rw [if_pos c3] at H
        have c3b0 : decide (x6_1 < (l0.length : Int)) = true := decide_eq_true c3
        clear c3
        by_cases c4 : x6_1 = a1
        · rw [if_pos c4] at H
          have c4b0 : (x6_1 == a1) = true := beq_iff_eq.mpr c4
          have c4b1 : (x6_1 != a1) = false := bne_eq_false_iff_eq.mpr c4
          clear c4
          by_cases c5 : x5_1.length < 17592186044416
          · rw [if_pos c5] at H
            have LMc5 := Aside0.mk c5
            clear c5
            obtain ⟨y265, hy265⟩ : ∃ y_ : List Int, y_ = (x5_1 ++ [x6_1]) := ⟨_, rfl⟩
            replace H : (ref10_Live.l0 k1 l0 a1 y265 (wrap64 (x6_1 + 1))) = some r := by first | (rw [hy265]; with_reducible exact H) | (have H2_ := (Option.bind_some _ _).symm.trans H; rw [hy265]; with_reducible exact H2_) | (have H2_ := (Option.bind_some _ _).symm.trans H; with_reducible exact H2_) | with_reducible exact H | (rw [hy265]; exact H) | exact H
            have Ny265 := Aside0.mk hy265
            clear hy265
            have H' := Aside0.mk H
            clear H
            go_wp2_with (first | ((with_reducible refine gate_builtin (b := .append) (xs := #[.tmp 32, .tmp 34]) rfl ?_); at_builtin; refine Kd.R_append (Kd.int .i64) (w0 := w) w.heap.size rfl (.tmp 32) (.tmp 34) 29 3 (.int .i64 0) 8 rfl Try.underlying29 info3 rfl (by decide) (by omega) u5 x5_1 x6_1 [.int .i64 x6_1] (fun _ => True) (fun _ => False) rfl rfl ?aP (fun _ hk => hk.elim) ?aF ?aO ?aB ?aS ?aL ?_; (case aP => exact rfl); (case aB => exact (by repeat (first | (with_reducible first | exact HB.out | apply ba_ | apply bn_ | apply bd_) | exact HB.out))); (case aF => exact (fun _ _ => trivial)); (case aO => exact (by (with_reducible repeat (first | apply ra_ | apply rn_ | apply rd_)); exact HO_5.out)); (case aS => exact (below_size (by repeat (first | (with_reducible first | exact HB.out | apply ba_ | apply bn_ | apply bd_) | exact HB.out)))); (case aL => have := LMc5.out; omega); intro v266 w6 ho hb hg hat; rw [← Ny265.out] at ho; have n0_ := Aside0.mk (hb); have n1_ := Aside0.mk (ho); clear HB; clear HO_5; have HB := n0_; have HO267 := n1_; clear n0_ n1_; clear ho hb hg hat))
            go_roundg k1
            case measure => have := HK1.out; omega
            case rel => exact ⟨(y265), (wrap64 (x6_1 + 1)), (by first | rfl | (simp; done) | (simp [*]; done)), H', ⟨by have := HK1.out; omega⟩, ⟨by (with_reducible repeat (first | apply ra_ | apply rn_ | apply rd_)); exact HO267.out⟩, ⟨by repeat (first | (with_reducible first | exact HB.out | apply ba_ | apply bn_ | apply bd_) | exact HB.out)⟩⟩
          · rw [if_neg c5] at H
            exact absurd H (by simp)
        · rw [if_neg c4] at H
          have c4b0 : (x6_1 == a1) = false := beq_eq_false_iff_ne.mpr c4
          have c4b1 : (x6_1 != a1) = true := bne_iff_ne.mpr c4
          by_cases c7 : 0 ≤ x6_1
          · rw [if_pos c7] at H
            have c7b0 : decide (0 ≤ x6_1) = true := decide_eq_true c7
            clear c7
            by_cases c8 : ((rd_T42 l0 x6_1).f0) > 0
            · rw [if_pos c8] at H
              have c8b0 : decide (0 < ((rd_T42 l0 x6_1).f0)) = true := decide_eq_true c8
              clear c8
              by_cases c9 : ((rd_T42 l0 x6_1).f1) < 4
              · rw [if_pos c9] at H
                have c9b0 : decide (((rd_T42 l0 x6_1).f1) < 4) = true := decide_eq_true c9
                clear c9
                by_cases c10 : x5_1.length < 17592186044416
                · rw [if_pos c10] at H
                  have LMc10 := Aside0.mk c10
                  clear c10
                  obtain ⟨y270, hy270⟩ : ∃ y_ : List Int, y_ = (x5_1 ++ [x6_1]) := ⟨_, rfl⟩
                  replace H : (ref10_Live.l0 k1 l0 a1 y270 (wrap64 (x6_1 + 1))) = some r := by first | (rw [hy270]; with_reducible exact H) | (have H2_ := (Option.bind_some _ _).symm.trans H; rw [hy270]; with_reducible exact H2_) | (have H2_ := (Option.bind_some _ _).symm.trans H; with_reducible exact H2_) | with_reducible exact H | (rw [hy270]; exact H) | exact H
                  have Ny270 := Aside0.mk hy270
                  clear hy270
                  have H' := Aside0.mk H
                  clear H
                  have p268 : 0 ≤ (x6_1 : Int) := of_decide_eq_true (by first | (with_reducible assumption) | assumption)
                  have q268 : x6_1 < (l0.length : Int) := of_decide_eq_true (by first | (with_reducible assumption) | assumption)
                  obtain ⟨ad268, e268, hx268_0, hx268_1⟩ := at_T42 HR0.out x6_1 p268 q268
                  cases e268
                  replace hx268_0 := (HB.out.cell (World.block_lt_of_cell? w _ hx268_0)).trans hx268_0
                  replace hx268_1 := (HB.out.cell (World.block_lt_of_cell? w _ hx268_1)).trans hx268_1
                  replace p268 := eq_true p268
                  replace q268 := eq_true q268
                  have p269 : 0 ≤ (x6_1 : Int) := of_decide_eq_true (by first | (with_reducible assumption) | assumption)
                  have q269 : x6_1 < (l0.length : Int) := of_decide_eq_true (by first | (with_reducible assumption) | assumption)
                  obtain ⟨ad269, e269, hx269_0, hx269_1⟩ := at_T42 HR0.out x6_1 p269 q269
                  obtain rfl : ad268 = ad269 := (by injection e269)
                  replace hx269_0 := (HB.out.cell (World.block_lt_of_cell? w _ hx269_0)).trans hx269_0
                  replace hx269_1 := (HB.out.cell (World.block_lt_of_cell? w _ hx269_1)).trans hx269_1
                  replace p269 := eq_true p269
                  replace q269 := eq_true q269
                  go_wp2_with (first | ((with_reducible refine gate_builtin (b := .append) (xs := #[.tmp 32, .tmp 34]) rfl ?_); at_builtin; refine Kd.R_append (Kd.int .i64) (w0 := w) w.heap.size rfl (.tmp 32) (.tmp 34) 29 3 (.int .i64 0) 8 rfl Try.underlying29 info3 rfl (by decide) (by omega) u5 x5_1 x6_1 [.int .i64 x6_1] (fun _ => True) (fun _ => False) rfl rfl ?aP (fun _ hk => hk.elim) ?aF ?aO ?aB ?aS ?aL ?_; (case aP => exact rfl); (case aB => exact (by repeat (first | (with_reducible first | exact HB.out | apply ba_ | apply bn_ | apply bd_) | exact HB.out))); (case aF => exact (fun _ _ => trivial)); (case aO => exact (by (with_reducible repeat (first | apply ra_ | apply rn_ | apply rd_)); exact HO_5.out)); (case aS => exact (below_size (by repeat (first | (with_reducible first | exact HB.out | apply ba_ | apply bn_ | apply bd_) | exact HB.out)))); (case aL => have := LMc10.out; omega); intro v271 w11 ho hb hg hat; rw [← Ny270.out] at ho; have n0_ := Aside0.mk (hb); have n1_ := Aside0.mk (ho); clear HB; clear HO_5; have HB := n0_; have HO272 := n1_; clear n0_ n1_; clear ho hb hg hat))
                  go_roundg k1
                  case measure => have := HK1.out; omega
                  case rel => exact ⟨(y270), (wrap64 (x6_1 + 1)), (by first | rfl | (simp; done) | (simp [*]; done)), H', ⟨by have := HK1.out; omega⟩, ⟨by (with_reducible repeat (first | apply ra_ | apply rn_ | apply rd_)); exact HO272.out⟩, ⟨by repeat (first | (with_reducible first | exact HB.out | apply ba_ | apply bn_ | apply bd_) | exact HB.out)⟩⟩
                · rw [if_neg c10] at H
                  exact absurd H (by simp)
              · rw [if_neg c9] at H
                have c9b0 : decide (((rd_T42 l0 x6_1).f1) < 4) = false := decide_eq_false c9
                clear c9
                have H' := Aside0.mk H
                clear H
                have p268 : 0 ≤ (x6_1 : Int) := of_decide_eq_true (by first | (with_reducible assumption) | assumption)
                have q268 : x6_1 < (l0.length : Int) := of_decide_eq_true (by first | (with_reducible assumption) | assumption)
                obtain ⟨ad268, e268, hx268_0, hx268_1⟩ := at_T42 HR0.out x6_1 p268 q268
                cases e268
                replace hx268_0 := (HB.out.cell (World.block_lt_of_cell? w _ hx268_0)).trans hx268_0
                replace hx268_1 := (HB.out.cell (World.block_lt_of_cell? w _ hx268_1)).trans hx268_1
                replace p268 := eq_true p268
                replace q268 := eq_true q268
                have p269 : 0 ≤ (x6_1 : Int) := of_decide_eq_true (by first | (with_reducible assumption) | assumption)
                have q269 : x6_1 < (l0.length : Int) := of_decide_eq_true (by first | (with_reducible assumption) | assumption)
                obtain ⟨ad269, e269, hx269_0, hx269_1⟩ := at_T42 HR0.out x6_1 p269 q269
                obtain rfl : ad268 = ad269 := (by injection e269)
                replace hx269_0 := (HB.out.cell (World.block_lt_of_cell? w _ hx269_0)).trans hx269_0
                replace hx269_1 := (HB.out.cell (World.block_lt_of_cell? w _ hx269_1)).trans hx269_1
                replace p269 := eq_true p269
                replace q269 := eq_true q269
                go_wp2
                go_roundg k1
                case measure => have := HK1.out; omega
                case rel => exact ⟨(x5_1), (wrap64 (x6_1 + 1)), (by first | rfl | (simp; done) | (simp [*]; done)), H', ⟨by have := HK1.out; omega⟩, ⟨by (with_reducible repeat (first | apply ra_ | apply rn_ | apply rd_)); exact HO_5.out⟩, ⟨by repeat (first | (with_reducible first | exact HB.out | apply ba_ | apply bn_ | apply bd_) | exact HB.out)⟩⟩
            · rw [if_neg c8] at H
              have c8b0 : decide (0 < ((rd_T42 l0 x6_1).f0)) = false := decide_eq_false c8
              clear c8
              have H' := Aside0.mk H
              clear H
              have p268 : 0 ≤ (x6_1 : Int) := of_decide_eq_true (by first | (with_reducible assumption) | assumption)
              have q268 : x6_1 < (l0.length : Int) := of_decide_eq_true (by first | (with_reducible assumption) | assumption)
              obtain ⟨ad268, e268, hx268_0, hx268_1⟩ := at_T42 HR0.out x6_1 p268 q268
              cases e268
              replace hx268_0 := (HB.out.cell (World.block_lt_of_cell? w _ hx268_0)).trans hx268_0
              replace hx268_1 := (HB.out.cell (World.block_lt_of_cell? w _ hx268_1)).trans hx268_1
              replace p268 := eq_true p268
              replace q268 := eq_true q268
              go_wp2
              go_roundg k1
              case measure => have := HK1.out; omega
              case rel => exact ⟨(x5_1), (wrap64 (x6_1 + 1)), (by first | rfl | (simp; done) | (simp [*]; done)), H', ⟨by have := HK1.out; omega⟩, ⟨by (with_reducible repeat (first | apply ra_ | apply rn_ | apply rd_)); exact HO_5.out⟩, ⟨by repeat (first | (with_reducible first | exact HB.out | apply ba_ | apply bn_ | apply bd_) | exact HB.out)⟩⟩
          · rw [if_neg c7] at H
            exact absurd H (by simp)
      · rw [if_neg c3] at H
        have c3b0 : decide (x6_1 < (l0.length : Int)) = false := decide_eq_false c3
        clear c3
        obtain rfl := Option.some.inj H
        go_wp2
        go_ret
        exact ⟨_, by first | rfl | (simp [errW_none, errW_some] <;> rfl) | (simp [*, errW_none, errW_some] <;> rfl), by (with_reducible repeat (first | apply ra_ | apply rn_ | apply rd_)); exact HO_5.out, by repeat (first | (with_reducible first | exact HB.out | apply ba_ | apply bn_ | apply bd_) | exact HB.out)⟩

end Go.Proofs.Ytfljapcnkhjmgaa.PV
