/- The row of the law KidsDrop, out of its plain law and the evaluator. -/
import Derived.Test.YtbnommmnflmaaaaRows
import Derived.Test.YtbnommmnflmaaaaKJ
import Derived.Test.YtbnommmnflmaaaaR20
import Derived.WalkKit
import Derived.ProofKit
import Derived.OpenShut
import Derived.ShutString
import Derived.ChangeOld
import Derived.Below
import Derived.SizedLaws
namespace Go.Proofs.Ytbnommmnflmaaaa.kidsDrop
open Go.ChangeShapes Go.WideShapes Go.ChangeAt Go.RowKit Go.Proofs.YtbnommmnflmaaaaR Go.Proofs.Ytbnommmnflmaaaa
set_option linter.unusedVariables false
theorem own : ownKnob Try.prog.godebug = none := by kernel_rfl
theorem laidOut : laidOutB Try.prog = true := by kernel_rfl
theorem op3 : OpenC Try.prog 3 (fun n : Int => [V.int .i64 n]) (fun x : Int => (Lit.int .i64 x).wf = true) := openc_int Try.underlying3
theorem op35 : OpenC Try.prog 35 KA.eK (fun x : KA.Kd => ((Lit.int .i64 x.n).wf = true ∧ ((Lit.int .i64 x.i).wf = true ∧ ((Lit.int .i64 x.a).wf = true)))) := openc_struct (n := (1 + (1 + (1)))) (c := fun q : Int × Int × Int => (fun n : Int => [V.int .i64 n]) q.1 ++ ((fun n : Int => [V.int .i64 n]) q.2.1 ++ ((fun n : Int => [V.int .i64 n]) q.2.2))) (wf := fun q : Int × Int × Int => ((Lit.int .i64 q.1).wf = true) ∧ (((Lit.int .i64 q.2.1).wf = true) ∧ ((Lit.int .i64 q.2.2).wf = true))) (fun p => ⟨p.1, p.2.1, p.2.2⟩) (fun x : KA.Kd => (x.n, x.i, x.a)) (fun _ => rfl) (fun _ => rfl) Try.underlying35 (by kernel_rfl) (by
  refine openf_cons (k := 1) (n := (1 + (1))) (c := (fun n : Int => [V.int .i64 n])) (c' := fun q : Int × Int => (fun n : Int => [V.int .i64 n]) q.1 ++ ((fun n : Int => [V.int .i64 n]) q.2)) (wf := fun q : Int => (Lit.int .i64 q).wf = true) (wf' := fun q : Int × Int => ((Lit.int .i64 q.1).wf = true) ∧ ((Lit.int .i64 q.2).wf = true)) rfl (by kernel_rfl) (fun _ => rfl) op3 ?_
  refine openf_cons (k := 1) (n := (1)) (c := (fun n : Int => [V.int .i64 n])) (c' := fun q : Int => (fun n : Int => [V.int .i64 n]) q) (wf := fun q : Int => (Lit.int .i64 q).wf = true) (wf' := fun q : Int => (Lit.int .i64 q).wf = true) rfl (by kernel_rfl) (fun _ => rfl) op3 ?_
  exact openf_one rfl (by kernel_rfl) op3)
theorem op25 : OpenC Try.prog 25 (fun xs : List KA.Kd => [V.row (xs.map KA.eK)]) (fun x : (List KA.Kd) => (x.length * 24 ≤ 140737488351232 ∧ ∀ y_ ∈ x, ((Lit.int .i64 y_.n).wf = true ∧ ((Lit.int .i64 y_.i).wf = true ∧ ((Lit.int .i64 y_.a).wf = true))))) := openc_slice (sz := 3) (B := 24) Try.underlying25 (fun _ => rfl) (by decide) (by kernel_rfl) (by kernel_rfl) op35
set_option maxRecDepth 100000 in
theorem lifted (os : Os) (started : os.Started) (H : Type) (enc : TypeId × Value → H) :
    ReturnsInHanded {} Try.checked os 4 .any (Rows.kidsDropSpec.pre6 enc Try.prog Try.f4 Rows.kidsDropRow.domain false) (Rows.kidsDropSpec.post enc Try.prog Try.f4 false true false false) := by
  refine returnsInHanded_of_change_sized (C := Try.checked) own started (by kernel_rfl) Try.func4
    (ChangeSpec.witness6 (enc := enc) (C := Try.checked) false ⟨#[], #[.int .i64 0, .int .i64 0, .int .i64 0, .slice none 0 0, .int .i64 0], []⟩ 8 (by kernel_rfl) (by kernel_rfl) (by kernel_rfl) (by kernel_rfl)) ?_
  intro W base args ds gs before hval0 hW hcnd hsz0 _
  have hsz : (DataW.weightsEach Try.prog (Try.f4.params.toList ++ Rows.kidsDropSpec.plain.varTypes Try.prog) (ds ++ gs)).all (· ≤ reachBytes) = true := hsz0
  have hval : ∀ (j : Nat) t v, Try.f4.params[j]? = some t → args[j]? = some v → Value.okWide Try.prog W .any base t v := hval0
  have hW' := hW
  obtain ⟨p, q, hA0, hV, rfl, hfz, hnd⟩ := hW
  have hA : DataW.TrodAll enc Try.prog W 0 (fun _ => true) true Try.f4.params.toList args.toList ds p := hA0
  rw [Try.params4] at hA hval hsz
  obtain ⟨v0, vs0, d0, ds0, p0, q0, hargs, rfl, rfl, h0, r0⟩ := trodAll_cons hA
  obtain ⟨v1, vs1, d1, ds1, p1, q1, rfl, rfl, rfl, h1, r1⟩ := trodAll_cons r0
  obtain ⟨v2, vs2, d2, ds2, p2, q2, rfl, rfl, rfl, h2, r2⟩ := trodAll_cons r1
  obtain ⟨v3, vs3, d3, ds3, p3, q3, rfl, rfl, rfl, h3, r3⟩ := trodAll_cons r2
  obtain ⟨v4, vs4, d4, ds4, p4, q4, rfl, rfl, rfl, h4, r4⟩ := trodAll_cons r3
  obtain ⟨rfl, rfl, rfl⟩ := trodAll_nil r4
  obtain rfl : args = #[v0, v1, v2, v3, v4] := by cases args; simp_all
  obtain ⟨rfl, rfl⟩ := trodVars_none hV
  obtain ⟨a0, rfl, rfl, rfl, w0⟩ := open_int Try.underlying3 (hval 0 3 v0 rfl rfl) h0
  obtain ⟨a1, rfl, rfl, rfl, w1⟩ := open_int Try.underlying3 (hval 1 3 v1 rfl rfl) h1
  obtain ⟨a2, rfl, rfl, rfl, w2⟩ := open_int Try.underlying3 (hval 2 3 v2 rfl rfl) h2
  have k3 := h3
  have lt3 : ∀ x ∈ p3, x.block < W.heap.size := by obtain ⟨m, hm⟩ := k3; exact DataW.trod_lt m _ _ _ hm
  obtain ⟨A3, len3, cap3, rfl⟩ := okWide_slice Try.underlying25 (hval 3 25 v3 rfl rfl)
  obtain ⟨a3, K3, w3⟩ := openc_arg op25 h3 hsz (j := 3) rfl rfl
  obtain ⟨a4, rfl, rfl, rfl, w4⟩ := open_int Try.underlying3 (hval 4 3 v4 rfl rfl) h4
  clear hA0 hval0 hsz0 hsz
  have hk := KA.e4 a0 a1 a2 a3 a4
  refine (law_true (vs := #[_, _, _, _, _]) (IK.TT_ok 1000 13 4) hk (rss_cons (rs_one .int) (rss_cons (rs_one .int) (rss_cons (rs_one .int) (rss_cons (rs_slice K3) (rss_cons (rs_one .int) rss_nil)))))).mono fun e W' ⟨he, bel⟩ => ?_
  subst he
  exact ⟨_, rfl, _, _, _, [], _, [], hW', trodAll_mk1 (shut_bool Try.underlying4 _), (trodAll_cons_mk (shut_int Try.underlying3 w0) (trodAll_cons_mk (shut_int Try.underlying3 w1) (trodAll_cons_mk (shut_int Try.underlying3 w2) (trodAll_cons_mk (Below.trod laidOut (by kernel_rfl) (of_decide_eq_true (by kernel_rfl)) k3 bel lt3) (trodAll_cons_mk (shut_int Try.underlying3 w4) trodAll_mk0))))), rfl, bel.frame _, fun h => by cases h⟩
theorem over : Rows.kidsDropRow.holds Try.pinned (OpenSpec.ofChange Rows.kidsDropSpec) :=
  OpenClaim.holds_of_wide 4 Try.f4 rfl rfl rfl rfl rfl rfl rfl ⟨rfl, rfl, rfl, rfl, rfl⟩ rfl rfl rfl rfl rfl (by kernel_rfl) Try.func4 (by kernel_rfl)
    (of_decide_eq_true (by kernel_rfl)) (by unfold Func.isWrapper; first | (rw [if_pos (by decide +kernel)]; kernel_rfl) | (rw [if_neg (by decide +kernel)]; exact ⟨rfl, rfl⟩))
    (fun os started H enc _ => lifted os started H enc)
theorem proved : Rows.KidsDropSaid := over
#print axioms proved
end Go.Proofs.Ytbnommmnflmaaaa.kidsDrop
namespace Go.Proofs.Ytbnommmnflmaaaa
/-- The row, under a short name, for the claim. -/
theorem kidsDrop_holds : Rows.KidsDropSaid := kidsDrop.proved
end Go.Proofs.Ytbnommmnflmaaaa
