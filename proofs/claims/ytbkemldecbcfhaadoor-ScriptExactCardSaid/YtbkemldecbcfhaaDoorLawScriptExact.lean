/- The row of the law ScriptExact, out of its plain law and the evaluator. -/
import Derived.Test.YtbkemldecbcfhaaDoorRows
import Derived.Test.YtbkemldecbcfhaaDoorTie
import Derived.Test.YtbkemldecbcfhaaDoorCards
import Derived.Test.YtbkemldecbcfhaaDoorEN
import Derived.Test.YtbkemldecbcfhaaDoorR20
import Derived.WalkKit
import Derived.ProofKit
import Derived.OpenShut
import Derived.ShutString
import Derived.ChangeOld
import Derived.Below
import Derived.SizedLaws
import Derived.Handed
import Derived.ChangeVars
import Derived.JoinedOf
import Derived.LaidLaws
import Derived.LaidHandle
import Derived.Stop.Joined
import Derived.SevenTiedAt
import Derived.ChangeSame
namespace Go.Proofs.YtbkemldecbcfhaaDoor.scriptExact
open Go.ChangeShapes Go.WideShapes Go.ChangeAt Go.RowKit Go.Proofs.YtbkemldecbcfhaaDoorR Go.Proofs.YtbkemldecbcfhaaDoor
set_option linter.unusedVariables false
theorem own : ownKnob Tryd.prog.godebug = none := by kernel_rfl
theorem laidOut : laidOutB Tryd.prog = true := by kernel_rfl
theorem op3 : OpenC Tryd.prog 3 (fun n : Int => [V.int .i64 n]) (fun x : Int => (Lit.int .i64 x).wf = true) := openc_int Tryd.underlying3
theorem op23 : OpenC Tryd.prog 23 EC.eC (fun x : EC.Cf => ((Lit.int .i64 x.n).wf = true ∧ ((Lit.int .i64 x.t).wf = true ∧ ((Lit.int .i64 x.k).wf = true ∧ ((Lit.int .i64 x.d).wf = true ∧ ((Lit.int .i64 x.p).wf = true ∧ ((Lit.int .i64 x.w).wf = true ∧ ((Lit.int .i64 x.q).wf = true)))))))) := openc_struct (n := (1 + (1 + (1 + (1 + (1 + (1 + (1)))))))) (c := fun q : Int × Int × Int × Int × Int × Int × Int => (fun n : Int => [V.int .i64 n]) q.1 ++ ((fun n : Int => [V.int .i64 n]) q.2.1 ++ ((fun n : Int => [V.int .i64 n]) q.2.2.1 ++ ((fun n : Int => [V.int .i64 n]) q.2.2.2.1 ++ ((fun n : Int => [V.int .i64 n]) q.2.2.2.2.1 ++ ((fun n : Int => [V.int .i64 n]) q.2.2.2.2.2.1 ++ ((fun n : Int => [V.int .i64 n]) q.2.2.2.2.2.2))))))) (wf := fun q : Int × Int × Int × Int × Int × Int × Int => ((Lit.int .i64 q.1).wf = true) ∧ (((Lit.int .i64 q.2.1).wf = true) ∧ (((Lit.int .i64 q.2.2.1).wf = true) ∧ (((Lit.int .i64 q.2.2.2.1).wf = true) ∧ (((Lit.int .i64 q.2.2.2.2.1).wf = true) ∧ (((Lit.int .i64 q.2.2.2.2.2.1).wf = true) ∧ ((Lit.int .i64 q.2.2.2.2.2.2).wf = true))))))) (fun p => ⟨p.1, p.2.1, p.2.2.1, p.2.2.2.1, p.2.2.2.2.1, p.2.2.2.2.2.1, p.2.2.2.2.2.2⟩) (fun x : EC.Cf => (x.n, x.t, x.k, x.d, x.p, x.w, x.q)) (fun _ => rfl) (fun _ => rfl) Tryd.underlying23 (by kernel_rfl) (by
  refine openf_cons (k := 1) (n := (1 + (1 + (1 + (1 + (1 + (1))))))) (c := (fun n : Int => [V.int .i64 n])) (c' := fun q : Int × Int × Int × Int × Int × Int => (fun n : Int => [V.int .i64 n]) q.1 ++ ((fun n : Int => [V.int .i64 n]) q.2.1 ++ ((fun n : Int => [V.int .i64 n]) q.2.2.1 ++ ((fun n : Int => [V.int .i64 n]) q.2.2.2.1 ++ ((fun n : Int => [V.int .i64 n]) q.2.2.2.2.1 ++ ((fun n : Int => [V.int .i64 n]) q.2.2.2.2.2)))))) (wf := fun q : Int => (Lit.int .i64 q).wf = true) (wf' := fun q : Int × Int × Int × Int × Int × Int => ((Lit.int .i64 q.1).wf = true) ∧ (((Lit.int .i64 q.2.1).wf = true) ∧ (((Lit.int .i64 q.2.2.1).wf = true) ∧ (((Lit.int .i64 q.2.2.2.1).wf = true) ∧ (((Lit.int .i64 q.2.2.2.2.1).wf = true) ∧ ((Lit.int .i64 q.2.2.2.2.2).wf = true)))))) rfl (by kernel_rfl) (fun _ => rfl) op3 ?_
  refine openf_cons (k := 1) (n := (1 + (1 + (1 + (1 + (1)))))) (c := (fun n : Int => [V.int .i64 n])) (c' := fun q : Int × Int × Int × Int × Int => (fun n : Int => [V.int .i64 n]) q.1 ++ ((fun n : Int => [V.int .i64 n]) q.2.1 ++ ((fun n : Int => [V.int .i64 n]) q.2.2.1 ++ ((fun n : Int => [V.int .i64 n]) q.2.2.2.1 ++ ((fun n : Int => [V.int .i64 n]) q.2.2.2.2))))) (wf := fun q : Int => (Lit.int .i64 q).wf = true) (wf' := fun q : Int × Int × Int × Int × Int => ((Lit.int .i64 q.1).wf = true) ∧ (((Lit.int .i64 q.2.1).wf = true) ∧ (((Lit.int .i64 q.2.2.1).wf = true) ∧ (((Lit.int .i64 q.2.2.2.1).wf = true) ∧ ((Lit.int .i64 q.2.2.2.2).wf = true))))) rfl (by kernel_rfl) (fun _ => rfl) op3 ?_
  refine openf_cons (k := 1) (n := (1 + (1 + (1 + (1))))) (c := (fun n : Int => [V.int .i64 n])) (c' := fun q : Int × Int × Int × Int => (fun n : Int => [V.int .i64 n]) q.1 ++ ((fun n : Int => [V.int .i64 n]) q.2.1 ++ ((fun n : Int => [V.int .i64 n]) q.2.2.1 ++ ((fun n : Int => [V.int .i64 n]) q.2.2.2)))) (wf := fun q : Int => (Lit.int .i64 q).wf = true) (wf' := fun q : Int × Int × Int × Int => ((Lit.int .i64 q.1).wf = true) ∧ (((Lit.int .i64 q.2.1).wf = true) ∧ (((Lit.int .i64 q.2.2.1).wf = true) ∧ ((Lit.int .i64 q.2.2.2).wf = true)))) rfl (by kernel_rfl) (fun _ => rfl) op3 ?_
  refine openf_cons (k := 1) (n := (1 + (1 + (1)))) (c := (fun n : Int => [V.int .i64 n])) (c' := fun q : Int × Int × Int => (fun n : Int => [V.int .i64 n]) q.1 ++ ((fun n : Int => [V.int .i64 n]) q.2.1 ++ ((fun n : Int => [V.int .i64 n]) q.2.2))) (wf := fun q : Int => (Lit.int .i64 q).wf = true) (wf' := fun q : Int × Int × Int => ((Lit.int .i64 q.1).wf = true) ∧ (((Lit.int .i64 q.2.1).wf = true) ∧ ((Lit.int .i64 q.2.2).wf = true))) rfl (by kernel_rfl) (fun _ => rfl) op3 ?_
  refine openf_cons (k := 1) (n := (1 + (1))) (c := (fun n : Int => [V.int .i64 n])) (c' := fun q : Int × Int => (fun n : Int => [V.int .i64 n]) q.1 ++ ((fun n : Int => [V.int .i64 n]) q.2)) (wf := fun q : Int => (Lit.int .i64 q).wf = true) (wf' := fun q : Int × Int => ((Lit.int .i64 q.1).wf = true) ∧ ((Lit.int .i64 q.2).wf = true)) rfl (by kernel_rfl) (fun _ => rfl) op3 ?_
  refine openf_cons (k := 1) (n := (1)) (c := (fun n : Int => [V.int .i64 n])) (c' := fun q : Int => (fun n : Int => [V.int .i64 n]) q) (wf := fun q : Int => (Lit.int .i64 q).wf = true) (wf' := fun q : Int => (Lit.int .i64 q).wf = true) rfl (by kernel_rfl) (fun _ => rfl) op3 ?_
  exact openf_one rfl (by kernel_rfl) op3)
theorem op5 : OpenC Tryd.prog 5 (fun n : Int => [V.int .u8 n]) (fun x : Int => (Lit.int .u8 x).wf = true) := openc_int Tryd.underlying5
theorem op24 : OpenC Tryd.prog 24 (fun xs : List Int => [V.row (xs.map (fun n : Int => [V.int .u8 n]))]) (fun x : (List Int) => (x.length * 1 ≤ 140737488351232 ∧ ∀ y_ ∈ x, (Lit.int .u8 y_).wf = true)) := openc_slice (sz := 1) (B := 1) Tryd.underlying24 (fun _ => rfl) (by decide) (by kernel_rfl) (by kernel_rfl) op5
theorem op27 : OpenC Tryd.prog 27 EC.eP (fun x : EC.Sp => ((Lit.int .i64 x.k).wf = true ∧ ((Lit.int .i64 x.n).wf = true ∧ ((Lit.int .i64 x.t).wf = true ∧ ((Lit.int .i64 x.v).wf = true ∧ ((Lit.int .i64 x.m).wf = true)))))) := openc_struct (n := (1 + (1 + (1 + (1 + (1)))))) (c := fun q : Int × Int × Int × Int × Int => (fun n : Int => [V.int .i64 n]) q.1 ++ ((fun n : Int => [V.int .i64 n]) q.2.1 ++ ((fun n : Int => [V.int .i64 n]) q.2.2.1 ++ ((fun n : Int => [V.int .i64 n]) q.2.2.2.1 ++ ((fun n : Int => [V.int .i64 n]) q.2.2.2.2))))) (wf := fun q : Int × Int × Int × Int × Int => ((Lit.int .i64 q.1).wf = true) ∧ (((Lit.int .i64 q.2.1).wf = true) ∧ (((Lit.int .i64 q.2.2.1).wf = true) ∧ (((Lit.int .i64 q.2.2.2.1).wf = true) ∧ ((Lit.int .i64 q.2.2.2.2).wf = true))))) (fun p => ⟨p.1, p.2.1, p.2.2.1, p.2.2.2.1, p.2.2.2.2⟩) (fun x : EC.Sp => (x.k, x.n, x.t, x.v, x.m)) (fun _ => rfl) (fun _ => rfl) Tryd.underlying27 (by kernel_rfl) (by
  refine openf_cons (k := 1) (n := (1 + (1 + (1 + (1))))) (c := (fun n : Int => [V.int .i64 n])) (c' := fun q : Int × Int × Int × Int => (fun n : Int => [V.int .i64 n]) q.1 ++ ((fun n : Int => [V.int .i64 n]) q.2.1 ++ ((fun n : Int => [V.int .i64 n]) q.2.2.1 ++ ((fun n : Int => [V.int .i64 n]) q.2.2.2)))) (wf := fun q : Int => (Lit.int .i64 q).wf = true) (wf' := fun q : Int × Int × Int × Int => ((Lit.int .i64 q.1).wf = true) ∧ (((Lit.int .i64 q.2.1).wf = true) ∧ (((Lit.int .i64 q.2.2.1).wf = true) ∧ ((Lit.int .i64 q.2.2.2).wf = true)))) rfl (by kernel_rfl) (fun _ => rfl) op3 ?_
  refine openf_cons (k := 1) (n := (1 + (1 + (1)))) (c := (fun n : Int => [V.int .i64 n])) (c' := fun q : Int × Int × Int => (fun n : Int => [V.int .i64 n]) q.1 ++ ((fun n : Int => [V.int .i64 n]) q.2.1 ++ ((fun n : Int => [V.int .i64 n]) q.2.2))) (wf := fun q : Int => (Lit.int .i64 q).wf = true) (wf' := fun q : Int × Int × Int => ((Lit.int .i64 q.1).wf = true) ∧ (((Lit.int .i64 q.2.1).wf = true) ∧ ((Lit.int .i64 q.2.2).wf = true))) rfl (by kernel_rfl) (fun _ => rfl) op3 ?_
  refine openf_cons (k := 1) (n := (1 + (1))) (c := (fun n : Int => [V.int .i64 n])) (c' := fun q : Int × Int => (fun n : Int => [V.int .i64 n]) q.1 ++ ((fun n : Int => [V.int .i64 n]) q.2)) (wf := fun q : Int => (Lit.int .i64 q).wf = true) (wf' := fun q : Int × Int => ((Lit.int .i64 q.1).wf = true) ∧ ((Lit.int .i64 q.2).wf = true)) rfl (by kernel_rfl) (fun _ => rfl) op3 ?_
  refine openf_cons (k := 1) (n := (1)) (c := (fun n : Int => [V.int .i64 n])) (c' := fun q : Int => (fun n : Int => [V.int .i64 n]) q) (wf := fun q : Int => (Lit.int .i64 q).wf = true) (wf' := fun q : Int => (Lit.int .i64 q).wf = true) rfl (by kernel_rfl) (fun _ => rfl) op3 ?_
  exact openf_one rfl (by kernel_rfl) op3)
theorem op25 : OpenC Tryd.prog 25 (fun xs : List EC.Sp => [V.row (xs.map EC.eP)]) (fun x : (List EC.Sp) => (x.length * 40 ≤ 140737488351232 ∧ ∀ y_ ∈ x, ((Lit.int .i64 y_.k).wf = true ∧ ((Lit.int .i64 y_.n).wf = true ∧ ((Lit.int .i64 y_.t).wf = true ∧ ((Lit.int .i64 y_.v).wf = true ∧ ((Lit.int .i64 y_.m).wf = true))))))) := openc_slice (sz := 5) (B := 40) Tryd.underlying25 (fun _ => rfl) (by decide) (by kernel_rfl) (by kernel_rfl) op27
theorem et : Tryd.prog.globalNamed "errors.errorType" = some 0 := by kernel_rfl
theorem rt : (Tryd.prog.cutTypes.find? (·.1 == "internal/reflectlite.rtype")).map (·.2) = some 85 := by kernel_rfl
theorem oneRow : ((List.range Tryd.prog.types.size).filter fun t => Tryd.prog.rowNamed t [101, 114, 114, 111, 114]) = [53] := by kernel_rfl
/-- What the condition gives: the variable's one cell. -/
theorem handle_of_laid {W : World} (h : laidMetH Tryd.prog Rows.scriptExactRow.laid W) : GLW W := by
  have h' : laidMet Tryd.prog [] W ∧ handlesMet Tryd.prog Rows.scriptExactRow.laid W := h
  obtain ⟨name, u, ty, e1, e2, e3, e4, e5⟩ := h'.2 _ (List.mem_singleton.2 rfl)
  have en : name = [101, 114, 114, 111, 114] := (Option.some.inj e1).symm
  subst en
  obtain rfl := Option.some.inj (rt.symm.trans e2)
  have hm : ty ∈ (List.range Tryd.prog.types.size).filter fun t => Tryd.prog.rowNamed t [101, 114, 114, 111, 114] := List.mem_filter.2 ⟨List.mem_range.2 e3, e4⟩
  rw [oneRow] at hm
  obtain rfl := List.mem_singleton.1 hm
  have hh : typeHandle Tryd.prog 53 = .pointer (some ⟨1, 53, none⟩) := by kernel_rfl
  rw [hh] at e5
  have e6 : W.var? Tryd.prog "errors.errorType" = some #[.iface 85 (.agg #[.pointer (some ⟨1, 53, none⟩)])] := e5
  simp only [World.var?, et, Option.bind_some] at e6
  intro p hp
  obtain rfl := List.mem_singleton.1 hp
  split at e6
  · rename_i cs t fr heq
    cases e6
    exact ⟨t, fr, heq⟩
  · cases e6
/-- A world that meets it. -/
noncomputable def laidWorld (os : Os) : World :=
  let w0 := World.holding Tryd.prog os ⟨#[], #[], []⟩
  { w0 with heap := w0.heap.modify 0 fun
      | .cells _ t frozen => .cells #[.iface 85 (.agg #[.pointer (some ⟨1, 53, none⟩)])] t frozen
      | o => o }
theorem laidWorld_met (os : Os) (args : Array Value) : laidMetH Tryd.prog Rows.scriptExactRow.laid ((laidWorld os).forCall (fun _ _ => 0) ⟨#[], args, []⟩).memory :=
  laidMetH_of_parts (laidMet_nil _ _) (by kernel_rfl)
set_option maxRecDepth 100000 in
theorem lifted (os : Os) (started : os.Started) (H : Type) (enc : TypeId × Value → H) :
    ReturnsInHanded {} Tryd.checked os 3 .any (fun w args => (Rows.scriptExactSpec.pre enc Tryd.prog Tryd.f3 Rows.scriptExactRow.domain false w args ∧ laidMetH Tryd.prog Rows.scriptExactRow.laid w) ∧ sizedMet enc Tryd.prog Tryd.f3 (OpenSpec.ofChange Rows.scriptExactSpec) false w args) (Rows.scriptExactSpec.post enc Tryd.prog Tryd.f3 false true false false) := by
  refine returnsInHanded_of_change_and (C := Tryd.checked) (X := fun w _ => laidMetH Tryd.prog Rows.scriptExactRow.laid w) (fun _ _ _ hh h => h.of_heap hh) own started (by kernel_rfl) Tryd.func3
    (ChangeSpec.witness_at (enc := enc) (C := Tryd.checked) (os := os) (X := fun w _ => laidMetH Tryd.prog Rows.scriptExactRow.laid w) false (laidWorld os) #[.agg #[.int .i64 0, .int .i64 0, .int .i64 0, .int .i64 0, .int .i64 0, .int .i64 0, .int .i64 0], .slice none 0 0, .slice none 0 0, .agg #[.int .i64 0, .int .i64 0, .int .i64 0, .int .i64 0, .int .i64 0]] 8 rfl (by kernel_rfl) (by kernel_rfl) (by kernel_rfl) (by kernel_rfl) (by kernel_rfl) (laidWorld_met os _)) ?_
  intro W base args ds gs before hval0 hW hcnd hsz0 hL _
  have hG := handle_of_laid hL
  have hsz : (DataW.weightsEach Tryd.prog (Tryd.f3.params.toList ++ Rows.scriptExactSpec.plain.varTypes Tryd.prog) (ds ++ gs)).all (· ≤ reachBytes) = true := hsz0
  have hval : ∀ (j : Nat) t v, Tryd.f3.params[j]? = some t → args[j]? = some v → Value.okWide Tryd.prog W .any base t v := hval0
  have hW' := hW
  obtain ⟨p, q, hA0, hV, rfl, hfz, hnd⟩ := hW
  have hA : DataW.TrodAll enc Tryd.prog W 0 (fun _ => true) true Tryd.f3.params.toList args.toList ds p := hA0
  rw [Tryd.params3] at hA hval hsz
  obtain ⟨v0, vs0, d0, ds0, p0, q0, hargs, rfl, rfl, h0, r0⟩ := trodAll_cons hA
  obtain ⟨v1, vs1, d1, ds1, p1, q1, rfl, rfl, rfl, h1, r1⟩ := trodAll_cons r0
  obtain ⟨v2, vs2, d2, ds2, p2, q2, rfl, rfl, rfl, h2, r2⟩ := trodAll_cons r1
  obtain ⟨v3, vs3, d3, ds3, p3, q3, rfl, rfl, rfl, h3, r3⟩ := trodAll_cons r2
  obtain ⟨rfl, rfl, rfl⟩ := trodAll_nil r3
  obtain rfl : args = #[v0, v1, v2, v3] := by cases args; simp_all
  obtain ⟨rfl, rfl⟩ := trodVars_none hV
  have k0 := h0
  have lt0 : ∀ x ∈ p0, x.block < W.heap.size := by obtain ⟨m, hm⟩ := k0; exact DataW.trod_lt m _ _ _ hm
  obtain ⟨cs0, rfl⟩ := agg_of Tryd.underlying23 (hval 0 23 v0 rfl rfl)
  obtain ⟨a0, K0, w0⟩ := openc_arg op23 h0 hsz (j := 0) rfl rfl
  have k1 := h1
  have lt1 : ∀ x ∈ p1, x.block < W.heap.size := by obtain ⟨m, hm⟩ := k1; exact DataW.trod_lt m _ _ _ hm
  obtain ⟨A1, len1, cap1, rfl⟩ := okWide_slice Tryd.underlying24 (hval 1 24 v1 rfl rfl)
  obtain ⟨a1, K1, w1⟩ := openc_arg op24 h1 hsz (j := 1) rfl rfl
  have k2 := h2
  have lt2 : ∀ x ∈ p2, x.block < W.heap.size := by obtain ⟨m, hm⟩ := k2; exact DataW.trod_lt m _ _ _ hm
  obtain ⟨A2, len2, cap2, rfl⟩ := okWide_slice Tryd.underlying25 (hval 2 25 v2 rfl rfl)
  obtain ⟨a2, K2, w2⟩ := openc_arg op25 h2 hsz (j := 2) rfl rfl
  have k3 := h3
  have lt3 : ∀ x ∈ p3, x.block < W.heap.size := by obtain ⟨m, hm⟩ := k3; exact DataW.trod_lt m _ _ _ hm
  obtain ⟨cs3, rfl⟩ := agg_of Tryd.underlying27 (hval 3 27 v3 rfl rfl)
  obtain ⟨a3, K3, w3⟩ := openc_arg op27 h3 hsz (j := 3) rfl rfl
  clear hA0 hval0 hsz0 hsz
  have hk := EC.e3r a0 a1 a2 a3 w0 w1 w2 w3
  refine (law_true (vs := #[_, _, _, _]) (IS.TT_ok 5000 13 3) hk hG (rss_cons (rs_agg K0) (rss_cons (rs_slice K1) (rss_cons (rs_slice K2) (rss_cons (rs_agg K3) rss_nil))))).mono fun e W' ⟨he, bel⟩ => ?_
  subst he
  exact ⟨_, rfl, _, _, _, [], _, [], hW', trodAll_mk1 (shut_bool Tryd.underlying4 _), (trodAll_cons_mk (Below.trod laidOut (by kernel_rfl) (of_decide_eq_true (by kernel_rfl)) k0 bel lt0) (trodAll_cons_mk (Below.trod laidOut (by kernel_rfl) (of_decide_eq_true (by kernel_rfl)) k1 bel lt1) (trodAll_cons_mk (Below.trod laidOut (by kernel_rfl) (of_decide_eq_true (by kernel_rfl)) k2 bel lt2) (trodAll_cons_mk (Below.trod laidOut (by kernel_rfl) (of_decide_eq_true (by kernel_rfl)) k3 bel lt3) trodAll_mk0)))), rfl, bel.frame _, fun h => by cases h⟩
theorem over : Rows.scriptExactRow.holds Tryd.pinned (OpenSpec.ofChange Rows.scriptExactSpec) :=
  OpenClaim.holds_of_wide 3 Tryd.f3 rfl rfl rfl rfl rfl rfl rfl ⟨rfl, rfl, rfl, rfl, rfl⟩ rfl rfl rfl rfl rfl (by kernel_rfl) Tryd.func3 (by kernel_rfl)
    (of_decide_eq_true (by kernel_rfl)) (by unfold Func.isWrapper; first | (rw [if_pos (by decide +kernel)]; kernel_rfl) | (rw [if_neg (by decide +kernel)]; exact ⟨rfl, rfl⟩))
    (fun os started H enc _ => lifted os started H enc)
theorem proved : Rows.ScriptExactSaid := over
theorem noStand : ∀ t ∈ ([23, 24, 25, 27] : List TypeId), Tryd.prog.wantsStandIn t = false := List.forall_mem_cons.2 ⟨by kernel_rfl, List.forall_mem_cons.2 ⟨by kernel_rfl, List.forall_mem_cons.2 ⟨by kernel_rfl, List.forall_mem_cons.2 ⟨by kernel_rfl, List.forall_mem_nil _⟩⟩⟩⟩
theorem card : Rows.ScriptExactCardSaid :=
  Claim7.holds_tied_plain_at .later [] [.handle] true (true, "533175e653b1b06479a6ffbc7fc2de12272785e324958cacbb26528dda4edc35") true
    over (fun _ h => by cases h) (by kernel_rfl) (fun _ h => by cases h) scriptExact_row_tie rfl ⟨rfl, rfl⟩ (by kernel_rfl) rfl
    (fun f fn hf hfn => by
      obtain rfl : f = 3 := Option.some.inj ((show Tryd.prog.funcNamed Rows.scriptExactRow.func = some 3 by kernel_rfl).symm.trans hf) |>.symm
      obtain rfl : fn = Tryd.f3 := (Option.some.inj (Tryd.func3.symm.trans hfn)).symm
      exact ⟨by kernel_rfl, fun j t ht => noStand t (by
        rw [Tryd.params3] at ht
        have hm := Array.mem_of_getElem? ht
        simpa using hm)⟩)
    (by kernel_rfl)
#print axioms card
end Go.Proofs.YtbkemldecbcfhaaDoor.scriptExact
namespace Go.Proofs.YtbkemldecbcfhaaDoor
/-- The row, under a short name, for the claim. -/
theorem scriptExact_holds : Rows.ScriptExactCardSaid := scriptExact.card
end Go.Proofs.YtbkemldecbcfhaaDoor
