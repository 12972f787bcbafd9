/- The row of the law FlowCatches, out of its plain law and the evaluator. -/
import Derived.Test.YtkfcbpbnoeaheaaDoorZE2
import Derived.Test.YtkfcbpbnoeaheaaDoorRows
import Derived.Test.YtkfcbpbnoeaheaaDoorTie
import Derived.Test.YtkfcbpbnoeaheaaDoorCards
import Derived.WalkKit
import Derived.ProofKit
import Derived.OpenShut
import Derived.ShutString
import Derived.ChangeOld
import Derived.Below
import Derived.SizedLaws
import Derived.Handed
import Derived.ChangeVars
import Derived.JoinedOf
import Derived.LaidLaws
import Derived.LaidHandle
import Derived.Stop.Joined
import Derived.SevenTiedAt
import Derived.ChangeSame
namespace Go.Proofs.YtkfcbpbnoeaheaaDoor.flowCatches
open Go.ChangeShapes Go.WideShapes Go.ChangeAt Go.RowKit Go.Proofs.YtkfcbpbnoeaheaaDoorR Go.Proofs.YtkfcbpbnoeaheaaDoor
set_option linter.unusedVariables false
theorem own : ownKnob Tryd.prog.godebug = none := by kernel_rfl
theorem laidOut : laidOutB Tryd.prog = true := by kernel_rfl
theorem op4 : OpenC Tryd.prog 4 (fun b : Bool => [V.bool b]) (fun x : Bool => True) := openc_bool Tryd.underlying4
theorem op51 : OpenC Tryd.prog 51 (fun xs : List Bool => [V.row (xs.map (fun b : Bool => [V.bool b]))]) (fun x : (List Bool) => (x.length * 1 ≤ 140737488351232 ∧ ∀ y_ ∈ x, True)) := openc_slice (sz := 1) (B := 1) Tryd.underlying51 (fun _ => rfl) (by decide) (by kernel_rfl) (by kernel_rfl) op4
theorem et : Tryd.prog.globalNamed "errors.errorType" = some 0 := by kernel_rfl
theorem rt : (Tryd.prog.cutTypes.find? (·.1 == "internal/reflectlite.rtype")).map (·.2) = some 127 := by kernel_rfl
theorem oneRow : ((List.range Tryd.prog.types.size).filter fun t => Tryd.prog.rowNamed t [101, 114, 114, 111, 114]) = [83] := by kernel_rfl
/-- What the condition gives: the variable's one cell. -/
theorem handle_of_laid {W : World} (h : laidMetH Tryd.prog Rows.flowCatchesRow.laid W) : GLW W := by
  have h' : laidMet Tryd.prog [] W ∧ handlesMet Tryd.prog Rows.flowCatchesRow.laid W := h
  obtain ⟨name, u, ty, e1, e2, e3, e4, e5⟩ := h'.2 _ (List.mem_singleton.2 rfl)
  have en : name = [101, 114, 114, 111, 114] := (Option.some.inj e1).symm
  subst en
  obtain rfl := Option.some.inj (rt.symm.trans e2)
  have hm : ty ∈ (List.range Tryd.prog.types.size).filter fun t => Tryd.prog.rowNamed t [101, 114, 114, 111, 114] := List.mem_filter.2 ⟨List.mem_range.2 e3, e4⟩
  rw [oneRow] at hm
  obtain rfl := List.mem_singleton.1 hm
  have hh : typeHandle Tryd.prog 83 = .pointer (some ⟨1, 83, none⟩) := by kernel_rfl
  rw [hh] at e5
  have e6 : W.var? Tryd.prog "errors.errorType" = some #[.iface 127 (.agg #[.pointer (some ⟨1, 83, none⟩)])] := e5
  simp only [World.var?, et, Option.bind_some] at e6
  intro p hp
  obtain rfl := List.mem_singleton.1 hp
  split at e6
  · rename_i cs t fr heq
    cases e6
    exact ⟨t, fr, heq⟩
  · cases e6
/-- A world that meets it. -/
noncomputable def laidWorld (os : Os) : World :=
  let w0 := World.holding Tryd.prog os ⟨#[], #[], []⟩
  { w0 with heap := w0.heap.modify 0 fun
      | .cells _ t frozen => .cells #[.iface 127 (.agg #[.pointer (some ⟨1, 83, none⟩)])] t frozen
      | o => o }
theorem laidWorld_met (os : Os) (args : Array Value) : laidMetH Tryd.prog Rows.flowCatchesRow.laid ((laidWorld os).forCall (fun _ _ => 0) ⟨#[], args, []⟩).memory :=
  laidMetH_of_parts (laidMet_nil _ _) (by kernel_rfl)
set_option maxRecDepth 100000 in
theorem lifted (os : Os) (started : os.Started) (H : Type) (enc : TypeId × Value → H) :
    ReturnsInHanded {} Tryd.checked os 6 .any (fun w args => (Rows.flowCatchesSpec.pre enc Tryd.prog Tryd.f6 Rows.flowCatchesRow.domain false w args ∧ laidMetH Tryd.prog Rows.flowCatchesRow.laid w) ∧ sizedMet enc Tryd.prog Tryd.f6 (OpenSpec.ofChange Rows.flowCatchesSpec) false w args) (Rows.flowCatchesSpec.post enc Tryd.prog Tryd.f6 false true false false) := by
  refine returnsInHanded_of_change_and (C := Tryd.checked) (X := fun w _ => laidMetH Tryd.prog Rows.flowCatchesRow.laid w) (fun _ _ _ hh h => h.of_heap hh) own started (by kernel_rfl) Tryd.func6
    (ChangeSpec.witness_at (enc := enc) (C := Tryd.checked) (os := os) (X := fun w _ => laidMetH Tryd.prog Rows.flowCatchesRow.laid w) false (laidWorld os) #[.int .i64 0, .int .i64 0, .slice none 0 0] 8 rfl (by kernel_rfl) (by kernel_rfl) (by kernel_rfl) (by kernel_rfl) (by kernel_rfl) (laidWorld_met os _)) ?_
  intro W base args ds gs before hval0 hW hcnd hsz0 hL _
  have hG := handle_of_laid hL
  have hsz : (DataW.weightsEach Tryd.prog (Tryd.f6.params.toList ++ Rows.flowCatchesSpec.plain.varTypes Tryd.prog) (ds ++ gs)).all (· ≤ reachBytes) = true := hsz0
  have hval : ∀ (j : Nat) t v, Tryd.f6.params[j]? = some t → args[j]? = some v → Value.okWide Tryd.prog W .any base t v := hval0
  have hW' := hW
  obtain ⟨p, q, hA0, hV, rfl, hfz, hnd⟩ := hW
  have hA : DataW.TrodAll enc Tryd.prog W 0 (fun _ => true) true Tryd.f6.params.toList args.toList ds p := hA0
  rw [Tryd.params6] at hA hval hsz
  obtain ⟨v0, vs0, d0, ds0, p0, q0, hargs, rfl, rfl, h0, r0⟩ := trodAll_cons hA
  obtain ⟨v1, vs1, d1, ds1, p1, q1, rfl, rfl, rfl, h1, r1⟩ := trodAll_cons r0
  obtain ⟨v2, vs2, d2, ds2, p2, q2, rfl, rfl, rfl, h2, r2⟩ := trodAll_cons r1
  obtain ⟨rfl, rfl, rfl⟩ := trodAll_nil r2
  obtain rfl : args = #[v0, v1, v2] := by cases args; simp_all
  obtain ⟨rfl, rfl⟩ := trodVars_none hV
  obtain ⟨a0, rfl, rfl, rfl, w0⟩ := open_int Tryd.underlying3 (hval 0 3 v0 rfl rfl) h0
  obtain ⟨a1, rfl, rfl, rfl, w1⟩ := open_int Tryd.underlying3 (hval 1 3 v1 rfl rfl) h1
  have k2 := h2
  have lt2 : ∀ x ∈ p2, x.block < W.heap.size := by obtain ⟨m, hm⟩ := k2; exact DataW.trod_lt m _ _ _ hm
  obtain ⟨A2, len2, cap2, rfl⟩ := okWide_slice Tryd.underlying51 (hval 2 51 v2 rfl rfl)
  obtain ⟨a2, K2, w2⟩ := openc_arg op51 h2 hsz (j := 2) rfl rfl
  clear hA0 hval0 hsz0 hsz
  have hk := FA.e6 a0 a1 a2
  refine (law_true (vs := #[_, _, _]) (LC.TT_ok 1000 18 6) hk hG (rss_cons (rs_one .int) (rss_cons (rs_one .int) (rss_cons (rs_slice K2) rss_nil)))).mono fun e W' ⟨he, bel⟩ => ?_
  subst he
  exact ⟨_, rfl, _, _, _, [], _, [], hW', trodAll_mk1 (shut_bool Tryd.underlying4 _), (trodAll_cons_mk (shut_int Tryd.underlying3 w0) (trodAll_cons_mk (shut_int Tryd.underlying3 w1) (trodAll_cons_mk (Below.trod laidOut (by kernel_rfl) (of_decide_eq_true (by kernel_rfl)) k2 bel lt2) trodAll_mk0))), rfl, bel.frame _, fun h => by cases h⟩
theorem over : Rows.flowCatchesRow.holds Tryd.pinned (OpenSpec.ofChange Rows.flowCatchesSpec) :=
  OpenClaim.holds_of_wide 6 Tryd.f6 rfl rfl rfl rfl rfl rfl rfl ⟨rfl, rfl, rfl, rfl, rfl⟩ rfl rfl rfl rfl rfl (by kernel_rfl) Tryd.func6 (by kernel_rfl)
    (of_decide_eq_true (by kernel_rfl)) (by unfold Func.isWrapper; first | (rw [if_pos (by decide +kernel)]; kernel_rfl) | (rw [if_neg (by decide +kernel)]; exact ⟨rfl, rfl⟩))
    (fun os started H enc _ => lifted os started H enc)
theorem proved : Rows.FlowCatchesSaid := over
theorem noStand : ∀ t ∈ ([3, 3, 51] : List TypeId), Tryd.prog.wantsStandIn t = false := List.forall_mem_cons.2 ⟨by kernel_rfl, List.forall_mem_cons.2 ⟨by kernel_rfl, List.forall_mem_cons.2 ⟨by kernel_rfl, List.forall_mem_nil _⟩⟩⟩
theorem card : Rows.FlowCatchesCardSaid :=
  Claim7.holds_tied_plain_at .later [] [.handle] true (true, "01568492e726bc72e25167674e1021d88b6d9f3c3a07043bcae3be2ffb9debff") true
    over (fun _ h => by cases h) (by kernel_rfl) (fun _ h => by cases h) flowCatches_row_tie rfl ⟨rfl, rfl⟩ (by kernel_rfl) rfl
    (fun f fn hf hfn => by
      obtain rfl : f = 6 := Option.some.inj ((show Tryd.prog.funcNamed Rows.flowCatchesRow.func = some 6 by kernel_rfl).symm.trans hf) |>.symm
      obtain rfl : fn = Tryd.f6 := (Option.some.inj (Tryd.func6.symm.trans hfn)).symm
      exact ⟨by kernel_rfl, fun j t ht => noStand t (by
        rw [Tryd.params6] at ht
        have hm := Array.mem_of_getElem? ht
        simpa using hm)⟩)
    (by kernel_rfl)
#print axioms card
end Go.Proofs.YtkfcbpbnoeaheaaDoor.flowCatches
namespace Go.Proofs.YtkfcbpbnoeaheaaDoor
/-- The row, under a short name, for the claim. -/
theorem flowCatches_holds : Rows.FlowCatchesCardSaid := flowCatches.card
end Go.Proofs.YtkfcbpbnoeaheaaDoor
