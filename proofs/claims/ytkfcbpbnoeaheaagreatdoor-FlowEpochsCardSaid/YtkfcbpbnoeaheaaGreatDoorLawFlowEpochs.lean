/- The row of the law FlowEpochs, out of its plain law and the evaluator. -/
import Derived.Test.YtkfcbpbnoeaheaaGreatDoorZE2
import Derived.Test.YtkfcbpbnoeaheaaGreatDoorRows
import Derived.Test.YtkfcbpbnoeaheaaGreatDoorTie
import Derived.Test.YtkfcbpbnoeaheaaGreatDoorCards
import Derived.WalkKit
import Derived.ProofKit
import Derived.OpenShut
import Derived.ShutString
import Derived.ChangeOld
import Derived.Below
import Derived.SizedLaws
import Derived.Handed
import Derived.ChangeVars
import Derived.JoinedOf
import Derived.LaidLaws
import Derived.LaidHandle
import Derived.Stop.Joined
import Derived.SevenTiedAt
import Derived.ChangeSame
namespace Go.Proofs.YtkfcbpbnoeaheaaGreatDoor.flowEpochs
open Go.ChangeShapes Go.WideShapes Go.ChangeAt Go.RowKit Go.Proofs.YtkfcbpbnoeaheaaGreatDoorR Go.Proofs.YtkfcbpbnoeaheaaGreatDoor
set_option linter.unusedVariables false
theorem own : ownKnob Tryz.prog.godebug = none := by kernel_rfl
theorem laidOut : laidOutB Tryz.prog = true := by kernel_rfl
theorem op3 : OpenC Tryz.prog 3 (fun n : Int => [V.int .i64 n]) (fun x : Int => (Lit.int .i64 x).wf = true) := openc_int Tryz.underlying3
theorem op23 : OpenC Tryz.prog 23 EC.eC (fun x : EC.Cf => ((Lit.int .i64 x.n).wf = true ∧ ((Lit.int .i64 x.t).wf = true ∧ ((Lit.int .i64 x.k).wf = true ∧ ((Lit.int .i64 x.d).wf = true ∧ ((Lit.int .i64 x.p).wf = true ∧ ((Lit.int .i64 x.w).wf = true ∧ ((Lit.int .i64 x.q).wf = true)))))))) := openc_struct (n := (1 + (1 + (1 + (1 + (1 + (1 + (1)))))))) (c := fun q : Int × Int × Int × Int × Int × Int × Int => (fun n : Int => [V.int .i64 n]) q.1 ++ ((fun n : Int => [V.int .i64 n]) q.2.1 ++ ((fun n : Int => [V.int .i64 n]) q.2.2.1 ++ ((fun n : Int => [V.int .i64 n]) q.2.2.2.1 ++ ((fun n : Int => [V.int .i64 n]) q.2.2.2.2.1 ++ ((fun n : Int => [V.int .i64 n]) q.2.2.2.2.2.1 ++ ((fun n : Int => [V.int .i64 n]) q.2.2.2.2.2.2))))))) (wf := fun q : Int × Int × Int × Int × Int × Int × Int => ((Lit.int .i64 q.1).wf = true) ∧ (((Lit.int .i64 q.2.1).wf = true) ∧ (((Lit.int .i64 q.2.2.1).wf = true) ∧ (((Lit.int .i64 q.2.2.2.1).wf = true) ∧ (((Lit.int .i64 q.2.2.2.2.1).wf = true) ∧ (((Lit.int .i64 q.2.2.2.2.2.1).wf = true) ∧ ((Lit.int .i64 q.2.2.2.2.2.2).wf = true))))))) (fun p => ⟨p.1, p.2.1, p.2.2.1, p.2.2.2.1, p.2.2.2.2.1, p.2.2.2.2.2.1, p.2.2.2.2.2.2⟩) (fun x : EC.Cf => (x.n, x.t, x.k, x.d, x.p, x.w, x.q)) (fun _ => rfl) (fun _ => rfl) Tryz.underlying23 (by kernel_rfl) (by
  refine openf_cons (k := 1) (n := (1 + (1 + (1 + (1 + (1 + (1))))))) (c := (fun n : Int => [V.int .i64 n])) (c' := fun q : Int × Int × Int × Int × Int × Int => (fun n : Int => [V.int .i64 n]) q.1 ++ ((fun n : Int => [V.int .i64 n]) q.2.1 ++ ((fun n : Int => [V.int .i64 n]) q.2.2.1 ++ ((fun n : Int => [V.int .i64 n]) q.2.2.2.1 ++ ((fun n : Int => [V.int .i64 n]) q.2.2.2.2.1 ++ ((fun n : Int => [V.int .i64 n]) q.2.2.2.2.2)))))) (wf := fun q : Int => (Lit.int .i64 q).wf = true) (wf' := fun q : Int × Int × Int × Int × Int × Int => ((Lit.int .i64 q.1).wf = true) ∧ (((Lit.int .i64 q.2.1).wf = true) ∧ (((Lit.int .i64 q.2.2.1).wf = true) ∧ (((Lit.int .i64 q.2.2.2.1).wf = true) ∧ (((Lit.int .i64 q.2.2.2.2.1).wf = true) ∧ ((Lit.int .i64 q.2.2.2.2.2).wf = true)))))) rfl (by kernel_rfl) (fun _ => rfl) op3 ?_
  refine openf_cons (k := 1) (n := (1 + (1 + (1 + (1 + (1)))))) (c := (fun n : Int => [V.int .i64 n])) (c' := fun q : Int × Int × Int × Int × Int => (fun n : Int => [V.int .i64 n]) q.1 ++ ((fun n : Int => [V.int .i64 n]) q.2.1 ++ ((fun n : Int => [V.int .i64 n]) q.2.2.1 ++ ((fun n : Int => [V.int .i64 n]) q.2.2.2.1 ++ ((fun n : Int => [V.int .i64 n]) q.2.2.2.2))))) (wf := fun q : Int => (Lit.int .i64 q).wf = true) (wf' := fun q : Int × Int × Int × Int × Int => ((Lit.int .i64 q.1).wf = true) ∧ (((Lit.int .i64 q.2.1).wf = true) ∧ (((Lit.int .i64 q.2.2.1).wf = true) ∧ (((Lit.int .i64 q.2.2.2.1).wf = true) ∧ ((Lit.int .i64 q.2.2.2.2).wf = true))))) rfl (by kernel_rfl) (fun _ => rfl) op3 ?_
  refine openf_cons (k := 1) (n := (1 + (1 + (1 + (1))))) (c := (fun n : Int => [V.int .i64 n])) (c' := fun q : Int × Int × Int × Int => (fun n : Int => [V.int .i64 n]) q.1 ++ ((fun n : Int => [V.int .i64 n]) q.2.1 ++ ((fun n : Int => [V.int .i64 n]) q.2.2.1 ++ ((fun n : Int => [V.int .i64 n]) q.2.2.2)))) (wf := fun q : Int => (Lit.int .i64 q).wf = true) (wf' := fun q : Int × Int × Int × Int => ((Lit.int .i64 q.1).wf = true) ∧ (((Lit.int .i64 q.2.1).wf = true) ∧ (((Lit.int .i64 q.2.2.1).wf = true) ∧ ((Lit.int .i64 q.2.2.2).wf = true)))) rfl (by kernel_rfl) (fun _ => rfl) op3 ?_
  refine openf_cons (k := 1) (n := (1 + (1 + (1)))) (c := (fun n : Int => [V.int .i64 n])) (c' := fun q : Int × Int × Int => (fun n : Int => [V.int .i64 n]) q.1 ++ ((fun n : Int => [V.int .i64 n]) q.2.1 ++ ((fun n : Int => [V.int .i64 n]) q.2.2))) (wf := fun q : Int => (Lit.int .i64 q).wf = true) (wf' := fun q : Int × Int × Int => ((Lit.int .i64 q.1).wf = true) ∧ (((Lit.int .i64 q.2.1).wf = true) ∧ ((Lit.int .i64 q.2.2).wf = true))) rfl (by kernel_rfl) (fun _ => rfl) op3 ?_
  refine openf_cons (k := 1) (n := (1 + (1))) (c := (fun n : Int => [V.int .i64 n])) (c' := fun q : Int × Int => (fun n : Int => [V.int .i64 n]) q.1 ++ ((fun n : Int => [V.int .i64 n]) q.2)) (wf := fun q : Int => (Lit.int .i64 q).wf = true) (wf' := fun q : Int × Int => ((Lit.int .i64 q.1).wf = true) ∧ ((Lit.int .i64 q.2).wf = true)) rfl (by kernel_rfl) (fun _ => rfl) op3 ?_
  refine openf_cons (k := 1) (n := (1)) (c := (fun n : Int => [V.int .i64 n])) (c' := fun q : Int => (fun n : Int => [V.int .i64 n]) q) (wf := fun q : Int => (Lit.int .i64 q).wf = true) (wf' := fun q : Int => (Lit.int .i64 q).wf = true) rfl (by kernel_rfl) (fun _ => rfl) op3 ?_
  exact openf_one rfl (by kernel_rfl) op3)
theorem op29 : OpenC Tryz.prog 29 AA.eT (fun x : AA.It => ((Lit.int .i64 x.s).wf = true ∧ ((Lit.int .i64 x.v).wf = true))) := openc_struct (n := (1 + (1))) (c := fun q : Int × Int => (fun n : Int => [V.int .i64 n]) q.1 ++ ((fun n : Int => [V.int .i64 n]) q.2)) (wf := fun q : Int × Int => ((Lit.int .i64 q.1).wf = true) ∧ ((Lit.int .i64 q.2).wf = true)) (fun p => ⟨p.1, p.2⟩) (fun x : AA.It => (x.s, x.v)) (fun _ => rfl) (fun _ => rfl) Tryz.underlying29 (by kernel_rfl) (by
  refine openf_cons (k := 1) (n := (1)) (c := (fun n : Int => [V.int .i64 n])) (c' := fun q : Int => (fun n : Int => [V.int .i64 n]) q) (wf := fun q : Int => (Lit.int .i64 q).wf = true) (wf' := fun q : Int => (Lit.int .i64 q).wf = true) rfl (by kernel_rfl) (fun _ => rfl) op3 ?_
  exact openf_one rfl (by kernel_rfl) op3)
theorem op24 : OpenC Tryz.prog 24 (fun xs : List AA.It => [V.row (xs.map AA.eT)]) (fun x : (List AA.It) => (x.length * 16 ≤ 140737488351232 ∧ ∀ y_ ∈ x, ((Lit.int .i64 y_.s).wf = true ∧ ((Lit.int .i64 y_.v).wf = true)))) := openc_slice (sz := 2) (B := 16) Tryz.underlying24 (fun _ => rfl) (by decide) (by kernel_rfl) (by kernel_rfl) op29
theorem op26 : OpenC Tryz.prog 26 FA.eS (fun x : FA.Sm => ((Lit.int .i64 x.e).wf = true ∧ ((Lit.int .i64 x.w).wf = true ∧ ((Lit.int .i64 x.kn).wf = true ∧ ((x.kp.length * 16 ≤ 140737488351232 ∧ ∀ y_ ∈ x.kp, ((Lit.int .i64 y_.s).wf = true ∧ ((Lit.int .i64 y_.v).wf = true))) ∧ ((x.ah.length * 16 ≤ 140737488351232 ∧ ∀ y_ ∈ x.ah, ((Lit.int .i64 y_.s).wf = true ∧ ((Lit.int .i64 y_.v).wf = true))))))))) := openc_struct (n := (1 + (1 + (1 + (1 + (1)))))) (c := fun q : Int × Int × Int × (List AA.It) × (List AA.It) => (fun n : Int => [V.int .i64 n]) q.1 ++ ((fun n : Int => [V.int .i64 n]) q.2.1 ++ ((fun n : Int => [V.int .i64 n]) q.2.2.1 ++ ((fun xs : List AA.It => [V.row (xs.map AA.eT)]) q.2.2.2.1 ++ ((fun xs : List AA.It => [V.row (xs.map AA.eT)]) q.2.2.2.2))))) (wf := fun q : Int × Int × Int × (List AA.It) × (List AA.It) => ((Lit.int .i64 q.1).wf = true) ∧ (((Lit.int .i64 q.2.1).wf = true) ∧ (((Lit.int .i64 q.2.2.1).wf = true) ∧ (((q.2.2.2.1.length * 16 ≤ 140737488351232 ∧ ∀ y_ ∈ q.2.2.2.1, ((Lit.int .i64 y_.s).wf = true ∧ ((Lit.int .i64 y_.v).wf = true)))) ∧ ((q.2.2.2.2.length * 16 ≤ 140737488351232 ∧ ∀ y_ ∈ q.2.2.2.2, ((Lit.int .i64 y_.s).wf = true ∧ ((Lit.int .i64 y_.v).wf = true)))))))) (fun p => ⟨p.1, p.2.1, p.2.2.1, p.2.2.2.1, p.2.2.2.2⟩) (fun x : FA.Sm => (x.e, x.w, x.kn, x.kp, x.ah)) (fun _ => rfl) (fun _ => rfl) Tryz.underlying26 (by kernel_rfl) (by
  refine openf_cons (k := 1) (n := (1 + (1 + (1 + (1))))) (c := (fun n : Int => [V.int .i64 n])) (c' := fun q : Int × Int × (List AA.It) × (List AA.It) => (fun n : Int => [V.int .i64 n]) q.1 ++ ((fun n : Int => [V.int .i64 n]) q.2.1 ++ ((fun xs : List AA.It => [V.row (xs.map AA.eT)]) q.2.2.1 ++ ((fun xs : List AA.It => [V.row (xs.map AA.eT)]) q.2.2.2)))) (wf := fun q : Int => (Lit.int .i64 q).wf = true) (wf' := fun q : Int × Int × (List AA.It) × (List AA.It) => ((Lit.int .i64 q.1).wf = true) ∧ (((Lit.int .i64 q.2.1).wf = true) ∧ (((q.2.2.1.length * 16 ≤ 140737488351232 ∧ ∀ y_ ∈ q.2.2.1, ((Lit.int .i64 y_.s).wf = true ∧ ((Lit.int .i64 y_.v).wf = true)))) ∧ ((q.2.2.2.length * 16 ≤ 140737488351232 ∧ ∀ y_ ∈ q.2.2.2, ((Lit.int .i64 y_.s).wf = true ∧ ((Lit.int .i64 y_.v).wf = true))))))) rfl (by kernel_rfl) (fun _ => rfl) op3 ?_
  refine openf_cons (k := 1) (n := (1 + (1 + (1)))) (c := (fun n : Int => [V.int .i64 n])) (c' := fun q : Int × (List AA.It) × (List AA.It) => (fun n : Int => [V.int .i64 n]) q.1 ++ ((fun xs : List AA.It => [V.row (xs.map AA.eT)]) q.2.1 ++ ((fun xs : List AA.It => [V.row (xs.map AA.eT)]) q.2.2))) (wf := fun q : Int => (Lit.int .i64 q).wf = true) (wf' := fun q : Int × (List AA.It) × (List AA.It) => ((Lit.int .i64 q.1).wf = true) ∧ (((q.2.1.length * 16 ≤ 140737488351232 ∧ ∀ y_ ∈ q.2.1, ((Lit.int .i64 y_.s).wf = true ∧ ((Lit.int .i64 y_.v).wf = true)))) ∧ ((q.2.2.length * 16 ≤ 140737488351232 ∧ ∀ y_ ∈ q.2.2, ((Lit.int .i64 y_.s).wf = true ∧ ((Lit.int .i64 y_.v).wf = true)))))) rfl (by kernel_rfl) (fun _ => rfl) op3 ?_
  refine openf_cons (k := 1) (n := (1 + (1))) (c := (fun n : Int => [V.int .i64 n])) (c' := fun q : (List AA.It) × (List AA.It) => (fun xs : List AA.It => [V.row (xs.map AA.eT)]) q.1 ++ ((fun xs : List AA.It => [V.row (xs.map AA.eT)]) q.2)) (wf := fun q : Int => (Lit.int .i64 q).wf = true) (wf' := fun q : (List AA.It) × (List AA.It) => ((q.1.length * 16 ≤ 140737488351232 ∧ ∀ y_ ∈ q.1, ((Lit.int .i64 y_.s).wf = true ∧ ((Lit.int .i64 y_.v).wf = true)))) ∧ ((q.2.length * 16 ≤ 140737488351232 ∧ ∀ y_ ∈ q.2, ((Lit.int .i64 y_.s).wf = true ∧ ((Lit.int .i64 y_.v).wf = true))))) rfl (by kernel_rfl) (fun _ => rfl) op3 ?_
  refine openf_cons (k := 1) (n := (1)) (c := (fun xs : List AA.It => [V.row (xs.map AA.eT)])) (c' := fun q : (List AA.It) => (fun xs : List AA.It => [V.row (xs.map AA.eT)]) q) (wf := fun q : (List AA.It) => (q.length * 16 ≤ 140737488351232 ∧ ∀ y_ ∈ q, ((Lit.int .i64 y_.s).wf = true ∧ ((Lit.int .i64 y_.v).wf = true)))) (wf' := fun q : (List AA.It) => (q.length * 16 ≤ 140737488351232 ∧ ∀ y_ ∈ q, ((Lit.int .i64 y_.s).wf = true ∧ ((Lit.int .i64 y_.v).wf = true)))) rfl (by kernel_rfl) (fun _ => rfl) op24 ?_
  exact openf_one rfl (by kernel_rfl) op24)
theorem op96 : OpenC Tryz.prog 96 QA.eE (fun x : QA.Ev => ((Lit.int .i64 x.k).wf = true ∧ ((Lit.int .i64 x.e).wf = true ∧ ((Lit.int .i64 x.s).wf = true ∧ ((Lit.int .i64 x.l).wf = true ∧ ((Lit.int .i64 x.v).wf = true ∧ ((Lit.int .i64 x.c).wf = true))))))) := openc_struct (n := (1 + (1 + (1 + (1 + (1 + (1))))))) (c := fun q : Int × Int × Int × Int × Int × Int => (fun n : Int => [V.int .i64 n]) q.1 ++ ((fun n : Int => [V.int .i64 n]) q.2.1 ++ ((fun n : Int => [V.int .i64 n]) q.2.2.1 ++ ((fun n : Int => [V.int .i64 n]) q.2.2.2.1 ++ ((fun n : Int => [V.int .i64 n]) q.2.2.2.2.1 ++ ((fun n : Int => [V.int .i64 n]) q.2.2.2.2.2)))))) (wf := fun q : Int × Int × Int × Int × Int × Int => ((Lit.int .i64 q.1).wf = true) ∧ (((Lit.int .i64 q.2.1).wf = true) ∧ (((Lit.int .i64 q.2.2.1).wf = true) ∧ (((Lit.int .i64 q.2.2.2.1).wf = true) ∧ (((Lit.int .i64 q.2.2.2.2.1).wf = true) ∧ ((Lit.int .i64 q.2.2.2.2.2).wf = true)))))) (fun p => ⟨p.1, p.2.1, p.2.2.1, p.2.2.2.1, p.2.2.2.2.1, p.2.2.2.2.2⟩) (fun x : QA.Ev => (x.k, x.e, x.s, x.l, x.v, x.c)) (fun _ => rfl) (fun _ => rfl) Tryz.underlying96 (by kernel_rfl) (by
  refine openf_cons (k := 1) (n := (1 + (1 + (1 + (1 + (1)))))) (c := (fun n : Int => [V.int .i64 n])) (c' := fun q : Int × Int × Int × Int × Int => (fun n : Int => [V.int .i64 n]) q.1 ++ ((fun n : Int => [V.int .i64 n]) q.2.1 ++ ((fun n : Int => [V.int .i64 n]) q.2.2.1 ++ ((fun n : Int => [V.int .i64 n]) q.2.2.2.1 ++ ((fun n : Int => [V.int .i64 n]) q.2.2.2.2))))) (wf := fun q : Int => (Lit.int .i64 q).wf = true) (wf' := fun q : Int × Int × Int × Int × Int => ((Lit.int .i64 q.1).wf = true) ∧ (((Lit.int .i64 q.2.1).wf = true) ∧ (((Lit.int .i64 q.2.2.1).wf = true) ∧ (((Lit.int .i64 q.2.2.2.1).wf = true) ∧ ((Lit.int .i64 q.2.2.2.2).wf = true))))) rfl (by kernel_rfl) (fun _ => rfl) op3 ?_
  refine openf_cons (k := 1) (n := (1 + (1 + (1 + (1))))) (c := (fun n : Int => [V.int .i64 n])) (c' := fun q : Int × Int × Int × Int => (fun n : Int => [V.int .i64 n]) q.1 ++ ((fun n : Int => [V.int .i64 n]) q.2.1 ++ ((fun n : Int => [V.int .i64 n]) q.2.2.1 ++ ((fun n : Int => [V.int .i64 n]) q.2.2.2)))) (wf := fun q : Int => (Lit.int .i64 q).wf = true) (wf' := fun q : Int × Int × Int × Int => ((Lit.int .i64 q.1).wf = true) ∧ (((Lit.int .i64 q.2.1).wf = true) ∧ (((Lit.int .i64 q.2.2.1).wf = true) ∧ ((Lit.int .i64 q.2.2.2).wf = true)))) rfl (by kernel_rfl) (fun _ => rfl) op3 ?_
  refine openf_cons (k := 1) (n := (1 + (1 + (1)))) (c := (fun n : Int => [V.int .i64 n])) (c' := fun q : Int × Int × Int => (fun n : Int => [V.int .i64 n]) q.1 ++ ((fun n : Int => [V.int .i64 n]) q.2.1 ++ ((fun n : Int => [V.int .i64 n]) q.2.2))) (wf := fun q : Int => (Lit.int .i64 q).wf = true) (wf' := fun q : Int × Int × Int => ((Lit.int .i64 q.1).wf = true) ∧ (((Lit.int .i64 q.2.1).wf = true) ∧ ((Lit.int .i64 q.2.2).wf = true))) rfl (by kernel_rfl) (fun _ => rfl) op3 ?_
  refine openf_cons (k := 1) (n := (1 + (1))) (c := (fun n : Int => [V.int .i64 n])) (c' := fun q : Int × Int => (fun n : Int => [V.int .i64 n]) q.1 ++ ((fun n : Int => [V.int .i64 n]) q.2)) (wf := fun q : Int => (Lit.int .i64 q).wf = true) (wf' := fun q : Int × Int => ((Lit.int .i64 q.1).wf = true) ∧ ((Lit.int .i64 q.2).wf = true)) rfl (by kernel_rfl) (fun _ => rfl) op3 ?_
  refine openf_cons (k := 1) (n := (1)) (c := (fun n : Int => [V.int .i64 n])) (c' := fun q : Int => (fun n : Int => [V.int .i64 n]) q) (wf := fun q : Int => (Lit.int .i64 q).wf = true) (wf' := fun q : Int => (Lit.int .i64 q).wf = true) rfl (by kernel_rfl) (fun _ => rfl) op3 ?_
  exact openf_one rfl (by kernel_rfl) op3)
theorem op27 : OpenC Tryz.prog 27 (fun xs : List QA.Ev => [V.row (xs.map QA.eE)]) (fun x : (List QA.Ev) => (x.length * 48 ≤ 140737488351232 ∧ ∀ y_ ∈ x, ((Lit.int .i64 y_.k).wf = true ∧ ((Lit.int .i64 y_.e).wf = true ∧ ((Lit.int .i64 y_.s).wf = true ∧ ((Lit.int .i64 y_.l).wf = true ∧ ((Lit.int .i64 y_.v).wf = true ∧ ((Lit.int .i64 y_.c).wf = true)))))))) := openc_slice (sz := 6) (B := 48) Tryz.underlying27 (fun _ => rfl) (by decide) (by kernel_rfl) (by kernel_rfl) op96
theorem et : Tryz.prog.globalNamed "errors.errorType" = some 0 := by kernel_rfl
theorem rt : (Tryz.prog.cutTypes.find? (·.1 == "internal/reflectlite.rtype")).map (·.2) = some 176 := by kernel_rfl
theorem oneRow : ((List.range Tryz.prog.types.size).filter fun t => Tryz.prog.rowNamed t [101, 114, 114, 111, 114]) = [123] := by kernel_rfl
/-- What the condition gives: the variable's one cell. -/
theorem handle_of_laid {W : World} (h : laidMetH Tryz.prog Rows.flowEpochsRow.laid W) : GLW W := by
  have h' : laidMet Tryz.prog [] W ∧ handlesMet Tryz.prog Rows.flowEpochsRow.laid W := h
  obtain ⟨name, u, ty, e1, e2, e3, e4, e5⟩ := h'.2 _ (List.mem_singleton.2 rfl)
  have en : name = [101, 114, 114, 111, 114] := (Option.some.inj e1).symm
  subst en
  obtain rfl := Option.some.inj (rt.symm.trans e2)
  have hm : ty ∈ (List.range Tryz.prog.types.size).filter fun t => Tryz.prog.rowNamed t [101, 114, 114, 111, 114] := List.mem_filter.2 ⟨List.mem_range.2 e3, e4⟩
  rw [oneRow] at hm
  obtain rfl := List.mem_singleton.1 hm
  have hh : typeHandle Tryz.prog 123 = .pointer (some ⟨1, 123, none⟩) := by kernel_rfl
  rw [hh] at e5
  have e6 : W.var? Tryz.prog "errors.errorType" = some #[.iface 176 (.agg #[.pointer (some ⟨1, 123, none⟩)])] := e5
  simp only [World.var?, et, Option.bind_some] at e6
  intro p hp
  obtain rfl := List.mem_singleton.1 hp
  split at e6
  · rename_i cs t fr heq
    cases e6
    exact ⟨t, fr, heq⟩
  · cases e6
/-- A world that meets it. -/
noncomputable def laidWorld (os : Os) : World :=
  let w0 := World.holding Tryz.prog os ⟨#[], #[], []⟩
  { w0 with heap := w0.heap.modify 0 fun
      | .cells _ t frozen => .cells #[.iface 176 (.agg #[.pointer (some ⟨1, 123, none⟩)])] t frozen
      | o => o }
theorem laidWorld_met (os : Os) (args : Array Value) : laidMetH Tryz.prog Rows.flowEpochsRow.laid ((laidWorld os).forCall (fun _ _ => 0) ⟨#[], args, []⟩).memory :=
  laidMetH_of_parts (laidMet_nil _ _) (by kernel_rfl)
set_option maxRecDepth 100000 in
theorem lifted (os : Os) (started : os.Started) (H : Type) (enc : TypeId × Value → H) :
    ReturnsInHanded {} Tryz.checked os 4 .any (fun w args => (Rows.flowEpochsSpec.pre enc Tryz.prog Tryz.f4 Rows.flowEpochsRow.domain false w args ∧ laidMetH Tryz.prog Rows.flowEpochsRow.laid w) ∧ sizedMet enc Tryz.prog Tryz.f4 (OpenSpec.ofChange Rows.flowEpochsSpec) false w args) (Rows.flowEpochsSpec.post enc Tryz.prog Tryz.f4 false true false false) := by
  refine returnsInHanded_of_change_and (C := Tryz.checked) (X := fun w _ => laidMetH Tryz.prog Rows.flowEpochsRow.laid w) (fun _ _ _ hh h => h.of_heap hh) own started (by kernel_rfl) Tryz.func4
    (ChangeSpec.witness_at (enc := enc) (C := Tryz.checked) (os := os) (X := fun w _ => laidMetH Tryz.prog Rows.flowEpochsRow.laid w) false (laidWorld os) #[.agg #[.int .i64 0, .int .i64 0, .int .i64 0, .int .i64 0, .int .i64 0, .int .i64 0, .int .i64 0], .agg #[.int .i64 0, .int .i64 0, .int .i64 0, .slice none 0 0, .slice none 0 0], .bool false, .slice none 0 0, .int .i64 0, .int .i64 0, .int .i64 0] 8 rfl (by kernel_rfl) (by kernel_rfl) (by kernel_rfl) (by kernel_rfl) (by kernel_rfl) (laidWorld_met os _)) ?_
  intro W base args ds gs before hval0 hW hcnd hsz0 hL _
  have hG := handle_of_laid hL
  have hsz : (DataW.weightsEach Tryz.prog (Tryz.f4.params.toList ++ Rows.flowEpochsSpec.plain.varTypes Tryz.prog) (ds ++ gs)).all (· ≤ reachBytes) = true := hsz0
  have hval : ∀ (j : Nat) t v, Tryz.f4.params[j]? = some t → args[j]? = some v → Value.okWide Tryz.prog W .any base t v := hval0
  have hW' := hW
  obtain ⟨p, q, hA0, hV, rfl, hfz, hnd⟩ := hW
  have hA : DataW.TrodAll enc Tryz.prog W 0 (fun _ => true) true Tryz.f4.params.toList args.toList ds p := hA0
  rw [Tryz.params4] at hA hval hsz
  obtain ⟨v0, vs0, d0, ds0, p0, q0, hargs, rfl, rfl, h0, r0⟩ := trodAll_cons hA
  obtain ⟨v1, vs1, d1, ds1, p1, q1, rfl, rfl, rfl, h1, r1⟩ := trodAll_cons r0
  obtain ⟨v2, vs2, d2, ds2, p2, q2, rfl, rfl, rfl, h2, r2⟩ := trodAll_cons r1
  obtain ⟨v3, vs3, d3, ds3, p3, q3, rfl, rfl, rfl, h3, r3⟩ := trodAll_cons r2
  obtain ⟨v4, vs4, d4, ds4, p4, q4, rfl, rfl, rfl, h4, r4⟩ := trodAll_cons r3
  obtain ⟨v5, vs5, d5, ds5, p5, q5, rfl, rfl, rfl, h5, r5⟩ := trodAll_cons r4
  obtain ⟨v6, vs6, d6, ds6, p6, q6, rfl, rfl, rfl, h6, r6⟩ := trodAll_cons r5
  obtain ⟨rfl, rfl, rfl⟩ := trodAll_nil r6
  obtain rfl : args = #[v0, v1, v2, v3, v4, v5, v6] := by cases args; simp_all
  obtain ⟨rfl, rfl⟩ := trodVars_none hV
  have k0 := h0
  have lt0 : ∀ x ∈ p0, x.block < W.heap.size := by obtain ⟨m, hm⟩ := k0; exact DataW.trod_lt m _ _ _ hm
  obtain ⟨cs0, rfl⟩ := agg_of Tryz.underlying23 (hval 0 23 v0 rfl rfl)
  obtain ⟨a0, K0, w0⟩ := openc_arg op23 h0 hsz (j := 0) rfl rfl
  have k1 := h1
  have lt1 : ∀ x ∈ p1, x.block < W.heap.size := by obtain ⟨m, hm⟩ := k1; exact DataW.trod_lt m _ _ _ hm
  obtain ⟨cs1, rfl⟩ := agg_of Tryz.underlying26 (hval 1 26 v1 rfl rfl)
  obtain ⟨a1, K1, w1⟩ := openc_arg op26 h1 hsz (j := 1) rfl rfl
  obtain ⟨a2, rfl, rfl, rfl⟩ := open_bool Tryz.underlying4 (hval 2 4 v2 rfl rfl) h2
  have k3 := h3
  have lt3 : ∀ x ∈ p3, x.block < W.heap.size := by obtain ⟨m, hm⟩ := k3; exact DataW.trod_lt m _ _ _ hm
  obtain ⟨A3, len3, cap3, rfl⟩ := okWide_slice Tryz.underlying27 (hval 3 27 v3 rfl rfl)
  obtain ⟨a3, K3, w3⟩ := openc_arg op27 h3 hsz (j := 3) rfl rfl
  obtain ⟨a4, rfl, rfl, rfl, w4⟩ := open_int Tryz.underlying3 (hval 4 3 v4 rfl rfl) h4
  obtain ⟨a5, rfl, rfl, rfl, w5⟩ := open_int Tryz.underlying3 (hval 5 3 v5 rfl rfl) h5
  obtain ⟨a6, rfl, rfl, rfl, w6⟩ := open_int Tryz.underlying3 (hval 6 3 v6 rfl rfl) h6
  clear hA0 hval0 hsz0 hsz
  have hk := FA.e4 a0 a1 a2 a3 a4 a5 a6
  refine (law_true (vs := #[_, _, _, _, _, _, _]) (L4.TT_ok 1000 18 4) hk hG (rss_cons (rs_agg K0) (rss_cons (rs_agg K1) (rss_cons (rs_one .bool) (rss_cons (rs_slice K3) (rss_cons (rs_one .int) (rss_cons (rs_one .int) (rss_cons (rs_one .int) rss_nil)))))))).mono fun e W' ⟨he, bel⟩ => ?_
  subst he
  exact ⟨_, rfl, _, _, _, [], _, [], hW', trodAll_mk1 (shut_bool Tryz.underlying4 _), (trodAll_cons_mk (Below.trod laidOut (by kernel_rfl) (of_decide_eq_true (by kernel_rfl)) k0 bel lt0) (trodAll_cons_mk (Below.trod laidOut (by kernel_rfl) (of_decide_eq_true (by kernel_rfl)) k1 bel lt1) (trodAll_cons_mk (shut_bool Tryz.underlying4 _) (trodAll_cons_mk (Below.trod laidOut (by kernel_rfl) (of_decide_eq_true (by kernel_rfl)) k3 bel lt3) (trodAll_cons_mk (shut_int Tryz.underlying3 w4) (trodAll_cons_mk (shut_int Tryz.underlying3 w5) (trodAll_cons_mk (shut_int Tryz.underlying3 w6) trodAll_mk0))))))), rfl, bel.frame _, fun h => by cases h⟩
theorem over : Rows.flowEpochsRow.holds Tryz.pinned (OpenSpec.ofChange Rows.flowEpochsSpec) :=
  OpenClaim.holds_of_wide 4 Tryz.f4 rfl rfl rfl rfl rfl rfl rfl ⟨rfl, rfl, rfl, rfl, rfl⟩ rfl rfl rfl rfl rfl (by kernel_rfl) Tryz.func4 (by kernel_rfl)
    (of_decide_eq_true (by kernel_rfl)) (by unfold Func.isWrapper; first | (rw [if_pos (by decide +kernel)]; kernel_rfl) | (rw [if_neg (by decide +kernel)]; exact ⟨rfl, rfl⟩))
    (fun os started H enc _ => lifted os started H enc)
theorem proved : Rows.FlowEpochsSaid := over
theorem noStand : ∀ t ∈ ([23, 26, 4, 27, 3, 3, 3] : List TypeId), Tryz.prog.wantsStandIn t = false := List.forall_mem_cons.2 ⟨by kernel_rfl, List.forall_mem_cons.2 ⟨by kernel_rfl, List.forall_mem_cons.2 ⟨by kernel_rfl, List.forall_mem_cons.2 ⟨by kernel_rfl, List.forall_mem_cons.2 ⟨by kernel_rfl, List.forall_mem_cons.2 ⟨by kernel_rfl, List.forall_mem_cons.2 ⟨by kernel_rfl, List.forall_mem_nil _⟩⟩⟩⟩⟩⟩⟩
theorem card : Rows.FlowEpochsCardSaid :=
  Claim7.holds_tied_plain_at .later [] [.handle] true (true, "69470500f39625bc830a328c12f0bb86f3b8ebd90c5d4419f6f58ca11a7beabc") true
    over (fun _ h => by cases h) (by kernel_rfl) (fun _ h => by cases h) flowEpochs_row_tie rfl ⟨rfl, rfl⟩ (by kernel_rfl) rfl
    (fun f fn hf hfn => by
      obtain rfl : f = 4 := Option.some.inj ((show Tryz.prog.funcNamed Rows.flowEpochsRow.func = some 4 by kernel_rfl).symm.trans hf) |>.symm
      obtain rfl : fn = Tryz.f4 := (Option.some.inj (Tryz.func4.symm.trans hfn)).symm
      exact ⟨by kernel_rfl, fun j t ht => noStand t (by
        rw [Tryz.params4] at ht
        have hm := Array.mem_of_getElem? ht
        simpa using hm)⟩)
    (by kernel_rfl)
#print axioms card
end Go.Proofs.YtkfcbpbnoeaheaaGreatDoor.flowEpochs
namespace Go.Proofs.YtkfcbpbnoeaheaaGreatDoor
/-- The row, under a short name, for the claim. -/
theorem flowEpochs_holds : Rows.FlowEpochsCardSaid := flowEpochs.card
end Go.Proofs.YtkfcbpbnoeaheaaGreatDoor
