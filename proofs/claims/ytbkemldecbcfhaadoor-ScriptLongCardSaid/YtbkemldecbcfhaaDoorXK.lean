/- errors.Is against an error number; the number of an error. -/
import Derived.Test.YtbkemldecbcfhaaDoorXI2
set_option linter.unusedVariables false
set_option linter.unusedSimpArgs false
set_option maxRecDepth 100000
namespace Go.Proofs.YtbkemldecbcfhaaDoor.XE
open Go Go.RowKit Go.Extern.Stop Go.Stop Go.Extern

theorem neq_errno (v : Value) (w : World) : (binOp .eql 53 (.iface 29 v) .nilIface).run Tryd.prog w = .ok (.bool false) w := Go.Proofs.YtbkemldecbcfhaaDoorR.eql_iface_nil 29 v Tryd.underlying53 w
theorem neq_nil_errno (v : Value) (w : World) : (binOp .eql 53 .nilIface (.iface 29 v)).run Tryd.prog w = .ok (.bool false) w := run_eql_iface_nil_left w 29 v Tryd.underlying53
theorem comparableN (w : World) : ((ReflectliteType.method fun t => do Rtype.noPackHeld "Comparable" t; (fun a => Value.bool a.comparable) <$> typeInfo t) #[.agg #[.pointer (some ⟨1, 29, none⟩)]]).run Tryd.prog w = .ok (.bool true) w := by kernel_rfl
set_option maxHeartbeats 4000000 in
theorem Is_nil (n : Int) (w : World) : Calls Tryd.prog 27 #[.nilIface, .iface 29 (.int .i64 n)] w fun e w' => e = .returned (.bool false) ∧ w' = w := by
  have h1 := neq_errno
  have h2 := neq_nil_errno
  go_enter Tryd.func27, Tryd.ntmps27
  go_wp2
  go_ret
  exact ⟨rfl, rfl⟩
set_option maxHeartbeats 4000000 in
theorem Is_of81 (v : Value) (n : Int) (b : Bool) (w : World) (c35 : Calls Tryd.prog 35 #[.iface 81 v, .iface 29 (.int .i64 n), .bool true] w fun e w' => e = .returned (.bool b) ∧ Below w.heap.size w w') : Calls Tryd.prog 27 #[.iface 81 v, .iface 29 (.int .i64 n)] w fun e w' => e = .returned (.bool b) ∧ Below w.heap.size w w' := by
  have h34 := @run_callFunc_extern Tryd.prog 34 _ ReflectliteType.typeOf Tryd.func34 (by kernel_rfl) (by kernel_rfl) (by kernel_rfl) (by kernel_rfl)
  have h69 := @run_callFunc_extern Tryd.prog 69 _ (ReflectliteType.method fun t => do Rtype.noPackHeld "Comparable" t; pure (.bool (← typeInfo t).comparable)) Tryd.func69 (by kernel_rfl) (by kernel_rfl) (by kernel_rfl) (by kernel_rfl)
  have h1 := neq_errno
  have h2 := neq_wrong
  have tE := typeOf29
  have mC := methodComparable
  have cE := comparableN
  go_enter Tryd.func27, Tryd.ntmps27
  go_wp2_with (first | (go_at_call 35; refine c35.mono ?_; rintro e w' ⟨rfl, hB⟩))
  go_ret
  exact ⟨rfl, hB⟩
set_option maxHeartbeats 4000000 in
theorem Is_of78 (v : Value) (n : Int) (b : Bool) (w : World) (c35 : Calls Tryd.prog 35 #[.iface 78 v, .iface 29 (.int .i64 n), .bool true] w fun e w' => e = .returned (.bool b) ∧ Below w.heap.size w w') : Calls Tryd.prog 27 #[.iface 78 v, .iface 29 (.int .i64 n)] w fun e w' => e = .returned (.bool b) ∧ Below w.heap.size w w' := by
  have h34 := @run_callFunc_extern Tryd.prog 34 _ ReflectliteType.typeOf Tryd.func34 (by kernel_rfl) (by kernel_rfl) (by kernel_rfl) (by kernel_rfl)
  have h69 := @run_callFunc_extern Tryd.prog 69 _ (ReflectliteType.method fun t => do Rtype.noPackHeld "Comparable" t; pure (.bool (← typeInfo t).comparable)) Tryd.func69 (by kernel_rfl) (by kernel_rfl) (by kernel_rfl) (by kernel_rfl)
  have h1 := neq_errno
  have h2 := neq_join
  have tE := typeOf29
  have mC := methodComparable
  have cE := comparableN
  go_enter Tryd.func27, Tryd.ntmps27
  go_wp2_with (first | (go_at_call 35; refine c35.mono ?_; rintro e w' ⟨rfl, hB⟩))
  go_ret
  exact ⟨rfl, hB⟩
set_option maxHeartbeats 4000000 in
theorem errno_nil (w : World) : Calls Tryd.prog 23 #[.nilIface] w fun e w' => e = .returned (.int .i64 0) ∧ Below w.heap.size w w' := by
  have c27 := Is_nil 9 w
  go_enter Tryd.func23, Tryd.ntmps23
  go_wp2_with (first | (go_at_call 27; refine c27.mono ?_; rintro e w' ⟨rfl, rfl⟩) | (go_at_call 28; refine (as_nil _ _).mono ?_; rintro e w' ⟨rfl, rfl⟩))
  go_ret
  exact ⟨rfl, (Below.refl _ _).alloc (Nat.le_refl _) _⟩
set_option maxHeartbeats 4000000 in
theorem errno_is (x : Value) (w : World) (c27 : Calls Tryd.prog 27 #[x, .iface 29 (.int .i64 9)] w fun e w' => e = .returned (.bool true) ∧ Below w.heap.size w w') : Calls Tryd.prog 23 #[x] w fun e w' => e = .returned (.int .i64 9) ∧ Below w.heap.size w w' := by
  go_enter Tryd.func23, Tryd.ntmps23
  go_wp2_with (first | (go_at_call 27; refine c27.mono ?_; rintro e w' ⟨rfl, hB⟩))
  go_ret
  exact ⟨rfl, hB⟩
set_option maxHeartbeats 4000000 in
theorem errno_as (x : Value) (n : Int) (w : World) (c27 : Calls Tryd.prog 27 #[x, .iface 29 (.int .i64 9)] w fun e w' => e = .returned (.bool false) ∧ Below w.heap.size w w')
    (c28 : ∀ w', Below w.heap.size w w' → Calls Tryd.prog 28 #[x, .iface 59 (.pointer (some ⟨w'.heap.size, 0, none⟩))] (w'.alloc (.cells #[.int .i64 0] 29)) fun e w2 => e = .returned (.bool true) ∧ Below w.heap.size w w2 ∧ w2.cell? ⟨w'.heap.size, 0, none⟩ = some (.int .i64 n)) : Calls Tryd.prog 23 #[x] w fun e w' => e = .returned (.int .i64 n) ∧ Below w.heap.size w w' := by
  go_enter Tryd.func23, Tryd.ntmps23
  go_wp2_with (first | (go_at_call 27; refine c27.mono ?_; rintro e w' ⟨rfl, hB⟩) | (go_at_call 28; refine (c28 _ hB).mono ?_; rintro e w2 ⟨rfl, hB2, hcell⟩))
  go_ret
  exact ⟨rfl, hB2⟩
end Go.Proofs.YtbkemldecbcfhaaDoor.XE
