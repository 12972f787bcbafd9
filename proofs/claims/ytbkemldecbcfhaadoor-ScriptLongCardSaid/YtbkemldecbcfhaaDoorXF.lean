/- errors.As of a wrong field's error, of several joined, at an error number's variable. -/
import Derived.Test.YtbkemldecbcfhaaDoorXE
set_option linter.unusedVariables false
set_option linter.unusedSimpArgs false
set_option maxRecDepth 100000
namespace Go.Proofs.YtbkemldecbcfhaaDoor.XE
open Go Go.RowKit Go.Extern.Stop Go.Stop Go.Extern

theorem no_as81 (v : Value) (xT : TypeId) (w : World) : (Instr.typeAssert (.iface 81 v) xT 96 true).run Tryd.prog w = .ok (.tuple #[.nilIface, .bool false]) w := run_typeAssert_lacksB Tryd.underlying96 (by kernel_rfl) (by kernel_rfl) v xT w
theorem no_as78 (v : Value) (xT : TypeId) (w : World) : (Instr.typeAssert (.iface 78 v) xT 96 true).run Tryd.prog w = .ok (.tuple #[.nilIface, .bool false]) w := run_typeAssert_lacksB Tryd.underlying96 (by kernel_rfl) (by kernel_rfl) v xT w
theorem has_un81 (v : Value) (xT : TypeId) (w : World) : (Instr.typeAssert (.iface 81 v) xT 90 true).run Tryd.prog w = .ok (.tuple #[.iface 81 v, .bool true]) w := run_typeAssert_hasB Tryd.underlying90 (by kernel_rfl) v xT w
theorem no_un78 (v : Value) (xT : TypeId) (w : World) : (Instr.typeAssert (.iface 78 v) xT 90 true).run Tryd.prog w = .ok (.tuple #[.nilIface, .bool false]) w := run_typeAssert_lacksB Tryd.underlying90 (by kernel_rfl) (by kernel_rfl) v xT w
theorem has_uns78 (v : Value) (xT : TypeId) (w : World) : (Instr.typeAssert (.iface 78 v) xT 92 true).run Tryd.prog w = .ok (.tuple #[.iface 78 v, .bool true]) w := run_typeAssert_hasB Tryd.underlying92 (by kernel_rfl) v xT w
theorem method_un81 (v : Value) (w : World) : (Go.method 229 81 v "Unwrap").run Tryd.prog w = .ok (66, v) w := by kernel_rfl
theorem method_un78 (v : Value) (w : World) : (Go.method 229 78 v "Unwrap").run Tryd.prog w = .ok (64, v) w := by kernel_rfl
/-- A wrong field's why. -/
theorem unwrap81 (b o : Nat) (x : Value) (w : World) (h : w.cell? ⟨b, o + 1, none⟩ = some x) : Calls Tryd.prog 66 #[.pointer (some ⟨b, o, none⟩)] w fun e w' => e = .returned x ∧ w' = w := by
  go_enter Tryd.func66, Tryd.ntmps66
  go_wp2
  go_ret
  exact ⟨rfl, rfl⟩
theorem unwrap78 (b o : Nat) (x : Value) (w : World) (h : w.cell? ⟨b, o, none⟩ = some x) : Calls Tryd.prog 64 #[.pointer (some ⟨b, o, none⟩)] w fun e w' => e = .returned x ∧ w' = w := by
  go_enter Tryd.func64, Tryd.ntmps64
  go_wp2
  go_ret
  exact ⟨rfl, rfl⟩
end Go.Proofs.YtbkemldecbcfhaaDoor.XE
