/- errors.As, walked. -/
import Derived.Test.YtbkemldecbcfhaaDoorXF
set_option linter.unusedVariables false
set_option linter.unusedSimpArgs false
set_option maxRecDepth 100000
namespace Go.Proofs.YtbkemldecbcfhaaDoor.XE
open Go Go.RowKit Go.Extern.Stop Go.Stop Go.Extern

abbrev VL (a : Addr) : Value := .agg #[.pointer (some ⟨1, 59, none⟩), .pointer (some a), .int .u64 150]
abbrev RT (t : Nat) : Value := .iface 85 (.agg #[.pointer (some ⟨1, t, none⟩)])
set_option maxHeartbeats 4000000 in
theorem as_wrong (pb po : Nat) (t : Addr) (a : Addr) (e : Int) (old : Value) (w : World) (hp : w.cell? ⟨pb, po + 1, none⟩ = some (.iface 29 (.int .i64 e))) (ha : w.cell? a = some (.pointer (some t))) (ht0 : w.cell? t = some old) (hf0 : w.frozen? t = false) :
    Calls Tryd.prog 39 #[.iface 81 (.pointer (some ⟨pb, po, none⟩)), .iface 59 (.pointer (some t)), VL a, RT 29] w fun ev w' => ev = .returned (.bool true) ∧ w' = ((w.alloc (.cells #[.pointer (some ⟨1, 59, none⟩), .pointer (some a), .int .u64 150] 70)).alloc (.cells #[.int .i64 e] 29)).setCell t (.int .i64 e) := by
  have h34 := @run_callFunc_extern Tryd.prog 34 _ ReflectliteType.typeOf Tryd.func34 (by kernel_rfl) (by kernel_rfl) (by kernel_rfl) (by kernel_rfl)
  have h36 := @run_callFunc_extern Tryd.prog 36 _ (fun args => ReflectliteValue.unpack (args.getD 0 (.tuple #[]))) Tryd.func36 (by kernel_rfl) (by kernel_rfl) (by kernel_rfl) (by kernel_rfl)
  have h68 := @run_callFunc_extern Tryd.prog 68 _ (ReflectliteType.relation "AssignableTo" ReflectliteType.assignableTo) Tryd.func68 (by kernel_rfl) (by kernel_rfl) (by kernel_rfl) (by kernel_rfl)
  have h40 := @run_callFunc_extern Tryd.prog 40 _ (ReflectliteValue.method (ReflectliteValue.valueError "reflectlite.Value.Elem" 0) ReflectliteValue.elem) Tryd.func40 (by kernel_rfl) (by kernel_rfl) (by kernel_rfl) (by kernel_rfl)
  have h41 := @run_callFunc_extern Tryd.prog 41 _ ReflectliteValue.set Tryd.func41 (by kernel_rfl) (by kernel_rfl) (by kernel_rfl) (by kernel_rfl)
  have tW := typeOf81
  have tE := typeOf29
  have mA := methodAssignableTo
  have aW := assignable81
  have aE := assignable29
  have nA := no_as81
  have hU := has_un81
  have mU := method_un81
  have v29 := valueOf29
  have hal : a.block < w.heap.size := by
    rcases Nat.lt_or_ge a.block w.heap.size with h | h
    · exact h
    · simp [World.cell?, Array.getElem?_eq_none h] at ha
  have htl : t.block < w.heap.size := by
    rcases Nat.lt_or_ge t.block w.heap.size with h | h
    · exact h
    · simp [World.cell?, Array.getElem?_eq_none h] at ht0
  have hpl : pb < w.heap.size := by
    rcases Nat.lt_or_ge pb w.heap.size with h | h
    · exact h
    · simp [World.cell?, Array.getElem?_eq_none h] at hp
  have hp1 : (w.alloc (.cells #[.pointer (some ⟨1, 59, none⟩), .pointer (some a), .int .u64 150] 70)).cell? ⟨pb, po + 1, none⟩ = some (.iface 29 (.int .i64 e)) := by rw [World.cell?_alloc_lt _ _ _ hpl]; exact hp
  have el := elemV59 a t (w.alloc (.cells #[.pointer (some ⟨1, 59, none⟩), .pointer (some a), .int .u64 150] 70)) (by rw [World.cell?_alloc_lt _ _ _ hal]; exact ha)
  have st := set29 t ⟨w.heap.size + 1, 0, none⟩ e old ((w.alloc (.cells #[.pointer (some ⟨1, 59, none⟩), .pointer (some a), .int .u64 150] 70)).alloc (.cells #[.int .i64 e] 29))
    (by rw [World.cell?_alloc_at _ _ _ _ (by simp)]; rfl)
    (by rw [World.cell?_alloc_lt _ _ t (by simp; omega), World.cell?_alloc_lt _ _ t htl]; exact ht0)
    (by rw [World.frozen?_alloc_old _ _ t (by simp; omega), World.frozen?_alloc_old _ _ t (Nat.ne_of_lt htl)]; exact hf0)
  have u66 := unwrap81 pb po _ _ hp1
  go_enter Tryd.func39, Tryd.ntmps39
  go_wp2
  refine wp_loop_rounds 2 ?_
  rw [rounds_succ]
  go_wp2_with (first | (go_at_call 66; refine u66.mono ?_; rintro e w' ⟨rfl, rfl⟩))
  rw [rounds_succ]
  go_wp2
  go_ret
  exact ⟨rfl, rfl⟩
end Go.Proofs.YtbkemldecbcfhaaDoor.XE
