/- errors.As, whole. -/
import Derived.Test.YtbkemldecbcfhaaDoorXH
set_option linter.unusedVariables false
set_option linter.unusedSimpArgs false
set_option maxRecDepth 100000
namespace Go.Proofs.YtbkemldecbcfhaaDoor.XE
open Go Go.RowKit Go.Extern.Stop Go.Stop Go.Extern

/-- The world in which errors.as is called. -/
abbrev wA (w : World) (t : Addr) : World := (w.alloc (.cells #[.pointer (some t)] 59)).alloc (.cells #[.pointer (some ⟨1, 59, none⟩), .pointer (some ⟨w.heap.size, 0, none⟩), .int .u64 150] 70)
theorem wA_old {w : World} {t b : Addr} (h : b.block < w.heap.size) : (wA w t).cell? b = w.cell? b := by
  rw [World.cell?_alloc_lt _ _ _ (by simp; omega), World.cell?_alloc_lt _ _ _ h]
theorem wA_new (w : World) (t : Addr) : (wA w t).cell? ⟨w.heap.size, 0, none⟩ = some (.pointer (some t)) := by
  rw [World.cell?_alloc_lt _ _ _ (by simp)]
  simp
theorem wA_frozen {w : World} {t b : Addr} (h : b.block < w.heap.size) : (wA w t).frozen? b = w.frozen? b := by
  rw [World.frozen?_alloc_old _ _ b (by simp; omega), World.frozen?_alloc_old _ _ b (by omega)]
theorem neq_join (v : Value) (w : World) : (binOp .eql 53 (.iface 78 v) .nilIface).run Tryd.prog w = .ok (.bool false) w := Go.Proofs.YtbkemldecbcfhaaDoorR.eql_iface_nil 78 v Tryd.underlying53 w
theorem neq_target (v : Value) (w : World) : (binOp .eql 20 (.iface 59 v) .nilIface).run Tryd.prog w = .ok (.bool false) w := Go.Proofs.YtbkemldecbcfhaaDoorR.eql_iface_nil 59 v Tryd.underlying20 w
set_option maxHeartbeats 4000000 in
theorem As_wrong (pb po : Nat) (t : Addr) (e : Int) (old : Value) (w : World) (hg : w.cell? ⟨0, 0, none⟩ = some (RT 53)) (hp : w.cell? ⟨pb, po + 1, none⟩ = some (.iface 29 (.int .i64 e))) (ht0 : w.cell? t = some old) (hf0 : w.frozen? t = false) :
    Calls Tryd.prog 28 #[.iface 81 (.pointer (some ⟨pb, po, none⟩)), .iface 59 (.pointer (some t))] w fun ev w' => ev = .returned (.bool true) ∧ w' = (((wA w t).alloc (.cells #[.pointer (some ⟨1, 59, none⟩), .pointer (some ⟨w.heap.size, 0, none⟩), .int .u64 150] 70)).alloc (.cells #[.int .i64 e] 29)).setCell t (.int .i64 e) := by
  have h36 := @run_callFunc_extern Tryd.prog 36 _ (fun args => ReflectliteValue.unpack (args.getD 0 (.tuple #[]))) Tryd.func36 (by kernel_rfl) (by kernel_rfl) (by kernel_rfl) (by kernel_rfl)
  have h37 := @run_callFunc_extern Tryd.prog 37 _ (ReflectliteValue.methodAny (ReflectliteValue.valueError "reflectlite.Value.Type" 0) (fun t _ _ _ => ReflectliteType.toType t)) Tryd.func37 (by kernel_rfl) (by kernel_rfl) (by kernel_rfl) (by kernel_rfl)
  have h38 := @run_callFunc_extern Tryd.prog 38 _ (ReflectliteValue.method (ReflectliteValue.valueError "reflectlite.Value.IsNil" 0) ReflectliteValue.isNil) Tryd.func38 (by kernel_rfl) (by kernel_rfl) (by kernel_rfl) (by kernel_rfl)
  have h56 := @run_callFunc_extern Tryd.prog 56 _ (ReflectliteType.abiMethod fun t => do pure (.int .u8 (← Rtype.kind t))) Tryd.func56 (by kernel_rfl) (by kernel_rfl) (by kernel_rfl) (by kernel_rfl)
  have h70 := @run_callFunc_extern Tryd.prog 70 _ (ReflectliteType.method ReflectliteType.elem) Tryd.func70 (by kernel_rfl) (by kernel_rfl) (by kernel_rfl) (by kernel_rfl)
  have h71 := @run_callFunc_extern Tryd.prog 71 _ (ReflectliteType.relation "Implements" ReflectliteType.implements_) Tryd.func71 (by kernel_rfl) (by kernel_rfl) (by kernel_rfl) (by kernel_rfl)
  have v59 := valueOf59
  have ty59 := type59
  have mK := methodKind
  have mE := methodElem
  have mI := methodImplements
  have k59 := kind59
  have k29 := kind29
  have e59 := elem59
  have i29 := implements29
  have nw := neq_wrong
  have nt := neq_target
  have htl := cell_lt ht0
  have hpl := cell_lt hp
  have hgl := cell_lt hg
  have hgA : (wA w t).cell? ⟨0, 0, none⟩ = some (RT 53) := by rw [wA_old hgl]; exact hg
  have n38 := isNil59 ⟨w.heap.size, 0, none⟩ t (wA w t) (wA_new w t)
  have c39 := as_wrong pb po t ⟨w.heap.size, 0, none⟩ e old (wA w t) (by rw [wA_old hpl]; exact hp) (wA_new w t) (by rw [wA_old htl]; exact ht0) (by rw [wA_frozen htl]; exact hf0)
  go_enter Tryd.func28, Tryd.ntmps28
  go_wp2_with (first | (go_at_call 39; refine c39.mono ?_; rintro e w' ⟨rfl, rfl⟩))
  go_ret
  exact ⟨rfl, rfl⟩
set_option maxHeartbeats 4000000 in
theorem As_join (qb qo bb bo pb po : Nat) (n c : Nat) (hn : 0 < n) (t : Addr) (e : Int) (old : Value) (w : World) (hg : w.cell? ⟨0, 0, none⟩ = some (RT 53)) (hq : w.cell? ⟨qb, qo, none⟩ = some (.slice (some ⟨bb, bo, none⟩) n c)) (hb : w.cell? ⟨bb, bo, none⟩ = some (.iface 81 (.pointer (some ⟨pb, po, none⟩)))) (hp : w.cell? ⟨pb, po + 1, none⟩ = some (.iface 29 (.int .i64 e))) (ht0 : w.cell? t = some old) (hf0 : w.frozen? t = false) :
    Calls Tryd.prog 28 #[.iface 78 (.pointer (some ⟨qb, qo, none⟩)), .iface 59 (.pointer (some t))] w fun ev w' => ev = .returned (.bool true) ∧ w' = ((((wA w t).alloc (.cells #[.pointer (some ⟨1, 59, none⟩), .pointer (some ⟨w.heap.size, 0, none⟩), .int .u64 150] 70)).alloc (.cells #[.pointer (some ⟨1, 59, none⟩), .pointer (some ⟨w.heap.size, 0, none⟩), .int .u64 150] 70)).alloc (.cells #[.int .i64 e] 29)).setCell t (.int .i64 e) := by
  have h36 := @run_callFunc_extern Tryd.prog 36 _ (fun args => ReflectliteValue.unpack (args.getD 0 (.tuple #[]))) Tryd.func36 (by kernel_rfl) (by kernel_rfl) (by kernel_rfl) (by kernel_rfl)
  have h37 := @run_callFunc_extern Tryd.prog 37 _ (ReflectliteValue.methodAny (ReflectliteValue.valueError "reflectlite.Value.Type" 0) (fun t _ _ _ => ReflectliteType.toType t)) Tryd.func37 (by kernel_rfl) (by kernel_rfl) (by kernel_rfl) (by kernel_rfl)
  have h38 := @run_callFunc_extern Tryd.prog 38 _ (ReflectliteValue.method (ReflectliteValue.valueError "reflectlite.Value.IsNil" 0) ReflectliteValue.isNil) Tryd.func38 (by kernel_rfl) (by kernel_rfl) (by kernel_rfl) (by kernel_rfl)
  have h56 := @run_callFunc_extern Tryd.prog 56 _ (ReflectliteType.abiMethod fun t => do pure (.int .u8 (← Rtype.kind t))) Tryd.func56 (by kernel_rfl) (by kernel_rfl) (by kernel_rfl) (by kernel_rfl)
  have h70 := @run_callFunc_extern Tryd.prog 70 _ (ReflectliteType.method ReflectliteType.elem) Tryd.func70 (by kernel_rfl) (by kernel_rfl) (by kernel_rfl) (by kernel_rfl)
  have h71 := @run_callFunc_extern Tryd.prog 71 _ (ReflectliteType.relation "Implements" ReflectliteType.implements_) Tryd.func71 (by kernel_rfl) (by kernel_rfl) (by kernel_rfl) (by kernel_rfl)
  have v59 := valueOf59
  have ty59 := type59
  have mK := methodKind
  have mE := methodElem
  have mI := methodImplements
  have k59 := kind59
  have k29 := kind29
  have e59 := elem59
  have i29 := implements29
  have nw := neq_join
  have nt := neq_target
  have htl := cell_lt ht0
  have hpl := cell_lt hp
  have hgl := cell_lt hg
  have hql := cell_lt hq
  have hbl := cell_lt hb
  have hgA : (wA w t).cell? ⟨0, 0, none⟩ = some (RT 53) := by rw [wA_old hgl]; exact hg
  have n38 := isNil59 ⟨w.heap.size, 0, none⟩ t (wA w t) (wA_new w t)
  have c39 := as_join qb qo bb bo pb po n c hn t ⟨w.heap.size, 0, none⟩ e old (wA w t) (by rw [wA_old hql]; exact hq) (by rw [wA_old hbl]; exact hb) (by rw [wA_old hpl]; exact hp) (wA_new w t) (by rw [wA_old htl]; exact ht0) (by rw [wA_frozen htl]; exact hf0)
  go_enter Tryd.func28, Tryd.ntmps28
  go_wp2_with (first | (go_at_call 39; refine c39.mono ?_; rintro e w' ⟨rfl, rfl⟩))
  go_ret
  exact ⟨rfl, rfl⟩
end Go.Proofs.YtbkemldecbcfhaaDoor.XE
