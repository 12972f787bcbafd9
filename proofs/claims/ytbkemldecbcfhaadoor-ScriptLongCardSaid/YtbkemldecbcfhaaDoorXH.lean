/- errors.As of several errors joined. -/
import Derived.Test.YtbkemldecbcfhaaDoorXG
set_option linter.unusedVariables false
set_option linter.unusedSimpArgs false
set_option maxRecDepth 100000
namespace Go.Proofs.YtbkemldecbcfhaaDoor.XE
open Go Go.RowKit Go.Extern.Stop Go.Stop Go.Extern

theorem cell_lt {w : World} {a : Addr} {v : Value} (h : w.cell? a = some v) : a.block < w.heap.size := by
  rcases Nat.lt_or_ge a.block w.heap.size with h' | h'
  · exact h'
  · simp [World.cell?, Array.getElem?_eq_none h'] at h
theorem neq_wrong (v : Value) (w : World) : (binOp .eql 53 (.iface 81 v) .nilIface).run Tryd.prog w = .ok (.bool false) w := Go.Proofs.YtbkemldecbcfhaaDoorR.eql_iface_nil 81 v Tryd.underlying53 w
set_option maxHeartbeats 4000000 in
theorem as_join (qb qo bb bo pb po : Nat) (n c : Nat) (hn : 0 < n) (t : Addr) (a : Addr) (e : Int) (old : Value) (w : World) (hq : w.cell? ⟨qb, qo, none⟩ = some (.slice (some ⟨bb, bo, none⟩) n c)) (hb : w.cell? ⟨bb, bo, none⟩ = some (.iface 81 (.pointer (some ⟨pb, po, none⟩)))) (hp : w.cell? ⟨pb, po + 1, none⟩ = some (.iface 29 (.int .i64 e))) (ha : w.cell? a = some (.pointer (some t))) (ht0 : w.cell? t = some old) (hf0 : w.frozen? t = false) :
    Calls Tryd.prog 39 #[.iface 78 (.pointer (some ⟨qb, qo, none⟩)), .iface 59 (.pointer (some t)), VL a, RT 29] w fun ev w' => ev = .returned (.bool true) ∧ w' = (((w.alloc (.cells #[.pointer (some ⟨1, 59, none⟩), .pointer (some a), .int .u64 150] 70)).alloc (.cells #[.pointer (some ⟨1, 59, none⟩), .pointer (some a), .int .u64 150] 70)).alloc (.cells #[.int .i64 e] 29)).setCell t (.int .i64 e) := by
  have h34 := @run_callFunc_extern Tryd.prog 34 _ ReflectliteType.typeOf Tryd.func34 (by kernel_rfl) (by kernel_rfl) (by kernel_rfl) (by kernel_rfl)
  have h68 := @run_callFunc_extern Tryd.prog 68 _ (ReflectliteType.relation "AssignableTo" ReflectliteType.assignableTo) Tryd.func68 (by kernel_rfl) (by kernel_rfl) (by kernel_rfl) (by kernel_rfl)
  have tW := typeOf78
  have mA := methodAssignableTo
  have aW := assignable78
  have nA := no_as78
  have nU := no_un78
  have hU := has_uns78
  have mU := method_un78
  have nq := neq_wrong
  have hal := cell_lt ha
  have htl := cell_lt ht0
  have hpl := cell_lt hp
  have hql := cell_lt hq
  have hbl := cell_lt hb
  have hp1 : (w.alloc (.cells #[.pointer (some ⟨1, 59, none⟩), .pointer (some a), .int .u64 150] 70)).cell? ⟨pb, po + 1, none⟩ = some (.iface 29 (.int .i64 e)) := by rw [World.cell?_alloc_lt _ _ _ hpl]; exact hp
  have hq1 : (w.alloc (.cells #[.pointer (some ⟨1, 59, none⟩), .pointer (some a), .int .u64 150] 70)).cell? ⟨qb, qo, none⟩ = some (.slice (some ⟨bb, bo, none⟩) n c) := by rw [World.cell?_alloc_lt _ _ _ hql]; exact hq
  have hb1 : (w.alloc (.cells #[.pointer (some ⟨1, 59, none⟩), .pointer (some a), .int .u64 150] 70)).cell? ⟨bb, bo, none⟩ = some (.iface 81 (.pointer (some ⟨pb, po, none⟩))) := by rw [World.cell?_alloc_lt _ _ _ hbl]; exact hb
  have ha1 : (w.alloc (.cells #[.pointer (some ⟨1, 59, none⟩), .pointer (some a), .int .u64 150] 70)).cell? a = some (.pointer (some t)) := by rw [World.cell?_alloc_lt _ _ _ hal]; exact ha
  have ht1 : (w.alloc (.cells #[.pointer (some ⟨1, 59, none⟩), .pointer (some a), .int .u64 150] 70)).cell? t = some old := by rw [World.cell?_alloc_lt _ _ _ htl]; exact ht0
  have hf1 : (w.alloc (.cells #[.pointer (some ⟨1, 59, none⟩), .pointer (some a), .int .u64 150] 70)).frozen? t = false := by rw [World.frozen?_alloc_old _ _ t (Nat.ne_of_lt htl)]; exact hf0
  have u64 := unwrap78 qb qo _ _ hq1
  have c39 := as_wrong pb po t a e old _ hp1 ha1 ht1 hf1
  have hn0 : ((0 : Int) < (n : Int)) := by omega
  go_enter Tryd.func39, Tryd.ntmps39
  go_wp2
  refine wp_loop_rounds 1 ?_
  rw [rounds_succ]
  go_wp2_with (first | (go_at_call 64; refine u64.mono ?_; rintro e w' ⟨rfl, rfl⟩))
  refine wp_loop_rounds 1 ?_
  rw [rounds_succ]
  go_wp2_with (first | (go_at_call 39; refine c39.mono ?_; rintro e w' ⟨rfl, rfl⟩))
  go_ret
  exact ⟨rfl, rfl⟩
end Go.Proofs.YtbkemldecbcfhaaDoor.XE
