/- Texts joined: XE XF XG XH XI2 XK IE EA EB XL XM IC XN XI IB XJ. -/
import Derived.Test.YtdflglehippoiaaGreatDoorZR3
import Derived.Test.YtdflglehippoiaaGreatDoorProg
import Derived.WalkKit
import Derived.LaidEql
import Derived.Stop.Asserts
import Derived.RowKitTokens
import Derived.IntWalk
import Derived.Shelf.Spec.SlicesInsertGrow
set_option linter.unusedVariables false
set_option linter.unusedSimpArgs false
set_option maxRecDepth 100000
namespace Go.Proofs.YtdflglehippoiaaGreatDoor.XE
open Go Go.RowKit Go.Extern.Stop Go.Stop Go.Extern

theorem as_nil (t : Value) (w : World) : Calls Tryz.prog 139 #[.nilIface, t] w fun e w' => e = .returned (.bool false) ∧ w' = w := by
 go_enter Tryz.func139, Tryz.ntmps139
 go_wp2
 go_ret
 exact ⟨rfl, rfl⟩
theorem valueOf59 (t : Addr) (w : World) : (ReflectliteValue.unpack (.iface 145 (.pointer (some t)))).run Tryz.prog w
  = .ok (.agg #[.pointer (some ⟨1, 145, none⟩), .pointer (some ⟨w.heap.size, 0, none⟩), .int .u64 150]) (w.alloc (.cells #[.pointer (some t)] 145)) := by kernel_rfl
theorem type59 (a : Addr) (w : World) : (ReflectliteValue.methodAny (ReflectliteValue.valueError "reflectlite.Value.Type" 0) (fun t _ _ _ => ReflectliteType.toType t) #[.agg #[.pointer (some ⟨1, 145, none⟩), .pointer (some a), .int .u64 150]]).run Tryz.prog w
  = .ok (.iface 199 (.agg #[.pointer (some ⟨1, 145, none⟩)])) w := by kernel_rfl
theorem methodKind (h : Value) (w : World) : (Go.method 353 199 (.agg #[h]) "Kind").run Tryz.prog w = .ok (216, h) w := by kernel_rfl
theorem kind59 (w : World) : ((ReflectliteType.abiMethod fun t => (fun a : Nat => Value.int IntKind.u8 (a : Int)) <$> Rtype.kind t) #[.pointer (some ⟨1, 145, none⟩)]).run Tryz.prog w = .ok (.int .u8 22) w := by kernel_rfl
theorem kind29 (w : World) : ((ReflectliteType.abiMethod fun t => (fun a : Nat => Value.int IntKind.u8 (a : Int)) <$> Rtype.kind t) #[.pointer (some ⟨1, 34, none⟩)]).run Tryz.prog w = .ok (.int .u8 2) w := by kernel_rfl
theorem rlm (z : Sem Value) (f : TypeId → Addr → Nat → Nat → Sem Value) (v : Value) :
  ReflectliteValue.method z f #[v] = (do match ← ReflectliteValue.parts v with | none => z | some (t, a, fl) => f t a fl (fl % 32)) := rfl
theorem parts59 (a : Addr) (w : World) : (ReflectliteValue.parts (.agg #[.pointer (some ⟨1, 145, none⟩), .pointer (some a), .int .u64 150])).run Tryz.prog w = .ok (some (145, a, 150)) w := by kernel_rfl
theorem isNil59 (a p : Addr) (W : World) (ha : W.cell? a = some (.pointer (some p))) :
  (ReflectliteValue.method (ReflectliteValue.valueError "reflectlite.Value.IsNil" 0) ReflectliteValue.isNil #[.agg #[.pointer (some ⟨1, 145, none⟩), .pointer (some a), .int .u64 150]]).run Tryz.prog W = .ok (.bool false) W := by
 rw [rlm]
 simp only [Sem.run_bind, parts59, Result.andThen]
 simp [ReflectliteValue.isNil, loadVar, isAgg, underlying, Tryz.underlying145, ha, Result.andThen]
theorem methodElem (h : Value) (w : World) : (Go.method 353 199 (.agg #[h]) "Elem").run Tryz.prog w = .ok (230, .agg #[h]) w := by kernel_rfl
theorem methodImplements (h : Value) (w : World) : (Go.method 353 199 (.agg #[h]) "Implements").run Tryz.prog w = .ok (231, .agg #[h]) w := by kernel_rfl
theorem methodAssignableTo (h : Value) (w : World) : (Go.method 353 199 (.agg #[h]) "AssignableTo").run Tryz.prog w = .ok (228, .agg #[h]) w := by kernel_rfl
theorem methodComparable (h : Value) (w : World) : (Go.method 353 199 (.agg #[h]) "Comparable").run Tryz.prog w = .ok (229, .agg #[h]) w := by kernel_rfl
theorem elem59 (w : World) : (ReflectliteType.method ReflectliteType.elem #[.agg #[.pointer (some ⟨1, 145, none⟩)]]).run Tryz.prog w = .ok (.iface 199 (.agg #[.pointer (some ⟨1, 34, none⟩)])) w := by kernel_rfl
theorem implements29 (w : World) : (ReflectliteType.relation "Implements" ReflectliteType.implements_ #[.agg #[.pointer (some ⟨1, 34, none⟩)], .iface 199 (.agg #[.pointer (some ⟨1, 119, none⟩)])]).run Tryz.prog w = .ok (.bool true) w := by kernel_rfl
theorem typeOf29 (v : Value) (w : World) : (ReflectliteType.typeOf #[.iface 34 v]).run Tryz.prog w = .ok (.iface 199 (.agg #[.pointer (some ⟨1, 34, none⟩)])) w := by kernel_rfl
theorem typeOf81 (v : Value) (w : World) : (ReflectliteType.typeOf #[.iface 185 v]).run Tryz.prog w = .ok (.iface 199 (.agg #[.pointer (some ⟨1, 185, none⟩)])) w := by kernel_rfl
theorem typeOf78 (v : Value) (w : World) : (ReflectliteType.typeOf #[.iface 182 v]).run Tryz.prog w = .ok (.iface 199 (.agg #[.pointer (some ⟨1, 182, none⟩)])) w := by kernel_rfl
theorem assignable29 (w : World) : (ReflectliteType.relation "AssignableTo" ReflectliteType.assignableTo #[.agg #[.pointer (some ⟨1, 34, none⟩)], .iface 199 (.agg #[.pointer (some ⟨1, 34, none⟩)])]).run Tryz.prog w = .ok (.bool true) w := by kernel_rfl
theorem assignable81 (w : World) : (ReflectliteType.relation "AssignableTo" ReflectliteType.assignableTo #[.agg #[.pointer (some ⟨1, 185, none⟩)], .iface 199 (.agg #[.pointer (some ⟨1, 34, none⟩)])]).run Tryz.prog w = .ok (.bool false) w := by kernel_rfl
theorem assignable78 (w : World) : (ReflectliteType.relation "AssignableTo" ReflectliteType.assignableTo #[.agg #[.pointer (some ⟨1, 182, none⟩)], .iface 199 (.agg #[.pointer (some ⟨1, 34, none⟩)])]).run Tryz.prog w = .ok (.bool false) w := by kernel_rfl
theorem valueOf29 (e : Int) (w : World) : (ReflectliteValue.unpack (.iface 34 (.int .i64 e))).run Tryz.prog w
  = .ok (.agg #[.pointer (some ⟨1, 34, none⟩), .pointer (some ⟨w.heap.size, 0, none⟩), .int .u64 130]) (w.alloc (.cells #[.int .i64 e] 34)) := by kernel_rfl
theorem elemOf59 (w : World) : (Rtype.elem? 145).run Tryz.prog w = .ok (some 34) w := by kernel_rfl
theorem mk29 (p : Addr) (w : World) : (ReflectliteValue.mk 34 p ReflectliteValue.flagAddr).run Tryz.prog w = .ok (.agg #[.pointer (some ⟨1, 34, none⟩), .pointer (some p), .int .u64 386]) w := by kernel_rfl
theorem elemV59 (a p : Addr) (W : World) (ha : W.cell? a = some (.pointer (some p))) :
  (ReflectliteValue.method (ReflectliteValue.valueError "reflectlite.Value.Elem" 0) ReflectliteValue.elem #[.agg #[.pointer (some ⟨1, 145, none⟩), .pointer (some a), .int .u64 150]]).run Tryz.prog W
   = .ok (.agg #[.pointer (some ⟨1, 34, none⟩), .pointer (some p), .int .u64 386]) W := by
 rw [rlm]
 simp only [Sem.run_bind, parts59, Result.andThen]
 simp [ReflectliteValue.elem, loadVar, isAgg, underlying, Tryz.underlying145, ha, Result.andThen, elemOf59, mk29]
theorem rls (v x : Value) : ReflectliteValue.set #[v, x] = (do
  let (some (dst, a, fl), some (src, b, _)) := (← ReflectliteValue.parts v, ← ReflectliteValue.parts x)
   | unsupported (.noEntry "extern/(internal/reflectlite.Value).Set.zeroValue")
  if fl / ReflectliteValue.flagAddr % 2 == 0 then unsupported (.noEntry "extern/(internal/reflectlite.Value).Set.unaddressable")
  let val ← loadVar src b
  if ← Rtype.directlyAssignable dst src then storeVar dst a val
  else if ← Rtype.implements dst src then
   if (← Rtype.kind src) == 20 then
    match val with
    | .nilIface => unsupported (.noEntry "extern/reflectlite: a nil value of one interface type handed on as a value of another")
    | _ => storeVar dst a val
   else storeVar dst a (.iface src val)
  else panicString ("reflectlite.Set: value of type " ++ (← Rtype.spelt src) ++ " is not assignable to type " ++ (← Rtype.spelt dst))
  pure (.tuple #[])) := rfl
theorem parts29a (a : Addr) (w : World) : (ReflectliteValue.parts (.agg #[.pointer (some ⟨1, 34, none⟩), .pointer (some a), .int .u64 386])).run Tryz.prog w = .ok (some (34, a, 386)) w := by kernel_rfl
theorem parts29 (a : Addr) (w : World) : (ReflectliteValue.parts (.agg #[.pointer (some ⟨1, 34, none⟩), .pointer (some a), .int .u64 130])).run Tryz.prog w = .ok (some (34, a, 130)) w := by kernel_rfl
theorem direct29 (w : World) : (Rtype.directlyAssignable 34 34).run Tryz.prog w = .ok true w := by kernel_rfl
theorem set29 (ta b : Addr) (e : Int) (old : Value) (W : World) (hb : W.cell? b = some (.int .i64 e)) (ht : W.cell? ta = some old) (hf : W.frozen? ta = false) :
  (ReflectliteValue.set #[.agg #[.pointer (some ⟨1, 34, none⟩), .pointer (some ta), .int .u64 386], .agg #[.pointer (some ⟨1, 34, none⟩), .pointer (some b), .int .u64 130]]).run Tryz.prog W
   = .ok (.tuple #[]) (W.setCell ta (.int .i64 e)) := by
 rw [rls]
 simp only [Sem.run_bind, parts29a, parts29, Result.andThen]
 simp [ReflectliteValue.flagAddr, loadVar, isAgg, underlying, Tryz.underlying34, hb, Result.andThen, direct29, storeVar, Value.cells, storeCells, Addr.add]
 rw [run_store Tryz.prog W ta _ _ (by rfl)]
 simp [ht, hf]
end Go.Proofs.YtdflglehippoiaaGreatDoor.XE
set_option maxRecDepth 100000
namespace Go.Proofs.YtdflglehippoiaaGreatDoor.XE
open Go Go.RowKit Go.Extern.Stop Go.Stop Go.Extern

theorem no_as81 (v : Value) (xT : TypeId) (w : World) : (Instr.typeAssert (.iface 185 v) xT 210 true).run Tryz.prog w = .ok (.tuple #[.nilIface, .bool false]) w := run_typeAssert_lacksB Tryz.underlying210 (by kernel_rfl) (by kernel_rfl) v xT w
theorem no_as78 (v : Value) (xT : TypeId) (w : World) : (Instr.typeAssert (.iface 182 v) xT 210 true).run Tryz.prog w = .ok (.tuple #[.nilIface, .bool false]) w := run_typeAssert_lacksB Tryz.underlying210 (by kernel_rfl) (by kernel_rfl) v xT w
theorem has_un81 (v : Value) (xT : TypeId) (w : World) : (Instr.typeAssert (.iface 185 v) xT 204 true).run Tryz.prog w = .ok (.tuple #[.iface 185 v, .bool true]) w := run_typeAssert_hasB Tryz.underlying204 (by kernel_rfl) v xT w
theorem no_un78 (v : Value) (xT : TypeId) (w : World) : (Instr.typeAssert (.iface 182 v) xT 204 true).run Tryz.prog w = .ok (.tuple #[.nilIface, .bool false]) w := run_typeAssert_lacksB Tryz.underlying204 (by kernel_rfl) (by kernel_rfl) v xT w
theorem has_uns78 (v : Value) (xT : TypeId) (w : World) : (Instr.typeAssert (.iface 182 v) xT 206 true).run Tryz.prog w = .ok (.tuple #[.iface 182 v, .bool true]) w := run_typeAssert_hasB Tryz.underlying206 (by kernel_rfl) v xT w
theorem method_un81 (v : Value) (w : World) : (Go.method 353 185 v "Unwrap").run Tryz.prog w = .ok (226, v) w := by kernel_rfl
theorem method_un78 (v : Value) (w : World) : (Go.method 353 182 v "Unwrap").run Tryz.prog w = .ok (224, v) w := by kernel_rfl
theorem unwrap81 (b o : Nat) (x : Value) (w : World) (h : w.cell? ⟨b, o + 1, none⟩ = some x) : Calls Tryz.prog 226 #[.pointer (some ⟨b, o, none⟩)] w fun e w' => e = .returned x ∧ w' = w := by
 go_enter Tryz.func226, Tryz.ntmps226
 go_wp2
 go_ret
 exact ⟨rfl, rfl⟩
theorem unwrap78 (b o : Nat) (x : Value) (w : World) (h : w.cell? ⟨b, o, none⟩ = some x) : Calls Tryz.prog 224 #[.pointer (some ⟨b, o, none⟩)] w fun e w' => e = .returned x ∧ w' = w := by
 go_enter Tryz.func224, Tryz.ntmps224
 go_wp2
 go_ret
 exact ⟨rfl, rfl⟩
end Go.Proofs.YtdflglehippoiaaGreatDoor.XE
set_option maxRecDepth 100000
namespace Go.Proofs.YtdflglehippoiaaGreatDoor.XE
open Go Go.RowKit Go.Extern.Stop Go.Stop Go.Extern

abbrev VL (a : Addr) : Value := .agg #[.pointer (some ⟨1, 145, none⟩), .pointer (some a), .int .u64 150]
abbrev RT (t : Nat) : Value := .iface 199 (.agg #[.pointer (some ⟨1, t, none⟩)])
set_option maxHeartbeats 4000000 in
theorem as_wrong (pb po : Nat) (t : Addr) (a : Addr) (e : Int) (old : Value) (w : World) (hp : w.cell? ⟨pb, po + 1, none⟩ = some (.iface 34 (.int .i64 e))) (ha : w.cell? a = some (.pointer (some t))) (ht0 : w.cell? t = some old) (hf0 : w.frozen? t = false) :
  Calls Tryz.prog 173 #[.iface 185 (.pointer (some ⟨pb, po, none⟩)), .iface 145 (.pointer (some t)), VL a, RT 34] w fun ev w' => ev = .returned (.bool true) ∧ w' = ((w.alloc (.cells #[.pointer (some ⟨1, 145, none⟩), .pointer (some a), .int .u64 150] 174)).alloc (.cells #[.int .i64 e] 34)).setCell t (.int .i64 e) := by
 have h34 := @run_callFunc_extern Tryz.prog 168 _ ReflectliteType.typeOf Tryz.func168 (by kernel_rfl) (by kernel_rfl) (by kernel_rfl) (by kernel_rfl)
 have h36 := @run_callFunc_extern Tryz.prog 170 _ (fun args => ReflectliteValue.unpack (args.getD 0 (.tuple #[]))) Tryz.func170 (by kernel_rfl) (by kernel_rfl) (by kernel_rfl) (by kernel_rfl)
 have h68 := @run_callFunc_extern Tryz.prog 228 _ (ReflectliteType.relation "AssignableTo" ReflectliteType.assignableTo) Tryz.func228 (by kernel_rfl) (by kernel_rfl) (by kernel_rfl) (by kernel_rfl)
 have h40 := @run_callFunc_extern Tryz.prog 188 _ (ReflectliteValue.method (ReflectliteValue.valueError "reflectlite.Value.Elem" 0) ReflectliteValue.elem) Tryz.func188 (by kernel_rfl) (by kernel_rfl) (by kernel_rfl) (by kernel_rfl)
 have h41 := @run_callFunc_extern Tryz.prog 189 _ ReflectliteValue.set Tryz.func189 (by kernel_rfl) (by kernel_rfl) (by kernel_rfl) (by kernel_rfl)
 have tW := typeOf81
 have tE := typeOf29
 have mA := methodAssignableTo
 have aW := assignable81
 have aE := assignable29
 have nA := no_as81
 have hU := has_un81
 have mU := method_un81
 have v29 := valueOf29
 have hal : a.block < w.heap.size := by
  rcases Nat.lt_or_ge a.block w.heap.size with h | h
  ·exact h
  ·simp [World.cell?, Array.getElem?_eq_none h] at ha
 have htl : t.block < w.heap.size := by
  rcases Nat.lt_or_ge t.block w.heap.size with h | h
  ·exact h
  ·simp [World.cell?, Array.getElem?_eq_none h] at ht0
 have hpl : pb < w.heap.size := by
  rcases Nat.lt_or_ge pb w.heap.size with h | h
  ·exact h
  ·simp [World.cell?, Array.getElem?_eq_none h] at hp
 have hp1 : (w.alloc (.cells #[.pointer (some ⟨1, 145, none⟩), .pointer (some a), .int .u64 150] 174)).cell? ⟨pb, po + 1, none⟩ = some (.iface 34 (.int .i64 e)) := by rw [World.cell?_alloc_lt _ _ _ hpl]; exact hp
 have el := elemV59 a t (w.alloc (.cells #[.pointer (some ⟨1, 145, none⟩), .pointer (some a), .int .u64 150] 174)) (by rw [World.cell?_alloc_lt _ _ _ hal]; exact ha)
 have st := set29 t ⟨w.heap.size + 1, 0, none⟩ e old ((w.alloc (.cells #[.pointer (some ⟨1, 145, none⟩), .pointer (some a), .int .u64 150] 174)).alloc (.cells #[.int .i64 e] 34))
  (by rw [World.cell?_alloc_at _ _ _ _ (by simp)]; rfl)
  (by rw [World.cell?_alloc_lt _ _ t (by simp; omega), World.cell?_alloc_lt _ _ t htl]; exact ht0)
  (by rw [World.frozen?_alloc_old _ _ t (by simp; omega), World.frozen?_alloc_old _ _ t (Nat.ne_of_lt htl)]; exact hf0)
 have u66 := unwrap81 pb po _ _ hp1
 go_enter Tryz.func173, Tryz.ntmps173
 go_wp2
 refine wp_loop_rounds 2 ?_
 rw [rounds_succ]
 go_wp2_with (first | (go_at_call 226; refine u66.mono ?_; rintro e w' ⟨rfl, rfl⟩))
 rw [rounds_succ]
 go_wp2
 go_ret
 exact ⟨rfl, rfl⟩
end Go.Proofs.YtdflglehippoiaaGreatDoor.XE
set_option maxRecDepth 100000
namespace Go.Proofs.YtdflglehippoiaaGreatDoor.XE
open Go Go.RowKit Go.Extern.Stop Go.Stop Go.Extern

theorem cell_lt {w : World} {a : Addr} {v : Value} (h : w.cell? a = some v) : a.block < w.heap.size := by
 rcases Nat.lt_or_ge a.block w.heap.size with h' | h'
 ·exact h'
 ·simp [World.cell?, Array.getElem?_eq_none h'] at h
theorem neq_wrong (v : Value) (w : World) : (binOp .eql 119 (.iface 185 v) .nilIface).run Tryz.prog w = .ok (.bool false) w := Go.Proofs.YtdflglehippoiaaGreatDoorR.eql_iface_nil 185 v Tryz.underlying119 w
set_option maxHeartbeats 4000000 in
theorem as_join (qb qo bb bo pb po : Nat) (n c : Nat) (hn : 0 < n) (t : Addr) (a : Addr) (e : Int) (old : Value) (w : World) (hq : w.cell? ⟨qb, qo, none⟩ = some (.slice (some ⟨bb, bo, none⟩) n c)) (hb : w.cell? ⟨bb, bo, none⟩ = some (.iface 185 (.pointer (some ⟨pb, po, none⟩)))) (hp : w.cell? ⟨pb, po + 1, none⟩ = some (.iface 34 (.int .i64 e))) (ha : w.cell? a = some (.pointer (some t))) (ht0 : w.cell? t = some old) (hf0 : w.frozen? t = false) :
  Calls Tryz.prog 173 #[.iface 182 (.pointer (some ⟨qb, qo, none⟩)), .iface 145 (.pointer (some t)), VL a, RT 34] w fun ev w' => ev = .returned (.bool true) ∧ w' = (((w.alloc (.cells #[.pointer (some ⟨1, 145, none⟩), .pointer (some a), .int .u64 150] 174)).alloc (.cells #[.pointer (some ⟨1, 145, none⟩), .pointer (some a), .int .u64 150] 174)).alloc (.cells #[.int .i64 e] 34)).setCell t (.int .i64 e) := by
 have h34 := @run_callFunc_extern Tryz.prog 168 _ ReflectliteType.typeOf Tryz.func168 (by kernel_rfl) (by kernel_rfl) (by kernel_rfl) (by kernel_rfl)
 have h68 := @run_callFunc_extern Tryz.prog 228 _ (ReflectliteType.relation "AssignableTo" ReflectliteType.assignableTo) Tryz.func228 (by kernel_rfl) (by kernel_rfl) (by kernel_rfl) (by kernel_rfl)
 have tW := typeOf78
 have mA := methodAssignableTo
 have aW := assignable78
 have nA := no_as78
 have nU := no_un78
 have hU := has_uns78
 have mU := method_un78
 have nq := neq_wrong
 have hal := cell_lt ha
 have htl := cell_lt ht0
 have hpl := cell_lt hp
 have hql := cell_lt hq
 have hbl := cell_lt hb
 have hp1 : (w.alloc (.cells #[.pointer (some ⟨1, 145, none⟩), .pointer (some a), .int .u64 150] 174)).cell? ⟨pb, po + 1, none⟩ = some (.iface 34 (.int .i64 e)) := by rw [World.cell?_alloc_lt _ _ _ hpl]; exact hp
 have hq1 : (w.alloc (.cells #[.pointer (some ⟨1, 145, none⟩), .pointer (some a), .int .u64 150] 174)).cell? ⟨qb, qo, none⟩ = some (.slice (some ⟨bb, bo, none⟩) n c) := by rw [World.cell?_alloc_lt _ _ _ hql]; exact hq
 have hb1 : (w.alloc (.cells #[.pointer (some ⟨1, 145, none⟩), .pointer (some a), .int .u64 150] 174)).cell? ⟨bb, bo, none⟩ = some (.iface 185 (.pointer (some ⟨pb, po, none⟩))) := by rw [World.cell?_alloc_lt _ _ _ hbl]; exact hb
 have ha1 : (w.alloc (.cells #[.pointer (some ⟨1, 145, none⟩), .pointer (some a), .int .u64 150] 174)).cell? a = some (.pointer (some t)) := by rw [World.cell?_alloc_lt _ _ _ hal]; exact ha
 have ht1 : (w.alloc (.cells #[.pointer (some ⟨1, 145, none⟩), .pointer (some a), .int .u64 150] 174)).cell? t = some old := by rw [World.cell?_alloc_lt _ _ _ htl]; exact ht0
 have hf1 : (w.alloc (.cells #[.pointer (some ⟨1, 145, none⟩), .pointer (some a), .int .u64 150] 174)).frozen? t = false := by rw [World.frozen?_alloc_old _ _ t (Nat.ne_of_lt htl)]; exact hf0
 have u64 := unwrap78 qb qo _ _ hq1
 have c39 := as_wrong pb po t a e old _ hp1 ha1 ht1 hf1
 have hn0 : ((0 : Int) < (n : Int)) := by omega
 go_enter Tryz.func173, Tryz.ntmps173
 go_wp2
 refine wp_loop_rounds 1 ?_
 rw [rounds_succ]
 go_wp2_with (first | (go_at_call 224; refine u64.mono ?_; rintro e w' ⟨rfl, rfl⟩))
 refine wp_loop_rounds 1 ?_
 rw [rounds_succ]
 go_wp2_with (first | (go_at_call 173; refine c39.mono ?_; rintro e w' ⟨rfl, rfl⟩))
 go_ret
 exact ⟨rfl, rfl⟩
end Go.Proofs.YtdflglehippoiaaGreatDoor.XE
set_option maxRecDepth 100000
namespace Go.Proofs.YtdflglehippoiaaGreatDoor.XE
open Go Go.RowKit Go.Extern.Stop Go.Stop Go.Extern

abbrev wA (w : World) (t : Addr) : World := (w.alloc (.cells #[.pointer (some t)] 145)).alloc (.cells #[.pointer (some ⟨1, 145, none⟩), .pointer (some ⟨w.heap.size, 0, none⟩), .int .u64 150] 174)
theorem wA_old {w : World} {t b : Addr} (h : b.block < w.heap.size) : (wA w t).cell? b = w.cell? b := by
 rw [World.cell?_alloc_lt _ _ _ (by simp; omega), World.cell?_alloc_lt _ _ _ h]
theorem wA_new (w : World) (t : Addr) : (wA w t).cell? ⟨w.heap.size, 0, none⟩ = some (.pointer (some t)) := by
 rw [World.cell?_alloc_lt _ _ _ (by simp)]
 simp
theorem wA_frozen {w : World} {t b : Addr} (h : b.block < w.heap.size) : (wA w t).frozen? b = w.frozen? b := by
 rw [World.frozen?_alloc_old _ _ b (by simp; omega), World.frozen?_alloc_old _ _ b (by omega)]
theorem neq_join (v : Value) (w : World) : (binOp .eql 119 (.iface 182 v) .nilIface).run Tryz.prog w = .ok (.bool false) w := Go.Proofs.YtdflglehippoiaaGreatDoorR.eql_iface_nil 182 v Tryz.underlying119 w
theorem neq_target (v : Value) (w : World) : (binOp .eql 20 (.iface 145 v) .nilIface).run Tryz.prog w = .ok (.bool false) w := Go.Proofs.YtdflglehippoiaaGreatDoorR.eql_iface_nil 145 v Tryz.underlying20 w
set_option maxHeartbeats 4000000 in
theorem As_wrong (pb po : Nat) (t : Addr) (e : Int) (old : Value) (w : World) (hg : w.cell? ⟨0, 0, none⟩ = some (RT 119)) (hp : w.cell? ⟨pb, po + 1, none⟩ = some (.iface 34 (.int .i64 e))) (ht0 : w.cell? t = some old) (hf0 : w.frozen? t = false) :
  Calls Tryz.prog 139 #[.iface 185 (.pointer (some ⟨pb, po, none⟩)), .iface 145 (.pointer (some t))] w fun ev w' => ev = .returned (.bool true) ∧ w' = (((wA w t).alloc (.cells #[.pointer (some ⟨1, 145, none⟩), .pointer (some ⟨w.heap.size, 0, none⟩), .int .u64 150] 174)).alloc (.cells #[.int .i64 e] 34)).setCell t (.int .i64 e) := by
 have h36 := @run_callFunc_extern Tryz.prog 170 _ (fun args => ReflectliteValue.unpack (args.getD 0 (.tuple #[]))) Tryz.func170 (by kernel_rfl) (by kernel_rfl) (by kernel_rfl) (by kernel_rfl)
 have h37 := @run_callFunc_extern Tryz.prog 171 _ (ReflectliteValue.methodAny (ReflectliteValue.valueError "reflectlite.Value.Type" 0) (fun t _ _ _ => ReflectliteType.toType t)) Tryz.func171 (by kernel_rfl) (by kernel_rfl) (by kernel_rfl) (by kernel_rfl)
 have h38 := @run_callFunc_extern Tryz.prog 172 _ (ReflectliteValue.method (ReflectliteValue.valueError "reflectlite.Value.IsNil" 0) ReflectliteValue.isNil) Tryz.func172 (by kernel_rfl) (by kernel_rfl) (by kernel_rfl) (by kernel_rfl)
 have h56 := @run_callFunc_extern Tryz.prog 216 _ (ReflectliteType.abiMethod fun t => do pure (.int .u8 (← Rtype.kind t))) Tryz.func216 (by kernel_rfl) (by kernel_rfl) (by kernel_rfl) (by kernel_rfl)
 have h70 := @run_callFunc_extern Tryz.prog 230 _ (ReflectliteType.method ReflectliteType.elem) Tryz.func230 (by kernel_rfl) (by kernel_rfl) (by kernel_rfl) (by kernel_rfl)
 have h71 := @run_callFunc_extern Tryz.prog 231 _ (ReflectliteType.relation "Implements" ReflectliteType.implements_) Tryz.func231 (by kernel_rfl) (by kernel_rfl) (by kernel_rfl) (by kernel_rfl)
 have v59 := valueOf59
 have ty59 := type59
 have mK := methodKind
 have mE := methodElem
 have mI := methodImplements
 have k59 := kind59
 have k29 := kind29
 have e59 := elem59
 have i29 := implements29
 have nw := neq_wrong
 have nt := neq_target
 have htl := cell_lt ht0
 have hpl := cell_lt hp
 have hgl := cell_lt hg
 have hgA : (wA w t).cell? ⟨0, 0, none⟩ = some (RT 119) := by rw [wA_old hgl]; exact hg
 have n38 := isNil59 ⟨w.heap.size, 0, none⟩ t (wA w t) (wA_new w t)
 have c39 := as_wrong pb po t ⟨w.heap.size, 0, none⟩ e old (wA w t) (by rw [wA_old hpl]; exact hp) (wA_new w t) (by rw [wA_old htl]; exact ht0) (by rw [wA_frozen htl]; exact hf0)
 go_enter Tryz.func139, Tryz.ntmps139
 go_wp2_with (first | (go_at_call 173; refine c39.mono ?_; rintro e w' ⟨rfl, rfl⟩))
 go_ret
 exact ⟨rfl, rfl⟩
set_option maxHeartbeats 4000000 in
theorem As_join (qb qo bb bo pb po : Nat) (n c : Nat) (hn : 0 < n) (t : Addr) (e : Int) (old : Value) (w : World) (hg : w.cell? ⟨0, 0, none⟩ = some (RT 119)) (hq : w.cell? ⟨qb, qo, none⟩ = some (.slice (some ⟨bb, bo, none⟩) n c)) (hb : w.cell? ⟨bb, bo, none⟩ = some (.iface 185 (.pointer (some ⟨pb, po, none⟩)))) (hp : w.cell? ⟨pb, po + 1, none⟩ = some (.iface 34 (.int .i64 e))) (ht0 : w.cell? t = some old) (hf0 : w.frozen? t = false) :
  Calls Tryz.prog 139 #[.iface 182 (.pointer (some ⟨qb, qo, none⟩)), .iface 145 (.pointer (some t))] w fun ev w' => ev = .returned (.bool true) ∧ w' = ((((wA w t).alloc (.cells #[.pointer (some ⟨1, 145, none⟩), .pointer (some ⟨w.heap.size, 0, none⟩), .int .u64 150] 174)).alloc (.cells #[.pointer (some ⟨1, 145, none⟩), .pointer (some ⟨w.heap.size, 0, none⟩), .int .u64 150] 174)).alloc (.cells #[.int .i64 e] 34)).setCell t (.int .i64 e) := by
 have h36 := @run_callFunc_extern Tryz.prog 170 _ (fun args => ReflectliteValue.unpack (args.getD 0 (.tuple #[]))) Tryz.func170 (by kernel_rfl) (by kernel_rfl) (by kernel_rfl) (by kernel_rfl)
 have h37 := @run_callFunc_extern Tryz.prog 171 _ (ReflectliteValue.methodAny (ReflectliteValue.valueError "reflectlite.Value.Type" 0) (fun t _ _ _ => ReflectliteType.toType t)) Tryz.func171 (by kernel_rfl) (by kernel_rfl) (by kernel_rfl) (by kernel_rfl)
 have h38 := @run_callFunc_extern Tryz.prog 172 _ (ReflectliteValue.method (ReflectliteValue.valueError "reflectlite.Value.IsNil" 0) ReflectliteValue.isNil) Tryz.func172 (by kernel_rfl) (by kernel_rfl) (by kernel_rfl) (by kernel_rfl)
 have h56 := @run_callFunc_extern Tryz.prog 216 _ (ReflectliteType.abiMethod fun t => do pure (.int .u8 (← Rtype.kind t))) Tryz.func216 (by kernel_rfl) (by kernel_rfl) (by kernel_rfl) (by kernel_rfl)
 have h70 := @run_callFunc_extern Tryz.prog 230 _ (ReflectliteType.method ReflectliteType.elem) Tryz.func230 (by kernel_rfl) (by kernel_rfl) (by kernel_rfl) (by kernel_rfl)
 have h71 := @run_callFunc_extern Tryz.prog 231 _ (ReflectliteType.relation "Implements" ReflectliteType.implements_) Tryz.func231 (by kernel_rfl) (by kernel_rfl) (by kernel_rfl) (by kernel_rfl)
 have v59 := valueOf59
 have ty59 := type59
 have mK := methodKind
 have mE := methodElem
 have mI := methodImplements
 have k59 := kind59
 have k29 := kind29
 have e59 := elem59
 have i29 := implements29
 have nw := neq_join
 have nt := neq_target
 have htl := cell_lt ht0
 have hpl := cell_lt hp
 have hgl := cell_lt hg
 have hql := cell_lt hq
 have hbl := cell_lt hb
 have hgA : (wA w t).cell? ⟨0, 0, none⟩ = some (RT 119) := by rw [wA_old hgl]; exact hg
 have n38 := isNil59 ⟨w.heap.size, 0, none⟩ t (wA w t) (wA_new w t)
 have c39 := as_join qb qo bb bo pb po n c hn t ⟨w.heap.size, 0, none⟩ e old (wA w t) (by rw [wA_old hql]; exact hq) (by rw [wA_old hbl]; exact hb) (by rw [wA_old hpl]; exact hp) (wA_new w t) (by rw [wA_old htl]; exact ht0) (by rw [wA_frozen htl]; exact hf0)
 go_enter Tryz.func139, Tryz.ntmps139
 go_wp2_with (first | (go_at_call 173; refine c39.mono ?_; rintro e w' ⟨rfl, rfl⟩))
 go_ret
 exact ⟨rfl, rfl⟩
end Go.Proofs.YtdflglehippoiaaGreatDoor.XE
set_option maxRecDepth 100000
namespace Go.Proofs.YtdflglehippoiaaGreatDoor.XE
open Go Go.RowKit Go.Extern.Stop Go.Stop Go.Extern

theorem neq_errno (v : Value) (w : World) : (binOp .eql 119 (.iface 34 v) .nilIface).run Tryz.prog w = .ok (.bool false) w := Go.Proofs.YtdflglehippoiaaGreatDoorR.eql_iface_nil 34 v Tryz.underlying119 w
theorem neq_nil_errno (v : Value) (w : World) : (binOp .eql 119 .nilIface (.iface 34 v)).run Tryz.prog w = .ok (.bool false) w := run_eql_iface_nil_left w 34 v Tryz.underlying119
theorem comparableN (w : World) : ((ReflectliteType.method fun t => do Rtype.noPackHeld "Comparable" t; (fun a => Value.bool a.comparable) <$> typeInfo t) #[.agg #[.pointer (some ⟨1, 34, none⟩)]]).run Tryz.prog w = .ok (.bool true) w := by kernel_rfl
set_option maxHeartbeats 4000000 in
theorem Is_nil (n : Int) (w : World) : Calls Tryz.prog 138 #[.nilIface, .iface 34 (.int .i64 n)] w fun e w' => e = .returned (.bool false) ∧ w' = w := by
 have h1 := neq_errno
 have h2 := neq_nil_errno
 go_enter Tryz.func138, Tryz.ntmps138
 go_wp2
 go_ret
 exact ⟨rfl, rfl⟩
set_option maxHeartbeats 4000000 in
theorem Is_of81 (v : Value) (n : Int) (b : Bool) (w : World) (c35 : Calls Tryz.prog 169 #[.iface 185 v, .iface 34 (.int .i64 n), .bool true] w fun e w' => e = .returned (.bool b) ∧ Below w.heap.size w w') : Calls Tryz.prog 138 #[.iface 185 v, .iface 34 (.int .i64 n)] w fun e w' => e = .returned (.bool b) ∧ Below w.heap.size w w' := by
 have h34 := @run_callFunc_extern Tryz.prog 168 _ ReflectliteType.typeOf Tryz.func168 (by kernel_rfl) (by kernel_rfl) (by kernel_rfl) (by kernel_rfl)
 have h69 := @run_callFunc_extern Tryz.prog 229 _ (ReflectliteType.method fun t => do Rtype.noPackHeld "Comparable" t; pure (.bool (← typeInfo t).comparable)) Tryz.func229 (by kernel_rfl) (by kernel_rfl) (by kernel_rfl) (by kernel_rfl)
 have h1 := neq_errno
 have h2 := neq_wrong
 have tE := typeOf29
 have mC := methodComparable
 have cE := comparableN
 go_enter Tryz.func138, Tryz.ntmps138
 go_wp2_with (first | (go_at_call 169; refine c35.mono ?_; rintro e w' ⟨rfl, hB⟩))
 go_ret
 exact ⟨rfl, hB⟩
set_option maxHeartbeats 4000000 in
theorem Is_of78 (v : Value) (n : Int) (b : Bool) (w : World) (c35 : Calls Tryz.prog 169 #[.iface 182 v, .iface 34 (.int .i64 n), .bool true] w fun e w' => e = .returned (.bool b) ∧ Below w.heap.size w w') : Calls Tryz.prog 138 #[.iface 182 v, .iface 34 (.int .i64 n)] w fun e w' => e = .returned (.bool b) ∧ Below w.heap.size w w' := by
 have h34 := @run_callFunc_extern Tryz.prog 168 _ ReflectliteType.typeOf Tryz.func168 (by kernel_rfl) (by kernel_rfl) (by kernel_rfl) (by kernel_rfl)
 have h69 := @run_callFunc_extern Tryz.prog 229 _ (ReflectliteType.method fun t => do Rtype.noPackHeld "Comparable" t; pure (.bool (← typeInfo t).comparable)) Tryz.func229 (by kernel_rfl) (by kernel_rfl) (by kernel_rfl) (by kernel_rfl)
 have h1 := neq_errno
 have h2 := neq_join
 have tE := typeOf29
 have mC := methodComparable
 have cE := comparableN
 go_enter Tryz.func138, Tryz.ntmps138
 go_wp2_with (first | (go_at_call 169; refine c35.mono ?_; rintro e w' ⟨rfl, hB⟩))
 go_ret
 exact ⟨rfl, hB⟩
set_option maxHeartbeats 4000000 in
theorem errno_nil (w : World) : Calls Tryz.prog 104 #[.nilIface] w fun e w' => e = .returned (.int .i64 0) ∧ Below w.heap.size w w' := by
 have c27 := Is_nil 9 w
 go_enter Tryz.func104, Tryz.ntmps104
 go_wp2_with (first | (go_at_call 138; refine c27.mono ?_; rintro e w' ⟨rfl, rfl⟩) | (go_at_call 139; refine (as_nil _ _).mono ?_; rintro e w' ⟨rfl, rfl⟩))
 go_ret
 exact ⟨rfl, (Below.refl _ _).alloc (Nat.le_refl _) _⟩
set_option maxHeartbeats 4000000 in
theorem errno_is (x : Value) (w : World) (c27 : Calls Tryz.prog 138 #[x, .iface 34 (.int .i64 9)] w fun e w' => e = .returned (.bool true) ∧ Below w.heap.size w w') : Calls Tryz.prog 104 #[x] w fun e w' => e = .returned (.int .i64 9) ∧ Below w.heap.size w w' := by
 go_enter Tryz.func104, Tryz.ntmps104
 go_wp2_with (first | (go_at_call 138; refine c27.mono ?_; rintro e w' ⟨rfl, hB⟩))
 go_ret
 exact ⟨rfl, hB⟩
set_option maxHeartbeats 4000000 in
theorem errno_as (x : Value) (n : Int) (w : World) (c27 : Calls Tryz.prog 138 #[x, .iface 34 (.int .i64 9)] w fun e w' => e = .returned (.bool false) ∧ Below w.heap.size w w')
  (c28 : ∀ w', Below w.heap.size w w' → Calls Tryz.prog 139 #[x, .iface 145 (.pointer (some ⟨w'.heap.size, 0, none⟩))] (w'.alloc (.cells #[.int .i64 0] 34)) fun e w2 => e = .returned (.bool true) ∧ Below w.heap.size w w2 ∧ w2.cell? ⟨w'.heap.size, 0, none⟩ = some (.int .i64 n)) : Calls Tryz.prog 104 #[x] w fun e w' => e = .returned (.int .i64 n) ∧ Below w.heap.size w w' := by
 go_enter Tryz.func104, Tryz.ntmps104
 go_wp2_with (first | (go_at_call 138; refine c27.mono ?_; rintro e w' ⟨rfl, hB⟩) | (go_at_call 139; refine (c28 _ hB).mono ?_; rintro e w2 ⟨rfl, hB2, hcell⟩))
 go_ret
 exact ⟨rfl, hB2⟩
end Go.Proofs.YtdflglehippoiaaGreatDoor.XE
set_option maxRecDepth 100000
namespace Go.Proofs.YtdflglehippoiaaGreatDoor.IE
open Go Go.Proofs.YtdflglehippoiaaGreatDoorR
def j105 : C := (.seq (.region [nO 1 (.box (.t 0)),
  nO 2 (.mov (.c (.k .nilIface)))] false)
 (.seq (.region [⟨some 3, .fad 0 (.t 1), none, [6, 7, 9, 10, 12, 13, 15, 16, 18, 19, 21, 22], []⟩,
  ⟨some 4, .load false 1 (.t 3), none, [6, 7, 9, 10, 12, 13, 15, 16, 18, 19, 21, 22], [0]⟩,
  ⟨some 5, .call false 141 [(.c (.k (.string ⟨#[110, 111, 100, 101, 115]⟩))), (.t 4), (.c (.int .i64 1)), (.c (.int .i64 8)), (.c (.int .i64 13))], none, [6, 7, 9, 10, 12, 13, 15, 16, 18, 19, 21, 22], [0, 1]⟩,
  ⟨some 6, .fad 1 (.t 1), none, [3, 4, 5, 9, 10, 12, 13, 15, 16, 18, 19, 21, 22], []⟩,
  ⟨some 7, .load false 1 (.t 6), none, [3, 4, 5, 9, 10, 12, 13, 15, 16, 18, 19, 21, 22], [3]⟩,
  ⟨some 8, .call false 141 [(.c (.k (.string ⟨#[116, 111, 112, 105, 99, 115]⟩))), (.t 7), (.c (.int .i64 1)), (.c (.int .i64 4)), (.c (.int .i64 13))], none, [9, 10, 12, 13, 15, 16, 18, 19, 21, 22], [0, 1, 2, 3, 4]⟩,
  ⟨some 9, .fad 2 (.t 1), none, [3, 4, 5, 6, 7, 8, 12, 13, 15, 16, 18, 19, 21, 22], []⟩,
  ⟨some 10, .load false 1 (.t 9), none, [3, 4, 5, 6, 7, 8, 12, 13, 15, 16, 18, 19, 21, 22], [6]⟩,
  ⟨some 11, .call false 141 [(.c (.k (.string ⟨#[107, 105, 100, 115]⟩))), (.t 10), (.c (.int .i64 1)), (.c (.int .i64 4)), (.c (.int .i64 13))], none, [12, 13, 15, 16, 18, 19, 21, 22], [0, 1, 2, 3, 4, 5, 6, 7]⟩,
  ⟨some 12, .fad 3 (.t 1), none, [3, 4, 5, 6, 7, 8, 9, 10, 11, 15, 16, 18, 19, 21, 22], []⟩,
  ⟨some 13, .load false 1 (.t 12), none, [3, 4, 5, 6, 7, 8, 9, 10, 11, 15, 16, 18, 19, 21, 22], [9]⟩,
  ⟨some 14, .call false 141 [(.c (.k (.string ⟨#[100, 101, 112, 116, 104]⟩))), (.t 13), (.c (.int .i64 1)), (.c (.int .i64 8)), (.c (.int .i64 13))], none, [15, 16, 18, 19, 21, 22], [0, 1, 2, 3, 4, 5, 6, 7, 8, 9, 10]⟩,
  ⟨some 15, .fad 4 (.t 1), none, [3, 4, 5, 6, 7, 8, 9, 10, 11, 12, 13, 14, 18, 19, 21, 22], []⟩,
  ⟨some 16, .load false 1 (.t 15), none, [3, 4, 5, 6, 7, 8, 9, 10, 11, 12, 13, 14, 18, 19, 21, 22], [12]⟩,
  ⟨some 17, .call false 141 [(.c (.k (.string ⟨#[107, 101, 101, 112]⟩))), (.t 16), (.c (.int .i64 1)), (.c (.int .i64 16)), (.c (.int .i64 13))], none, [18, 19, 21, 22], [0, 1, 2, 3, 4, 5, 6, 7, 8, 9, 10, 11, 12, 13]⟩,
  ⟨some 18, .fad 5 (.t 1), none, [3, 4, 5, 6, 7, 8, 9, 10, 11, 12, 13, 14, 15, 16, 17, 21, 22], []⟩,
  ⟨some 19, .load false 1 (.t 18), none, [3, 4, 5, 6, 7, 8, 9, 10, 11, 12, 13, 14, 15, 16, 17, 21, 22], [15]⟩,
  ⟨some 20, .call false 141 [(.c (.k (.string ⟨#[119, 105, 110, 100, 111, 119]⟩))), (.t 19), (.c (.int .i64 1)), (.c (.int .i64 16)), (.c (.int .i64 13))], none, [21, 22], [0, 1, 2, 3, 4, 5, 6, 7, 8, 9, 10, 11, 12, 13, 14, 15, 16]⟩,
  ⟨some 21, .fad 6 (.t 1), none, [3, 4, 5, 6, 7, 8, 9, 10, 11, 12, 13, 14, 15, 16, 17, 18, 19, 20], []⟩,
  ⟨some 22, .load false 1 (.t 21), none, [3, 4, 5, 6, 7, 8, 9, 10, 11, 12, 13, 14, 15, 16, 17, 18, 19, 20], [18]⟩,
  ⟨some 23, .call false 141 [(.c (.k (.string ⟨#[113, 117, 101, 117, 101]⟩))), (.t 22), (.c (.int .i64 2)), (.c (.int .i64 32)), (.c (.int .i64 13))], none, [], [0, 1, 2, 3, 4, 5, 6, 7, 8, 9, 10, 11, 12, 13, 14, 15, 16, 17, 18, 19]⟩,
  ⟨some 24, .bsr 119 1 7 [.k .nilIface] [(0, (.t 5)), (1, (.t 8)), (2, (.t 11)), (3, (.t 14)), (4, (.t 17)), (5, (.t 20)), (6, (.t 23))], none, [], [0, 1, 2, 3, 4, 5, 6, 7, 8, 9, 10, 11, 12, 13, 14, 15, 16, 17, 18, 19, 20]⟩,
  ⟨some 25, .call false 140 [(.t 24)], none, [], [0, 1, 2, 3, 4, 5, 6, 7, 8, 9, 10, 11, 12, 13, 14, 15, 16, 17, 18, 19, 20, 21]⟩,
  ⟨some 2, .mov (.t 25), none, [], [0, 1, 2, 3, 4, 5, 6, 7, 8, 9, 10, 11, 12, 13, 14, 15, 16, 17, 18, 19, 20, 21, 22]⟩] true)
 .ret))
def i105 : F := ⟨1, 26, j105, [.t 2]⟩
theorem b105 : i105.body = j105 := rfl
theorem q105 : i105.res = [.t 2] := rfl
theorem c105 : chkF Tryz.prog Tryz.f105 i105 = true := by kernel_rfl
theorem s105 {m : Model} {E : Nat → Model} (hE : ∀ f, Sound Tryz.prog f (E f)) (hm : ∀ args r, m args = some r → ∃ N, i105.ev E N args = some r) : Sound Tryz.prog 105 m := sound_of i105 Tryz.func105 rfl c105 hE hm
def j140 : C := (.seq (.region [nO 2 (.mov (.c (.k .nilIface)))] false)
 (.seq (.region [nO 3 (.mov (.c (.int .i64 0)))] false)
 (.seq (.seq (.region [nO 9 (.mov (.t 0)),
  nO 10 (.len (.t 9)),
  nO 11 (.mov (.c (.int .i64 0)))] false)
 (.block 0 (.loop (.keep [0, 3, 9, 10, 11] (.seq (.region [nO 12 (.bin .lss (.t 11) (.t 10))] false)
 (.seq (.cond (.t 12) .skip (.exit 0))
 (.seq (.block 1 (.seq (.region [nO 13 (.iad 1 (.t 9) (.t 11)),
  nO 14 (.load false 1 (.t 13)),
  nO 5 (.mov (.t 14))] false)
 (.seq (.region [nO 15 (.mov (.t 5)),
  nO 16 (.ifn true (.t 15))] false)
 (.cond (.t 16) (.region [nO 17 (.mov (.t 3)),
  nO 18 (.bin .add (.t 17) (.c (.int .i64 1))),
  nO 3 (.mov (.t 18))] false) .skip))))
 (.region [nO 19 (.bin .add (.t 11) (.c (.int .i64 1))),
  nO 11 (.mov (.t 19))] false))))))))
 (.seq (.seq (.region [nO 20 (.mov (.t 3)),
  nO 21 (.bin .eql (.t 20) (.c (.int .i64 0)))] false)
 (.cond (.t 21) (.seq (.region [nO 2 (.mov (.c (.k .nilIface)))] false)
 .ret) .skip))
 (.seq (.region [nO 22 (.mov (.t 3)),
  nO 23 (.mkz 119 1 16 [.k .nilIface] (.t 22)),
  nO 24 (.build [.row []] [(0, 1, (.t 23))]),
  nO 25 (.box (.t 24)),
  nO 6 (.mov (.t 25))] false)
 (.seq (.seq (.region [nO 26 (.mov (.t 0)),
  nO 27 (.len (.t 26)),
  nO 28 (.mov (.c (.int .i64 0)))] false)
 (.block 2 (.loop (.keep [6, 26, 27, 28] (.seq (.region [nO 29 (.bin .lss (.t 28) (.t 27))] false)
 (.seq (.cond (.t 29) .skip (.exit 2))
 (.seq (.block 3 (.seq (.region [nO 30 (.iad 1 (.t 26) (.t 28)),
  nO 31 (.load false 1 (.t 30)),
  nO 8 (.mov (.t 31))] false)
 (.seq (.region [nO 32 (.mov (.t 8)),
  nO 33 (.ifn true (.t 32))] false)
 (.cond (.t 33) (.region [nO 34 (.mov (.t 6)),
  nO 35 (.mov (.t 6)),
  nO 36 (.nck (.t 35)),
  nO 37 (.fad 0 (.t 36)),
  nO 38 (.load false 1 (.t 37)),
  nO 39 (.mov (.t 8)),
  nO 40 (.bsl 119 1 1 [.k .nilIface] [(0, (.t 39))]),
  nO 41 (.app 119 1 16 (.t 38) (.t 40)),
  nO 42 (.nck (.t 34)),
  nO 43 (.fad 0 (.t 42)),
  ⟨none, .store none 1 (.t 43) (.t 41), none, [], []⟩] false) .skip))))
 (.region [nO 44 (.bin .add (.t 28) (.c (.int .i64 1))),
  nO 28 (.mov (.t 44))] false))))))))
 (.seq (.region [nO 45 (.mov (.t 6)),
  nO 46 (.mkp 182 (.t 45)),
  nO 2 (.mov (.t 46))] false)
 .ret)))))))
def i140 : F := ⟨1, 47, j140, [.t 2]⟩
theorem b140 : i140.body = j140 := rfl
theorem q140 : i140.res = [.t 2] := rfl
theorem c140 : chkF Tryz.prog Tryz.f140 i140 = true := by kernel_rfl
theorem s140 {m : Model} {E : Nat → Model} (hE : ∀ f, Sound Tryz.prog f (E f)) (hm : ∀ args r, m args = some r → ∃ N, i140.ev E N args = some r) : Sound Tryz.prog 140 m := sound_of i140 Tryz.func140 rfl c140 hE hm
def j141 : C := (.seq (.region [nO 10 (.mov (.c (.k .nilIface)))] false)
 (.seq (.seq (.region [nO 11 (.mov (.t 1)),
  nO 12 (.mov (.t 2)),
  nO 13 (.bin .lss (.t 11) (.t 12)),
  nO 14 (.mov (.t 13)),
  gO 15 (.mov (.t 1)) 14 false,
  gO 16 (.mov (.t 3)) 14 false,
  gO 17 (.bin .gtr (.t 15) (.t 16)) 14 false,
  nO 18 (.pick (.t 14) (.c (.bool true)) (.t 17))] false)
 (.cond (.t 18) (.seq (.region [nO 19 (.mov (.t 0)),
  nO 20 (.mov (.t 4)),
  nO 21 (.mki 34 (.t 20)),
  ⟨some 22, .build [.k (.string ⟨#[]⟩), .k .nilIface] [(0, 1, (.t 19)), (1, 1, (.t 21))], none, [], []⟩,
  nO 23 (.box (.t 22)),
  nO 24 (.mkp 185 (.t 23)),
  nO 10 (.mov (.t 24))] false)
 .ret) .skip))
 (.seq (.region [nO 10 (.mov (.c (.k .nilIface)))] false)
 .ret)))
def i141 : F := ⟨5, 25, j141, [.t 10]⟩
theorem b141 : i141.body = j141 := rfl
theorem q141 : i141.res = [.t 10] := rfl
theorem c141 : chkF Tryz.prog Tryz.f141 i141 = true := by kernel_rfl
theorem s141 {m : Model} {E : Nat → Model} (hE : ∀ f, Sound Tryz.prog f (E f)) (hm : ∀ args r, m args = some r → ∃ N, i141.ev E N args = some r) : Sound Tryz.prog 141 m := sound_of i141 Tryz.func141 rfl c141 hE hm
def j169 : C := (.seq (.region [nO 6 (.mov (.c (.bool false)))] false)
 (.block 0 (.loop (.keep [0, 1, 2] (.block 1 (.seq (.seq (.region [nO 14 (.mov (.t 2)),
  nO 15 (.mov (.t 14)),
  gO 16 (.mov (.t 0)) 15 true,
  gO 17 (.mov (.t 1)) 15 true,
  gO 18 (.ieq [34] (.t 16) (.t 17)) 15 true,
  nO 19 (.pick (.t 15) (.t 18) (.c (.bool false)))] false)
 (.cond (.t 19) (.seq (.region [nO 6 (.mov (.c (.bool true)))] false)
 .ret) .skip))
 (.seq (.seq (.region [nO 21 (.mov (.t 0)),
  nO 22 (.tas 201 [(34, false), (185, false), (182, false)] (.t 21)),
  nO 20 (.mov (.t 22)),
  nO 23 (.ext (.t 20) 0),
  nO 24 (.ext (.t 20) 1),
  nO 7 (.mov (.t 23)),
  nO 8 (.mov (.t 24))] false)
 (.seq (.region [nO 25 (.mov (.t 8)),
  nO 26 (.mov (.t 25)),
  gO 27 (.mov (.t 7)) 26 true,
  gO 28 (.mov (.t 1)) 26 true,
  gO 29 (.stop) 26 true,
  nO 30 (.pick (.t 26) (.t 29) (.c (.bool false)))] false)
 (.cond (.t 30) (.seq (.region [nO 6 (.mov (.c (.bool true)))] false)
 .ret) .skip)))
 (.seq (.region [nO 31 (.mov (.t 0))] false)
 (.block 2 (.seq (.region [nO 32 (.tas 204 [(34, false), (185, true), (182, false)] (.t 31)),
  nO 33 (.ext (.t 32) 1),
  nO 34 (.ext (.t 32) 0)] false)
 (.cond (.t 33) (.seq (.region [nO 9 (.mov (.t 34))] false)
 (.seq (.region [nO 35 (.mov (.t 9)),
  nO 36 (.inv false [(185, 226)] (.t 35) []),
  nO 0 (.mov (.t 36))] false)
 (.seq (.region [nO 37 (.mov (.t 0)),
  nO 38 (.ifn false (.t 37))] false)
 (.cond (.t 38) (.seq (.region [nO 6 (.mov (.c (.bool false)))] false)
 .ret) .skip)))) (.seq (.region [nO 39 (.tas 206 [(34, false), (185, false), (182, true)] (.t 31)),
  nO 40 (.ext (.t 39) 1),
  nO 41 (.ext (.t 39) 0)] false)
 (.cond (.t 40) (.seq (.region [nO 10 (.mov (.t 41))] false)
 (.seq (.seq (.region [nO 42 (.mov (.t 10)),
  nO 43 (.inv false [(182, 224)] (.t 42) []),
  nO 44 (.len (.t 43)),
  nO 45 (.mov (.c (.int .i64 0)))] false)
 (.block 3 (.loop (.keep [1, 2, 43, 44, 45] (.seq (.region [nO 46 (.bin .lss (.t 45) (.t 44))] false)
 (.seq (.cond (.t 46) .skip (.exit 3))
 (.seq (.block 4 (.seq (.region [nO 47 (.iad 1 (.t 43) (.t 45)),
  nO 48 (.load false 1 (.t 47)),
  nO 12 (.mov (.t 48))] false)
 (.seq (.region [nO 49 (.mov (.t 12)),
  nO 50 (.mov (.t 1)),
  nO 51 (.mov (.t 2)),
  nO 52 (.call false 169 [(.t 49), (.t 50), (.t 51)])] false)
 (.cond (.t 52) (.seq (.region [nO 6 (.mov (.c (.bool true)))] false)
 .ret) .skip))))
 (.region [nO 53 (.bin .add (.t 45) (.c (.int .i64 1))),
  nO 45 (.mov (.t 53))] false))))))))
 (.seq (.region [nO 6 (.mov (.c (.bool false)))] false)
 .ret))) (.seq (.region [nO 13 (.mov (.t 31))] false)
 (.seq (.region [nO 6 (.mov (.c (.bool false)))] false)
 .ret)))))))))))))))
def i169 : F := ⟨3, 54, j169, [.t 6]⟩
theorem b169 : i169.body = j169 := rfl
theorem q169 : i169.res = [.t 6] := rfl
theorem c169 : chkF Tryz.prog Tryz.f169 i169 = true := by kernel_rfl
theorem s169 {m : Model} {E : Nat → Model} (hE : ∀ f, Sound Tryz.prog f (E f)) (hm : ∀ args r, m args = some r → ∃ N, i169.ev E N args = some r) : Sound Tryz.prog 169 m := sound_of i169 Tryz.func169 rfl c169 hE hm
def j224 : C := (.seq (.region [nO 2 (.mov (.c (.row [])))] false)
 (.seq (.region [nO 3 (.mov (.t 0)),
  nO 4 (.nck (.t 3)),
  nO 5 (.fad 0 (.t 4)),
  nO 6 (.load false 1 (.t 5)),
  nO 2 (.mov (.t 6))] false)
 .ret))
def i224 : F := ⟨1, 7, j224, [.t 2]⟩
theorem b224 : i224.body = j224 := rfl
theorem q224 : i224.res = [.t 2] := rfl
theorem c224 : chkF Tryz.prog Tryz.f224 i224 = true := by kernel_rfl
theorem s224 {m : Model} {E : Nat → Model} (hE : ∀ f, Sound Tryz.prog f (E f)) (hm : ∀ args r, m args = some r → ∃ N, i224.ev E N args = some r) : Sound Tryz.prog 224 m := sound_of i224 Tryz.func224 rfl c224 hE hm
def j226 : C := (.seq (.region [nO 2 (.mov (.c (.k .nilIface)))] false)
 (.seq (.region [nO 3 (.mov (.t 0)),
  nO 4 (.nck (.t 3)),
  nO 5 (.fad 1 (.t 4)),
  nO 6 (.load false 1 (.t 5)),
  nO 2 (.mov (.t 6))] false)
 .ret))
def i226 : F := ⟨1, 7, j226, [.t 2]⟩
theorem b226 : i226.body = j226 := rfl
theorem q226 : i226.res = [.t 2] := rfl
theorem c226 : chkF Tryz.prog Tryz.f226 i226 = true := by kernel_rfl
theorem s226 {m : Model} {E : Nat → Model} (hE : ∀ f, Sound Tryz.prog f (E f)) (hm : ∀ args r, m args = some r → ∃ N, i226.ev E N args = some r) : Sound Tryz.prog 226 m := sound_of i226 Tryz.func226 rfl c226 hE hm
def xt : List (Nat × Model) := []
def tb : List (Nat × F) := [(105, i105), (140, i140), (141, i141), (169, i169), (224, i224), (226, i226)]
theorem xt_ok : ∀ p ∈ xt, Sound Tryz.prog p.1 p.2 := all_nil
theorem tb_ok (N : Nat) : ∀ p ∈ tb, ∀ E : Nat → Model, (∀ f, Sound Tryz.prog f (E f)) → Sound Tryz.prog p.1 (p.2.ev E N) := all_cons (fun E hE => s105 hE fun _ _ h => ⟨N, h⟩) (all_cons (fun E hE => s140 hE fun _ _ h => ⟨N, h⟩) (all_cons (fun E hE => s141 hE fun _ _ h => ⟨N, h⟩) (all_cons (fun E hE => s169 hE fun _ _ h => ⟨N, h⟩) (all_cons (fun E hE => s224 hE fun _ _ h => ⟨N, h⟩) (all_cons (fun E hE => s226 hE fun _ _ h => ⟨N, h⟩) (all_nil))))))
abbrev TT := T xt tb
theorem TT_ok (N d f : Nat) : Sound Tryz.prog f (TT N d f) := T_ok xt_ok (tb_ok N) d f
theorem t105 (N d : Nat) : TT N (d + 1) 105 = i105.ev (TT N d) N := rfl
theorem t140 (N d : Nat) : TT N (d + 1) 140 = i140.ev (TT N d) N := rfl
theorem t141 (N d : Nat) : TT N (d + 1) 141 = i141.ev (TT N d) N := rfl
theorem t169 (N d : Nat) : TT N (d + 1) 169 = i169.ev (TT N d) N := rfl
theorem t224 (N d : Nat) : TT N (d + 1) 224 = i224.ev (TT N d) N := rfl
theorem t226 (N d : Nat) : TT N (d + 1) 226 = i226.ev (TT N d) N := rfl
end Go.Proofs.YtdflglehippoiaaGreatDoor.IE
namespace Go.Proofs.YtdflglehippoiaaGreatDoor.EA
open Go Go.Proofs.YtdflglehippoiaaGreatDoorR IE
set_option maxRecDepth 100000
set_option maxHeartbeats 4000000
theorem wi (i : Nat) (h : i < 4611686018427387904) : IntKind.i64.wrap ((i : Int) + 1) = ((i + 1 : Nat) : Int) := by rw [IntWalk.i64_in _ (by omega)]; omega
abbrev wV (s : ByteArray) (e : Int) : V := .ifc 185 (.ptr [.k (.string s), .ifc 34 (.int .i64 e)])
abbrev jV (xs : List (List V)) : V := .ifc 182 (.ptr [.row xs])
abbrev tV (n : Int) : S := .one (.ifc 34 (.int .i64 n))
def why1 : List V → Option Int
 | [.ifc 185 (.ptr [.k (.string _), .ifc 34 (.int .i64 e)])] => some e
 | _ => none
def whys : List (List V) → Option (List Int)
 | [] => some []
 | x :: r => match why1 x, whys r with
  | some e, some l => some (e :: l)
  | _, _ => none
theorem why1_s {x : List V} {e : Int} (h : why1 x = some e) : ∃ s, x = [wV s e] := by
 unfold why1 at h
 split at h
 ·cases h; exact ⟨_, rfl⟩
 ·cases h
theorem whys_get : ∀ {xs : List (List V)} {l : List Int}, whys xs = some l → xs.length = l.length ∧ ∀ (i : Nat) (e : Int), l[i]? = some e → ∃ s, xs[i]? = some [wV s e]
 | [], l, h => by cases h; exact ⟨rfl, fun i e h => by simp at h⟩
 | x :: r, l, h => by
  simp only [whys] at h
  split at h
  ·rename_i e l' h1 h2
   cases h
   obtain ⟨g1, g2⟩ := whys_get h2
   refine ⟨by simp [g1], fun i e' he => ?_⟩
   cases i with
   | zero => simp at he; subst he; obtain ⟨s, rfl⟩ := why1_s h1; exact ⟨s, rfl⟩
   | succ i => exact g2 i e' (by simpa using he)
  ·cases h
theorem e226 (N d : Nat) (s : ByteArray) (e : Int) : TT N (d + 1) 226 [.one (.ptr [.k (.string s), .ifc 34 (.int .i64 e)])] = some (.one (.ifc 34 (.int .i64 e)), []) := by
 rw [t226, F_ev rfl]
 simp only [j226, b226, q226, ww, simprocAttr]
theorem e224 (N d : Nat) (xs : List (List V)) : TT N (d + 1) 224 [.one (.ptr [.row xs])] = some (.one (.row xs), []) := by
 rw [t224, F_ev rfl]
 simp only [j224, b224, q224, ww, simprocAttr]
theorem e169w (N d : Nat) (s : ByteArray) (e n : Int) : TT (N + 3) (d + 2) 169 [.one (wV s e), tV n, bV true] = some (bV (decide (e = n)), []) := by
 have h66 := fun d => e226 (N + 3) d s e
 rw [t169, F_ev rfl]
 simp only [j169, b169, q169, ww, simprocAttr]
 rw [iter_s]
 simp only [kk, simprocAttr, h66, j169, b169, q169, ww, simprocAttr]
 rw [iter_s]
 simp only [kk, simprocAttr, h66, j169, b169, q169, ww, simprocAttr]
 cases h : decide (e = n) with
 | true => simp only [h, j169, b169, q169, ww, simprocAttr]
 | false => simp only [h, j169, b169, q169, ww, simprocAttr]
end Go.Proofs.YtdflglehippoiaaGreatDoor.EA
namespace Go.Proofs.YtdflglehippoiaaGreatDoor.EA
open Go Go.Proofs.YtdflglehippoiaaGreatDoorR IE
set_option maxRecDepth 100000
set_option maxHeartbeats 4000000
theorem e169j (N d : Nat) (xs : List (List V)) (l : List Int) (n : Int) (h : whys xs = some l) (hN : l.length < N + 3) (hl : l.length < 1000000) : TT (N + 3) (d + 3) 169 [.one (jV xs), tV n, bV true] = some (bV (l.any fun e => decide (e = n)), []) := by
 have h64 := fun d => e224 (N + 3) d xs
 have h35 := fun s e => e169w N d s e n
 obtain ⟨w1, w2⟩ := whys_get h
 rw [t169, F_ev rfl]
 simp only [j169, b169, q169, ww, simprocAttr]
 rw [iter_s]
 simp only [kk, simprocAttr, h64, j169, b169, q169, ww, simprocAttr]
 refine (loopK (K := fun o => fin _ (aft _ _ _ (goL _ _ _ _ (aft _ _ _ o)))) (fun i => ⟨[(1, tV n), (2, bV true), (43, .one (.row xs)), (44, iV xs.length), (45, iV i)], []⟩) (fun i => some (bV ((l.drop i).any fun e => decide (e = n)), [])) l.length ?hr l.length 0 (N + 3) _ (by omega) hN ?hk).trans ?_
 case hk => simp only [kk, simprocAttr]; try rfl
 case hr =>
  intro i q hi ih
  (try dsimp only)
  by_cases hlt : i < l.length
  ·have g1 : decide ((i : Int) < (xs.length : Int)) = true := by simp; omega
   have hb : 0 ≤ (i : Int) ∧ (i : Int) < (xs.length : Int) := by omega
   obtain ⟨s, hs⟩ := w2 i l[i] (by simp [hlt])
   have h35' := h35 s l[i]
   have hd : l.drop i = l[i] :: l.drop (i + 1) := by simp
   rw [hd, List.any_cons]
   cases he : decide (l[i] = n) with
   | true =>
    rw [he] at h35'
    simp only [g1, hb.1, hb.2, hs, h35', Int.toNat_natCast, j169, b169, q169, ww, simprocAttr]
   | false =>
    rw [he] at h35'
    simp only [g1, hb.1, hb.2, hs, h35', wi i (by omega), Int.toNat_natCast, Bool.false_or, j169, b169, q169, ww, simprocAttr]
    exact ih hlt _ (by simp only [kk, simprocAttr])
  ·have g1 : decide ((i : Int) < (xs.length : Int)) = false := by simp; omega
   rw [List.drop_of_length_le (by omega)]
   simp only [g1, List.any_nil, j169, b169, q169, ww, simprocAttr]
 rw [List.drop_zero]
abbrev Ow := Option (ByteArray × Int)
def oV : Ow → V
 | none => .k .nilIface
 | some (s, e) => wV s e
def oR (os : List Ow) : List (List V) := os.map fun o => [oV o]
def oks (os : List Ow) : List (ByteArray × Int) := os.filterMap id
def wR (ws : List (ByteArray × Int)) : List (List V) := ws.map fun p => [wV p.1 p.2]
theorem oks_s {os : List Ow} {i : Nat} (h : i < os.length) : oks (os.take (i + 1)) = oks (os.take i) ++ (match os[i] with | none => [] | some p => [p]) := by
 unfold oks
 rw [show os.take (i + 1) = os.take i ++ [os[i]] by simp, List.filterMap_append]
 cases os[i] <;> rfl
theorem oks_le (os : List Ow) : (oks os).length ≤ os.length := List.length_filterMap_le id os
theorem e141 (N d : Nat) (s : ByteArray) (n lo hi e : Int) : TT N (d + 1) 141 [.one (.k (.string s)), iV n, iV lo, iV hi, iV e] = some (.one (oV (if lo ≤ n ∧ n ≤ hi then none else some (s, e))), []) := by
 rw [t141, F_ev rfl]
 simp only [j141, b141, q141, ww, simprocAttr]
 refine fin_cases (fun h1 => ?_) (fun h1 => ?_) <;> simp only [h1, blkMents, Blk.mentB, j141, b141, q141, ww, simprocAttr]
 ·have h1 : n < lo := by simpa using h1
  rw [if_neg (by omega)]
  rfl
 ·have h1 : ¬ n < lo := by simpa using h1
  refine fin_cases (fun h2 => ?_) (fun h2 => ?_) <;> simp only [h2, blkMents, Blk.mentB, j141, b141, q141, ww, simprocAttr]
  ·have h2 : hi < n := by simpa using h2
   rw [if_neg (by omega)]
   rfl
  ·have h2 : ¬ hi < n := by simpa using h2
   rw [if_pos (by omega)]
   rfl
def joinV (os : List Ow) : V := if (oks os).length = 0 then .k .nilIface else jV (wR (oks os))
theorem e140 (N d : Nat) (os : List Ow) (hN : os.length < N) (hl : os.length < 1000000) : TT N (d + 1) 140 [.one (.row (oR os))] = some (.one (joinV os), []) := by
 have hol : (oR os).length = os.length := by simp [oR]
 have hget : ∀ {i : Nat} (h : i < os.length), (oR os)[i]? = some [oV os[i]] := fun h => by simp [oR, h]
 have hle := oks_le os
 rw [t140, F_ev rfl]
 simp only [j140, b140, q140, ww, simprocAttr]
 refine loopK (K := fun o => fin _ (aft _ _ _ o)) (fun i => ⟨[(0, .one (.row (oR os))), (3, iV (oks (os.take i)).length), (9, .one (.row (oR os))), (10, iV (oR os).length), (11, iV i)], []⟩) (fun i => some (.one (joinV os), [])) os.length ?hr os.length 0 N _ (by omega) hN ?hk
 case hk => simp only [kk, simprocAttr]; try rfl
 case hr =>
  intro i q hi ih
  (try dsimp only)
  by_cases hlt : i < os.length
  ·have g1 : decide ((i : Int) < ((oR os).length : Int)) = true := by rw [hol]; simp; omega
   have hb : 0 ≤ (i : Int) ∧ (i : Int) < ((oR os).length : Int) := by rw [hol]; omega
   have hs := hget hlt
   have hst := oks_s hlt
   have hti := oks_le (os.take i)
   rw [List.length_take] at hti
   cases ho : os[i] with
   | none =>
    rw [ho] at hs hst
    simp only [oV] at hs
    simp only [g1, hb.1, hb.2, hs, wi i (by omega), Int.toNat_natCast, j140, b140, q140, ww, simprocAttr]
    exact ih hlt _ (by simp only [hst, List.append_nil, kk, simprocAttr])
   | some p =>
    rw [ho] at hs hst
    simp only [oV] at hs
    simp only [g1, hb.1, hb.2, hs, wi i (by omega), wi (oks (os.take i)).length (by omega), Int.toNat_natCast, j140, b140, q140, ww, simprocAttr]
    exact ih hlt _ (by simp only [hst, List.length_append, List.length_cons, List.length_nil, Nat.zero_add, kk, simprocAttr])
  ·clear ih
   obtain rfl : i = os.length := by omega
   have g1 : decide ((os.length : Int) < ((oR os).length : Int)) = false := by rw [hol]; simp
   rw [List.take_length]
   by_cases h0 : (oks os).length = 0
   ·have g2 : decide (((oks os).length : Int) = 0) = true := decide_eq_true (by omega)
    rw [joinV, if_pos h0]
    simp only [g1, g2, j140, b140, q140, ww, simprocAttr]
   ·have g2 : decide (((oks os).length : Int) = 0) = false := decide_eq_false (by omega)
    have hby : ((oks os).length : Int) * 16 ≤ 140737488355328 := by omega
    have hz : (0 : Int) ≤ ((oks os).length : Int) := by omega
    rw [joinV, if_neg h0]
    simp only [g1, g2, hby, hz, blkMents, Blk.mentB, j140, b140, q140, ww, simprocAttr]
    refine loopK (K := fun o => fin _ (aft _ _ _ o)) (fun i => ⟨[(6, .one (.ref 1600 0 0)), (26, .one (.row (oR os))), (27, iV (oR os).length), (28, iV i)], [(1600, .box [.sl 1472 0 (oks (os.take i)).length]), (1472, .rows 119 1 (wR (oks (os.take i))))]⟩) (fun i => some (.one (jV (wR (oks os))), [])) os.length ?hr2 os.length 0 N _ (by omega) hN ?hk2
    case hk2 => simp only [kk, simprocAttr]; try rfl
    case hr2 =>
     intro j q2 hj ih
     (try dsimp only)
     have htj := oks_le (os.take j)
     rw [List.length_take] at htj
     have hwl : (wR (oks (os.take j))).length = (oks (os.take j)).length := by simp [wR]
     have htk : List.take (oks (os.take j)).length (wR (oks (os.take j))) = wR (oks (os.take j)) := List.take_of_length_le (by omega)
     by_cases hlt : j < os.length
     ·have g1 : decide ((j : Int) < ((oR os).length : Int)) = true := by rw [hol]; simp; omega
      have hb : 0 ≤ (j : Int) ∧ (j : Int) < ((oR os).length : Int) := by rw [hol]; omega
      have hs := hget hlt
      have hst := oks_s hlt
      cases ho : os[j] with
      | none =>
       rw [ho] at hs hst
       simp only [oV] at hs
       simp only [g1, hb.1, hb.2, hs, wi j (by omega), Int.toNat_natCast, j140, b140, q140, ww, simprocAttr]
       exact ih hlt _ (by simp only [hst, List.append_nil, kk, simprocAttr])
      | some p =>
       rw [ho] at hs hst
       simp only [oV] at hs
       have hby2 : ((oks (os.take j)).length + 1) * 16 ≤ 140737488355328 := by omega
       have hwa : wR (oks (os.take j) ++ [p]) = wR (oks (os.take j)) ++ [[wV p.1 p.2]] := by simp [wR]
       simp only [g1, hb.1, hb.2, hs, hwl, htk, hby2, wi j (by omega), Int.toNat_natCast, Nat.le_refl, BEq.rfl, j140, b140, q140, ww, simprocAttr]
       exact ih hlt _ (by simp only [hst, hwa, List.length_append, List.length_cons, List.length_nil, Nat.zero_add, kk, simprocAttr])
     ·obtain rfl : j = os.length := by omega
      have g1 : decide ((os.length : Int) < ((oR os).length : Int)) = false := by rw [hol]; simp
      rw [List.take_length] at hwl htk ⊢
      simp only [g1, blkMents, Blk.mentB, j140, b140, q140, ww, simprocAttr]
      simp only [hwl, htk, Nat.le_refl, j140, b140, q140, ww, simprocAttr]
end Go.Proofs.YtdflglehippoiaaGreatDoor.EA
set_option maxRecDepth 100000
namespace Go.Proofs.YtdflglehippoiaaGreatDoor.XE
open Go Go.RowKit Go.Proofs.YtdflglehippoiaaGreatDoorR
open EA (wV jV tV whys whys_get e169w e169j)

def errnoM : Model
 | [.one (.k .nilIface)] => some (iV 0, [])
 | [.one (.ifc 185 (.ptr [.k (.string _), .ifc 34 (.int .i64 e)]))] => some (iV e, [])
 | [.one (.ifc 182 (.ptr [.row xs]))] => match whys xs with
  | some (e :: l) => if l.length < 1000 then some (iV (if (e :: l).any (fun x => decide (x = 9)) then 9 else e), []) else none
  | _ => none
 | _ => none
theorem glob_cell {w : World} (h : GLW w) : w.cell? ⟨0, 0, none⟩ = some (RT 119) := by
 obtain ⟨t, fr, h0⟩ := h (0, #[RT 119]) (List.mem_singleton.2 rfl)
 have h0 : w.heap[0]? = some (.cells #[RT 119] t fr) := h0
 simp [World.cell?, h0]
theorem addr_some {w : World} {a : Addr} {v : Value} (h : w.cell? (a.add 0) = some v) : ∃ b o, a = ⟨b, o, none⟩ ∧ w.cell? ⟨b, o, none⟩ = some v := by
 have h0 : a.add 0 = a := rfl
 rw [h0] at h
 obtain ⟨b, o, sp⟩ := a
 cases sp with
 | none => exact ⟨b, o, rfl, h⟩
 | some s =>
  exfalso
  unfold World.cell? at h
  split at h
  ·simp at h
  ·cases h
theorem calls35 {w : World} {ok0 : Nat → Prop} {x : V} {v : Value} {n : Int} {b : Bool} {N d : Nat} (hm : IE.TT N d 169 [.one x, tV n, bV true] = some (bV b, [])) (hg : GLW w) (hok : ∀ b, ok0 b → b < w.heap.size) (hx : RV w ok0 (fun _ => none) x v) :
  Calls Tryz.prog 169 #[v, .iface 34 (.int .i64 n), .bool true] w fun e w' => e = .returned (.bool b) ∧ Below w.heap.size w w' := by
 have hr : RSs w ok0 (fun _ => none) [.one x, tV n, bV true] (#[v, .iface 34 (.int .i64 n), .bool true] : Array Value).toList :=
  rss_cons (a := .one x) hx (rss_cons (a := tV n) (show RV w ok0 _ _ _ from Rep.rv (loc := fun _ => none) (.ifc .int)) (rss_cons (a := bV true) (show RV w ok0 _ _ _ from Rep.rv (loc := fun _ => none) .bool) rss_nil))
 refine ((IE.TT_ok N d 169).closed hm rfl hg hok hr).2.mono fun e w' ⟨u, loc, h1, h2, _, h4⟩ => ?_
 cases (show Rep w' _ (.bool b) u from h4)
 exact ⟨h1, h2⟩
theorem wrong_cells {w : World} {ok : Nat → Prop} {s : ByteArray} {e : Int} {v : Value} (h : Rep w ok (wV s e) v) : ∃ pb po, v = .iface 185 (.pointer (some ⟨pb, po, none⟩)) ∧ w.cell? ⟨pb, po + 1, none⟩ = some (.iface 34 (.int .i64 e)) := by
 cases h with
 | ifc h => cases h with
  | ptr u ha hr hp =>
   have h1 := hr 1 _ rfl
   have h2 := hp 1 _ rfl
   generalize u 1 = z at h1 h2
   obtain ⟨b, o, rfl, _⟩ := addr_some (hr 0 _ rfl)
   rw [Addr.add_lit] at h1
   cases h2 with
   | ifc h2 =>
    cases h2
    exact ⟨b, o, rfl, h1⟩
theorem join_cells {w : World} {ok : Nat → Prop} {xs : List (List V)} {s : ByteArray} {e : Int} {v : Value} (h : Rep w ok (jV xs) v) (hx : xs[0]? = some [wV s e]) : ∃ qb qo bb bo pb po n c, v = .iface 182 (.pointer (some ⟨qb, qo, none⟩)) ∧ 0 < n ∧ w.cell? ⟨qb, qo, none⟩ = some (.slice (some ⟨bb, bo, none⟩) n c) ∧ w.cell? ⟨bb, bo, none⟩ = some (.iface 185 (.pointer (some ⟨pb, po, none⟩))) ∧ w.cell? ⟨pb, po + 1, none⟩ = some (.iface 34 (.int .i64 e)) := by
 cases h with
 | ifc h => cases h with
  | ptr u ha hr hp =>
   have h1 := hr 0 _ rfl
   have h2 := hp 0 _ rfl
   generalize u 0 = z at h1 h2
   cases h2 with
   | row0 A c => simp at hx
   | row u' hn hne hc ha' he' hr' hp' =>
    rename_i a' n c e'
    have h3 := hr' 0 0 _ _ hx rfl
    have h4 := hp' 0 0 _ _ hx rfl
    generalize u' 0 0 = z' at h3 h4
    obtain ⟨pb, po, rfl, h5⟩ := wrong_cells h4
    rw [Nat.zero_mul, Nat.zero_add] at h3
    obtain ⟨b, o, rfl, h6⟩ := addr_some h1
    obtain ⟨b', o', rfl, h7⟩ := addr_some h3
    exact ⟨b, o, b', o', pb, po, n, c, rfl, hne, h6, h7, h5⟩
theorem c28_wrong {w : World} {pb po : Nat} {e : Int} (hg : w.cell? ⟨0, 0, none⟩ = some (RT 119)) (hp : w.cell? ⟨pb, po + 1, none⟩ = some (.iface 34 (.int .i64 e))) : ∀ w', Below w.heap.size w w' → Calls Tryz.prog 139 #[.iface 185 (.pointer (some ⟨pb, po, none⟩)), .iface 145 (.pointer (some ⟨w'.heap.size, 0, none⟩))] (w'.alloc (.cells #[.int .i64 0] 34)) fun ev w2 => ev = .returned (.bool true) ∧ Below w.heap.size w w2 ∧ w2.cell? ⟨w'.heap.size, 0, none⟩ = some (.int .i64 e) := by
 intro w' hB
 have hgl := cell_lt hg
 have hpl := cell_lt hp
 have hs := hB.size
 have hg1 : (w'.alloc (.cells #[.int .i64 0] 34)).cell? ⟨0, 0, none⟩ = some (RT 119) := by rw [World.cell?_alloc_lt _ _ _ (Nat.lt_of_lt_of_le hgl hs), hB.cell hgl]; exact hg
 have hp1 : (w'.alloc (.cells #[.int .i64 0] 34)).cell? ⟨pb, po + 1, none⟩ = some (.iface 34 (.int .i64 e)) := by rw [World.cell?_alloc_lt _ _ _ (Nat.lt_of_lt_of_le hpl hs), hB.cell hpl]; exact hp
 have ht1 : (w'.alloc (.cells #[.int .i64 0] 34)).cell? ⟨w'.heap.size, 0, none⟩ = some (.int .i64 0) := by simp
 have hf1 : (w'.alloc (.cells #[.int .i64 0] 34)).frozen? ⟨w'.heap.size, 0, none⟩ = false := by simp
 refine (As_wrong pb po ⟨w'.heap.size, 0, none⟩ e _ _ hg1 hp1 ht1 hf1).mono fun ev w2 ⟨h1, h2⟩ => ⟨h1, ?_, ?_⟩
 ·subst h2
  refine Below.setCell ?_ (by show w.heap.size ≤ w'.heap.size; exact hs) _
  refine Below.alloc (Below.alloc (Below.alloc (Below.alloc (hB.alloc hs _) ?_ _) ?_ _) ?_ _) ?_ _
  all_goals (simp; omega)
 ·subst h2
  refine World.cell?_setCell_same (u := .int .i64 0) _ _ _ ?_
  rw [World.cell?_alloc_lt _ _ _ (by simp; omega), World.cell?_alloc_lt _ _ _ (by simp; omega), wA_old (by simp)]
  exact ht1
theorem c28_join {w : World} {qb qo bb bo pb po n c : Nat} {e : Int} (hn : 0 < n) (hg : w.cell? ⟨0, 0, none⟩ = some (RT 119)) (hq : w.cell? ⟨qb, qo, none⟩ = some (.slice (some ⟨bb, bo, none⟩) n c)) (hb : w.cell? ⟨bb, bo, none⟩ = some (.iface 185 (.pointer (some ⟨pb, po, none⟩)))) (hp : w.cell? ⟨pb, po + 1, none⟩ = some (.iface 34 (.int .i64 e))) : ∀ w', Below w.heap.size w w' → Calls Tryz.prog 139 #[.iface 182 (.pointer (some ⟨qb, qo, none⟩)), .iface 145 (.pointer (some ⟨w'.heap.size, 0, none⟩))] (w'.alloc (.cells #[.int .i64 0] 34)) fun ev w2 => ev = .returned (.bool true) ∧ Below w.heap.size w w2 ∧ w2.cell? ⟨w'.heap.size, 0, none⟩ = some (.int .i64 e) := by
 intro w' hB
 have hgl := cell_lt hg
 have hpl := cell_lt hp
 have hql := cell_lt hq
 have hbl := cell_lt hb
 have hs := hB.size
 have up : ∀ {a : Addr} {v : Value}, w.cell? a = some v → (w'.alloc (.cells #[.int .i64 0] 34)).cell? a = some v := fun h => by rw [World.cell?_alloc_lt _ _ _ (Nat.lt_of_lt_of_le (cell_lt h) hs), hB.cell (cell_lt h)]; exact h
 have ht1 : (w'.alloc (.cells #[.int .i64 0] 34)).cell? ⟨w'.heap.size, 0, none⟩ = some (.int .i64 0) := by simp
 have hf1 : (w'.alloc (.cells #[.int .i64 0] 34)).frozen? ⟨w'.heap.size, 0, none⟩ = false := by simp
 refine (As_join qb qo bb bo pb po n c hn ⟨w'.heap.size, 0, none⟩ e _ _ (up hg) (up hq) (up hb) (up hp) ht1 hf1).mono fun ev w2 ⟨h1, h2⟩ => ⟨h1, ?_, ?_⟩
 ·subst h2
  refine Below.setCell ?_ (by show w.heap.size ≤ w'.heap.size; exact hs) _
  refine Below.alloc (Below.alloc (Below.alloc (Below.alloc (Below.alloc (hB.alloc hs _) ?_ _) ?_ _) ?_ _) ?_ _) ?_ _
  all_goals (simp; omega)
 ·subst h2
  refine World.cell?_setCell_same (u := .int .i64 0) _ _ _ ?_
  rw [World.cell?_alloc_lt _ _ _ (by simp; omega), World.cell?_alloc_lt _ _ _ (by simp; omega), World.cell?_alloc_lt _ _ _ (by simp; omega), wA_old (by simp)]
  exact ht1
theorem errno_calls {w : World} {ok0 : Nat → Prop} {x : V} {v : Value} {n : Int} (hg : GLW w) (hok : ∀ b, ok0 b → b < w.heap.size) (hx : Rep w ok0 x v) (hm : errnoM [.one x] = some (iV n, [])) : Calls Tryz.prog 104 #[v] w fun e w' => e = .returned (.int .i64 n) ∧ Below w.heap.size w w' := by
 have hgc := glob_cell hg
 unfold errnoM at hm
 split at hm
 ·rename_i heq
  cases hm
  cases heq
  cases hx
  exact errno_nil w
 ·rename_i s e heq
  have hen : e = n := by cases hm; rfl
  subst hen
  cases heq
  have h35 := calls35 (e169w 0 0 s e 9) hg hok hx.rv
  obtain ⟨pb, po, rfl, hp⟩ := wrong_cells hx
  by_cases h9 : e = 9
  ·subst h9
   exact errno_is _ w (Is_of81 _ 9 true w (by simpa using h35))
  ·rw [decide_eq_false h9] at h35
   exact errno_as _ e w (Is_of81 _ 9 false w h35) (c28_wrong hgc hp)
 ·rename_i xs heq
  cases heq
  split at hm
  ·rename_i e l hw
   split at hm
   ·rename_i hl
    cases hm
    obtain ⟨g1, g2⟩ := whys_get hw
    obtain ⟨s, hs⟩ := g2 0 e rfl
    have h35 := calls35 (e169j 1000 0 xs (e :: l) 9 hw (by simp; omega) (by simp; omega)) hg hok hx.rv
    obtain ⟨qb, qo, bb, bo, pb, po, m, c, rfl, hn, hq, hb, hp⟩ := join_cells hx hs
    cases h9 : (e :: l).any fun x => decide (x = 9) with
    | true =>
     rw [h9] at h35
     rw [if_pos rfl]
     exact errno_is _ w (Is_of78 _ 9 true w h35)
    | false =>
     rw [h9] at h35
     rw [if_neg (by decide)]
     exact errno_as _ e w (Is_of78 _ 9 false w h35) (c28_join hn hgc hq hb hp)
   ·cases hm
  ·cases hm
 ·cases hm
theorem errno_shape {args : List S} {r : S} {hp : Hp} (h : errnoM args = some (r, hp)) : ∃ x n, args = [.one x] ∧ r = iV n ∧ hp = [] := by
 unfold errnoM at h
 split at h
 ·cases h; exact ⟨_, _, rfl, rfl, rfl⟩
 ·cases h; exact ⟨_, _, rfl, rfl, rfl⟩
 ·split at h
  ·split at h
   ·cases h; exact ⟨_, _, rfl, rfl, rfl⟩
   ·cases h
  ·cases h
 ·cases h
theorem errno_ok : Sound Tryz.prog 104 errnoM := by
 intro args r hp hr as_ h0 hsp w ok0 loc0 vs hgl hok hHp hargs
 obtain ⟨x, n, rfl, rfl, rfl⟩ := errno_shape hr
 cases hsp
 have hl0 : ∀ s, loc0 s = none := fun s => by
  have := hHp.dom s
  cases h : loc0 s with
  | none => rfl
  | some l => rw [h] at this; cases this
 have hl : loc0 = fun _ => none := funext hl0
 subst hl
 obtain ⟨h1, h2⟩ := hargs
 obtain ⟨v, hv⟩ : ∃ v, vs.toList = [v] := by
  match hq : vs.toList, h1 with
  | [v], _ => exact ⟨v, rfl⟩
 obtain rfl : vs = #[v] := by apply Array.toList_inj.1; rw [hv]
 have hx0 : RV w ok0 (fun _ => none) x v := h2 0 _ v rfl rfl
 have hx : Rep w ok0 x v := by
  cases x with
  | ref s i j => simp [errnoM] at hr
  | sl s i j => simp [errnoM] at hr
  | _ => exact hx0
 refine ⟨by kernel_rfl, (errno_calls hgl.1 (fun b hb => (hok b hb).1) hx hr).mono fun e w' ⟨h3, h4⟩ => ⟨_, fun _ => none, h3, ⟨h4.os, h4.tape, h4.output, h4.size, fun k hk _ => h4.block k hk⟩, ⟨fun s => rfl, fun s l B h => (by cases h), fun s s' l l' b h => (by cases h), fun s l b h => (by cases h)⟩, Rep.rv (loc := fun _ => none) .int, fun s b h => (by cases h)⟩⟩
end Go.Proofs.YtdflglehippoiaaGreatDoor.XE
set_option maxRecDepth 100000
namespace Go.Proofs.YtdflglehippoiaaGreatDoor.XM
open Go Go.RowKit Go.Lib Go.Shelf Go.Proofs Go.Proofs.YtdflglehippoiaaGreatDoorR

theorem run_copy_row {P : Program} (w : World) (dT sT ty elem : TypeId) {i : TypeInfo} (hu : P.underlying dT = some (.slice elem)) (hi : P.info? elem = some i) {b o dLen dCap : Nat} {t : TypeId} {cur : Array Value} (hb : w.heap[b]? = some (.cells cur t (0, 0))) {a : Addr} {sLen sCap : Nat} (src : List Value)
  (hn : src.length = Nat.min sLen dLen * i.size) (hsrc : ∀ (j : Nat) v, src[j]? = some v → w.cell? (a.add j) = some v) (hfit : o + src.length ≤ cur.size) (h1 : ∀ v ∈ src, v.oneCell' = true) :
  (Builtin.copy_ #[dT, sT] ty #[.slice (some ⟨b, o, none⟩) dLen dCap, .slice (some a) sLen sCap]).run P w = .ok (goInt (Nat.min sLen dLen)) (w.setRow b (cur.toList.take o ++ src ++ cur.toList.drop (o + src.length)).toArray) := by
 have hl := run_loadCells_list (P := P) w a src hsrc
 have hst := run_storeCells_at P b o t src 0 cur w hb (by simpa using hfit) h1
 simp only [Nat.add_zero] at hst
 simp [Builtin.copy_, run_underlying hu, Builtin.lenOf, Builtin.firstCells, sizeOf, typeInfo, hi, ← hn, hl, hst]

theorem m0 : Tryz.prog.follows .mixedOrders = true := by kernel_rfl
theorem t3 : Tryz.prog.underlying 3 = some (.int .i64) := by kernel_rfl
theorem t4 : Tryz.prog.underlying 4 = some .bool := by kernel_rfl
theorem tS : Tryz.prog.underlying 25 = some (.slice 51) := by kernel_rfl
theorem zS (w : World) : (sizeOf 25).run Tryz.prog w = .ok 1 w := by kernel_rfl
theorem zE (w : World) : (sizeOf 51).run Tryz.prog w = .ok 3 w := by kernel_rfl
theorem aS (w : World) : (isAgg 25).run Tryz.prog w = .ok false w := by kernel_rfl
theorem iE : ∃ i z, Tryz.prog.info? 51 = some i ∧ i.size = 3 ∧ i.bytes = 24 ∧ i.zero = some z ∧ z.cells.size = 3 := by
 have h1 : (Tryz.prog.info? 51).map (fun i => (i.size, i.bytes, i.zero.map fun z => z.cells.size)) = some (3, 24, some 3) := by kernel_rfl
 cases h : Tryz.prog.info? 51 with
 | none => rw [h] at h1; cases h1
 | some i =>
  rw [h] at h1
  simp only [Option.map_some, Option.some.injEq, Prod.mk.injEq] at h1
  obtain ⟨h2, h3, h4⟩ := h1
  rw [Option.map_eq_some_iff] at h4
  obtain ⟨z, h5, h6⟩ := h4
  exact ⟨i, z, rfl, h2, h3, h5, h6⟩

theorem shift_list {α : Type} (L D V : List α) (p e q : Nat) (h1 : p + e ≤ L.length) (hV : V.length = e) (hD : p + e + D.length = q) :
  (L.take (p + e) ++ D ++ L.drop (p + e + D.length)).take p ++ V ++ (L.take (p + e) ++ D ++ L.drop (p + e + D.length)).drop (p + V.length) = L.take p ++ V ++ D ++ L.drop q := by
 have hl : (L.take (p + e)).length = p + e := by rw [List.length_take]; omega
 have e1 : (L.take (p + e) ++ D ++ L.drop (p + e + D.length)).take p = L.take p := by
  rw [List.append_assoc, List.take_append_of_le_length (by omega), List.take_take]
  congr 1
  omega
 have e2 : (L.take (p + e) ++ D ++ L.drop (p + e + D.length)).drop (p + V.length) = D ++ L.drop q := by
  rw [hV, hD, List.append_assoc]
  have h3 := List.drop_append_of_le_length (l₁ := L.take (p + e)) (l₂ := D ++ L.drop q) (i := p + e) (by omega)
  rw [h3, List.drop_of_length_le (by omega), List.nil_append]
 rw [e1, e2]
 simp only [List.append_assoc]
set_option maxHeartbeats 4000000 in
theorem shift (b n c i vb m vc : Nat) (cs vcs : Array Value) (w : World) (hi : i < n) (hm : m = 1) (hroom : n + m ≤ c) (hc63 : c ≤ 9223372036854775807) (hvb : vb ≠ b) (hb : w.heap[b]? = some (.cells cs 51 (0, 0))) (hcs : cs.size = c * 3) (hvc : w.heap[vb]? = some (.cells vcs 51 (0, 0))) (hvs : 3 ≤ vcs.size)
  (h1c : ∀ v ∈ cs.toList.take (n * 3), v.oneCell' = true) (h1v : ∀ v ∈ vcs.toList.take 3, v.oneCell' = true) :
  Calls Tryz.prog 152 #[.slice (some ⟨b, 0, none⟩) n c, .int .i64 i, .slice (some ⟨vb, 0, none⟩) m vc] w fun e w' =>
   e = .returned (.slice (some ⟨b, 0, none⟩) (n + m) c) ∧ ∃ cs' : Array Value, w' = w.drew.setRow b cs' ∧ cs'.toList = cs.toList.take (i * 3) ++ vcs.toList.take 3 ++ (cs.toList.take (n * 3)).drop (i * 3) ++ cs.toList.drop ((n + 1) * 3) := by
 subst hm
 obtain ⟨ti, z, i1, i2, i3, i4, i5⟩ := iE
 have u3 := run_underlying t3
 have u4 := run_underlying t4
 have uS := run_underlying tS
 have zS := zS
 have zE := zE
 have aS := aS
 have mixed := m0
 have hz1 : ¬ ((1 : Int) = 0) := by omega
 have hz2 : ¬ ((i : Int) = (n : Int)) := by omega
 have hov : ∀ lb cb, (callFunc 184 #[.slice (some ⟨vb, 0, none⟩) 1 vc, .slice (some ⟨b, (i + 1) * 3, none⟩) lb cb]).run Tryz.prog w = .ok (.value (.bool false)) w := fun lb cb => by
  rw [run_callFunc_extern Tryz.func184 (by kernel_rfl) (by kernel_rfl) (by kernel_rfl) (e := Extern.SlicesOverlaps.overlaps #[25, 25] #[4]) (by kernel_rfl),
   Lib.run_overlaps_apart w 25 4 51 tS 3 zE ⟨vb, 0, none⟩ ⟨b, (i + 1) * 3, none⟩ 1 vc lb cb hvb _ _ _ _ (by simp [World.shape?, hvc]; exact ⟨rfl, rfl⟩) (by simp [World.shape?, hb]; exact ⟨rfl, rfl⟩) (by omega) (by simp [World.frozen?, hvc]) (by simp [World.frozen?, hvc])]
  rfl
 obtain ⟨D, hD⟩ : ∃ D, D = (cs.toList.take (n * 3)).drop (i * 3) := ⟨_, rfl⟩
 have hcl : cs.toList.length = c * 3 := by simp [hcs]
 have hDl : D.length = (n - i) * 3 := by rw [hD, List.length_drop, List.length_take, hcl]; omega
 have hw1 : IntKind.i64.wrap ((i : Int) + 1) = (i : Int) + 1 := by rw [IntKind.wrap_i64]; omega
 have hb1 : (0 : Int) ≤ (i : Int) + 1 := by omega
 have hin : i ≤ n := by omega
 have htn : ((i : Int) + 1).toNat = i + 1 := by omega
 have hb2 : ¬ (c = i + 1) := by omega
 have hb3 : (i : Int) ≤ (n : Int) + 1 := by omega
 have hb4 : ¬ (c = i) := by omega
 have hbd : w.drew.heap[b]? = some (.cells cs 51 (0, 0)) := hb
 have hcell : ∀ j, w.cell? ⟨b, j, none⟩ = cs[j]? := fun j => cell_of_row w b j cs _ (0, 0) hb
 obtain ⟨cs1, hcs1⟩ : ∃ cs1 : Array Value, cs1 = (cs.toList.take ((i + 1) * 3) ++ D ++ cs.toList.drop ((i + 1) * 3 + D.length)).toArray := ⟨_, rfl⟩
 have hDg : ∀ (j : Nat) v, D[j]? = some v → cs[i * 3 + j]? = some v := by
  intro j v hj
  rw [hD, List.getElem?_drop, List.getElem?_take] at hj
  split at hj
  ·simpa using hj
  ·cases hj
 have hcp1 : ∀ ty dc sc, (Builtin.copy_ #[25, 25] ty #[.slice (some ⟨b, (i + 1) * 3, none⟩) (n - i) dc, .slice (some ⟨b, i * 3, none⟩) (n + 1 - i) sc]).run Tryz.prog w.drew = .ok (goInt (Nat.min (n + 1 - i) (n - i))) (w.drew.setRow b cs1) := fun ty dc sc => by
  rw [hcs1]
  exact run_copy_row w.drew _ _ ty 51 tS i1 hbd D (by rw [hDl, i2]; simp only [Nat.min_def]; split <;> omega) (fun j v hj => by rw [Addr.add_lit]; exact (hcell _).trans (hDg j v hj)) (by rw [hDl, hcs]; omega) (fun v hv => h1c v (List.mem_of_mem_drop (by rw [hD] at hv; exact hv)))
 obtain ⟨V, hV⟩ : ∃ V, V = vcs.toList.take 3 := ⟨_, rfl⟩
 have hVl : V.length = 3 := by rw [hV, List.length_take]; simp; omega
 have hc1l : cs1.toList.length = c * 3 := by
  rw [hcs1]
  simp only [List.length_append, List.length_take, List.length_drop, hcl, hDl]
  omega
 have hb1d : (w.drew.setRow b cs1).heap[b]? = some (.cells cs1 51 (0, 0)) := setRow_heap w.drew b cs cs1 _ _ hbd
 obtain ⟨cs2, hcs2⟩ : ∃ cs2 : Array Value, cs2 = (cs1.toList.take (i * 3) ++ V ++ cs1.toList.drop (i * 3 + V.length)).toArray := ⟨_, rfl⟩
 have hcp2 : ∀ ty dc, (Builtin.copy_ #[25, 25] ty #[.slice (some ⟨b, i * 3, none⟩) (n + 1 - i) dc, .slice (some ⟨vb, 0, none⟩) 1 vc]).run Tryz.prog (w.drew.setRow b cs1) = .ok (goInt (Nat.min 1 (n + 1 - i))) ((w.drew.setRow b cs1).setRow b cs2) := fun ty dc => by
  rw [hcs2]
  exact run_copy_row _ _ _ ty 51 tS i1 hb1d V (by rw [hVl, i2]; simp only [Nat.min_def]; split <;> omega) (fun j v hj => by
   rw [Addr.add_lit, cell_of_row (w.drew.setRow b cs1) vb _ vcs _ (0, 0) (by rw [setRow_other _ _ _ _ hvb]; exact hvc)]
   rw [hV, List.getElem?_take] at hj
   split at hj
   ·simpa using hj
   ·cases hj) (by rw [hVl, ← Array.length_toList, hc1l]; omega) (fun v hv => h1v v (by rw [hV] at hv; exact hv))
 rw [setRow_setRow] at hcp2
 have H1 : Hid (cs1 = _) := hcs1
 have H2 : Hid (cs2 = _) := hcs2
 have HD : Hid (D = _) := hD
 have HV : Hid (V = _) := hV
 have HL : Hid (D.length = (n - i) * 3 ∧ V.length = 3 ∧ cs.toList.length = c * 3) := ⟨hDl, hVl, hcl⟩
 have HO : Hid (∀ lb cb, (callFunc 184 #[.slice (some ⟨vb, 0, none⟩) 1 vc, .slice (some ⟨b, (i + 1) * 3, none⟩) lb cb]).run Tryz.prog w = .ok (.value (.bool false)) w) := hov
 clear hcs1 hcs2 hD hV hDl hVl hcl hDg hcell hc1l hb1d hbd h1c h1v hvc hvs
 go_enter Tryz.func152, Tryz.ntmps152
 go_wp2_with (simp only [hov])
 go_region_law_o (refine step_copy_runI rfl _ _ 25 25 rfl _ _ (by simp [Act.eval, Act.put]) (by simp [Act.eval, Act.put]) (hcp1 _ _ _) ?_)
 go_wp2_with (at_builtin; refine wpList_copy_runI _ rfl _ _ 25 25 rfl _ _ rfl rfl (hcp2 _ _) ?_)
 go_ret
 refine ⟨rfl, cs2, rfl, ?_⟩
 obtain ⟨l1, l2, l3⟩ := HL.out
 rw [H2.out, H1.out, ← HD.out, ← HV.out]
 simp only [List.toList_toArray]
 have h5 := shift_list cs.toList D V (i * 3) 3 ((n + 1) * 3) (by omega) l2 (by omega)
 rw [show (i + 1) * 3 = i * 3 + 3 by omega]
 exact h5

theorem grow_list {α : Type} (L Z V D : List α) (p e : Nat) (hp : p ≤ L.length) (hV : V.length = e) (hZ : e + D.length ≤ Z.length) :
  ((((L.take p ++ Z).take p ++ V ++ (L.take p ++ Z).drop (p + V.length)).take (p + e) ++ D ++ ((L.take p ++ Z).take p ++ V ++ (L.take p ++ Z).drop (p + V.length)).drop (p + e + D.length))).take (p + e + D.length) = L.take p ++ V ++ D := by
 have hl : (L.take p).length = p := by rw [List.length_take]; omega
 have e1 : (L.take p ++ Z).take p = L.take p := by rw [List.take_append_of_le_length (by omega), List.take_take, Nat.min_self]
 have e2 : (L.take p ++ V ++ (L.take p ++ Z).drop (p + V.length)).take (p + e) = L.take p ++ V := by
  have h1 : (L.take p ++ V).length = p + e := by rw [List.length_append]; omega
  rw [← h1, List.take_left]
 rw [e1, e2]
 have h2 : (L.take p ++ V ++ D).length = p + e + D.length := by simp only [List.length_append]; omega
 rw [← h2, List.take_left]
set_option maxHeartbeats 4000000 in
theorem grow (b n c i vb m vc : Nat) (cs vcs : Array Value) (w : World) (hi : i < n) (hm : m = 1) (hnc : n ≤ c) (hroom : c < n + m) (hbig : (n + 1) * 24 ≤ 140737488355328) (hvb : vb ≠ b) (hb : w.heap[b]? = some (.cells cs 51 (0, 0))) (hcs : cs.size = c * 3) (hvc : w.heap[vb]? = some (.cells vcs 51 (0, 0))) (hvs : 3 ≤ vcs.size)
  (h1c : ∀ v ∈ cs.toList.take (n * 3), v.oneCell' = true) (h1v : ∀ v ∈ vcs.toList.take 3, v.oneCell' = true) :
  Calls Tryz.prog 152 #[.slice (some ⟨b, 0, none⟩) n c, .int .i64 i, .slice (some ⟨vb, 0, none⟩) m vc] w fun e w' =>
   ∃ G, n + m ≤ G ∧ G ≤ maxLen ∧ e = .returned (.slice (some ⟨w.heap.size, 0, none⟩) (n + m) G) ∧ ∃ cs' : Array Value, cs'.size = G * 3 ∧ cs'.toList.take ((n + 1) * 3) = cs.toList.take (i * 3) ++ vcs.toList.take 3 ++ (cs.toList.take (n * 3)).drop (i * 3) ∧
    Below w.heap.size w w' ∧ w'.heap[w.heap.size]? = some (.cells cs' 51 (0, 0)) ∧ w'.heap.size = w.heap.size + 1 := by
 subst hm
 obtain ⟨ti, z, i1, i2, i3, i4, i5⟩ := iE
 have u3 := run_underlying t3
 have u4 := run_underlying t4
 have uS := run_underlying tS
 have zS := zS
 have zE := zE
 have aS := aS
 have mixed := m0
 have hz1 : ¬ ((1 : Int) = 0) := by omega
 have hz2 : ¬ ((i : Int) = (n : Int)) := by omega
 have hz3 : (c : Int) < (n : Int) + 1 := by omega
 obtain ⟨D, hD⟩ : ∃ D, D = (cs.toList.take (n * 3)).drop (i * 3) := ⟨_, rfl⟩
 have hcl : cs.toList.length = c * 3 := by simp [hcs]
 have hDl : D.length = (n - i) * 3 := by rw [hD, List.length_drop, List.length_take, hcl]; omega
 obtain ⟨V, hV⟩ : ∃ V, V = vcs.toList.take 3 := ⟨_, rfl⟩
 have hVl : V.length = 3 := by rw [hV, List.length_take]; simp; omega
 have hbw : b < w.heap.size := by
  rcases Nat.lt_or_ge b w.heap.size with h | h
  ·exact h
  ·rw [Array.getElem?_eq_none h] at hb; cases hb
 have hvw : vb < w.heap.size := by
  rcases Nat.lt_or_ge vb w.heap.size with h | h
  ·exact h
  ·rw [Array.getElem?_eq_none h] at hvc; cases hvc
 have hkk : (n : Int) + 1 - (i : Int) = ((n + 1 - i : Nat) : Int) := by omega
 have hik : i + (n + 1 - i) = n + 1 := by omega
 have hcell : ∀ j, w.cell? ⟨b, j, none⟩ = cs[j]? := fun j => cell_of_row w b j cs _ (0, 0) hb
 have hold : (Builtin.firstCells ti.size i (.slice (some ⟨b, 0, none⟩) i c)).run Tryz.prog w.drew = .ok (cs.toList.take (i * 3)).toArray w.drew := by
  rw [i2]
  exact run_firstCells_some w.drew 3 i ⟨b, 0, none⟩ i c (cs.toList.take (i * 3)) (by rw [List.length_take, hcl]; omega) (fun j v hj => by
   rw [Addr.add_lit]
   rw [List.getElem?_take] at hj
   split at hj
   ·refine (hcell _).trans ?_
    rw [Nat.zero_add]
    simpa using hj
   ·cases hj)
 obtain ⟨G, hG⟩ : ∃ G, G = grownCap w (n + 1) c 51 := ⟨_, rfl⟩
 obtain ⟨Z, hZ⟩ : ∃ Z, Z = (Builtin.zeroCells z.cells (n + 1 - i)).toList ++ (Builtin.zeroCells z.cells (G - (n + 1))).toList := ⟨_, rfl⟩
 obtain ⟨ROW, hROW⟩ : ∃ ROW : Array Value, ROW = (cs.toList.take (i * 3) ++ Z).toArray := ⟨_, rfl⟩
 have hrz : ∀ ty, (Builtin.append_ #[25, 3] ty #[.slice (some ⟨b, 0, none⟩) i c, .int .i64 ((n : Int) + 1 - (i : Int))]).run Tryz.prog w =
   .ok (.slice (some ⟨w.heap.size, 0, none⟩) (n + 1) G) (w.drew.alloc (.cells ROW 51)) := fun ty => by
  have h := Lib.run_append_grow_zeros w 25 3 ty 51 ti z .i64 .i64 tS t3 i1 i4 (some ⟨b, 0, none⟩) i c (cs.toList.take (i * 3)) hold (n + 1 - i) (by omega) (by omega) (by omega) (by omega) (by rw [i3]; omega) (by rw [i3, hik]; exact growslice_fits hroom hbig)
  rw [hik, ← hG] at h
  rw [hkk, h, hROW, hZ]
  congr 3
  apply Array.toList_inj.1
  simp
 have hGn : n + 1 ≤ G := by rw [hG]; exact grownCap_ge w _ _ _
 have hGm : G ≤ maxLen := by rw [hG]; exact grownCap_le_maxLen w (n + 1) c 51 (by unfold maxLen; omega)
 have hG63 : G ≤ 9223372036854775807 := by unfold maxLen at hGm; omega
 have hZl : Z.length = (G - i) * 3 := by
  rw [hZ, List.length_append, Array.length_toList, Array.length_toList, size_zeroCells, size_zeroCells, i5, ← Nat.add_mul]
  congr 1
  omega
 have hRl : ROW.toList.length = G * 3 := by
  rw [hROW]
  simp only [List.length_append, List.length_take, hcl, hZl]
  omega
 obtain ⟨W1, hW1⟩ : ∃ W1, W1 = w.drew.alloc (.cells ROW 51) := ⟨_, rfl⟩
 have hW1b : W1.heap[w.heap.size]? = some (.cells ROW 51 (0, 0)) := by rw [hW1]; exact heap_alloc_new w.drew _
 obtain ⟨cs1, hcs1⟩ : ∃ cs1 : Array Value, cs1 = (ROW.toList.take (i * 3) ++ V ++ ROW.toList.drop (i * 3 + V.length)).toArray := ⟨_, rfl⟩
 have hc1l : cs1.toList.length = G * 3 := by
  rw [hcs1]
  simp only [List.length_append, List.length_take, List.length_drop, hRl, hVl]
  omega
 have hcpA : ∀ (W : World), W.heap = W1.heap → ∀ ty dc, (Builtin.copy_ #[25, 25] ty #[.slice (some ⟨w.heap.size, i * 3, none⟩) (n + 1 - i) dc, .slice (some ⟨vb, 0, none⟩) 1 vc]).run Tryz.prog W = .ok (goInt (Nat.min 1 (n + 1 - i))) (W.setRow w.heap.size cs1) := fun W hW ty dc => by
  rw [hcs1]
  refine run_copy_row W _ _ ty 51 tS i1 (by rw [hW]; exact hW1b) V (by rw [hVl, i2]; simp only [Nat.min_def]; split <;> omega) (fun j v hj => ?_) (by rw [hVl, ← Array.length_toList, hRl]; omega) (fun v hv => h1v v (by rw [hV] at hv; exact hv))
  rw [Addr.add_lit, cell_of_row W vb _ vcs _ (0, 0) (by rw [hW, hW1]; exact (Below.heap_alloc w.drew _ vb hvw).trans hvc)]
  rw [hV, List.getElem?_take] at hj
  split at hj
  ·simpa using hj
  ·cases hj
 obtain ⟨cs2, hcs2⟩ : ∃ cs2 : Array Value, cs2 = (cs1.toList.take ((i + 1) * 3) ++ D ++ cs1.toList.drop ((i + 1) * 3 + D.length)).toArray := ⟨_, rfl⟩
 have hcpB : ∀ (W : World), W.heap = (W1.setRow w.heap.size cs1).heap → ∀ ty dc sc, (Builtin.copy_ #[25, 25] ty #[.slice (some ⟨w.heap.size, (i + 1) * 3, none⟩) (n - i) dc, .slice (some ⟨b, i * 3, none⟩) (n - i) sc]).run Tryz.prog W = .ok (goInt (Nat.min (n - i) (n - i))) (W.setRow w.heap.size cs2) := fun W hW ty dc sc => by
  rw [hcs2]
  refine run_copy_row W _ _ ty 51 tS i1 (by rw [hW]; exact setRow_heap W1 w.heap.size ROW cs1 _ _ hW1b) D (by rw [hDl, i2]; simp only [Nat.min_def]; split <;> omega) (fun j v hj => ?_) (by rw [hDl, ← Array.length_toList, hc1l]; omega) (fun v hv => h1c v (List.mem_of_mem_drop (by rw [hD] at hv; exact hv)))
  rw [Addr.add_lit, cell_of_row W b _ cs _ (0, 0) (by rw [hW, setRow_other _ _ _ _ (by omega), hW1]; exact (Below.heap_alloc w.drew _ b hbw).trans hb)]
  rw [hD, List.getElem?_drop, List.getElem?_take] at hj
  split at hj
  ·simpa using hj
  ·cases hj
 have hGi : ¬ (G = i) := by omega
 have hGim : ¬ (G = i + 1) := by omega
 have hci : ¬ (c = i) := by omega
 have hbN : b ≠ w.heap.size := by omega
 have hw1 : IntKind.i64.wrap ((i : Int) + 1) = (i : Int) + 1 := by rw [IntKind.wrap_i64]; omega
 have hb1 : (0 : Int) ≤ (i : Int) + 1 := by omega
 have hin : i ≤ n := by omega
 have htn : ((i : Int) + 1).toNat = i + 1 := by omega
 have hb3 : (i : Int) ≤ (n : Int) := by omega
 have hE1 : ((w.alloc (.cells ROW 51)).drew).heap = W1.heap := by rw [hW1]; rfl
 have hF1 : (((w.alloc (.cells ROW 51)).drew.setRow w.heap.size cs1).drew).heap = (W1.setRow w.heap.size cs1).heap := by rw [hW1]; rfl
 have H1 : Hid (cs1 = _) := hcs1
 have H2 : Hid (cs2 = _) := hcs2
 have HD : Hid (D = _) := hD
 have HV : Hid (V = _) := hV
 have HR : Hid (ROW = _) := hROW
 have HL : Hid (D.length = (n - i) * 3 ∧ V.length = 3 ∧ cs.toList.length = c * 3 ∧ Z.length = (G - i) * 3 ∧ cs1.toList.length = G * 3 ∧ G ≤ maxLen) := ⟨hDl, hVl, hcl, hZl, hc1l, hGm⟩
 subst hW1
 clear hcs1 hcs2 hD hV hDl hVl hcl hcell hc1l h1c h1v hvc hvs hkk hik hold hROW hG hRl hZ hZl hGm
 go_enter Tryz.func152, Tryz.ntmps152
 go_wp2_with (first
  | (at_builtin; refine Lib.wpList_append_run _ rfl _ _ _ _ rfl _ _ rfl rfl _ _ (hrz _) ?_)
  | (at_builtin; refine wpList_copy_runI _ rfl _ _ 25 25 rfl _ _ rfl rfl (hcpA _ hE1 _ _) ?_))
 go_region_law_o (refine step_copy_runI rfl _ _ 25 25 rfl (.slice (some ⟨w.heap.size, (i + 1) * 3, none⟩) (n - i) (G - (i + 1))) (.slice (some ⟨b, i * 3, none⟩) (n - i) (c - i)) (by simp [Act.eval, Act.put]) (by simp [Act.eval, Act.put]) (hcpB _ hF1 3 (G - (i + 1)) (c - i)) ?_)
 go_wp2
 go_ret
 obtain ⟨l1, l2, l3, l4, l5, l6⟩ := HL.out
 refine ⟨G, hGn, l6, rfl, cs2, ?_, ?_, ?_, ?_, ?_⟩
 ·rw [← Array.length_toList, H2.out]
  simp only [List.length_append, List.length_take, List.length_drop, l5, l1]
  omega
 ·rw [H2.out, H1.out, HR.out, ← HD.out, ← HV.out]
  simp only [List.toList_toArray]
  have h5 := grow_list cs.toList Z V D (i * 3) 3 (by omega) l2 (by omega)
  rw [show (i + 1) * 3 = i * 3 + 3 by omega]
  rw [show (n + 1) * 3 = i * 3 + 3 + D.length by omega]
  exact h5
 ·refine ⟨rfl, rfl, rfl, by simp [World.setRow], fun k hk => ?_⟩
  rw [setRow_other _ _ _ _ (by omega)]
  show ((w.alloc (.cells ROW 51)).drew.setRow w.heap.size cs1).heap[k]? = _
  rw [setRow_other _ _ _ _ (by omega)]
  exact Below.heap_alloc w _ k hk
 ·refine setRow_heap _ w.heap.size cs1 cs2 _ _ ?_
  show ((w.alloc (.cells ROW 51)).drew.setRow w.heap.size cs1).heap[w.heap.size]? = _
  exact setRow_heap _ w.heap.size ROW cs1 _ _ (heap_alloc_new w _)
 ·simp [World.setRow]
end Go.Proofs.YtdflglehippoiaaGreatDoor.XM
set_option maxRecDepth 100000
namespace Go.Proofs.YtdflglehippoiaaGreatDoor.IC
open Go Go.Proofs.YtdflglehippoiaaGreatDoorR
def j152 : C := (.seq (.region [nO 6 (.nilsl 51 3 0)] false)
 (.seq (.region [nO 10 (.mov (.t 0)),
  nO 11 (.mov (.t 1)),
  nO 12 (.cut 3 (.t 10) (some (.t 11)) none)] false)
 (.seq (.region [nO 13 (.mov (.t 2)),
  nO 14 (.len (.t 13)),
  nO 7 (.mov (.t 14))] false)
 (.seq (.seq (.region [nO 15 (.mov (.t 7)),
  nO 16 (.bin .eql (.t 15) (.c (.int .i64 0)))] false)
 (.cond (.t 16) (.seq (.region [nO 17 (.mov (.t 0)),
  nO 6 (.mov (.t 17))] false)
 .ret) .skip))
 (.seq (.region [nO 18 (.mov (.t 0)),
  nO 19 (.len (.t 18)),
  nO 8 (.mov (.t 19))] false)
 (.seq (.seq (.region [nO 20 (.mov (.t 1)),
  nO 21 (.mov (.t 8)),
  nO 22 (.bin .eql (.t 20) (.t 21))] false)
 (.cond (.t 22) (.seq (.region [nO 23 (.mov (.t 0)),
  nO 24 (.mov (.t 2)),
  nO 25 (.app 51 3 24 (.t 23) (.t 24)),
  nO 6 (.mov (.t 25))] false)
 .ret) .skip))
 (.seq (.seq (.region [nO 26 (.mov (.t 8)),
  nO 27 (.mov (.t 7)),
  nO 28 (.bin .add (.t 26) (.t 27)),
  nO 29 (.mov (.t 0)),
  nO 30 (.stop),
  nO 31 (.bin .gtr (.t 28) (.t 30))] false)
 (.cond (.t 31) (.seq (.region [nO 32 (.mov (.t 0)),
  nO 33 (.mov (.t 1)),
  nO 34 (.cut 3 (.t 32) none (some (.t 33))),
  nO 35 (.mov (.t 8)),
  nO 36 (.mov (.t 7)),
  nO 37 (.bin .add (.t 35) (.t 36)),
  nO 38 (.mov (.t 1)),
  nO 39 (.bin .sub (.t 37) (.t 38)),
  nO 40 (.stop),
  nO 9 (.mov (.t 40))] false)
 (.seq (.region [nO 41 (.mov (.t 9)),
  nO 42 (.mov (.t 1)),
  nO 43 (.cut 3 (.t 41) (some (.t 42)) none),
  nO 44 (.mov (.t 2)),
  nO 45 (.stop)] false)
 (.seq (.region [⟨some 46, .mov (.t 9), none, [47, 48, 49, 51, 52, 53], []⟩,
  ⟨some 47, .mov (.t 1), none, [46, 48, 51, 52, 53], []⟩,
  ⟨some 48, .mov (.t 7), none, [46, 47, 51, 52, 53], []⟩,
  ⟨some 49, .bin .add (.t 47) (.t 48), none, [46, 51, 52, 53], [1, 2]⟩,
  ⟨some 50, .cut 3 (.t 46) (some (.t 49)) none, none, [51, 52, 53], [0, 1, 2, 3]⟩,
  ⟨some 51, .mov (.t 0), none, [46, 47, 48, 49, 50, 52], []⟩,
  ⟨some 52, .mov (.t 1), none, [46, 47, 48, 49, 50, 51], []⟩,
  ⟨some 53, .cut 3 (.t 51) (some (.t 52)) none, none, [46, 47, 48, 49, 50], [5, 6]⟩,
  ⟨some 54, .stop, none, [], [0, 1, 2, 3, 4, 5, 6, 7]⟩] true)
 (.seq (.region [nO 55 (.mov (.t 9)),
  nO 6 (.mov (.t 55))] false)
 .ret)))) .skip))
 (.seq (.region [nO 56 (.mov (.t 0)),
  nO 57 (.mov (.t 8)),
  nO 58 (.mov (.t 7)),
  nO 59 (.bin .add (.t 57) (.t 58)),
  nO 60 (.cut 3 (.t 56) none (some (.t 59))),
  nO 0 (.mov (.t 60))] false)
 (.seq (.seq (.region [nO 61 (.mov (.t 2)),
  nO 62 (.mov (.t 0)),
  nO 63 (.mov (.t 1)),
  nO 64 (.mov (.t 7)),
  nO 65 (.bin .add (.t 63) (.t 64)),
  nO 66 (.cut 3 (.t 62) (some (.t 65)) none),
  nO 67 (.stop),
  nO 68 (.un .not (.t 67))] false)
 (.cond (.t 68) (.seq (.region [⟨some 69, .mov (.t 0), none, [70, 71, 72, 74, 75, 76], []⟩,
  ⟨some 70, .mov (.t 1), none, [69, 71, 74, 75, 76], []⟩,
  ⟨some 71, .mov (.t 7), none, [69, 70, 74, 75, 76], []⟩,
  ⟨some 72, .bin .add (.t 70) (.t 71), none, [69, 74, 75, 76], [1, 2]⟩,
  ⟨some 73, .cut 3 (.t 69) (some (.t 72)) none, none, [74, 75, 76], [0, 1, 2, 3]⟩,
  ⟨some 74, .mov (.t 0), none, [69, 70, 71, 72, 73, 75], []⟩,
  ⟨some 75, .mov (.t 1), none, [69, 70, 71, 72, 73, 74], []⟩,
  ⟨some 76, .cut 3 (.t 74) (some (.t 75)) none, none, [69, 70, 71, 72, 73], [5, 6]⟩,
  ⟨some 77, .stop, none, [], [0, 1, 2, 3, 4, 5, 6, 7]⟩] true)
 (.seq (.region [nO 78 (.mov (.t 0)),
  nO 79 (.mov (.t 1)),
  nO 80 (.cut 3 (.t 78) (some (.t 79)) none),
  nO 81 (.mov (.t 2)),
  nO 82 (.stop)] false)
 (.seq (.region [nO 83 (.mov (.t 0)),
  nO 6 (.mov (.t 83))] false)
 .ret))) .skip))
 (.seq (.region [nO 84 (.mov (.t 0)),
  nO 85 (.mov (.t 8)),
  nO 86 (.cut 3 (.t 84) (some (.t 85)) none),
  nO 87 (.mov (.t 2)),
  nO 88 (.stop)] false)
 (.seq (.region [nO 89 (.mov (.t 0)),
  nO 90 (.mov (.t 1)),
  nO 91 (.cut 3 (.t 89) (some (.t 90)) none),
  nO 92 (.mov (.t 7)),
  nO 93 (.stop)] false)
 (.seq (.region [nO 94 (.mov (.t 0)),
  nO 6 (.mov (.t 94))] false)
 .ret))))))))))))
def i152 : F := ⟨3, 95, j152, [.t 6]⟩
theorem b152 : i152.body = j152 := rfl
theorem q152 : i152.res = [.t 6] := rfl
theorem c152 : chkF Tryz.prog Tryz.f152 i152 = true := by kernel_rfl
theorem s152 {m : Model} {E : Nat → Model} (hE : ∀ f, Sound Tryz.prog f (E f)) (hm : ∀ args r, m args = some r → ∃ N, i152.ev E N args = some r) : Sound Tryz.prog 152 m := sound_of i152 Tryz.func152 rfl c152 hE hm
def xt : List (Nat × Model) := []
def tb : List (Nat × F) := [(152, i152)]
theorem xt_ok : ∀ p ∈ xt, Sound Tryz.prog p.1 p.2 := all_nil
theorem tb_ok (N : Nat) : ∀ p ∈ tb, ∀ E : Nat → Model, (∀ f, Sound Tryz.prog f (E f)) → Sound Tryz.prog p.1 (p.2.ev E N) := all_cons (fun E hE => s152 hE fun _ _ h => ⟨N, h⟩) (all_nil)
abbrev TT := T xt tb
theorem TT_ok (N d f : Nat) : Sound Tryz.prog f (TT N d f) := T_ok xt_ok (tb_ok N) d f
theorem t152 (N d : Nat) : TT N (d + 1) 152 = i152.ev (TT N d) N := rfl
end Go.Proofs.YtdflglehippoiaaGreatDoor.IC
set_option maxRecDepth 100000
namespace Go.Proofs.YtdflglehippoiaaGreatDoor.XM
open Go Go.RowKit Go.Proofs.YtdflglehippoiaaGreatDoorR

theorem rows_ins {w : World} {ok : Nat → Prop} {e n at_ : Nat} {xs : List (List V)} {x : List V} {cs vcs L R : List Value} (hx : ∀ y ∈ xs, y.length = e) (hxe : x.length = e) (hn : xs.length = n) (ha : at_ ≤ n) (hcs : n * e ≤ cs.length) (hvcs : e ≤ vcs.length)
  (h1 : ∀ i j y p, xs[i]? = some y → y[j]? = some p → ∃ u, cs[i * e + j]? = some u ∧ Rep w ok p u) (h2 : ∀ (j : Nat) p, x[j]? = some p → ∃ u, vcs[j]? = some u ∧ Rep w ok p u) (hL : L = cs.take (at_ * e) ++ vcs.take e ++ (cs.take (n * e)).drop (at_ * e) ++ R)
  (i j : Nat) (y : List V) (p : V) (hy : (xs.take at_ ++ [x] ++ xs.drop at_)[i]? = some y) (hp : y[j]? = some p) : ∃ u, L[i * e + j]? = some u ∧ Rep w ok p u := by
 have hae : at_ * e ≤ n * e := Nat.mul_le_mul_right e ha
 have l1 : (cs.take (at_ * e)).length = at_ * e := by rw [List.length_take]; omega
 have l2 : (vcs.take e).length = e := by rw [List.length_take]; omega
 have l3 : ((cs.take (n * e)).drop (at_ * e)).length = n * e - at_ * e := by rw [List.length_drop, List.length_take]; omega
 rw [hL]
 rw [List.append_assoc] at hy
 have lt : (xs.take at_).length = at_ := by rw [List.length_take]; omega
 by_cases h3 : i < at_
 ·rw [List.getElem?_append_left (by omega), List.getElem?_take, if_pos h3] at hy
  have hj : j < e := by rw [← hx y (List.mem_of_getElem? hy)]; exact (List.getElem?_eq_some_iff.1 hp).1
  obtain ⟨u, hu, hr⟩ := h1 i j y p hy hp
  have := idx_lt h3 hj
  refine ⟨u, ?_, hr⟩
  rw [List.append_assoc, List.append_assoc, List.getElem?_append_left (by omega), List.getElem?_take, if_pos this]
  exact hu
 ·rw [List.getElem?_append_right (by omega), lt] at hy
  by_cases h4 : i = at_
  ·subst h4
   simp at hy
   subst hy
   have hj : j < e := by rw [← hxe]; exact (List.getElem?_eq_some_iff.1 hp).1
   obtain ⟨u, hu, hr⟩ := h2 j p hp
   refine ⟨u, ?_, hr⟩
   rw [List.append_assoc, List.append_assoc, List.getElem?_append_right (by omega), l1, Nat.add_sub_cancel_left, List.getElem?_append_left (by omega), List.getElem?_take, if_pos hj]
   exact hu
  ·obtain ⟨q, rfl⟩ : ∃ q, i = at_ + 1 + q := ⟨i - at_ - 1, by omega⟩
   rw [show at_ + 1 + q - at_ = q + 1 by omega, List.singleton_append, List.getElem?_cons_succ, List.getElem?_drop] at hy
   have hlt : at_ + q < n := by rw [← hn]; exact (List.getElem?_eq_some_iff.1 hy).1
   have hj : j < e := by rw [← hx y (List.mem_of_getElem? hy)]; exact (List.getElem?_eq_some_iff.1 hp).1
   obtain ⟨u, hu, hr⟩ := h1 (at_ + q) j y p hy hp
   have h5 := idx_lt hlt hj
   have h6 : (at_ + 1 + q) * e + j = at_ * e + (e + (q * e + j)) := by rw [Nat.add_mul, Nat.add_mul, Nat.one_mul]; omega
   have h7 : (at_ + q) * e + j = at_ * e + (q * e + j) := by rw [Nat.add_mul]; omega
   refine ⟨u, ?_, hr⟩
   rw [h6, List.append_assoc, List.append_assoc, List.getElem?_append_right (by omega), l1, Nat.add_sub_cancel_left, List.getElem?_append_right (by omega), l2, Nat.add_sub_cancel_left, List.getElem?_append_left (by omega), List.getElem?_drop, List.getElem?_take, if_pos (by omega), ← h7]
   exact hu
theorem rows_one {w : World} {ok : Nat → Prop} {e n : Nat} {xs : List (List V)} {cs : List Value} (he : 0 < e) (hx : ∀ y ∈ xs, y.length = e) (hn : n ≤ xs.length) (h1 : ∀ i j y p, xs[i]? = some y → y[j]? = some p → ∃ u, cs[i * e + j]? = some u ∧ Rep w ok p u) : ∀ v ∈ cs.take (n * e), v.oneCell' = true := by
 intro v hv
 obtain ⟨k, hk⟩ := List.getElem?_of_mem hv
 rw [List.getElem?_take] at hk
 split at hk
 ·rename_i hlt
  have hi : k / e < xs.length := by
   have : k / e < n := by rw [Nat.div_lt_iff_lt_mul he]; exact hlt
   omega
  have hy := hx xs[k / e] (List.getElem_mem hi)
  have hj : k % e < (xs[k / e]).length := by rw [hy]; exact Nat.mod_lt _ he
  obtain ⟨u, hu, hr⟩ := h1 (k / e) (k % e) _ _ (List.getElem?_eq_getElem hi) (List.getElem?_eq_getElem hj)
  rw [Nat.div_add_mod' k e, hk] at hu
  cases hu
  exact hr.one
 ·cases hk

def insM (el e by_ : Nat) : Model
 | [.one (.sl 0 0 n), .one (.int .i64 at_), .one (.sl 1 0 1), .tup [.tup [.one (.ref el1 e1 0), .one (.row xs)], .tup [.one (.ref el2 e2 0), .one (.row [x])]]] =>
  if (el1 = el ∧ e1 = e ∧ el2 = el ∧ e2 = e) ∧ n = xs.length ∧ 0 ≤ at_ ∧ at_ ≤ n ∧ xs.all (·.length == e) = true ∧ x.length = e ∧ (n + 1) * by_ ≤ 140737488355328 then
   some (.one (.sl 0 0 (n + 1)), [(0, .rows el e (xs.take at_.toNat ++ [x] ++ xs.drop at_.toNat)), (1, .rows el e [x])])
  else none
 | _ => none
theorem ins_end (n : Nat) (xs : List (List V)) (x : List V) (hn : n = xs.length) (hx : xs.all (·.length == 3) = true) (hxe : x.length = 3) (hb : (n + 1) * 24 ≤ 140737488355328) :
  IC.i152.ev (fun _ _ => none) 1 [.one (.sl 0 0 n), iV n, .one (.sl 1 0 1), .tup [.tup [.one (.ref 51 3 0), .one (.row xs)], .tup [.one (.ref 51 3 0), .one (.row [x])]]] = some (.one (.sl 0 0 (n + 1)), [(0, .rows 51 3 (xs.take n ++ [x])), (1, .rows 51 3 [x])]) := by
 have hle : n ≤ xs.length := by omega
 have hx2 : (x.length == 3) = true := by simp [hxe]
 rw [F_evo rfl rfl (by simp)]
 by_cases h0 : n = 0
 ·subst h0
  have hxs : xs = [] := List.eq_nil_of_length_eq_zero hn.symm
  subst hxs
  simp only [hx2, IC.j152, IC.b152, IC.q152, List.nil_append, qq, oo, pp, lives, V.live, purS, S.pur, V.pur, V.pur1, purs, pur1s, mentS, S.ment, S.ment.smt, ments, V.ment, List.append_nil, Hp.ok64, List.all_nil, List.all_cons, S.purT, S.purT.sp, S.self, V.self, selfs, S.self.sself, Hp.self, S.ren, S.ren.sren, V.ren, Hp.ren, true_or, or_true, false_or, or_false, Bool.and_true, Bool.true_and, Bool.and_false, Bool.false_and, Bool.and_self, hand, handSs, handS, handVs, handV, handBs, upTo, one1, List.contains_nil, List.isEmpty_nil, List.take_length, List.getElem?_cons_zero, List.getElem?_cons_succ, fillV, fillR, setAt, List.set_cons_zero, List.set_cons_succ, List.replicate, evE, asRow, callS, callT, callU, names, dedup, blkMents, Blk.mentB, idxOf, V.mapS, S.mapS, S.mapS.smapS, Blk.mapS, encs, encB, isBox, backN, hpBack, killsV, killsS, killsS.ks, killsB, rowsOf, without, keysOk, noTup, boxesOk, fresh, Option.isNone_none, Blk.ren, aloOk, aloV, aloB, frzL, freezes, Go.Proofs.YtdflglehippoiaaGreatDoorR.freeze, drop1, S.frz, S.frz.sf, V.frz, Blk.frz, slMent, pickL, List.map_append, S.kill, S.kill.sk, V.kill, Blk.kill, eqvs, ones, Bool.not_true, Bool.not_false, decide_true, decide_false, List.length_append, Int.le_refl, Int.toNat_natCast, Int.toNat_one, Int.cast_ofNat_Int, List.all_nil, List.contains_cons, Nat.reduceBEq, Bool.false_or, Bool.or_false, Bool.true_or, Bool.or_true, look_hit, look_end, look_miss, List.map_cons, List.map_nil, List.cons_append, List.nil_append, Option.getD_some, Option.getD_none, X.ev, ev, bin, ibin, Option.map_some, Option.map_none, Option.bind_some, S.cells, rd, sub, Go.Proofs.YtdflglehippoiaaGreatDoorR.shape, asI, bnd, evs, Rs.ev, R.ev, params, okKey, Nat.reduceAdd, Nat.reduceMul, Nat.reduceDiv, Nat.reduceEqDiff, Nat.reduceLeDiff, Nat.reduceLT, Int.reduceEq, Int.reduceNe, Int.reduceLT, Int.reduceLE, Int.reduceAdd, Int.reduceSub, Int.reduceMul, Int.reduceNeg, Int.reduceToNat, Int.reducePow, Nat.reducePow, Int.toNat_zero, not_false_eq_true, not_true_eq_false, reduceCtorEq, Nat.zero_add, Nat.add_zero, reduceIte, if_true, if_false, Bool.true_eq_false, Bool.false_eq_true, List.length_cons, List.length_nil, and_self, true_and, and_true, List.drop_zero, List.take_succ_cons, List.take_zero, List.drop_succ_cons, Nat.le_refl]
  try simp
 ·have hn0 : ((n : Int) = 0) = False := eq_false (by omega)
  simp only [hx2, hn0, hx, hle, hb, IC.j152, IC.b152, IC.q152, qq, oo, pp, lives, V.live, purS, S.pur, V.pur, V.pur1, purs, pur1s, mentS, S.ment, S.ment.smt, ments, V.ment, List.append_nil, Hp.ok64, List.all_nil, List.all_cons, S.purT, S.purT.sp, S.self, V.self, selfs, S.self.sself, Hp.self, S.ren, S.ren.sren, V.ren, Hp.ren, true_or, or_true, false_or, or_false, Bool.and_true, Bool.true_and, Bool.and_false, Bool.false_and, Bool.and_self, hand, handSs, handS, handVs, handV, handBs, upTo, one1, List.contains_nil, List.isEmpty_nil, List.take_length, List.getElem?_cons_zero, List.getElem?_cons_succ, fillV, fillR, setAt, List.set_cons_zero, List.set_cons_succ, List.replicate, evE, asRow, callS, callT, callU, names, dedup, blkMents, Blk.mentB, idxOf, V.mapS, S.mapS, S.mapS.smapS, Blk.mapS, encs, encB, isBox, backN, hpBack, killsV, killsS, killsS.ks, killsB, rowsOf, without, keysOk, noTup, boxesOk, fresh, Option.isNone_none, Blk.ren, aloOk, aloV, aloB, frzL, freezes, Go.Proofs.YtdflglehippoiaaGreatDoorR.freeze, drop1, S.frz, S.frz.sf, V.frz, Blk.frz, slMent, pickL, List.map_append, S.kill, S.kill.sk, V.kill, Blk.kill, eqvs, ones, Bool.not_true, Bool.not_false, decide_true, decide_false, List.length_append, Int.le_refl, Int.toNat_natCast, Int.toNat_one, Int.cast_ofNat_Int, List.all_nil, List.contains_cons, Nat.reduceBEq, Bool.false_or, Bool.or_false, Bool.true_or, Bool.or_true, look_hit, look_end, look_miss, List.map_cons, List.map_nil, List.cons_append, List.nil_append, Option.getD_some, Option.getD_none, X.ev, ev, bin, ibin, Option.map_some, Option.map_none, Option.bind_some, S.cells, rd, sub, Go.Proofs.YtdflglehippoiaaGreatDoorR.shape, asI, bnd, evs, Rs.ev, R.ev, params, okKey, Nat.reduceAdd, Nat.reduceMul, Nat.reduceDiv, Nat.reduceEqDiff, Nat.reduceLeDiff, Nat.reduceLT, Int.reduceEq, Int.reduceNe, Int.reduceLT, Int.reduceLE, Int.reduceAdd, Int.reduceSub, Int.reduceMul, Int.reduceNeg, Int.reduceToNat, Int.reducePow, Nat.reducePow, Int.toNat_zero, not_false_eq_true, not_true_eq_false, reduceCtorEq, Nat.zero_add, Nat.add_zero, reduceIte, if_true, if_false, Bool.true_eq_false, Bool.false_eq_true, List.length_cons, List.length_nil, and_self, true_and, and_true, List.drop_zero, List.take_succ_cons, List.take_zero, List.drop_succ_cons, Nat.le_refl]
  try simp

theorem ins_mid {loc0 : Locs} {w : World} {ok0 : Nat → Prop} {vs : Array Value} {n at_ : Nat} {xs : List (List V)} {x : List V} (hn : n = xs.length) (hx : ∀ y ∈ xs, y.length = 3) (hxe : x.length = 3) (hb8 : (n + 1) * 24 ≤ 140737488355328) (hat : at_ < n)
  (hok : ∀ b, ok0 b → b < w.heap.size ∧ ¬ ownL loc0 b) (hHp : HpRel (ownL loc0) w.heap.size w ok0 loc0 [(0, .rows 51 3 xs), (1, .rows 51 3 [x])]) (hargs : RSs w ok0 loc0 [.one (.sl 0 0 n), .one (.int .i64 at_), .one (.sl 1 0 1)] vs.toList) :
  Calls Tryz.prog 152 vs w fun e w' => ∃ v loc, e = .returned v ∧ Frm (ownL loc0) w w' ∧ HpRel (ownL loc0) w.heap.size w' (okI w (fun b => ok0 b ∨ ownL loc0 b) w' loc) loc [(0, .rows 51 3 (xs.take at_ ++ [x] ++ xs.drop at_)), (1, .rows 51 3 [x])] ∧ RS w' (okI w (fun b => ok0 b ∨ ownL loc0 b) w' loc) loc (.one (.sl 0 0 (n + 1))) v ∧
   ∀ s b, loc0 s = some (.box b) → loc s = some (.box b) := by
 -- the arguments
 obtain ⟨ha1, ha2⟩ := hargs
 obtain ⟨v0, v1, v2, hvs⟩ : ∃ v0 v1 v2, vs.toList = [v0, v1, v2] := by
  match hq : vs.toList, ha1 with
  | [v0, v1, v2], _ => exact ⟨v0, v1, v2, rfl⟩
 have hvs' : vs = #[v0, v1, v2] := Array.toList_inj.1 hvs
 have r0 : RV w ok0 loc0 (.sl 0 0 n) v0 := ha2 0 _ v0 rfl (by rw [hvs]; rfl)
 have r1 : RV w ok0 loc0 (.int .i64 at_) v1 := ha2 1 _ v1 rfl (by rw [hvs]; rfl)
 have r2 : RV w ok0 loc0 (.sl 1 0 1) v2 := ha2 2 _ v2 rfl (by rw [hvs]; rfl)
 have e1 : v1 = .int .i64 at_ := by cases (r1 : Rep w ok0 (.int .i64 at_) v1); rfl
 subst e1
 rcases r0 with ⟨b, el0, e0, cap, l0, g0, rfl⟩ | ⟨_, _, g0, _⟩
 case inr => omega
 rcases r2 with ⟨vb, el2, e2, vcap, l2, g2, rfl⟩ | ⟨_, _, g2, _⟩
 case inr => omega
 obtain ⟨q1, q2, k1, k2, k3, cs, hb, hcs, hr⟩ := hHp.blk 0 _ _ l0 rfl
 obtain ⟨q3, q4, p1, p2, p3, vcs, hvb, hvc, hvr⟩ := hHp.blk 1 _ _ l2 rfl
 subst q1; subst q2; subst q3; subst q4
 have hne : vb ≠ b := by
  intro h
  subst h
  have := hHp.inj 0 1 _ _ vb l0 l2 rfl rfl
  omega
 have hown0 : ownL loc0 b := ⟨0, _, l0, rfl⟩
 have hown1 : ownL loc0 vb := ⟨1, _, l2, rfl⟩
 have hvs2 : 3 ≤ vcs.size := by rw [hvc]; omega
 have hbw := (hHp.lo 0 _ b l0 rfl).2
 have hvw := (hHp.lo 1 _ vb l2 rfl).2
 have hcsl : cs.toList.length = cap * 3 := by simp [hcs]
 have hcap63 : cap ≤ 9223372036854775807 := by unfold maxLen at k1; omega
 have h1 : ∀ i j y p, xs[i]? = some y → y[j]? = some p → ∃ u, cs.toList[i * 3 + j]? = some u ∧ Rep w ok0 p u := fun i j y p a1 a2 => by
  obtain ⟨u, hu, hr'⟩ := hr i j y p a1 a2
  exact ⟨u, by simpa using hu, hr'⟩
 have h2 : ∀ (j : Nat) p, x[j]? = some p → ∃ u, vcs.toList[j]? = some u ∧ Rep w ok0 p u := fun j p a => by
  obtain ⟨u, hu, hr'⟩ := hvr 0 j x p rfl a
  exact ⟨u, by simpa using hu, hr'⟩
 have h2' : ∀ i j y p, [x][i]? = some y → y[j]? = some p → ∃ u, vcs.toList[i * 3 + j]? = some u ∧ Rep w ok0 p u := fun i j y p a1 a2 => by
  obtain ⟨u, hu, hr'⟩ := hvr i j y p a1 a2
  exact ⟨u, by simpa using hu, hr'⟩
 have h1c := rows_one (w := w) (ok := ok0) (n := n) (cs := cs.toList) (by omega) hx (by omega) h1
 have h1v := rows_one (w := w) (ok := ok0) (n := 1) (cs := vcs.toList) (xs := [x]) (e := 3) (by omega) (by simpa using hxe) (by simp) h2'
 rw [Nat.one_mul] at h1v
 have hlen : (xs.take at_ ++ [x] ++ xs.drop at_).length = n + 1 := by simp only [List.length_append, List.length_take, List.length_drop, List.length_singleton]; omega
 have hall : ∀ y ∈ (xs.take at_ ++ [x] ++ xs.drop at_), y.length = 3 := by
  intro y hy
  simp only [List.mem_append, List.mem_singleton] at hy
  rcases hy with (hy | rfl) | hy
  ·exact hx y (List.mem_of_mem_take hy)
  ·exact hxe
  ·exact hx y (List.mem_of_mem_drop hy)
 have hdom : ∀ s, (Go.Proofs.YtdflglehippoiaaGreatDoorR.look [(0, Blk.rows 51 3 (xs.take at_ ++ [x] ++ xs.drop at_)), (1, Blk.rows 51 3 [x])] s).isSome = (Go.Proofs.YtdflglehippoiaaGreatDoorR.look [(0, Blk.rows 51 3 xs), (1, Blk.rows 51 3 [x])] s).isSome := by
  intro s
  simp only [Go.Proofs.YtdflglehippoiaaGreatDoorR.look]
  split
  ·rfl
  ·split <;> rfl
 have hkey : ∀ s l, loc0 s = some l → s = 0 ∨ s = 1 := by
  intro s l hs
  have h := hHp.dom s
  rw [hs] at h
  simp only [Go.Proofs.YtdflglehippoiaaGreatDoorR.look] at h
  by_cases h0 : 0 = s
  ·exact .inl h0.symm
  ·rw [if_neg h0] at h
   by_cases h1 : 1 = s
   ·exact .inr h1.symm
   ·rw [if_neg h1] at h; cases h
 rw [hvs']
 simp only [Nat.zero_mul, Nat.sub_zero]
 have hvn : vcap ≥ 1 := by omega
 by_cases hroom : n + 1 ≤ cap
 ·refine (shift b n cap at_ vb 1 vcap cs vcs w hat rfl hroom hcap63 hne hb hcs hvb hvs2 h1c h1v).mono fun e w' ⟨he, cs', hw, hc⟩ => ?_
  subst hw
  have hsame : ∀ k, k ≠ b → (w.drew.setRow b cs').heap[k]? = w.heap[k]? := fun k hk => setRow_other w.drew b k cs' hk
  have hsz : (w.drew.setRow b cs').heap.size = w.heap.size := by simp [World.setRow]
  have hok' : ∀ b', ok0 b' → okI w (fun b => ok0 b ∨ ownL loc0 b) (w.drew.setRow b cs') loc0 b' ∧ (w.drew.setRow b cs').heap[b']? = w.heap[b']? := fun b' h => ⟨⟨.inl (.inl h), by rw [hsz]; exact (hok b' h).1, fun s l hs hl => (hok b' h).2 ⟨s, l, hs, hl⟩⟩, hsame b' fun e => (hok b' h).2 (by rw [e]; exact hown0)⟩
  have hc' : cs'.toList = cs.toList.take (at_ * 3) ++ vcs.toList.take 3 ++ (cs.toList.take (n * 3)).drop (at_ * 3) ++ cs.toList.drop ((n + 1) * 3) := hc
  have hcl : cs'.size = cap * 3 := by
   rw [← Array.length_toList, hc']
   simp only [List.length_append, List.length_take, List.length_drop, hcsl, Array.length_toList]
   omega
  refine ⟨_, loc0, he, ⟨rfl, rfl, rfl, by rw [hsz]; exact Nat.le_refl _, fun k _ ho => hsame k fun e => ho (by rw [e]; exact hown0)⟩, ⟨fun s => by rw [hdom]; exact hHp.dom s, fun s l B hs hB => ?_, hHp.inj, fun s l b' hs hl => ⟨(hHp.lo s l b' hs hl).1, by rw [hsz]; exact (hHp.lo s l b' hs hl).2⟩⟩, ?_, fun s b' h => h⟩
  ·rcases hkey s l hs with rfl | rfl
   ·rw [l0] at hs
    cases hs
    cases hB
    refine ⟨rfl, rfl, k1, by rw [hlen]; exact hroom, hall, cs', setRow_heap w.drew b cs cs' _ _ hb, hcl, fun i j y p a1 a2 => ?_⟩
    obtain ⟨u, hu, hr'⟩ := rows_ins (w := w) (ok := ok0) hx hxe hn.symm (Nat.le_of_lt hat) (by omega) (by simpa using hvs2) h1 h2 hc' i j y p a1 a2
    exact ⟨u, by simpa using hu, hr'.mono hok'⟩
   ·rw [l2] at hs
    cases hs
    cases hB
    refine ⟨rfl, rfl, p1, p2, p3, vcs, by rw [hsame vb hne]; exact hvb, hvc, fun i j y p a1 a2 => ?_⟩
    obtain ⟨u, hu, hr'⟩ := hvr i j y p a1 a2
    exact ⟨u, hu, hr'.mono hok'⟩
  ·exact .inl ⟨b, _, _, cap, l0, by omega, by rw [Nat.zero_mul, Nat.sub_zero]⟩
 ·refine (grow b n cap at_ vb 1 vcap cs vcs w hat rfl (by omega) (by omega) hb8 hne hb hcs hvb hvs2 h1c h1v).mono fun e w' ⟨G, hG1, hG2, he, cs', hcl, hc, hbel, hnew, hsz⟩ => ?_
  have hsame : ∀ k, k < w.heap.size → w'.heap[k]? = w.heap[k]? := fun k hk => hbel.block k hk
  obtain ⟨loc, hloc⟩ : ∃ loc : Locs, loc = loc0.set 0 (.rows w.heap.size 51 3 G) := ⟨_, rfl⟩
  have m0 : loc 0 = some (.rows w.heap.size 51 3 G) := by rw [hloc]; exact set_same _ _ _
  have mo : ∀ s, s ≠ 0 → loc s = loc0 s := fun s hs => by rw [hloc]; exact set_other _ _ hs
  have hok' : ∀ b', ok0 b' → okI w (fun b => ok0 b ∨ ownL loc0 b) w' loc b' ∧ w'.heap[b']? = w.heap[b']? := fun b' h => by
   have hlt := (hok b' h).1
   refine ⟨⟨.inl (.inl h), by omega, fun s l hs hl => ?_⟩, hsame b' hlt⟩
   by_cases h0 : s = 0
   ·subst h0
    rw [m0] at hs
    cases hs
    cases hl
    omega
   ·rw [mo s h0] at hs
    exact (hok b' h).2 ⟨s, l, hs, hl⟩
  refine ⟨_, loc, he, ⟨hbel.os, hbel.tape, hbel.output, hbel.size, fun k hk _ => hsame k hk⟩, ⟨fun s => ?_, fun s l B hs hB => ?_, fun s s' l l' b' hs hs' hl hl' => ?_, fun s l b' hs hl => ?_⟩, ?_, fun s b' h => ?_⟩
  ·rw [hdom, ← hHp.dom]
   by_cases h0 : s = 0
   ·subst h0; rw [m0, l0]; rfl
   ·rw [mo s h0]
  ·by_cases h0 : s = 0
   ·subst h0
    rw [m0] at hs
    cases hs
    cases hB
    refine ⟨rfl, rfl, hG2, by rw [hlen]; exact hG1, hall, cs', hnew, hcl, fun i j y p a1 a2 => ?_⟩
    have hc2 : cs'.toList = cs.toList.take (at_ * 3) ++ vcs.toList.take 3 ++ (cs.toList.take (n * 3)).drop (at_ * 3) ++ cs'.toList.drop ((n + 1) * 3) := by rw [← hc, List.take_append_drop]
    obtain ⟨u, hu, hr'⟩ := rows_ins (w := w) (ok := ok0) hx hxe hn.symm (Nat.le_of_lt hat) (by omega) (by simpa using hvs2) h1 h2 hc2 i j y p a1 a2
    exact ⟨u, by simpa using hu, hr'.mono hok'⟩
   ·rw [mo s h0] at hs
    rcases hkey s l hs with rfl | rfl
    ·exact absurd rfl h0
    ·rw [l2] at hs
     cases hs
     cases hB
     refine ⟨rfl, rfl, p1, p2, p3, vcs, by rw [hsame vb hvw]; exact hvb, hvc, fun i j y p a1 a2 => ?_⟩
     obtain ⟨u, hu, hr'⟩ := hvr i j y p a1 a2
     exact ⟨u, hu, hr'.mono hok'⟩
  ·by_cases h0 : s = 0
   ·by_cases h0' : s' = 0
    ·rw [h0, h0']
    ·subst h0
     rw [m0] at hs
     cases hs
     cases hl
     rw [mo s' h0'] at hs'
     have := (hHp.lo s' l' _ hs' hl').2
     omega
   ·by_cases h0' : s' = 0
    ·subst h0'
     rw [m0] at hs'
     cases hs'
     cases hl'
     rw [mo s h0] at hs
     have := (hHp.lo s l _ hs hl).2
     omega
    ·rw [mo s h0] at hs
     rw [mo s' h0'] at hs'
     exact hHp.inj s s' l l' b' hs hs' hl hl'
  ·by_cases h0 : s = 0
   ·subst h0
    rw [m0] at hs
    cases hs
    cases hl
    exact ⟨.inr (Nat.le_refl _), by omega⟩
   ·rw [mo s h0] at hs
    have := hHp.lo s l b' hs hl
    exact ⟨this.1, by have := this.2; omega⟩
  ·exact .inl ⟨w.heap.size, _, _, G, m0, by omega, by rw [Nat.zero_mul, Nat.sub_zero]⟩
  ·have h0 : s ≠ 0 := by
    intro h0
    subst h0
    rw [l0] at h
    cases h
   rw [mo s h0]
   exact h
theorem ins_ok : Sound Tryz.prog 152 (insM 51 3 24) := by
 intro args r hp hr ys h0 hsp w ok0 loc0 vs hgl hok hHp hargs
 unfold insM at hr
 split at hr
 ·rename_i n at_ el1 e1 xs el2 e2 x
  split at hr
  ·rename_i hc
   obtain ⟨⟨rfl, rfl, rfl, rfl⟩, hn, h0', h1, hx, hxe, hb⟩ := hc
   have hx' : ∀ y ∈ xs, y.length = 3 := fun y hy => by have := List.all_eq_true.1 hx y hy; simpa using this
   cases hr
   cases hsp
   obtain ⟨k, rfl⟩ : ∃ k : Nat, at_ = (k : Int) := ⟨at_.toNat, by omega⟩
   rw [Int.toNat_natCast]
   by_cases hlt : k < n
   ·exact ⟨by kernel_rfl, ins_mid hn hx' hxe hb hlt hok hHp hargs⟩
   ·obtain rfl : k = n := by omega
    have h5 := ins_end k xs x hn hx hxe hb
    have h6 := (IC.s152 (m := IC.i152.ev (fun _ _ => none) 1) (E := fun _ _ => none) (fun _ => Sound.no) fun _ _ h => ⟨1, h⟩) _ _ _ h5 _ _ rfl w ok0 loc0 vs hgl hok hHp hargs
    rw [show xs.drop k = [] from List.drop_of_length_le (by omega), List.append_nil]
    exact h6
  ·cases hr
 ·cases hr
end Go.Proofs.YtdflglehippoiaaGreatDoor.XM
set_option maxRecDepth 100000
namespace Go.Proofs.YtdflglehippoiaaGreatDoor.XI
open Go Go.RowKit Go.Lib Go.Shelf Go.Proofs Go.Proofs.YtdflglehippoiaaGreatDoorR

theorem run_copy_row {P : Program} (w : World) (dT sT ty elem : TypeId) {i : TypeInfo} (hu : P.underlying dT = some (.slice elem)) (hi : P.info? elem = some i) {b o dLen dCap : Nat} {t : TypeId} {cur : Array Value} (hb : w.heap[b]? = some (.cells cur t (0, 0))) {a : Addr} {sLen sCap : Nat} (src : List Value)
  (hn : src.length = Nat.min sLen dLen * i.size) (hsrc : ∀ (j : Nat) v, src[j]? = some v → w.cell? (a.add j) = some v) (hfit : o + src.length ≤ cur.size) (h1 : ∀ v ∈ src, v.oneCell' = true) :
  (Builtin.copy_ #[dT, sT] ty #[.slice (some ⟨b, o, none⟩) dLen dCap, .slice (some a) sLen sCap]).run P w = .ok (goInt (Nat.min sLen dLen)) (w.setRow b (cur.toList.take o ++ src ++ cur.toList.drop (o + src.length)).toArray) := by
 have hl := run_loadCells_list (P := P) w a src hsrc
 have hst := run_storeCells_at P b o t src 0 cur w hb (by simpa using hfit) h1
 simp only [Nat.add_zero] at hst
 simp [Builtin.copy_, run_underlying hu, Builtin.lenOf, Builtin.firstCells, sizeOf, typeInfo, hi, ← hn, hl, hst]

theorem m0 : Tryz.prog.follows .mixedOrders = true := by kernel_rfl
theorem t3 : Tryz.prog.underlying 3 = some (.int .i64) := by kernel_rfl
theorem t4 : Tryz.prog.underlying 4 = some .bool := by kernel_rfl
theorem tS : Tryz.prog.underlying 26 = some (.slice 88) := by kernel_rfl
theorem zS (w : World) : (sizeOf 26).run Tryz.prog w = .ok 1 w := by kernel_rfl
theorem zE (w : World) : (sizeOf 88).run Tryz.prog w = .ok 2 w := by kernel_rfl
theorem aS (w : World) : (isAgg 26).run Tryz.prog w = .ok false w := by kernel_rfl
theorem iE : ∃ i z, Tryz.prog.info? 88 = some i ∧ i.size = 2 ∧ i.bytes = 16 ∧ i.zero = some z ∧ z.cells.size = 2 := by
 have h1 : (Tryz.prog.info? 88).map (fun i => (i.size, i.bytes, i.zero.map fun z => z.cells.size)) = some (2, 16, some 2) := by kernel_rfl
 cases h : Tryz.prog.info? 88 with
 | none => rw [h] at h1; cases h1
 | some i =>
  rw [h] at h1
  simp only [Option.map_some, Option.some.injEq, Prod.mk.injEq] at h1
  obtain ⟨h2, h3, h4⟩ := h1
  rw [Option.map_eq_some_iff] at h4
  obtain ⟨z, h5, h6⟩ := h4
  exact ⟨i, z, rfl, h2, h3, h5, h6⟩

theorem shift_list {α : Type} (L D V : List α) (p e q : Nat) (h1 : p + e ≤ L.length) (hV : V.length = e) (hD : p + e + D.length = q) :
  (L.take (p + e) ++ D ++ L.drop (p + e + D.length)).take p ++ V ++ (L.take (p + e) ++ D ++ L.drop (p + e + D.length)).drop (p + V.length) = L.take p ++ V ++ D ++ L.drop q := by
 have hl : (L.take (p + e)).length = p + e := by rw [List.length_take]; omega
 have e1 : (L.take (p + e) ++ D ++ L.drop (p + e + D.length)).take p = L.take p := by
  rw [List.append_assoc, List.take_append_of_le_length (by omega), List.take_take]
  congr 1
  omega
 have e2 : (L.take (p + e) ++ D ++ L.drop (p + e + D.length)).drop (p + V.length) = D ++ L.drop q := by
  rw [hV, hD, List.append_assoc]
  have h3 := List.drop_append_of_le_length (l₁ := L.take (p + e)) (l₂ := D ++ L.drop q) (i := p + e) (by omega)
  rw [h3, List.drop_of_length_le (by omega), List.nil_append]
 rw [e1, e2]
 simp only [List.append_assoc]
set_option maxHeartbeats 4000000 in
theorem shift (b n c i vb m vc : Nat) (cs vcs : Array Value) (w : World) (hi : i < n) (hm : m = 1) (hroom : n + m ≤ c) (hc63 : c ≤ 9223372036854775807) (hvb : vb ≠ b) (hb : w.heap[b]? = some (.cells cs 88 (0, 0))) (hcs : cs.size = c * 2) (hvc : w.heap[vb]? = some (.cells vcs 88 (0, 0))) (hvs : 2 ≤ vcs.size)
  (h1c : ∀ v ∈ cs.toList.take (n * 2), v.oneCell' = true) (h1v : ∀ v ∈ vcs.toList.take 2, v.oneCell' = true) :
  Calls Tryz.prog 151 #[.slice (some ⟨b, 0, none⟩) n c, .int .i64 i, .slice (some ⟨vb, 0, none⟩) m vc] w fun e w' =>
   e = .returned (.slice (some ⟨b, 0, none⟩) (n + m) c) ∧ ∃ cs' : Array Value, w' = w.drew.setRow b cs' ∧ cs'.toList = cs.toList.take (i * 2) ++ vcs.toList.take 2 ++ (cs.toList.take (n * 2)).drop (i * 2) ++ cs.toList.drop ((n + 1) * 2) := by
 subst hm
 obtain ⟨ti, z, i1, i2, i3, i4, i5⟩ := iE
 have u3 := run_underlying t3
 have u4 := run_underlying t4
 have uS := run_underlying tS
 have zS := zS
 have zE := zE
 have aS := aS
 have mixed := m0
 have hz1 : ¬ ((1 : Int) = 0) := by omega
 have hz2 : ¬ ((i : Int) = (n : Int)) := by omega
 have hov : ∀ lb cb, (callFunc 182 #[.slice (some ⟨vb, 0, none⟩) 1 vc, .slice (some ⟨b, (i + 1) * 2, none⟩) lb cb]).run Tryz.prog w = .ok (.value (.bool false)) w := fun lb cb => by
  rw [run_callFunc_extern Tryz.func182 (by kernel_rfl) (by kernel_rfl) (by kernel_rfl) (e := Extern.SlicesOverlaps.overlaps #[26, 26] #[4]) (by kernel_rfl),
   Lib.run_overlaps_apart w 26 4 88 tS 2 zE ⟨vb, 0, none⟩ ⟨b, (i + 1) * 2, none⟩ 1 vc lb cb hvb _ _ _ _ (by simp [World.shape?, hvc]; exact ⟨rfl, rfl⟩) (by simp [World.shape?, hb]; exact ⟨rfl, rfl⟩) (by omega) (by simp [World.frozen?, hvc]) (by simp [World.frozen?, hvc])]
  rfl
 obtain ⟨D, hD⟩ : ∃ D, D = (cs.toList.take (n * 2)).drop (i * 2) := ⟨_, rfl⟩
 have hcl : cs.toList.length = c * 2 := by simp [hcs]
 have hDl : D.length = (n - i) * 2 := by rw [hD, List.length_drop, List.length_take, hcl]; omega
 have hw1 : IntKind.i64.wrap ((i : Int) + 1) = (i : Int) + 1 := by rw [IntKind.wrap_i64]; omega
 have hb1 : (0 : Int) ≤ (i : Int) + 1 := by omega
 have hin : i ≤ n := by omega
 have htn : ((i : Int) + 1).toNat = i + 1 := by omega
 have hb2 : ¬ (c = i + 1) := by omega
 have hb3 : (i : Int) ≤ (n : Int) + 1 := by omega
 have hb4 : ¬ (c = i) := by omega
 have hbd : w.drew.heap[b]? = some (.cells cs 88 (0, 0)) := hb
 have hcell : ∀ j, w.cell? ⟨b, j, none⟩ = cs[j]? := fun j => cell_of_row w b j cs _ (0, 0) hb
 obtain ⟨cs1, hcs1⟩ : ∃ cs1 : Array Value, cs1 = (cs.toList.take ((i + 1) * 2) ++ D ++ cs.toList.drop ((i + 1) * 2 + D.length)).toArray := ⟨_, rfl⟩
 have hDg : ∀ (j : Nat) v, D[j]? = some v → cs[i * 2 + j]? = some v := by
  intro j v hj
  rw [hD, List.getElem?_drop, List.getElem?_take] at hj
  split at hj
  ·simpa using hj
  ·cases hj
 have hcp1 : ∀ ty dc sc, (Builtin.copy_ #[26, 26] ty #[.slice (some ⟨b, (i + 1) * 2, none⟩) (n - i) dc, .slice (some ⟨b, i * 2, none⟩) (n + 1 - i) sc]).run Tryz.prog w.drew = .ok (goInt (Nat.min (n + 1 - i) (n - i))) (w.drew.setRow b cs1) := fun ty dc sc => by
  rw [hcs1]
  exact run_copy_row w.drew _ _ ty 88 tS i1 hbd D (by rw [hDl, i2]; simp only [Nat.min_def]; split <;> omega) (fun j v hj => by rw [Addr.add_lit]; exact (hcell _).trans (hDg j v hj)) (by rw [hDl, hcs]; omega) (fun v hv => h1c v (List.mem_of_mem_drop (by rw [hD] at hv; exact hv)))
 obtain ⟨V, hV⟩ : ∃ V, V = vcs.toList.take 2 := ⟨_, rfl⟩
 have hVl : V.length = 2 := by rw [hV, List.length_take]; simp; omega
 have hc1l : cs1.toList.length = c * 2 := by
  rw [hcs1]
  simp only [List.length_append, List.length_take, List.length_drop, hcl, hDl]
  omega
 have hb1d : (w.drew.setRow b cs1).heap[b]? = some (.cells cs1 88 (0, 0)) := setRow_heap w.drew b cs cs1 _ _ hbd
 obtain ⟨cs2, hcs2⟩ : ∃ cs2 : Array Value, cs2 = (cs1.toList.take (i * 2) ++ V ++ cs1.toList.drop (i * 2 + V.length)).toArray := ⟨_, rfl⟩
 have hcp2 : ∀ ty dc, (Builtin.copy_ #[26, 26] ty #[.slice (some ⟨b, i * 2, none⟩) (n + 1 - i) dc, .slice (some ⟨vb, 0, none⟩) 1 vc]).run Tryz.prog (w.drew.setRow b cs1) = .ok (goInt (Nat.min 1 (n + 1 - i))) ((w.drew.setRow b cs1).setRow b cs2) := fun ty dc => by
  rw [hcs2]
  exact run_copy_row _ _ _ ty 88 tS i1 hb1d V (by rw [hVl, i2]; simp only [Nat.min_def]; split <;> omega) (fun j v hj => by
   rw [Addr.add_lit, cell_of_row (w.drew.setRow b cs1) vb _ vcs _ (0, 0) (by rw [setRow_other _ _ _ _ hvb]; exact hvc)]
   rw [hV, List.getElem?_take] at hj
   split at hj
   ·simpa using hj
   ·cases hj) (by rw [hVl, ← Array.length_toList, hc1l]; omega) (fun v hv => h1v v (by rw [hV] at hv; exact hv))
 rw [setRow_setRow] at hcp2
 have H1 : Hid (cs1 = _) := hcs1
 have H2 : Hid (cs2 = _) := hcs2
 have HD : Hid (D = _) := hD
 have HV : Hid (V = _) := hV
 have HL : Hid (D.length = (n - i) * 2 ∧ V.length = 2 ∧ cs.toList.length = c * 2) := ⟨hDl, hVl, hcl⟩
 have HO : Hid (∀ lb cb, (callFunc 182 #[.slice (some ⟨vb, 0, none⟩) 1 vc, .slice (some ⟨b, (i + 1) * 2, none⟩) lb cb]).run Tryz.prog w = .ok (.value (.bool false)) w) := hov
 clear hcs1 hcs2 hD hV hDl hVl hcl hDg hcell hc1l hb1d hbd h1c h1v hvc hvs
 go_enter Tryz.func151, Tryz.ntmps151
 go_wp2_with (simp only [hov])
 go_region_law_o (refine step_copy_runI rfl _ _ 26 26 rfl _ _ (by simp [Act.eval, Act.put]) (by simp [Act.eval, Act.put]) (hcp1 _ _ _) ?_)
 go_wp2_with (at_builtin; refine wpList_copy_runI _ rfl _ _ 26 26 rfl _ _ rfl rfl (hcp2 _ _) ?_)
 go_ret
 refine ⟨rfl, cs2, rfl, ?_⟩
 obtain ⟨l1, l2, l3⟩ := HL.out
 rw [H2.out, H1.out, ← HD.out, ← HV.out]
 simp only [List.toList_toArray]
 have h5 := shift_list cs.toList D V (i * 2) 2 ((n + 1) * 2) (by omega) l2 (by omega)
 rw [show (i + 1) * 2 = i * 2 + 2 by omega]
 exact h5

theorem grow_list {α : Type} (L Z V D : List α) (p e : Nat) (hp : p ≤ L.length) (hV : V.length = e) (hZ : e + D.length ≤ Z.length) :
  ((((L.take p ++ Z).take p ++ V ++ (L.take p ++ Z).drop (p + V.length)).take (p + e) ++ D ++ ((L.take p ++ Z).take p ++ V ++ (L.take p ++ Z).drop (p + V.length)).drop (p + e + D.length))).take (p + e + D.length) = L.take p ++ V ++ D := by
 have hl : (L.take p).length = p := by rw [List.length_take]; omega
 have e1 : (L.take p ++ Z).take p = L.take p := by rw [List.take_append_of_le_length (by omega), List.take_take, Nat.min_self]
 have e2 : (L.take p ++ V ++ (L.take p ++ Z).drop (p + V.length)).take (p + e) = L.take p ++ V := by
  have h1 : (L.take p ++ V).length = p + e := by rw [List.length_append]; omega
  rw [← h1, List.take_left]
 rw [e1, e2]
 have h2 : (L.take p ++ V ++ D).length = p + e + D.length := by simp only [List.length_append]; omega
 rw [← h2, List.take_left]
set_option maxHeartbeats 4000000 in
theorem grow (b n c i vb m vc : Nat) (cs vcs : Array Value) (w : World) (hi : i < n) (hm : m = 1) (hnc : n ≤ c) (hroom : c < n + m) (hbig : (n + 1) * 16 ≤ 140737488355328) (hvb : vb ≠ b) (hb : w.heap[b]? = some (.cells cs 88 (0, 0))) (hcs : cs.size = c * 2) (hvc : w.heap[vb]? = some (.cells vcs 88 (0, 0))) (hvs : 2 ≤ vcs.size)
  (h1c : ∀ v ∈ cs.toList.take (n * 2), v.oneCell' = true) (h1v : ∀ v ∈ vcs.toList.take 2, v.oneCell' = true) :
  Calls Tryz.prog 151 #[.slice (some ⟨b, 0, none⟩) n c, .int .i64 i, .slice (some ⟨vb, 0, none⟩) m vc] w fun e w' =>
   ∃ G, n + m ≤ G ∧ G ≤ maxLen ∧ e = .returned (.slice (some ⟨w.heap.size, 0, none⟩) (n + m) G) ∧ ∃ cs' : Array Value, cs'.size = G * 2 ∧ cs'.toList.take ((n + 1) * 2) = cs.toList.take (i * 2) ++ vcs.toList.take 2 ++ (cs.toList.take (n * 2)).drop (i * 2) ∧
    Below w.heap.size w w' ∧ w'.heap[w.heap.size]? = some (.cells cs' 88 (0, 0)) ∧ w'.heap.size = w.heap.size + 1 := by
 subst hm
 obtain ⟨ti, z, i1, i2, i3, i4, i5⟩ := iE
 have u3 := run_underlying t3
 have u4 := run_underlying t4
 have uS := run_underlying tS
 have zS := zS
 have zE := zE
 have aS := aS
 have mixed := m0
 have hz1 : ¬ ((1 : Int) = 0) := by omega
 have hz2 : ¬ ((i : Int) = (n : Int)) := by omega
 have hz3 : (c : Int) < (n : Int) + 1 := by omega
 obtain ⟨D, hD⟩ : ∃ D, D = (cs.toList.take (n * 2)).drop (i * 2) := ⟨_, rfl⟩
 have hcl : cs.toList.length = c * 2 := by simp [hcs]
 have hDl : D.length = (n - i) * 2 := by rw [hD, List.length_drop, List.length_take, hcl]; omega
 obtain ⟨V, hV⟩ : ∃ V, V = vcs.toList.take 2 := ⟨_, rfl⟩
 have hVl : V.length = 2 := by rw [hV, List.length_take]; simp; omega
 have hbw : b < w.heap.size := by
  rcases Nat.lt_or_ge b w.heap.size with h | h
  ·exact h
  ·rw [Array.getElem?_eq_none h] at hb; cases hb
 have hvw : vb < w.heap.size := by
  rcases Nat.lt_or_ge vb w.heap.size with h | h
  ·exact h
  ·rw [Array.getElem?_eq_none h] at hvc; cases hvc
 have hkk : (n : Int) + 1 - (i : Int) = ((n + 1 - i : Nat) : Int) := by omega
 have hik : i + (n + 1 - i) = n + 1 := by omega
 have hcell : ∀ j, w.cell? ⟨b, j, none⟩ = cs[j]? := fun j => cell_of_row w b j cs _ (0, 0) hb
 have hold : (Builtin.firstCells ti.size i (.slice (some ⟨b, 0, none⟩) i c)).run Tryz.prog w.drew = .ok (cs.toList.take (i * 2)).toArray w.drew := by
  rw [i2]
  exact run_firstCells_some w.drew 2 i ⟨b, 0, none⟩ i c (cs.toList.take (i * 2)) (by rw [List.length_take, hcl]; omega) (fun j v hj => by
   rw [Addr.add_lit]
   rw [List.getElem?_take] at hj
   split at hj
   ·refine (hcell _).trans ?_
    rw [Nat.zero_add]
    simpa using hj
   ·cases hj)
 obtain ⟨G, hG⟩ : ∃ G, G = grownCap w (n + 1) c 88 := ⟨_, rfl⟩
 obtain ⟨Z, hZ⟩ : ∃ Z, Z = (Builtin.zeroCells z.cells (n + 1 - i)).toList ++ (Builtin.zeroCells z.cells (G - (n + 1))).toList := ⟨_, rfl⟩
 obtain ⟨ROW, hROW⟩ : ∃ ROW : Array Value, ROW = (cs.toList.take (i * 2) ++ Z).toArray := ⟨_, rfl⟩
 have hrz : ∀ ty, (Builtin.append_ #[26, 3] ty #[.slice (some ⟨b, 0, none⟩) i c, .int .i64 ((n : Int) + 1 - (i : Int))]).run Tryz.prog w =
   .ok (.slice (some ⟨w.heap.size, 0, none⟩) (n + 1) G) (w.drew.alloc (.cells ROW 88)) := fun ty => by
  have h := Lib.run_append_grow_zeros w 26 3 ty 88 ti z .i64 .i64 tS t3 i1 i4 (some ⟨b, 0, none⟩) i c (cs.toList.take (i * 2)) hold (n + 1 - i) (by omega) (by omega) (by omega) (by omega) (by rw [i3]; omega) (by rw [i3, hik]; exact growslice_fits hroom hbig)
  rw [hik, ← hG] at h
  rw [hkk, h, hROW, hZ]
  congr 3
  apply Array.toList_inj.1
  simp
 have hGn : n + 1 ≤ G := by rw [hG]; exact grownCap_ge w _ _ _
 have hGm : G ≤ maxLen := by rw [hG]; exact grownCap_le_maxLen w (n + 1) c 88 (by unfold maxLen; omega)
 have hG63 : G ≤ 9223372036854775807 := by unfold maxLen at hGm; omega
 have hZl : Z.length = (G - i) * 2 := by
  rw [hZ, List.length_append, Array.length_toList, Array.length_toList, size_zeroCells, size_zeroCells, i5, ← Nat.add_mul]
  congr 1
  omega
 have hRl : ROW.toList.length = G * 2 := by
  rw [hROW]
  simp only [List.length_append, List.length_take, hcl, hZl]
  omega
 obtain ⟨W1, hW1⟩ : ∃ W1, W1 = w.drew.alloc (.cells ROW 88) := ⟨_, rfl⟩
 have hW1b : W1.heap[w.heap.size]? = some (.cells ROW 88 (0, 0)) := by rw [hW1]; exact heap_alloc_new w.drew _
 obtain ⟨cs1, hcs1⟩ : ∃ cs1 : Array Value, cs1 = (ROW.toList.take (i * 2) ++ V ++ ROW.toList.drop (i * 2 + V.length)).toArray := ⟨_, rfl⟩
 have hc1l : cs1.toList.length = G * 2 := by
  rw [hcs1]
  simp only [List.length_append, List.length_take, List.length_drop, hRl, hVl]
  omega
 have hcpA : ∀ (W : World), W.heap = W1.heap → ∀ ty dc, (Builtin.copy_ #[26, 26] ty #[.slice (some ⟨w.heap.size, i * 2, none⟩) (n + 1 - i) dc, .slice (some ⟨vb, 0, none⟩) 1 vc]).run Tryz.prog W = .ok (goInt (Nat.min 1 (n + 1 - i))) (W.setRow w.heap.size cs1) := fun W hW ty dc => by
  rw [hcs1]
  refine run_copy_row W _ _ ty 88 tS i1 (by rw [hW]; exact hW1b) V (by rw [hVl, i2]; simp only [Nat.min_def]; split <;> omega) (fun j v hj => ?_) (by rw [hVl, ← Array.length_toList, hRl]; omega) (fun v hv => h1v v (by rw [hV] at hv; exact hv))
  rw [Addr.add_lit, cell_of_row W vb _ vcs _ (0, 0) (by rw [hW, hW1]; exact (Below.heap_alloc w.drew _ vb hvw).trans hvc)]
  rw [hV, List.getElem?_take] at hj
  split at hj
  ·simpa using hj
  ·cases hj
 obtain ⟨cs2, hcs2⟩ : ∃ cs2 : Array Value, cs2 = (cs1.toList.take ((i + 1) * 2) ++ D ++ cs1.toList.drop ((i + 1) * 2 + D.length)).toArray := ⟨_, rfl⟩
 have hcpB : ∀ (W : World), W.heap = (W1.setRow w.heap.size cs1).heap → ∀ ty dc sc, (Builtin.copy_ #[26, 26] ty #[.slice (some ⟨w.heap.size, (i + 1) * 2, none⟩) (n - i) dc, .slice (some ⟨b, i * 2, none⟩) (n - i) sc]).run Tryz.prog W = .ok (goInt (Nat.min (n - i) (n - i))) (W.setRow w.heap.size cs2) := fun W hW ty dc sc => by
  rw [hcs2]
  refine run_copy_row W _ _ ty 88 tS i1 (by rw [hW]; exact setRow_heap W1 w.heap.size ROW cs1 _ _ hW1b) D (by rw [hDl, i2]; simp only [Nat.min_def]; split <;> omega) (fun j v hj => ?_) (by rw [hDl, ← Array.length_toList, hc1l]; omega) (fun v hv => h1c v (List.mem_of_mem_drop (by rw [hD] at hv; exact hv)))
  rw [Addr.add_lit, cell_of_row W b _ cs _ (0, 0) (by rw [hW, setRow_other _ _ _ _ (by omega), hW1]; exact (Below.heap_alloc w.drew _ b hbw).trans hb)]
  rw [hD, List.getElem?_drop, List.getElem?_take] at hj
  split at hj
  ·simpa using hj
  ·cases hj
 have hGi : ¬ (G = i) := by omega
 have hGim : ¬ (G = i + 1) := by omega
 have hci : ¬ (c = i) := by omega
 have hbN : b ≠ w.heap.size := by omega
 have hw1 : IntKind.i64.wrap ((i : Int) + 1) = (i : Int) + 1 := by rw [IntKind.wrap_i64]; omega
 have hb1 : (0 : Int) ≤ (i : Int) + 1 := by omega
 have hin : i ≤ n := by omega
 have htn : ((i : Int) + 1).toNat = i + 1 := by omega
 have hb3 : (i : Int) ≤ (n : Int) := by omega
 have hE1 : ((w.alloc (.cells ROW 88)).drew).heap = W1.heap := by rw [hW1]; rfl
 have hF1 : (((w.alloc (.cells ROW 88)).drew.setRow w.heap.size cs1).drew).heap = (W1.setRow w.heap.size cs1).heap := by rw [hW1]; rfl
 have H1 : Hid (cs1 = _) := hcs1
 have H2 : Hid (cs2 = _) := hcs2
 have HD : Hid (D = _) := hD
 have HV : Hid (V = _) := hV
 have HR : Hid (ROW = _) := hROW
 have HL : Hid (D.length = (n - i) * 2 ∧ V.length = 2 ∧ cs.toList.length = c * 2 ∧ Z.length = (G - i) * 2 ∧ cs1.toList.length = G * 2 ∧ G ≤ maxLen) := ⟨hDl, hVl, hcl, hZl, hc1l, hGm⟩
 subst hW1
 clear hcs1 hcs2 hD hV hDl hVl hcl hcell hc1l h1c h1v hvc hvs hkk hik hold hROW hG hRl hZ hZl hGm
 go_enter Tryz.func151, Tryz.ntmps151
 go_wp2_with (first
  | (at_builtin; refine Lib.wpList_append_run _ rfl _ _ _ _ rfl _ _ rfl rfl _ _ (hrz _) ?_)
  | (at_builtin; refine wpList_copy_runI _ rfl _ _ 26 26 rfl _ _ rfl rfl (hcpA _ hE1 _ _) ?_))
 go_region_law_o (refine step_copy_runI rfl _ _ 26 26 rfl (.slice (some ⟨w.heap.size, (i + 1) * 2, none⟩) (n - i) (G - (i + 1))) (.slice (some ⟨b, i * 2, none⟩) (n - i) (c - i)) (by simp [Act.eval, Act.put]) (by simp [Act.eval, Act.put]) (hcpB _ hF1 3 (G - (i + 1)) (c - i)) ?_)
 go_wp2
 go_ret
 obtain ⟨l1, l2, l3, l4, l5, l6⟩ := HL.out
 refine ⟨G, hGn, l6, rfl, cs2, ?_, ?_, ?_, ?_, ?_⟩
 ·rw [← Array.length_toList, H2.out]
  simp only [List.length_append, List.length_take, List.length_drop, l5, l1]
  omega
 ·rw [H2.out, H1.out, HR.out, ← HD.out, ← HV.out]
  simp only [List.toList_toArray]
  have h5 := grow_list cs.toList Z V D (i * 2) 2 (by omega) l2 (by omega)
  rw [show (i + 1) * 2 = i * 2 + 2 by omega]
  rw [show (n + 1) * 2 = i * 2 + 2 + D.length by omega]
  exact h5
 ·refine ⟨rfl, rfl, rfl, by simp [World.setRow], fun k hk => ?_⟩
  rw [setRow_other _ _ _ _ (by omega)]
  show ((w.alloc (.cells ROW 88)).drew.setRow w.heap.size cs1).heap[k]? = _
  rw [setRow_other _ _ _ _ (by omega)]
  exact Below.heap_alloc w _ k hk
 ·refine setRow_heap _ w.heap.size cs1 cs2 _ _ ?_
  show ((w.alloc (.cells ROW 88)).drew.setRow w.heap.size cs1).heap[w.heap.size]? = _
  exact setRow_heap _ w.heap.size ROW cs1 _ _ (heap_alloc_new w _)
 ·simp [World.setRow]
end Go.Proofs.YtdflglehippoiaaGreatDoor.XI
set_option maxRecDepth 100000
namespace Go.Proofs.YtdflglehippoiaaGreatDoor.IB
open Go Go.Proofs.YtdflglehippoiaaGreatDoorR
def j151 : C := (.seq (.region [nO 6 (.nilsl 88 2 0)] false)
 (.seq (.region [nO 10 (.mov (.t 0)),
  nO 11 (.mov (.t 1)),
  nO 12 (.cut 2 (.t 10) (some (.t 11)) none)] false)
 (.seq (.region [nO 13 (.mov (.t 2)),
  nO 14 (.len (.t 13)),
  nO 7 (.mov (.t 14))] false)
 (.seq (.seq (.region [nO 15 (.mov (.t 7)),
  nO 16 (.bin .eql (.t 15) (.c (.int .i64 0)))] false)
 (.cond (.t 16) (.seq (.region [nO 17 (.mov (.t 0)),
  nO 6 (.mov (.t 17))] false)
 .ret) .skip))
 (.seq (.region [nO 18 (.mov (.t 0)),
  nO 19 (.len (.t 18)),
  nO 8 (.mov (.t 19))] false)
 (.seq (.seq (.region [nO 20 (.mov (.t 1)),
  nO 21 (.mov (.t 8)),
  nO 22 (.bin .eql (.t 20) (.t 21))] false)
 (.cond (.t 22) (.seq (.region [nO 23 (.mov (.t 0)),
  nO 24 (.mov (.t 2)),
  nO 25 (.app 88 2 16 (.t 23) (.t 24)),
  nO 6 (.mov (.t 25))] false)
 .ret) .skip))
 (.seq (.seq (.region [nO 26 (.mov (.t 8)),
  nO 27 (.mov (.t 7)),
  nO 28 (.bin .add (.t 26) (.t 27)),
  nO 29 (.mov (.t 0)),
  nO 30 (.stop),
  nO 31 (.bin .gtr (.t 28) (.t 30))] false)
 (.cond (.t 31) (.seq (.region [nO 32 (.mov (.t 0)),
  nO 33 (.mov (.t 1)),
  nO 34 (.cut 2 (.t 32) none (some (.t 33))),
  nO 35 (.mov (.t 8)),
  nO 36 (.mov (.t 7)),
  nO 37 (.bin .add (.t 35) (.t 36)),
  nO 38 (.mov (.t 1)),
  nO 39 (.bin .sub (.t 37) (.t 38)),
  nO 40 (.stop),
  nO 9 (.mov (.t 40))] false)
 (.seq (.region [nO 41 (.mov (.t 9)),
  nO 42 (.mov (.t 1)),
  nO 43 (.cut 2 (.t 41) (some (.t 42)) none),
  nO 44 (.mov (.t 2)),
  nO 45 (.stop)] false)
 (.seq (.region [⟨some 46, .mov (.t 9), none, [47, 48, 49, 51, 52, 53], []⟩,
  ⟨some 47, .mov (.t 1), none, [46, 48, 51, 52, 53], []⟩,
  ⟨some 48, .mov (.t 7), none, [46, 47, 51, 52, 53], []⟩,
  ⟨some 49, .bin .add (.t 47) (.t 48), none, [46, 51, 52, 53], [1, 2]⟩,
  ⟨some 50, .cut 2 (.t 46) (some (.t 49)) none, none, [51, 52, 53], [0, 1, 2, 3]⟩,
  ⟨some 51, .mov (.t 0), none, [46, 47, 48, 49, 50, 52], []⟩,
  ⟨some 52, .mov (.t 1), none, [46, 47, 48, 49, 50, 51], []⟩,
  ⟨some 53, .cut 2 (.t 51) (some (.t 52)) none, none, [46, 47, 48, 49, 50], [5, 6]⟩,
  ⟨some 54, .stop, none, [], [0, 1, 2, 3, 4, 5, 6, 7]⟩] true)
 (.seq (.region [nO 55 (.mov (.t 9)),
  nO 6 (.mov (.t 55))] false)
 .ret)))) .skip))
 (.seq (.region [nO 56 (.mov (.t 0)),
  nO 57 (.mov (.t 8)),
  nO 58 (.mov (.t 7)),
  nO 59 (.bin .add (.t 57) (.t 58)),
  nO 60 (.cut 2 (.t 56) none (some (.t 59))),
  nO 0 (.mov (.t 60))] false)
 (.seq (.seq (.region [nO 61 (.mov (.t 2)),
  nO 62 (.mov (.t 0)),
  nO 63 (.mov (.t 1)),
  nO 64 (.mov (.t 7)),
  nO 65 (.bin .add (.t 63) (.t 64)),
  nO 66 (.cut 2 (.t 62) (some (.t 65)) none),
  nO 67 (.stop),
  nO 68 (.un .not (.t 67))] false)
 (.cond (.t 68) (.seq (.region [⟨some 69, .mov (.t 0), none, [70, 71, 72, 74, 75, 76], []⟩,
  ⟨some 70, .mov (.t 1), none, [69, 71, 74, 75, 76], []⟩,
  ⟨some 71, .mov (.t 7), none, [69, 70, 74, 75, 76], []⟩,
  ⟨some 72, .bin .add (.t 70) (.t 71), none, [69, 74, 75, 76], [1, 2]⟩,
  ⟨some 73, .cut 2 (.t 69) (some (.t 72)) none, none, [74, 75, 76], [0, 1, 2, 3]⟩,
  ⟨some 74, .mov (.t 0), none, [69, 70, 71, 72, 73, 75], []⟩,
  ⟨some 75, .mov (.t 1), none, [69, 70, 71, 72, 73, 74], []⟩,
  ⟨some 76, .cut 2 (.t 74) (some (.t 75)) none, none, [69, 70, 71, 72, 73], [5, 6]⟩,
  ⟨some 77, .stop, none, [], [0, 1, 2, 3, 4, 5, 6, 7]⟩] true)
 (.seq (.region [nO 78 (.mov (.t 0)),
  nO 79 (.mov (.t 1)),
  nO 80 (.cut 2 (.t 78) (some (.t 79)) none),
  nO 81 (.mov (.t 2)),
  nO 82 (.stop)] false)
 (.seq (.region [nO 83 (.mov (.t 0)),
  nO 6 (.mov (.t 83))] false)
 .ret))) .skip))
 (.seq (.region [nO 84 (.mov (.t 0)),
  nO 85 (.mov (.t 8)),
  nO 86 (.cut 2 (.t 84) (some (.t 85)) none),
  nO 87 (.mov (.t 2)),
  nO 88 (.stop)] false)
 (.seq (.region [nO 89 (.mov (.t 0)),
  nO 90 (.mov (.t 1)),
  nO 91 (.cut 2 (.t 89) (some (.t 90)) none),
  nO 92 (.mov (.t 7)),
  nO 93 (.stop)] false)
 (.seq (.region [nO 94 (.mov (.t 0)),
  nO 6 (.mov (.t 94))] false)
 .ret))))))))))))
def i151 : F := ⟨3, 95, j151, [.t 6]⟩
theorem b151 : i151.body = j151 := rfl
theorem q151 : i151.res = [.t 6] := rfl
theorem c151 : chkF Tryz.prog Tryz.f151 i151 = true := by kernel_rfl
theorem s151 {m : Model} {E : Nat → Model} (hE : ∀ f, Sound Tryz.prog f (E f)) (hm : ∀ args r, m args = some r → ∃ N, i151.ev E N args = some r) : Sound Tryz.prog 151 m := sound_of i151 Tryz.func151 rfl c151 hE hm
def xt : List (Nat × Model) := []
def tb : List (Nat × F) := [(151, i151)]
theorem xt_ok : ∀ p ∈ xt, Sound Tryz.prog p.1 p.2 := all_nil
theorem tb_ok (N : Nat) : ∀ p ∈ tb, ∀ E : Nat → Model, (∀ f, Sound Tryz.prog f (E f)) → Sound Tryz.prog p.1 (p.2.ev E N) := all_cons (fun E hE => s151 hE fun _ _ h => ⟨N, h⟩) (all_nil)
abbrev TT := T xt tb
theorem TT_ok (N d f : Nat) : Sound Tryz.prog f (TT N d f) := T_ok xt_ok (tb_ok N) d f
end Go.Proofs.YtdflglehippoiaaGreatDoor.IB
set_option maxRecDepth 100000
namespace Go.Proofs.YtdflglehippoiaaGreatDoor.XI
open Go Go.RowKit Go.Proofs.YtdflglehippoiaaGreatDoorR

theorem rows_ins {w : World} {ok : Nat → Prop} {e n at_ : Nat} {xs : List (List V)} {x : List V} {cs vcs L R : List Value} (hx : ∀ y ∈ xs, y.length = e) (hxe : x.length = e) (hn : xs.length = n) (ha : at_ ≤ n) (hcs : n * e ≤ cs.length) (hvcs : e ≤ vcs.length)
  (h1 : ∀ i j y p, xs[i]? = some y → y[j]? = some p → ∃ u, cs[i * e + j]? = some u ∧ Rep w ok p u) (h2 : ∀ (j : Nat) p, x[j]? = some p → ∃ u, vcs[j]? = some u ∧ Rep w ok p u) (hL : L = cs.take (at_ * e) ++ vcs.take e ++ (cs.take (n * e)).drop (at_ * e) ++ R)
  (i j : Nat) (y : List V) (p : V) (hy : (xs.take at_ ++ [x] ++ xs.drop at_)[i]? = some y) (hp : y[j]? = some p) : ∃ u, L[i * e + j]? = some u ∧ Rep w ok p u := by
 have hae : at_ * e ≤ n * e := Nat.mul_le_mul_right e ha
 have l1 : (cs.take (at_ * e)).length = at_ * e := by rw [List.length_take]; omega
 have l2 : (vcs.take e).length = e := by rw [List.length_take]; omega
 have l3 : ((cs.take (n * e)).drop (at_ * e)).length = n * e - at_ * e := by rw [List.length_drop, List.length_take]; omega
 rw [hL]
 rw [List.append_assoc] at hy
 have lt : (xs.take at_).length = at_ := by rw [List.length_take]; omega
 by_cases h3 : i < at_
 ·rw [List.getElem?_append_left (by omega), List.getElem?_take, if_pos h3] at hy
  have hj : j < e := by rw [← hx y (List.mem_of_getElem? hy)]; exact (List.getElem?_eq_some_iff.1 hp).1
  obtain ⟨u, hu, hr⟩ := h1 i j y p hy hp
  have := idx_lt h3 hj
  refine ⟨u, ?_, hr⟩
  rw [List.append_assoc, List.append_assoc, List.getElem?_append_left (by omega), List.getElem?_take, if_pos this]
  exact hu
 ·rw [List.getElem?_append_right (by omega), lt] at hy
  by_cases h4 : i = at_
  ·subst h4
   simp at hy
   subst hy
   have hj : j < e := by rw [← hxe]; exact (List.getElem?_eq_some_iff.1 hp).1
   obtain ⟨u, hu, hr⟩ := h2 j p hp
   refine ⟨u, ?_, hr⟩
   rw [List.append_assoc, List.append_assoc, List.getElem?_append_right (by omega), l1, Nat.add_sub_cancel_left, List.getElem?_append_left (by omega), List.getElem?_take, if_pos hj]
   exact hu
  ·obtain ⟨q, rfl⟩ : ∃ q, i = at_ + 1 + q := ⟨i - at_ - 1, by omega⟩
   rw [show at_ + 1 + q - at_ = q + 1 by omega, List.singleton_append, List.getElem?_cons_succ, List.getElem?_drop] at hy
   have hlt : at_ + q < n := by rw [← hn]; exact (List.getElem?_eq_some_iff.1 hy).1
   have hj : j < e := by rw [← hx y (List.mem_of_getElem? hy)]; exact (List.getElem?_eq_some_iff.1 hp).1
   obtain ⟨u, hu, hr⟩ := h1 (at_ + q) j y p hy hp
   have h5 := idx_lt hlt hj
   have h6 : (at_ + 1 + q) * e + j = at_ * e + (e + (q * e + j)) := by rw [Nat.add_mul, Nat.add_mul, Nat.one_mul]; omega
   have h7 : (at_ + q) * e + j = at_ * e + (q * e + j) := by rw [Nat.add_mul]; omega
   refine ⟨u, ?_, hr⟩
   rw [h6, List.append_assoc, List.append_assoc, List.getElem?_append_right (by omega), l1, Nat.add_sub_cancel_left, List.getElem?_append_right (by omega), l2, Nat.add_sub_cancel_left, List.getElem?_append_left (by omega), List.getElem?_drop, List.getElem?_take, if_pos (by omega), ← h7]
   exact hu
theorem rows_one {w : World} {ok : Nat → Prop} {e n : Nat} {xs : List (List V)} {cs : List Value} (he : 0 < e) (hx : ∀ y ∈ xs, y.length = e) (hn : n ≤ xs.length) (h1 : ∀ i j y p, xs[i]? = some y → y[j]? = some p → ∃ u, cs[i * e + j]? = some u ∧ Rep w ok p u) : ∀ v ∈ cs.take (n * e), v.oneCell' = true := by
 intro v hv
 obtain ⟨k, hk⟩ := List.getElem?_of_mem hv
 rw [List.getElem?_take] at hk
 split at hk
 ·rename_i hlt
  have hi : k / e < xs.length := by
   have : k / e < n := by rw [Nat.div_lt_iff_lt_mul he]; exact hlt
   omega
  have hy := hx xs[k / e] (List.getElem_mem hi)
  have hj : k % e < (xs[k / e]).length := by rw [hy]; exact Nat.mod_lt _ he
  obtain ⟨u, hu, hr⟩ := h1 (k / e) (k % e) _ _ (List.getElem?_eq_getElem hi) (List.getElem?_eq_getElem hj)
  rw [Nat.div_add_mod' k e, hk] at hu
  cases hu
  exact hr.one
 ·cases hk

def insM (el e by_ : Nat) : Model
 | [.one (.sl 0 0 n), .one (.int .i64 at_), .one (.sl 1 0 1), .tup [.tup [.one (.ref el1 e1 0), .one (.row xs)], .tup [.one (.ref el2 e2 0), .one (.row [x])]]] =>
  if (el1 = el ∧ e1 = e ∧ el2 = el ∧ e2 = e) ∧ n = xs.length ∧ 0 ≤ at_ ∧ at_ ≤ n ∧ xs.all (·.length == e) = true ∧ x.length = e ∧ (n + 1) * by_ ≤ 140737488355328 then
   some (.one (.sl 0 0 (n + 1)), [(0, .rows el e (xs.take at_.toNat ++ [x] ++ xs.drop at_.toNat)), (1, .rows el e [x])])
  else none
 | _ => none
theorem ins_end (n : Nat) (xs : List (List V)) (x : List V) (hn : n = xs.length) (hx : xs.all (·.length == 2) = true) (hxe : x.length = 2) (hb : (n + 1) * 16 ≤ 140737488355328) :
  IB.i151.ev (fun _ _ => none) 1 [.one (.sl 0 0 n), iV n, .one (.sl 1 0 1), .tup [.tup [.one (.ref 88 2 0), .one (.row xs)], .tup [.one (.ref 88 2 0), .one (.row [x])]]] = some (.one (.sl 0 0 (n + 1)), [(0, .rows 88 2 (xs.take n ++ [x])), (1, .rows 88 2 [x])]) := by
 have hle : n ≤ xs.length := by omega
 have hx2 : (x.length == 2) = true := by simp [hxe]
 rw [F_evo rfl rfl (by simp)]
 by_cases h0 : n = 0
 ·subst h0
  have hxs : xs = [] := List.eq_nil_of_length_eq_zero hn.symm
  subst hxs
  simp only [hx2, IB.j151, IB.b151, IB.q151, List.nil_append, qq, oo, pp, lives, V.live, purS, S.pur, V.pur, V.pur1, purs, pur1s, mentS, S.ment, S.ment.smt, ments, V.ment, List.append_nil, Hp.ok64, List.all_nil, List.all_cons, S.purT, S.purT.sp, S.self, V.self, selfs, S.self.sself, Hp.self, S.ren, S.ren.sren, V.ren, Hp.ren, true_or, or_true, false_or, or_false, Bool.and_true, Bool.true_and, Bool.and_false, Bool.false_and, Bool.and_self, hand, handSs, handS, handVs, handV, handBs, upTo, one1, List.contains_nil, List.isEmpty_nil, List.take_length, List.getElem?_cons_zero, List.getElem?_cons_succ, fillV, fillR, setAt, List.set_cons_zero, List.set_cons_succ, List.replicate, evE, asRow, callS, callT, callU, names, dedup, blkMents, Blk.mentB, idxOf, V.mapS, S.mapS, S.mapS.smapS, Blk.mapS, encs, encB, isBox, backN, hpBack, killsV, killsS, killsS.ks, killsB, rowsOf, without, keysOk, noTup, boxesOk, fresh, Option.isNone_none, Blk.ren, aloOk, aloV, aloB, frzL, freezes, Go.Proofs.YtdflglehippoiaaGreatDoorR.freeze, drop1, S.frz, S.frz.sf, V.frz, Blk.frz, slMent, pickL, List.map_append, S.kill, S.kill.sk, V.kill, Blk.kill, eqvs, ones, Bool.not_true, Bool.not_false, decide_true, decide_false, List.length_append, Int.le_refl, Int.toNat_natCast, Int.toNat_one, Int.cast_ofNat_Int, List.all_nil, List.contains_cons, Nat.reduceBEq, Bool.false_or, Bool.or_false, Bool.true_or, Bool.or_true, look_hit, look_end, look_miss, List.map_cons, List.map_nil, List.cons_append, List.nil_append, Option.getD_some, Option.getD_none, X.ev, ev, bin, ibin, Option.map_some, Option.map_none, Option.bind_some, S.cells, rd, sub, Go.Proofs.YtdflglehippoiaaGreatDoorR.shape, asI, bnd, evs, Rs.ev, R.ev, params, okKey, Nat.reduceAdd, Nat.reduceMul, Nat.reduceDiv, Nat.reduceEqDiff, Nat.reduceLeDiff, Nat.reduceLT, Int.reduceEq, Int.reduceNe, Int.reduceLT, Int.reduceLE, Int.reduceAdd, Int.reduceSub, Int.reduceMul, Int.reduceNeg, Int.reduceToNat, Int.reducePow, Nat.reducePow, Int.toNat_zero, not_false_eq_true, not_true_eq_false, reduceCtorEq, Nat.zero_add, Nat.add_zero, reduceIte, if_true, if_false, Bool.true_eq_false, Bool.false_eq_true, List.length_cons, List.length_nil, and_self, true_and, and_true, List.drop_zero, List.take_succ_cons, List.take_zero, List.drop_succ_cons, Nat.le_refl]
  try simp
 ·have hn0 : ((n : Int) = 0) = False := eq_false (by omega)
  simp only [hx2, hn0, hx, hle, hb, IB.j151, IB.b151, IB.q151, qq, oo, pp, lives, V.live, purS, S.pur, V.pur, V.pur1, purs, pur1s, mentS, S.ment, S.ment.smt, ments, V.ment, List.append_nil, Hp.ok64, List.all_nil, List.all_cons, S.purT, S.purT.sp, S.self, V.self, selfs, S.self.sself, Hp.self, S.ren, S.ren.sren, V.ren, Hp.ren, true_or, or_true, false_or, or_false, Bool.and_true, Bool.true_and, Bool.and_false, Bool.false_and, Bool.and_self, hand, handSs, handS, handVs, handV, handBs, upTo, one1, List.contains_nil, List.isEmpty_nil, List.take_length, List.getElem?_cons_zero, List.getElem?_cons_succ, fillV, fillR, setAt, List.set_cons_zero, List.set_cons_succ, List.replicate, evE, asRow, callS, callT, callU, names, dedup, blkMents, Blk.mentB, idxOf, V.mapS, S.mapS, S.mapS.smapS, Blk.mapS, encs, encB, isBox, backN, hpBack, killsV, killsS, killsS.ks, killsB, rowsOf, without, keysOk, noTup, boxesOk, fresh, Option.isNone_none, Blk.ren, aloOk, aloV, aloB, frzL, freezes, Go.Proofs.YtdflglehippoiaaGreatDoorR.freeze, drop1, S.frz, S.frz.sf, V.frz, Blk.frz, slMent, pickL, List.map_append, S.kill, S.kill.sk, V.kill, Blk.kill, eqvs, ones, Bool.not_true, Bool.not_false, decide_true, decide_false, List.length_append, Int.le_refl, Int.toNat_natCast, Int.toNat_one, Int.cast_ofNat_Int, List.all_nil, List.contains_cons, Nat.reduceBEq, Bool.false_or, Bool.or_false, Bool.true_or, Bool.or_true, look_hit, look_end, look_miss, List.map_cons, List.map_nil, List.cons_append, List.nil_append, Option.getD_some, Option.getD_none, X.ev, ev, bin, ibin, Option.map_some, Option.map_none, Option.bind_some, S.cells, rd, sub, Go.Proofs.YtdflglehippoiaaGreatDoorR.shape, asI, bnd, evs, Rs.ev, R.ev, params, okKey, Nat.reduceAdd, Nat.reduceMul, Nat.reduceDiv, Nat.reduceEqDiff, Nat.reduceLeDiff, Nat.reduceLT, Int.reduceEq, Int.reduceNe, Int.reduceLT, Int.reduceLE, Int.reduceAdd, Int.reduceSub, Int.reduceMul, Int.reduceNeg, Int.reduceToNat, Int.reducePow, Nat.reducePow, Int.toNat_zero, not_false_eq_true, not_true_eq_false, reduceCtorEq, Nat.zero_add, Nat.add_zero, reduceIte, if_true, if_false, Bool.true_eq_false, Bool.false_eq_true, List.length_cons, List.length_nil, and_self, true_and, and_true, List.drop_zero, List.take_succ_cons, List.take_zero, List.drop_succ_cons, Nat.le_refl]
  try simp

theorem ins_mid {loc0 : Locs} {w : World} {ok0 : Nat → Prop} {vs : Array Value} {n at_ : Nat} {xs : List (List V)} {x : List V} (hn : n = xs.length) (hx : ∀ y ∈ xs, y.length = 2) (hxe : x.length = 2) (hb8 : (n + 1) * 16 ≤ 140737488355328) (hat : at_ < n)
  (hok : ∀ b, ok0 b → b < w.heap.size ∧ ¬ ownL loc0 b) (hHp : HpRel (ownL loc0) w.heap.size w ok0 loc0 [(0, .rows 88 2 xs), (1, .rows 88 2 [x])]) (hargs : RSs w ok0 loc0 [.one (.sl 0 0 n), .one (.int .i64 at_), .one (.sl 1 0 1)] vs.toList) :
  Calls Tryz.prog 151 vs w fun e w' => ∃ v loc, e = .returned v ∧ Frm (ownL loc0) w w' ∧ HpRel (ownL loc0) w.heap.size w' (okI w (fun b => ok0 b ∨ ownL loc0 b) w' loc) loc [(0, .rows 88 2 (xs.take at_ ++ [x] ++ xs.drop at_)), (1, .rows 88 2 [x])] ∧ RS w' (okI w (fun b => ok0 b ∨ ownL loc0 b) w' loc) loc (.one (.sl 0 0 (n + 1))) v ∧
   ∀ s b, loc0 s = some (.box b) → loc s = some (.box b) := by
 -- the arguments
 obtain ⟨ha1, ha2⟩ := hargs
 obtain ⟨v0, v1, v2, hvs⟩ : ∃ v0 v1 v2, vs.toList = [v0, v1, v2] := by
  match hq : vs.toList, ha1 with
  | [v0, v1, v2], _ => exact ⟨v0, v1, v2, rfl⟩
 have hvs' : vs = #[v0, v1, v2] := Array.toList_inj.1 hvs
 have r0 : RV w ok0 loc0 (.sl 0 0 n) v0 := ha2 0 _ v0 rfl (by rw [hvs]; rfl)
 have r1 : RV w ok0 loc0 (.int .i64 at_) v1 := ha2 1 _ v1 rfl (by rw [hvs]; rfl)
 have r2 : RV w ok0 loc0 (.sl 1 0 1) v2 := ha2 2 _ v2 rfl (by rw [hvs]; rfl)
 have e1 : v1 = .int .i64 at_ := by cases (r1 : Rep w ok0 (.int .i64 at_) v1); rfl
 subst e1
 rcases r0 with ⟨b, el0, e0, cap, l0, g0, rfl⟩ | ⟨_, _, g0, _⟩
 case inr => omega
 rcases r2 with ⟨vb, el2, e2, vcap, l2, g2, rfl⟩ | ⟨_, _, g2, _⟩
 case inr => omega
 obtain ⟨q1, q2, k1, k2, k3, cs, hb, hcs, hr⟩ := hHp.blk 0 _ _ l0 rfl
 obtain ⟨q3, q4, p1, p2, p3, vcs, hvb, hvc, hvr⟩ := hHp.blk 1 _ _ l2 rfl
 subst q1; subst q2; subst q3; subst q4
 have hne : vb ≠ b := by
  intro h
  subst h
  have := hHp.inj 0 1 _ _ vb l0 l2 rfl rfl
  omega
 have hown0 : ownL loc0 b := ⟨0, _, l0, rfl⟩
 have hown1 : ownL loc0 vb := ⟨1, _, l2, rfl⟩
 have hvs2 : 2 ≤ vcs.size := by rw [hvc]; omega
 have hbw := (hHp.lo 0 _ b l0 rfl).2
 have hvw := (hHp.lo 1 _ vb l2 rfl).2
 have hcsl : cs.toList.length = cap * 2 := by simp [hcs]
 have hcap63 : cap ≤ 9223372036854775807 := by unfold maxLen at k1; omega
 have h1 : ∀ i j y p, xs[i]? = some y → y[j]? = some p → ∃ u, cs.toList[i * 2 + j]? = some u ∧ Rep w ok0 p u := fun i j y p a1 a2 => by
  obtain ⟨u, hu, hr'⟩ := hr i j y p a1 a2
  exact ⟨u, by simpa using hu, hr'⟩
 have h2 : ∀ (j : Nat) p, x[j]? = some p → ∃ u, vcs.toList[j]? = some u ∧ Rep w ok0 p u := fun j p a => by
  obtain ⟨u, hu, hr'⟩ := hvr 0 j x p rfl a
  exact ⟨u, by simpa using hu, hr'⟩
 have h2' : ∀ i j y p, [x][i]? = some y → y[j]? = some p → ∃ u, vcs.toList[i * 2 + j]? = some u ∧ Rep w ok0 p u := fun i j y p a1 a2 => by
  obtain ⟨u, hu, hr'⟩ := hvr i j y p a1 a2
  exact ⟨u, by simpa using hu, hr'⟩
 have h1c := rows_one (w := w) (ok := ok0) (n := n) (cs := cs.toList) (by omega) hx (by omega) h1
 have h1v := rows_one (w := w) (ok := ok0) (n := 1) (cs := vcs.toList) (xs := [x]) (e := 2) (by omega) (by simpa using hxe) (by simp) h2'
 rw [Nat.one_mul] at h1v
 have hlen : (xs.take at_ ++ [x] ++ xs.drop at_).length = n + 1 := by simp only [List.length_append, List.length_take, List.length_drop, List.length_singleton]; omega
 have hall : ∀ y ∈ (xs.take at_ ++ [x] ++ xs.drop at_), y.length = 2 := by
  intro y hy
  simp only [List.mem_append, List.mem_singleton] at hy
  rcases hy with (hy | rfl) | hy
  ·exact hx y (List.mem_of_mem_take hy)
  ·exact hxe
  ·exact hx y (List.mem_of_mem_drop hy)
 have hdom : ∀ s, (Go.Proofs.YtdflglehippoiaaGreatDoorR.look [(0, Blk.rows 88 2 (xs.take at_ ++ [x] ++ xs.drop at_)), (1, Blk.rows 88 2 [x])] s).isSome = (Go.Proofs.YtdflglehippoiaaGreatDoorR.look [(0, Blk.rows 88 2 xs), (1, Blk.rows 88 2 [x])] s).isSome := by
  intro s
  simp only [Go.Proofs.YtdflglehippoiaaGreatDoorR.look]
  split
  ·rfl
  ·split <;> rfl
 have hkey : ∀ s l, loc0 s = some l → s = 0 ∨ s = 1 := by
  intro s l hs
  have h := hHp.dom s
  rw [hs] at h
  simp only [Go.Proofs.YtdflglehippoiaaGreatDoorR.look] at h
  by_cases h0 : 0 = s
  ·exact .inl h0.symm
  ·rw [if_neg h0] at h
   by_cases h1 : 1 = s
   ·exact .inr h1.symm
   ·rw [if_neg h1] at h; cases h
 rw [hvs']
 simp only [Nat.zero_mul, Nat.sub_zero]
 have hvn : vcap ≥ 1 := by omega
 by_cases hroom : n + 1 ≤ cap
 ·refine (shift b n cap at_ vb 1 vcap cs vcs w hat rfl hroom hcap63 hne hb hcs hvb hvs2 h1c h1v).mono fun e w' ⟨he, cs', hw, hc⟩ => ?_
  subst hw
  have hsame : ∀ k, k ≠ b → (w.drew.setRow b cs').heap[k]? = w.heap[k]? := fun k hk => setRow_other w.drew b k cs' hk
  have hsz : (w.drew.setRow b cs').heap.size = w.heap.size := by simp [World.setRow]
  have hok' : ∀ b', ok0 b' → okI w (fun b => ok0 b ∨ ownL loc0 b) (w.drew.setRow b cs') loc0 b' ∧ (w.drew.setRow b cs').heap[b']? = w.heap[b']? := fun b' h => ⟨⟨.inl (.inl h), by rw [hsz]; exact (hok b' h).1, fun s l hs hl => (hok b' h).2 ⟨s, l, hs, hl⟩⟩, hsame b' fun e => (hok b' h).2 (by rw [e]; exact hown0)⟩
  have hc' : cs'.toList = cs.toList.take (at_ * 2) ++ vcs.toList.take 2 ++ (cs.toList.take (n * 2)).drop (at_ * 2) ++ cs.toList.drop ((n + 1) * 2) := hc
  have hcl : cs'.size = cap * 2 := by
   rw [← Array.length_toList, hc']
   simp only [List.length_append, List.length_take, List.length_drop, hcsl, Array.length_toList]
   omega
  refine ⟨_, loc0, he, ⟨rfl, rfl, rfl, by rw [hsz]; exact Nat.le_refl _, fun k _ ho => hsame k fun e => ho (by rw [e]; exact hown0)⟩, ⟨fun s => by rw [hdom]; exact hHp.dom s, fun s l B hs hB => ?_, hHp.inj, fun s l b' hs hl => ⟨(hHp.lo s l b' hs hl).1, by rw [hsz]; exact (hHp.lo s l b' hs hl).2⟩⟩, ?_, fun s b' h => h⟩
  ·rcases hkey s l hs with rfl | rfl
   ·rw [l0] at hs
    cases hs
    cases hB
    refine ⟨rfl, rfl, k1, by rw [hlen]; exact hroom, hall, cs', setRow_heap w.drew b cs cs' _ _ hb, hcl, fun i j y p a1 a2 => ?_⟩
    obtain ⟨u, hu, hr'⟩ := rows_ins (w := w) (ok := ok0) hx hxe hn.symm (Nat.le_of_lt hat) (by omega) (by simpa using hvs2) h1 h2 hc' i j y p a1 a2
    exact ⟨u, by simpa using hu, hr'.mono hok'⟩
   ·rw [l2] at hs
    cases hs
    cases hB
    refine ⟨rfl, rfl, p1, p2, p3, vcs, by rw [hsame vb hne]; exact hvb, hvc, fun i j y p a1 a2 => ?_⟩
    obtain ⟨u, hu, hr'⟩ := hvr i j y p a1 a2
    exact ⟨u, hu, hr'.mono hok'⟩
  ·exact .inl ⟨b, _, _, cap, l0, by omega, by rw [Nat.zero_mul, Nat.sub_zero]⟩
 ·refine (grow b n cap at_ vb 1 vcap cs vcs w hat rfl (by omega) (by omega) hb8 hne hb hcs hvb hvs2 h1c h1v).mono fun e w' ⟨G, hG1, hG2, he, cs', hcl, hc, hbel, hnew, hsz⟩ => ?_
  have hsame : ∀ k, k < w.heap.size → w'.heap[k]? = w.heap[k]? := fun k hk => hbel.block k hk
  obtain ⟨loc, hloc⟩ : ∃ loc : Locs, loc = loc0.set 0 (.rows w.heap.size 88 2 G) := ⟨_, rfl⟩
  have m0 : loc 0 = some (.rows w.heap.size 88 2 G) := by rw [hloc]; exact set_same _ _ _
  have mo : ∀ s, s ≠ 0 → loc s = loc0 s := fun s hs => by rw [hloc]; exact set_other _ _ hs
  have hok' : ∀ b', ok0 b' → okI w (fun b => ok0 b ∨ ownL loc0 b) w' loc b' ∧ w'.heap[b']? = w.heap[b']? := fun b' h => by
   have hlt := (hok b' h).1
   refine ⟨⟨.inl (.inl h), by omega, fun s l hs hl => ?_⟩, hsame b' hlt⟩
   by_cases h0 : s = 0
   ·subst h0
    rw [m0] at hs
    cases hs
    cases hl
    omega
   ·rw [mo s h0] at hs
    exact (hok b' h).2 ⟨s, l, hs, hl⟩
  refine ⟨_, loc, he, ⟨hbel.os, hbel.tape, hbel.output, hbel.size, fun k hk _ => hsame k hk⟩, ⟨fun s => ?_, fun s l B hs hB => ?_, fun s s' l l' b' hs hs' hl hl' => ?_, fun s l b' hs hl => ?_⟩, ?_, fun s b' h => ?_⟩
  ·rw [hdom, ← hHp.dom]
   by_cases h0 : s = 0
   ·subst h0; rw [m0, l0]; rfl
   ·rw [mo s h0]
  ·by_cases h0 : s = 0
   ·subst h0
    rw [m0] at hs
    cases hs
    cases hB
    refine ⟨rfl, rfl, hG2, by rw [hlen]; exact hG1, hall, cs', hnew, hcl, fun i j y p a1 a2 => ?_⟩
    have hc2 : cs'.toList = cs.toList.take (at_ * 2) ++ vcs.toList.take 2 ++ (cs.toList.take (n * 2)).drop (at_ * 2) ++ cs'.toList.drop ((n + 1) * 2) := by rw [← hc, List.take_append_drop]
    obtain ⟨u, hu, hr'⟩ := rows_ins (w := w) (ok := ok0) hx hxe hn.symm (Nat.le_of_lt hat) (by omega) (by simpa using hvs2) h1 h2 hc2 i j y p a1 a2
    exact ⟨u, by simpa using hu, hr'.mono hok'⟩
   ·rw [mo s h0] at hs
    rcases hkey s l hs with rfl | rfl
    ·exact absurd rfl h0
    ·rw [l2] at hs
     cases hs
     cases hB
     refine ⟨rfl, rfl, p1, p2, p3, vcs, by rw [hsame vb hvw]; exact hvb, hvc, fun i j y p a1 a2 => ?_⟩
     obtain ⟨u, hu, hr'⟩ := hvr i j y p a1 a2
     exact ⟨u, hu, hr'.mono hok'⟩
  ·by_cases h0 : s = 0
   ·by_cases h0' : s' = 0
    ·rw [h0, h0']
    ·subst h0
     rw [m0] at hs
     cases hs
     cases hl
     rw [mo s' h0'] at hs'
     have := (hHp.lo s' l' _ hs' hl').2
     omega
   ·by_cases h0' : s' = 0
    ·subst h0'
     rw [m0] at hs'
     cases hs'
     cases hl'
     rw [mo s h0] at hs
     have := (hHp.lo s l _ hs hl).2
     omega
    ·rw [mo s h0] at hs
     rw [mo s' h0'] at hs'
     exact hHp.inj s s' l l' b' hs hs' hl hl'
  ·by_cases h0 : s = 0
   ·subst h0
    rw [m0] at hs
    cases hs
    cases hl
    exact ⟨.inr (Nat.le_refl _), by omega⟩
   ·rw [mo s h0] at hs
    have := hHp.lo s l b' hs hl
    exact ⟨this.1, by have := this.2; omega⟩
  ·exact .inl ⟨w.heap.size, _, _, G, m0, by omega, by rw [Nat.zero_mul, Nat.sub_zero]⟩
  ·have h0 : s ≠ 0 := by
    intro h0
    subst h0
    rw [l0] at h
    cases h
   rw [mo s h0]
   exact h
theorem ins_ok : Sound Tryz.prog 151 (insM 88 2 16) := by
 intro args r hp hr ys h0 hsp w ok0 loc0 vs hgl hok hHp hargs
 unfold insM at hr
 split at hr
 ·rename_i n at_ el1 e1 xs el2 e2 x
  split at hr
  ·rename_i hc
   obtain ⟨⟨rfl, rfl, rfl, rfl⟩, hn, h0', h1, hx, hxe, hb⟩ := hc
   have hx' : ∀ y ∈ xs, y.length = 2 := fun y hy => by have := List.all_eq_true.1 hx y hy; simpa using this
   cases hr
   cases hsp
   obtain ⟨k, rfl⟩ : ∃ k : Nat, at_ = (k : Int) := ⟨at_.toNat, by omega⟩
   rw [Int.toNat_natCast]
   by_cases hlt : k < n
   ·exact ⟨by kernel_rfl, ins_mid hn hx' hxe hb hlt hok hHp hargs⟩
   ·obtain rfl : k = n := by omega
    have h5 := ins_end k xs x hn hx hxe hb
    have h6 := (IB.s151 (m := IB.i151.ev (fun _ _ => none) 1) (E := fun _ _ => none) (fun _ => Sound.no) fun _ _ h => ⟨1, h⟩) _ _ _ h5 _ _ rfl w ok0 loc0 vs hgl hok hHp hargs
    rw [show xs.drop k = [] from List.drop_of_length_le (by omega), List.append_nil]
    exact h6
  ·cases hr
 ·cases hr
end Go.Proofs.YtdflglehippoiaaGreatDoor.XI
