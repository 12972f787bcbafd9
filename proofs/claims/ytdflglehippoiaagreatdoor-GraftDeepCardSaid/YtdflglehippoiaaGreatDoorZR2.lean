/- Texts joined: R11 R12 R12F R13 R14 R15 R16. -/
import Derived.Test.YtdflglehippoiaaGreatDoorZR1
import Derived.IntWalk
import Derived.Lib.AppendZeros
import Derived.Stop.Asserts
import Derived.LaidEql
import Derived.Orders
import Derived.LoopN
set_option linter.unusedVariables false
set_option linter.unusedSimpArgs false
namespace Go.Proofs.YtdflglehippoiaaGreatDoorR
open Go Go.RowKit

def slT (P : Program) (t : TypeId) (e : Nat) : Bool := match P.underlying t with
 | some (.slice el) => sizeT P el e
 | _ => false
def fdT (P : Program) (t : TypeId) (f : Nat) (p : Field → Bool) : Bool := match P.underlying t with
 | some (.struct fs) => match fs[f]? with
  | some fd => p fd
  | none => false
 | _ => false
def posT (P : Program) (t : TypeId) : Bool := match P.info? t with
 | some i => decide (0 < i.size)
 | none => false
def agT (P : Program) (t : TypeId) (ag : Bool) (n : Nat) : Bool := aggT P t ag && (if ag then sizeT P t n else n == 1)
def mksT (P : Program) (el e by_ : Nat) (zs : List V) : Bool := zeroT P el zs && sizeT P el e && (zs.length == e) && decide (0 < by_) && (match P.info? el with | some i => i.bytes == by_ | none => false)
def clrT (P : Program) (el e : Nat) : Bool := match P.info? el with
 | some i => i.size == e && (match i.zero with | some z => (z.cells.size == e) && z.cells.toList.all (·.oneCell') | none => false)
 | none => false
def ifT (P : Program) (t : TypeId) (b : Bool) : Bool := match P.underlying t with
 | some (.interface _) => b
 | some _ => !b
 | none => false
def eqT (P : Program) (tbl : List Nat) : Bool := tbl.all fun t => (match P.underlying t with
 | some (.int _) => true
 | _ => false) && ((P.info? t).map (·.comparable) == some true)
def tasT (P : Program) (T : TypeId) (tbl : List (Nat × Bool)) : Bool := (match P.underlying T with
 | some (.interface want) => tbl.all fun p => (P.info? p.1).map (fun i => (lacking want i.methods).isEmpty) == some p.2
 | _ => false) && (match P.info? T with
 | some i => (match i.zero with
  | some .nilIface => true
  | _ => false)
 | none => false)
def methodT (P : Program) (t : TypeId) (name : String) (f : FuncId) : Bool := (match P.info? t with
 | some i => (match i.methods.find? (·.name == name) with
  | some m => m.path.isEmpty && (match m.func with
   | some (g, true) => g == f
   | _ => false)
  | none => false)
 | none => false) && (match P.underlying t with
 | some (.pointer _) => true
 | _ => false)
def chk (P : Program) (op : Op) : I → Bool
 | .mov y => match op with
  | .move x => xok x y
  | .assign x => xok x y
  | _ => false
 | .nilsl _ _ _ => match op with
  | .move (.const (.slice none 0 0)) => true
  | .assign (.const (.slice none 0 0)) => true
  | _ => false
 | .pick c' x' y' => match op with
  | .pick c x y => xok c c' && xok x x' && xok y y'
  | _ => false
 | .bin op' x' y' => match op with
  | .binOp op _ x y _ => decide (op = op') && xok x x' && xok y y'
  | _ => false
 | .eqb neg x' y' => match op with
  | .binOp op t x y _ => decide (op = if neg then .neq else .eql) && (match P.underlying t with | some .bool => true | _ => false) && xok x x' && xok y y'
  | _ => false
 | .eqs neg ks x' y' => match op with
  | .binOp op t x y _ => decide (op = if neg then .neq else .eql) && eqsT P t ks && xok x x' && xok y y'
  | _ => false
 | .un op' x' => match op with
  | .unOp op _ x => decide (op = op') && xok x x'
  | _ => false
 | .conv k x' => match op with
  | .convert src dst x => (P.underlying src).isSome && (match P.underlying dst with | some (.int k') => decide (k' = k) | _ => false) && xok x x'
  | _ => false
 | .alloc zs => match op with
  | .alloc el => zeroT P el zs
  | _ => false
 | .box x' => match op with
  | .box _ x => xok x x'
  | _ => false
 | .build zs qs => match op with
  | .build t ps => buildT P t zs ps.toList qs
  | _ => false
 | .bsl el e m zs qs => match op with
  | .buildSlice t k ps => (k == m) && sliceT P t el && sizeT P el e && zeroT P el zs && (zs.length == e) && decide (m * e ≤ 16777216) && decide (m ≤ 16777216) && partsR ps.toList qs
  | _ => false
 | .load ag m x' => match op with
  | .load t x => agT P t ag m && xok x x'
  | _ => false
 | .ldb ag m x' => match op with
  | .load t x => agT P t ag m && xok x x'
  | _ => false
 | .nck x' => match op with
  | .nilCheck x => xok x x'
  | _ => false
 | .mks el e by_ zs l' c' => match op with
  | .makeSlice t l c => sliceT P t el && mksT P el e by_ zs && xok l l' && xok c c'
  | _ => false
 | .stop => true
 | .kow _ _ x' => match op with
  | .move x => xok x x'
  | .assign x => xok x x'
  | _ => false
 | .kln x' => match op with
  | .call c => match c.callee, c.args.toList, c.argTypes.toList with
   | .builtin .len, [x], [t] => (match P.underlying t with | some (.slice _) => true | _ => false) && xok x x'
   | .builtin .cap, [x], [t] => (match P.underlying t with | some (.slice _) => true | _ => false) && xok x x'
   | _, _, _ => false
  | _ => false
 | .kct x' hi' => match op with
  | .slice t x none (some hi) none => slT P t 1 && xok x x' && xok hi hi'
  | _ => false
 | .apz el e by_ zs x' m' => match op with
  | .call c => match c.callee, c.args.toList, c.argTypes.toList with
   | .builtin .append, [x, m], [t, t'] => (match P.underlying t' with | some (.int _) => true | _ => false) && sliceT P t el && mksT P el e by_ zs && decide (0 < e) && xok x x' && xok m m'
   | _, _, _ => false
  | _ => false
 | .apl el e by_ zs x' m' => match op with
  | .call c => match c.callee, c.args.toList, c.argTypes.toList with
   | .builtin .append, [x, m], [t, t'] => (match P.underlying t' with | some (.int _) => true | _ => false) && sliceT P t el && mksT P el e by_ zs && decide (0 < e) && xok x x' && xok m m'
   | _, _, _ => false
  | _ => false
 | .cu0 e x' hi' => match op with
  | .slice t x none (some hi) none => slT P t e && xok x x' && xok hi hi'
  | _ => false
 | .cut e x' lo' hi' => match op with
  | .slice t x lo hi none => slT P t e && xok x x' && xokO lo lo' && xokO hi hi'
  | _ => false
 | .fad off x' => match op with
  | .fieldAddr t x f => fdT P t f (fun fd => fd.offset == off && posT P fd.type) && xok x x'
  | _ => false
 | .fld ag off m x' => match op with
  | .field t x f => fdT P t f (fun fd => fd.offset == off && agT P fd.type ag m) && xok x x'
  | _ => false
 | .iad e x' i' => match op with
  | .indexAddr t x i => slT P t e && xok x x' && xok i i'
  | _ => false
 | .iada e len x' i' => match op with
  | .indexAddr t x i => arrT P t len e && xok x x' && xok i i'
  | _ => false
 | .idx ag e len x' i' => match op with
  | .index t x i => (match P.underlying t with | some (.array m el) => (m == len) && sizeT P el e && agT P el ag e | _ => false) && xok x x' && xok i i'
  | _ => false
 | .ext x' i' => match op with
  | .extract x i => (i == i') && xok x x'
  | _ => false
 | .call _ f' as' => match op with
  | .call c => match c.callee with
   | .value (.func f) => (f == f') && xoks c.args.toList as'
   | _ => false
  | _ => false
 | .callv _ x' as' => match op with
  | .call c => match c.callee with
   | .value x => xok x x' && xoks c.args.toList as'
   | _ => false
  | _ => false
 | .len x' => match op with
  | .call c => match c.callee, c.args.toList, c.argTypes.toList with
   | .builtin .len, [x], [t] => (match P.underlying t with | some (.slice _) => true | _ => false) && xok x x'
   | _, _, _ => false
  | _ => false
 | .mx x' y' => match op with
  | .call c => match c.callee, c.args.toList with
   | .builtin .max, [x, y] => xok x x' && xok y y'
   | _, _ => false
  | _ => false
 | .mx3 x' y' z' => match op with
  | .call c => match c.callee, c.args.toList with
   | .builtin .max, [x, y, z] => xok x x' && xok y y' && xok z z'
   | _, _ => false
  | _ => false
 | .mn x' y' => match op with
  | .call c => match c.callee, c.args.toList with
   | .builtin .min, [x, y] => xok x x' && xok y y'
   | _, _ => false
  | _ => false
 | .mkf f' cs' => match op with
  | .makeFunc (.func f) fi cs => (f == f') && fi.toList.isEmpty && xoks cs.toList cs'
  | _ => false
 | .store _ m x' v' => match op with
  | .store t x v => sizeT P t m && xok x x' && xok v v'
  | _ => false
 | .app el e by_ x' y' => match op with
  | .call c => match c.callee, c.args.toList, c.argTypes.toList with
   | .builtin .append, [x, y], [t, t'] => (t == t') && sliceT P t el && appT P el e by_ && xok x x' && xok y y'
   | _, _, _ => false
  | _ => false
 | .apn el e by_ x' y' => match op with
  | .call c => match c.callee, c.args.toList, c.argTypes.toList with
   | .builtin .append, [x, y], [t, t'] => (t == t') && sliceT P t el && appT P el e by_ && xok x x' && xok y y'
   | _, _, _ => false
  | _ => false
 | .apk el e by_ x' y' => match op with
  | .call c => match c.callee, c.args.toList, c.argTypes.toList with
   | .builtin .append, [x, y], [t, t'] => (t == t') && sliceT P t el && appT P el e by_ && xok x x' && xok y y'
   | _, _, _ => false
  | _ => false
 | .mki t' x' => match op with
  | .makeInterface t x => (t == t') && ifT P t false && xok x x'
  | _ => false
 | .mkp t' x' => match op with
  | .makeInterface t x => (t == t') && ifT P t false && xok x x'
  | _ => false
 | .ifn neg x' => match op with
  | .binOp op t x (.const .nilIface) _ => decide (op = if neg then .neq else .eql) && ifT P t true && xok x x'
  | _ => false
 | .ieq tbl x' y' => match op with
  | .binOp .eql t x y _ => ifT P t true && eqT P tbl && xok x x' && xok y y'
  | _ => false
 | .tas T' tbl x' => match op with
  | .typeAssert x _ T true => (T == T') && tasT P T tbl && xok x x'
  | _ => false
 | .inv _ tbl x' as' => match op with
  | .call c => match c.callee with
   | .invoke x name => tbl.all (fun p => methodT P p.1 name p.2) && xok x x' && xoks c.args.toList as'
   | _ => false
  | _ => false
 | .bsr el e m zs qs => match op with
  | .buildSlice t k ps => (k == m) && sliceT P t el && sizeT P el e && zeroT P el zs && (zs.length == e) && decide (m * e ≤ 16777216) && decide (m ≤ 16777216) && partsR ps.toList qs
  | _ => false
 | .mkz el e by_ zs c' => match op with
  | .makeSlice t (.const (.int _ 0)) c => sliceT P t el && mksT P el e by_ zs && xok c c'
  | _ => false
 | .cvb x' => match op with
  | .convert t t' x => (t == t') && (match P.underlying t with
   | some (.slice el) => (match P.underlying el with
    | some (.int .u8) => true
    | _ => false)
   | _ => false) && xok x x'
  | _ => false
 | .clr el e x' => match op with
  | .call c => match c.callee, c.args.toList, c.argTypes.toList with
   | .builtin .clear, [x], [t] => sliceT P t el && clrT P el e && xok x x'
   | _, _, _ => false
  | _ => false
 | .callo f' as' => match op with
  | .call c => match c.callee with
   | .value (.func f) => (f == f') && xoks c.args.toList as'
   | _ => false
  | _ => false
 | .bxo x' ps => match op with
  | .box _ x => xok x x'
  | _ => false
 | .alo zs ps => match op with
  | .alloc el => zeroT P el zs && decide (ps.length < 63)
  | _ => false
 | .isnil neg x' => match op with
  | .binOp op t x (.const (.slice none 0 0)) _ => decide (op = if neg then .neq else .eql) && (match P.underlying t with | some (.slice _) => true | _ => false) && xok x x'
  | _ => false

section
variable {P : Program} {n : Nat} {Γ : Ent} {w0 : World} {ok0 : Nat → Prop} {loc : Locs} {st : St} {a : Act} {w : World} {o : Oper}

theorem slT_spec {t : TypeId} {e : Nat} (h : slT P t e = true) : ∃ el, P.underlying t = some (.slice el) ∧ sizeT P el e = true := by
 unfold slT at h
 split at h
 ·exact ⟨_, ‹_›, h⟩
 ·cases h
theorem fdT_spec {t : TypeId} {f : Nat} {p : Field → Bool} (h : fdT P t f p = true) : ∃ fs fd, P.underlying t = some (.struct fs) ∧ fs[f]? = some fd ∧ p fd = true := by
 unfold fdT at h
 split at h
 ·split at h
  ·exact ⟨_, _, ‹_›, ‹_›, h⟩
  ·cases h
 ·cases h
theorem posT_spec {t : TypeId} (h : posT P t = true) : ∃ m, sizeT P t (m + 1) = true := by
 unfold posT at h
 split at h
 ·rename_i i hi
  have h0 := of_decide_eq_true h
  exact ⟨i.size - 1, by unfold sizeT; rw [hi]; simp; omega⟩
 ·cases h
theorem agT_spec {t : TypeId} {ag : Bool} {m : Nat} (h : agT P t ag m = true) : aggT P t ag = true ∧ (if ag then sizeT P t m else m == 1) = true := by
 unfold agT at h
 simpa using h

theorem yld_wp {v : S} (I : Inv n Γ w0 ok0 loc st a w) (hd : ∀ t, o.dst = some t → t < n) (hy : Yld P w (okI w0 ok0 w loc) loc a o v) {next : Act → World → Prop} {Q : Exit → Act → World → Prop}
  (hn : ∀ x w' loc', Inv n Γ w0 ok0 loc' { sl := (st.put o.dst v).sl, hp := [] ++ st.hp } (a.put o.dst x) w' → next (a.put o.dst x) w') : o.wp P a w next Q := by
 obtain ⟨x, hx, hr⟩ := hy
 unfold Oper.wp
 rw [hx, Oper.upon_value]
 have h := I.val o.dst hd v x hr
 refine hn x w loc ?_
 cases hdst : o.dst with
 | none => rw [hdst] at h; exact h
 | some d => rw [hdst] at h; exact h

theorem evs_rs {g : Nat → Option S} {ok : Nat → Prop} (hg : GOk w ok loc a g) : ∀ {l : List Operand} {l' : List X} {ss : List S}, xoks l l' = true → evs g l' = some ss → ss.length = l.length ∧ ∀ (j : Nat) s u, ss[j]? = some s → (l.map a.eval)[j]? = some u → RS w ok loc s u
 | [], [], ss, _, h => by cases h; exact ⟨rfl, fun j s u h => by cases h⟩
 | x :: r, y :: q, ss, hx, h => by
  simp only [xoks, Bool.and_eq_true] at hx
  simp only [evs] at h
  split at h
  ·rename_i s hs
   split at h
   ·rename_i ss' hss
    cases h
    obtain ⟨g1, g2⟩ := evs_rs hg hx.2 hss
    refine ⟨by simp [g1], fun j s' u a1 a2 => ?_⟩
    cases j with
    | zero => simp at a1 a2; subst a1; subst a2; exact xok_rs hx.1 hg hs
    | succ j => exact g2 j s' u (by simpa using a1) (by simpa using a2)
   ·cases h
  ·cases h
 | [], _ :: _, _, hx, _ => by cases hx
 | _ :: _, [], _, hx, _ => by cases hx

theorem run_makeSlice {t el : TypeId} {e by_ : Nat} {zs : List V} {l : Int} {k k' : IntKind} (ht : P.underlying t = some (.slice el)) (hT : mksT P el e by_ zs = true) (h0 : 0 ≤ l) (hb : l * by_ ≤ 140737488355328) :
  ∃ z : Value, voks z.cells.toList zs = true ∧ zs.length = e ∧ (Instr.makeSlice t (.int k l) (.int k' l)).run P w = .ok (.slice (some ⟨w.heap.size, 0, none⟩) l.toNat l.toNat) (w.alloc (.cells ((Array.range (l.toNat * e)).map fun i => z.cells[i % z.cells.size]!) el)) := by
 unfold mksT at hT
 simp only [Bool.and_eq_true, beq_iff_eq, decide_eq_true_eq] at hT
 obtain ⟨⟨⟨⟨hz, hs⟩, hl⟩, hp⟩, hby⟩ := hT
 obtain ⟨i, z, i1, i2, i3⟩ := zeroT_spec hz
 rw [i1] at hby
 simp only [beq_iff_eq] at hby
 have hlb : l ≤ 140737488355328 := by
  have h1 : l * 1 ≤ l * by_ := Int.mul_le_mul_of_nonneg_left (by omega) h0
  omega
 have hw : IntKind.i64.wrap l = l := IntWalk.i64_in _ (by omega)
 refine ⟨z, i3, hl, ?_⟩
 have hmul : ¬ (281474976710656 < (by_ : Int) * l) := by rw [Int.mul_comm]; omega
 have hmul' : ¬ (by_ : Int) * l > 2 ^ 48 := by rw [show ((2 : Int) ^ 48) = 281474976710656 from rfl]; omega
 have h0' : ¬ l < 0 := by omega
 by_cases hn : l.toNat * e = 0
 ·have hzero : Array.range (l.toNat * e) = #[] := by rw [hn]; rfl
  simp [Instr.makeSlice, run_underlying ht, asInt, asIntOf, typeInfo, i1, hby, hw, hmul, hmul', run_sizeOf hs, hn, newRow, h0']
  rw [show Array.range 0 = #[] from rfl, Array.map_empty, Array.map_empty]
 ·simp [Instr.makeSlice, run_underlying ht, asInt, asIntOf, typeInfo, i1, i2, zeroValue, hby, hw, hmul, hmul', run_sizeOf hs, hn, newRow, h0']
theorem run_makeSlice0 {t el : TypeId} {e by_ : Nat} {zs : List V} {l : Int} {k k' : IntKind} (ht : P.underlying t = some (.slice el)) (hT : mksT P el e by_ zs = true) (h0 : 0 ≤ l) (hb : l * by_ ≤ 140737488355328) :
  ∃ z : Value, voks z.cells.toList zs = true ∧ zs.length = e ∧ (Instr.makeSlice t (.int k 0) (.int k' l)).run P w = .ok (.slice (some ⟨w.heap.size, 0, none⟩) 0 l.toNat) (w.alloc (.cells ((Array.range (l.toNat * e)).map fun i => z.cells[i % z.cells.size]!) el)) := by
 unfold mksT at hT
 simp only [Bool.and_eq_true, beq_iff_eq, decide_eq_true_eq] at hT
 obtain ⟨⟨⟨⟨hz, hs⟩, hl⟩, hp⟩, hby⟩ := hT
 obtain ⟨i, z, i1, i2, i3⟩ := zeroT_spec hz
 rw [i1] at hby
 simp only [beq_iff_eq] at hby
 have hlb : l ≤ 140737488355328 := by
  have h1 : l * 1 ≤ l * by_ := Int.mul_le_mul_of_nonneg_left (by omega) h0
  omega
 have hw : IntKind.i64.wrap l = l := IntWalk.i64_in _ (by omega)
 have hw0 : IntKind.i64.wrap 0 = 0 := rfl
 refine ⟨z, i3, hl, ?_⟩
 have hmul : ¬ (281474976710656 < (by_ : Int) * l) := by rw [Int.mul_comm]; omega
 have hmul' : ¬ (by_ : Int) * l > 2 ^ 48 := by rw [show ((2 : Int) ^ 48) = 281474976710656 from rfl]; omega
 have h0' : ¬ l < 0 := by omega
 by_cases hn : l.toNat * e = 0
 ·have hzero : Array.range (l.toNat * e) = #[] := by rw [hn]; rfl
  simp [Instr.makeSlice, run_underlying ht, asInt, asIntOf, typeInfo, i1, hby, hw, hw0, hmul, hmul', run_sizeOf hs, hn, newRow, h0']
  rw [show Array.range 0 = #[] from rfl, Array.map_empty, Array.map_empty]
 ·simp [Instr.makeSlice, run_underlying ht, asInt, asIntOf, typeInfo, i1, i2, zeroValue, hby, hw, hw0, hmul, hmul', run_sizeOf hs, hn, newRow, h0']
theorem run_appz {t t' el : TypeId} {e by_ : Nat} {zs : List V} {l : Int} {k kn : IntKind} (ty : TypeId) (ht : P.underlying t = some (.slice el)) (ht' : P.underlying t' = some (.int kn)) (hT : mksT P el e by_ zs = true) (hpos : 0 < e) (h0 : 0 < l) (hb : l * by_ ≤ 140737488355328) :
  ∃ z : Value, voks z.cells.toList zs = true ∧ zs.length = e ∧ ∃ cap : Nat, l.toNat ≤ cap ∧ cap ≤ maxLen ∧ (Builtin.append_ #[t, t'] ty #[.slice none 0 0, .int k l]).run P w =
   .ok (.slice (some ⟨w.heap.size, 0, none⟩) l.toNat cap) (w.drew.alloc (.cells (Builtin.zeroCells z.cells l.toNat ++ Builtin.zeroCells z.cells (cap - l.toNat)) el)) := by
 unfold mksT at hT
 simp only [Bool.and_eq_true, beq_iff_eq, decide_eq_true_eq] at hT
 obtain ⟨⟨⟨⟨hz, hs⟩, hl⟩, hp⟩, hby⟩ := hT
 obtain ⟨i, z, i1, i2, i3⟩ := zeroT_spec hz
 rw [i1] at hby
 simp only [beq_iff_eq] at hby
 have hlb : l ≤ 140737488355328 := by
  have h1 : l * 1 ≤ l * by_ := Int.mul_le_mul_of_nonneg_left (by omega) (by omega)
  omega
 obtain ⟨m, rfl⟩ : ∃ m : Nat, l = (m : Int) := ⟨l.toNat, by omega⟩
 have hm : ((m : Int)).toNat = m := rfl
 rw [hm]
 have hmb : m * by_ ≤ 140737488355328 := by
  rw [← Int.natCast_mul] at hb
  omega
 have hsz : 0 < i.size := by
  unfold sizeT at hs
  rw [i1] at hs
  simp only [beq_iff_eq] at hs
  omega
 refine ⟨z, i3, hl, grownCap w m 0 el, ?_, ?_, ?_⟩
 ·exact grownCap_ge w m 0 el
 ·exact grownCap_le_maxLen w m 0 el (by unfold maxLen; omega)
 ·exact Lib.run_append_nil_zeros w t t' ty el i z k kn ht ht' i1 i2 m (by omega) hsz (by omega) (by rw [hby]; omega)

theorem ifT_spec {t : TypeId} {b : Bool} (h : ifT P t b = true) : ∃ u, P.underlying t = some u ∧ (if b then ∃ ms, u = .interface ms else ∀ ms, u ≠ .interface ms) := by
 unfold ifT at h
 split at h
 ·rename_i ms hu
  subst h
  exact ⟨_, hu, _, rfl⟩
 ·rename_i u hne hu
  have hb : b = false := by simpa using h
  subst hb
  exact ⟨u, hu, fun ms e => hne ms e⟩
 ·cases h
theorem run_mki {t : TypeId} (h : ifT P t false = true) (v : Value) (w : World) : (Instr.makeInterface t v).run P w = .ok (.iface t v) w := by
 obtain ⟨u, hu, hn⟩ := ifT_spec h
 have hn : ∀ ms, u ≠ .interface ms := hn
 cases u <;> first
  | exact absurd rfl (hn _)
  | simp [Instr.makeInterface, run_underlying hu]
theorem y_mki {ok : Nat → Prop} {g : Nat → Option S} {t : TypeId} {x : Operand} {x' : X} {v : V} (ho : o.op = .makeInterface t x) (ht : ifT P t false = true) (hx : xok x x' = true) (hg : GOk w ok loc a g) (ex : x'.ev g = some (.one v)) (hm : (ments [v]).isEmpty = true) : Yld P w ok loc a o (.one (.ifc t v)) := by
 have hv : RV w ok loc v (a.eval x) := xok_rs hx hg ex
 refine ⟨.iface t (a.eval x), ?_, Rep.rv (loc := loc) (.ifc (rv_rep hv (ments_nil hm v (List.mem_singleton.2 rfl))))⟩
 unfold execOp
 rw [ho]
 simp [run_mki ht]
theorem eql_iface_nil {ti : TypeId} {ms : Array (String × TypeId)} (t : TypeId) (v : Value) (hi : P.underlying ti = some (.interface ms)) (w : World) : (binOp .eql ti (.iface t v) .nilIface).run P w = .ok (.bool false) w := by
 have h : ∀ d : Nat, (Op.equalIn (d + 1) ti (.iface t v) .nilIface).run P w = .ok false w := fun d => by simp [Op.equalIn, run_underlying hi]
 simp only [binOp]
 simp [Op.equal, Op.maxDepth, h 9999]
theorem neq_iface_nil {ti : TypeId} {ms : Array (String × TypeId)} (t : TypeId) (v : Value) (hi : P.underlying ti = some (.interface ms)) (w : World) : (binOp .neq ti (.iface t v) .nilIface).run P w = .ok (.bool true) w := by
 have h : ∀ d : Nat, (Op.equalIn (d + 1) ti (.iface t v) .nilIface).run P w = .ok false w := fun d => by simp [Op.equalIn, run_underlying hi]
 simp only [binOp]
 simp [Op.equal, Op.maxDepth, h 9999]
theorem eql_nil_nil {ti : TypeId} {ms : Array (String × TypeId)} (hi : P.underlying ti = some (.interface ms)) (w : World) : (binOp .eql ti .nilIface .nilIface).run P w = .ok (.bool true) w := by
 have h : ∀ d : Nat, (Op.equalIn (d + 1) ti .nilIface .nilIface).run P w = .ok true w := fun d => by simp [Op.equalIn, run_underlying hi]
 simp only [binOp]
 simp [Op.equal, Op.maxDepth, h 9999]
theorem neq_nil_nil {ti : TypeId} {ms : Array (String × TypeId)} (hi : P.underlying ti = some (.interface ms)) (w : World) : (binOp .neq ti .nilIface .nilIface).run P w = .ok (.bool false) w := by
 have h : ∀ d : Nat, (Op.equalIn (d + 1) ti .nilIface .nilIface).run P w = .ok true w := fun d => by simp [Op.equalIn, run_underlying hi]
 simp only [binOp]
 simp [Op.equal, Op.maxDepth, h 9999]
theorem eql_iface_int {ti t : TypeId} {ms : Array (String × TypeId)} {k : IntKind} {k' : IntKind} {i : TypeInfo} (m n : Int) (hi : P.underlying ti = some (.interface ms)) (ht : P.underlying t = some (.int k')) (hinf : P.info? t = some i) (hc : i.comparable = true) (w : World) : (binOp .eql ti (.iface t (.int k m)) (.iface t (.int k n))).run P w = .ok (.bool (m == n)) w := by
 have h : ∀ d : Nat, (Op.equalIn (d + 1 + 1) ti (.iface t (.int k m)) (.iface t (.int k n))).run P w = .ok (m == n) w := fun d => by simp [Op.equalIn, run_underlying hi, run_underlying ht, typeInfo, hinf, hc]
 simp only [binOp]
 simp [Op.equal, Op.maxDepth, h 9998]
theorem guard_iface {t : TypeId} {op : BinOp} {x y : Operand} {s : TypeId} {v z : Value} (w : World) : (eqGuard op t x y (.iface s v) z).run P w = .ok () w := by
 unfold eqGuard
 cases op <;> rfl
theorem guard_nil {t : TypeId} {op : BinOp} {x : Operand} {v : Value} (w : World) : (eqGuard op t x (.const v) .nilIface .nilIface).run P w = .ok () w := by
 unfold eqGuard
 cases op <;> simp
theorem y_ifn_i {ok : Nat → Prop} {g : Nat → Option S} {op : BinOp} {t u : TypeId} {x : Operand} {x' : X} {s : Nat} {v : V} (neg : Bool) (ho : o.op = .binOp op t x (.const .nilIface) u) (hop : op = if neg then .neq else .eql) (ht : ifT P t true = true) (hx : xok x x' = true) (hg : GOk w ok loc a g) (ex : x'.ev g = some (.one (.ifc s v))) : Yld P w ok loc a o (.one (.bool neg)) := by
 have hv : Rep w ok (.ifc s v) (a.eval x) := xok_rs hx hg ex
 obtain ⟨q, hq, ms, rfl⟩ := ifT_spec ht
 generalize hz : a.eval x = z at hv
 cases hv with
 | ifc hv =>
  have hcon : a.eval (.const .nilIface) = .nilIface := rfl
  refine ⟨_, ?_, to_bool⟩
  unfold execOp
  rw [ho]
  subst hop
  cases neg
  ·simp only [hz, hcon, Bool.false_eq_true, if_false, Sem.run_bind, guard_iface, eql_iface_nil _ _ hq, Result.andThen_ok, Sem.run_pure]
  ·simp only [hz, hcon, if_true, Sem.run_bind, guard_iface, neq_iface_nil _ _ hq, Result.andThen_ok, Sem.run_pure]
theorem y_ifn_n {ok : Nat → Prop} {g : Nat → Option S} {op : BinOp} {t u : TypeId} {x : Operand} {x' : X} (neg : Bool) (ho : o.op = .binOp op t x (.const .nilIface) u) (hop : op = if neg then .neq else .eql) (ht : ifT P t true = true) (hx : xok x x' = true) (hg : GOk w ok loc a g) (ex : x'.ev g = some (.one (.k .nilIface))) : Yld P w ok loc a o (.one (.bool (!neg))) := by
 have hv : Rep w ok (.k .nilIface) (a.eval x) := xok_rs hx hg ex
 obtain ⟨q, hq, ms, rfl⟩ := ifT_spec ht
 generalize hz : a.eval x = z at hv
 cases hv with
 | k hv =>
  have hcon : a.eval (.const .nilIface) = .nilIface := rfl
  refine ⟨_, ?_, to_bool⟩
  unfold execOp
  rw [ho]
  subst hop
  cases neg
  ·simp only [hz, hcon, Bool.false_eq_true, if_false, Sem.run_bind, guard_nil, eql_nil_nil hq, Result.andThen_ok, Sem.run_pure, Bool.not_false]
  ·simp only [hz, hcon, if_true, Sem.run_bind, guard_nil, neq_nil_nil hq, Result.andThen_ok, Sem.run_pure, Bool.not_true]
theorem y_ieq_t {ok : Nat → Prop} {g : Nat → Option S} {t u : TypeId} {x y : Operand} {x' y' : X} {s s' : Nat} {v v' : V} (ho : o.op = .binOp .eql t x y u) (ht : ifT P t true = true) (hx : xok x x' = true) (hy : xok y y' = true) (hg : GOk w ok loc a g) (ex : x'.ev g = some (.one (.ifc s v))) (ey : y'.ev g = some (.one (.ifc s' v'))) (hne : s ≠ s') : Yld P w ok loc a o (.one (.bool false)) := by
 have hv : Rep w ok (.ifc s v) (a.eval x) := xok_rs hx hg ex
 have hv' : Rep w ok (.ifc s' v') (a.eval y) := xok_rs hy hg ey
 obtain ⟨q, hq, ms, rfl⟩ := ifT_spec ht
 generalize hz : a.eval x = z at hv
 generalize hz' : a.eval y = z' at hv'
 cases hv with
 | ifc hv => cases hv' with
  | ifc hv' =>
   refine ⟨_, ?_, to_bool⟩
   unfold execOp
   rw [ho]
   simp only [hz, hz', Sem.run_bind, guard_iface, run_eql_iface_types _ _ _ _ hq hne, Result.andThen_ok, Sem.run_pure]
theorem y_ieq_i {ok : Nat → Prop} {g : Nat → Option S} {t u : TypeId} {x y : Operand} {x' y' : X} {s : Nat} {m n : Int} {tbl : List Nat} (ho : o.op = .binOp .eql t x y u) (ht : ifT P t true = true) (htb : eqT P tbl = true) (hs : tbl.contains s = true) (hx : xok x x' = true) (hy : xok y y' = true) (hg : GOk w ok loc a g) (ex : x'.ev g = some (.one (.ifc s (.int .i64 m)))) (ey : y'.ev g = some (.one (.ifc s (.int .i64 n)))) : Yld P w ok loc a o (.one (.bool (decide (m = n)))) := by
 have hv : Rep w ok (.ifc s (.int .i64 m)) (a.eval x) := xok_rs hx hg ex
 have hv' : Rep w ok (.ifc s (.int .i64 n)) (a.eval y) := xok_rs hy hg ey
 obtain ⟨q, hq, ms, rfl⟩ := ifT_spec ht
 have h1 := List.all_eq_true.1 htb s (List.contains_iff_mem.1 hs)
 simp only [Bool.and_eq_true, beq_iff_eq] at h1
 obtain ⟨h1, h2⟩ := h1
 obtain ⟨i, hi, hc⟩ := Option.map_eq_some_iff.1 h2
 generalize hz : a.eval x = z at hv
 generalize hz' : a.eval y = z' at hv'
 split at h1
 ·rename_i k' hk
  cases hv with
  | ifc hv => cases hv' with
   | ifc hv' =>
    cases hv
    cases hv'
    refine ⟨.bool (m == n), ?_, ?_⟩
    ·unfold execOp
     rw [ho]
     simp only [hz, hz', Sem.run_bind, guard_iface, eql_iface_int m n hq hk hi hc, Result.andThen_ok, Sem.run_pure]
    ·rw [show (m == n) = decide (m = n) from rfl]; exact to_bool
 ·cases h1
theorem y_tas {ok : Nat → Prop} {g : Nat → Option S} {t T : TypeId} {x : Operand} {x' : X} {s : Nat} {v : V} {b : Bool} {tbl : List (Nat × Bool)} (ho : o.op = .typeAssert x t T true) (hT : tasT P T tbl = true) (hb : look tbl s = some b) (hx : xok x x' = true) (hg : GOk w ok loc a g) (ex : x'.ev g = some (.one (.ifc s v))) : Yld P w ok loc a o (.tup [.one (if b then .ifc s v else .k .nilIface), .one (.bool b)]) := by
 have hv : Rep w ok (.ifc s v) (a.eval x) := xok_rs hx hg ex
 unfold tasT at hT
 simp only [Bool.and_eq_true] at hT
 obtain ⟨h1, h2⟩ := hT
 split at h1
 ·rename_i want hu
  have h3 := List.all_eq_true.1 h1 (s, b) (look_mem _ _ _ hb)
  simp only [beq_iff_eq] at h3
  have h2' : (P.info? T).map (·.zero) = some (some .nilIface) := by
   split at h2
   ·rename_i i hi
    split at h2
    ·rename_i hz0; rw [hi, Option.map_some, hz0]
    ·cases h2
   ·cases h2
  by_cases htr : True
  ·have hz0 := h2'
   generalize hz : a.eval x = z at hv
   have hv0 := hv
   cases hv with
   | ifc hv =>
    rename_i u
    cases b with
    | true =>
     refine ⟨.tuple #[.iface s u, .bool true], ?_, _, rfl, rfl, fun j q c a1 a2 => ?_⟩
     ·unfold execOp
      rw [ho]
      simp only [hz, Sem.run_bind, run_typeAssert_hasB hu h3, Result.andThen_ok, Sem.run_pure]
     ·match j, a1, a2 with
      | 0, a1, a2 => cases a1; cases a2; exact hv0.rv (loc := loc)
      | 1, a1, a2 => cases a1; cases a2; exact Rep.rv (loc := loc) .bool
    | false =>
     refine ⟨.tuple #[.nilIface, .bool false], ?_, _, rfl, rfl, fun j q c a1 a2 => ?_⟩
     ·unfold execOp
      rw [ho]
      simp only [hz, Sem.run_bind, run_typeAssert_lacksB hu h3 hz0, Result.andThen_ok, Sem.run_pure]
     ·match j, a1, a2 with
      | 0, a1, a2 => cases a1; cases a2; exact Rep.rv (loc := loc) (.k rfl)
      | 1, a1, a2 => cases a1; cases a2; exact Rep.rv (loc := loc) .bool
  ·exact absurd trivial htr
 ·cases h1
theorem run_method {t : TypeId} {name : String} {f : FuncId} (h : methodT P t name f = true) (k : Nat) (v : Value) (w : World) : (Go.method (k + 1) t v name).run P w = .ok (f, v) w := by
 unfold methodT at h
 simp only [Bool.and_eq_true] at h
 obtain ⟨h1, h2⟩ := h
 split at h2
 ·rename_i el hu
  split at h1
  ·rename_i i hi
   split at h1
   ·rename_i m hm
    simp only [Bool.and_eq_true] at h1
    obtain ⟨hp, h1⟩ := h1
    split at h1
    ·rename_i g hg
     simp only [beq_iff_eq] at h1
     subst h1
     have hpl : m.path.toList = [] := by simpa using hp
     simp [Go.method, typeInfo, hi, hm, hpl, follow, hg, receiverAt, run_underlying hu, Place.get]
    ·cases h1
   ·cases h1
  ·cases h1
 ·cases h2
end
end Go.Proofs.YtdflglehippoiaaGreatDoorR
namespace Go.Proofs.YtdflglehippoiaaGreatDoorR
open Go Go.RowKit

section
variable {P : Program} {n : Nat} {Γ : Ent} {w0 : World} {ok0 : Nat → Prop} {loc : Locs} {st : St} {a : Act} {w : World} {o : Oper}

theorem fresh1 {st : St} {k : Nat} {B : Blk} (h : fresh st [(k, B)] = true) : (look st.hp k).isSome = false := fresh_spec h k (by rw [look_one, if_pos rfl]; rfl)

theorem aloB_some {d : Nat} : ∀ {ps : List (Nat × Nat × Nat)} {k s : Nat} {B : Blk}, look (aloB d k ps) s = some B → (64 * d + k ≤ s ∧ s < 64 * d + k + ps.length) ∧ ∃ el e, B = .rows el e []
 | [], k, s, B, h => by cases h
 | (off, el, e) :: r, k, s, B, h => by
  simp only [aloB, look] at h
  split at h
  ·cases h
   exact ⟨by simp only [List.length_cons]; omega, el, e, rfl⟩
  ·obtain ⟨h1, h2⟩ := aloB_some h
   exact ⟨by simp only [List.length_cons]; omega, h2⟩
theorem aloB_is {d : Nat} : ∀ {ps : List (Nat × Nat × Nat)} {k s : Nat}, 64 * d + k ≤ s ∧ s < 64 * d + k + ps.length → (look (aloB d k ps) s).isSome = true
 | [], k, s, h => by simp only [List.length_nil] at h; omega
 | (off, el, e) :: r, k, s, h => by
  simp only [aloB, look]
  split
  ·rfl
  ·simp only [List.length_cons] at h
   exact aloB_is (by omega)
theorem aloV_rvs {ok : Nat → Prop} {d : Nat} {cs : List Value} : ∀ {ps : List (Nat × Nat × Nat)} {k : Nat} {zo zv : List V}, aloOk zo ps = true → (∀ q, k ≤ q → q < k + ps.length → loc (64 * d + q) = some .virt) → (∀ j : Nat, zo[j]? = some (V.row []) → cs[j]? = some (Value.slice none 0 0)) → RVs w ok loc zv cs → RVs w ok loc (aloV d k zv ps) cs
 | [], k, zo, zv, _, _, _, h => h
 | (off, el, e) :: r, k, zo, zv, hok, hl, hz, h => by
  simp only [aloOk] at hok
  split at hok
  ·rename_i hoff
   have hc := hz off hoff
   simp only [aloV]
   refine aloV_rvs hok (fun q h1 h2 => hl q (by omega) (by simp only [List.length_cons]; omega)) (fun j hj => ?_) ⟨by rw [List.length_set]; exact h.1, fun j v c h1 h2 => ?_⟩
   ·rw [List.getElem?_set] at hj
    split at hj
    ·split at hj <;> cases hj
    ·exact hz j hj
   ·rw [List.getElem?_set] at h1
    split at h1
    ·rename_i e1
     subst e1
     split at h1
     ·cases h1
      rw [hc] at h2
      cases h2
      exact .inr ⟨hl k (Nat.le_refl k) (by simp only [List.length_cons]; omega), rfl, rfl, rfl⟩
     ·cases h1
    ·exact h.2 j v c h1 h2
  ·cases hok
theorem voks_nil : ∀ {cs : List Value} {zs : List V}, voks cs zs = true → ∀ j : Nat, zs[j]? = some (V.row []) → cs[j]? = some (Value.slice none 0 0)
 | [], [], _, j, h => by simp at h
 | c :: r, v :: q, hv, j, h => by
  simp only [voks, Bool.and_eq_true] at hv
  cases j with
  | zero =>
   simp at h
   subst h
   have h1 := hv.1
   unfold vok at h1
   split at h1 <;> first | rfl | (rename_i e; cases e) | cases h1
  | succ j => simpa using voks_nil hv.2 j (by simpa using h)
 | [], _ :: _, hv, _, _ => by cases hv
 | _ :: _, [], hv, _, _ => by cases hv
theorem ev_ok {E : Nat → Model} {i : I} (hE : ∀ f, Sound P f (E f)) (I : Inv n Γ w0 ok0 loc st a w) (hc : chk P o.op i = true) (hns : i.stk = none) {g : Nat → Option S} {h : Nat → Option Blk} (hg : ∀ t s, g t = some s → look st.sl t = some s) (hh : ∀ s B, h s = some B → look st.hp s = some B)
  {d : Nat} {v : S} {news : Hp} (he : ev E d g h i = some (v, news)) (hf : fresh st news = true) (hd : ∀ t, o.dst = some t → t < n) {next : Act → World → Prop} {Q : Exit → Act → World → Prop}
  (hn : ∀ x w' loc', Inv n Γ w0 ok0 loc' { sl := (st.put o.dst v).sl, hp := news ++ st.hp } (a.put o.dst x) w' → next (a.put o.dst x) w') : o.wp P a w next Q := by
 have hG := I.gok hg
 have hH := I.hok hh
 cases i with
 | mov y =>
  simp only [ev, Option.map_eq_some_iff] at he
  obtain ⟨s, hs, he⟩ := he
  cases he
  simp only [chk] at hc
  split at hc
  ·exact yld_wp I hd (y_mov (.inl ‹_›) hc hG hs) hn
  ·exact yld_wp I hd (y_mov (.inr ‹_›) hc hG hs) hn
  ·cases hc
 | nilsl el e k =>
  simp only [ev] at he
  split at he
  case isFalse => cases he
  cases he
  have hrun : (execOp a.eval o).run P w = .ok (.value (.slice none 0 0)) w := by
   simp only [chk] at hc
   unfold execOp
   split at hc
   ·rename_i q; rw [q]; rfl
   ·rename_i q; rw [q]; rfl
   ·cases hc
  unfold Oper.wp
  rw [hrun, Oper.upon_value]
  exact hn _ _ _ (I.newnil (64 * d + k) (fresh1 hf) el e o.dst hd)
 | pick c x y =>
  simp only [ev] at he
  split at he
  ·rename_i t ht
   split at he
   ·rename_i s1 s2 h1 h2
    cases he
    simp only [chk] at hc
    split at hc
    ·simp only [Bool.and_eq_true] at hc
     exact yld_wp I hd (y_pick ‹_› hc.1.1 hc.1.2 hc.2 hG ht h1 h2) hn
    ·cases hc
   ·cases he
  ·cases he
 | bin op x y =>
  simp only [ev] at he
  split at he
  ·rename_i p q h1 h2
   rw [Option.map_eq_some_iff] at he
   obtain ⟨v', hb, he⟩ := he
   cases he
   simp only [chk] at hc
   split at hc
   ·simp only [Bool.and_eq_true, decide_eq_true_eq] at hc
    obtain ⟨⟨rfl, h3⟩, h4⟩ := hc
    exact yld_wp I hd (y_bin ‹_› h3 h4 hG h1 h2 hb) hn
   ·cases hc
  ·cases he
 | eqb neg x y =>
  simp only [ev] at he
  split at he
  ·rename_i p q h1 h2
   cases he
   simp only [chk] at hc
   split at hc
   ·simp only [Bool.and_eq_true, decide_eq_true_eq] at hc
    obtain ⟨⟨⟨h3, h4⟩, h5⟩, h6⟩ := hc
    split at h4
    ·exact yld_wp I hd (y_eqb neg ‹_› h3 ‹_› h5 h6 hG h1 h2) hn
    ·cases h4
   ·cases hc
  ·cases he
 | eqs neg ks x y =>
  simp only [ev] at he
  split at he
  ·rename_i p q h1 h2
   rw [Option.map_eq_some_iff] at he
   obtain ⟨v', hb, he⟩ := he
   cases he
   simp only [chk] at hc
   split at hc
   ·simp only [Bool.and_eq_true, decide_eq_true_eq] at hc
    obtain ⟨⟨⟨h3, h4⟩, h5⟩, h6⟩ := hc
    exact yld_wp I hd (y_eqs neg ‹_› h3 h4 h5 h6 hG h1 h2 hb) hn
   ·cases hc
  ·cases he
 | isnil neg x =>
  simp only [chk] at hc
  split at hc
  ·simp only [Bool.and_eq_true, decide_eq_true_eq] at hc
   obtain ⟨⟨h1, h2⟩, h3⟩ := hc
   split at h2
   ·rename_i el ht
    simp only [ev] at he
    split at he
    ·rename_i y ys hx
     cases he
     have hr : Rep w (okI w0 ok0 w loc) (.row (y :: ys)) _ := xok_rs h3 hG hx
     generalize hz : a.eval _ = z at hr
     cases hr with
     | row u hn0 hne hc ha he hr hp =>
      have := y_isnil (w := w) (ok := okI w0 ok0 w loc) (loc := loc) neg ‹_› h1 ht hz
      simp only [Option.isNone_some, Bool.not_false] at this
      cases neg <;> exact yld_wp I hd this hn
    ·rename_i A n' c hx
     cases he
     have hr : Rep w (okI w0 ok0 w loc) (.k _) _ := xok_rs h3 hG hx
     generalize hz : a.eval _ = z at hr
     cases hr with
     | k h =>
      have := y_isnil (w := w) (ok := okI w0 ok0 w loc) (loc := loc) neg ‹_› h1 ht hz
      simp only [Option.isNone_some, Bool.not_false] at this
      cases neg <;> exact yld_wp I hd this hn
    ·rename_i n' c hx
     cases he
     have hr : Rep w (okI w0 ok0 w loc) (.k _) _ := xok_rs h3 hG hx
     generalize hz : a.eval _ = z at hr
     cases hr with
     | k h =>
      have := y_isnil (w := w) (ok := okI w0 ok0 w loc) (loc := loc) neg ‹_› h1 ht hz
      simp only [Option.isNone_none, Bool.not_true] at this
      cases neg <;> exact yld_wp I hd this hn
    ·cases he
   ·cases h2
  ·cases hc
 | un op x =>
  simp only [ev] at he
  simp only [chk] at hc
  split at hc
  ·simp only [Bool.and_eq_true, decide_eq_true_eq] at hc
   obtain ⟨rfl, h3⟩ := hc
   split at he
   ·rename_i b hb
    split at he
    ·cases he; exact yld_wp I hd (y_not ‹_› h3 hG hb) hn
    ·cases he
   ·rename_i k m hm
    split at he
    ·cases he; exact yld_wp I hd (y_neg ‹_› h3 hG hm) hn
    ·cases he; exact yld_wp I hd (y_xor ‹_› h3 hG hm) hn
    ·cases he
   ·cases he
  ·cases hc
 | conv k x =>
  simp only [ev] at he
  split at he
  ·rename_i k' m hm
   cases he
   simp only [chk] at hc
   split at hc
   ·simp only [Bool.and_eq_true] at hc
    obtain ⟨⟨h3, h4⟩, h5⟩ := hc
    split at h4
    ·have h4 := of_decide_eq_true h4
     subst h4
     exact yld_wp I hd (y_conv ‹_› h3 ‹_› h5 hG hm) hn
    ·cases h4
   ·cases hc
  ·cases he
 | alloc zs =>
  simp only [ev] at he
  cases he
  simp only [chk] at hc
  split at hc
  ·rename_i el hop
   obtain ⟨i, z, i1, i2, i3⟩ := zeroT_spec hc
   have hrun : (execOp a.eval o).run P w = .ok (.value (.pointer (some ⟨w.heap.size, 0, none⟩))) (w.alloc (.cells z.cells el)) := by
    unfold execOp
    rw [hop]
    simp [Instr.alloc, zeroValue, typeInfo, i1, i2, newVar, newRow]
   unfold Oper.wp
   rw [hrun, Oper.upon_value]
   exact hn _ _ _ (I.newbox (64 * d) (fresh1 hf) zs z.cells el (voks_rvs i3) o.dst hd)
  ·cases hc
 | box x =>
  simp only [ev] at he
  split at he
  ·rename_i vs hvs
   cases he
   rw [Option.bind_eq_some_iff] at hvs
   obtain ⟨s, hs1, hs2⟩ := hvs
   simp only [chk] at hc
   split at hc
   ·rename_i el x0 hop
    obtain ⟨r1, r2⟩ := cells_rvs (xok_rs hc hG hs1) hs2
    have hrun : (execOp a.eval o).run P w = .ok (.value (.pointer (some ⟨w.heap.size, 0, none⟩))) (w.alloc (.cells (a.eval x0).cells el)) := by
     unfold execOp
     rw [hop]
     simp [Instr.box, newVar, newRow]
    unfold Oper.wp
    rw [hrun, Oper.upon_value]
    exact hn _ _ _ (I.newbox (64 * d) (fresh1 hf) vs _ el r1 o.dst hd)
   ·cases hc
  ·cases he
 | build zs qs =>
  simp only [ev, Option.map_eq_some_iff] at he
  obtain ⟨ws, hw, he⟩ := he
  cases he
  simp only [chk] at hc
  split at hc
  ·exact yld_wp I hd (y_build ‹_› hc hG hw) hn
  ·cases hc
 | bsl el e m zs qs =>
  simp only [ev] at he
  split at he
  ·rename_i xs hxs
   cases he
   simp only [chk] at hc
   split at hc
   ·rename_i t k ps hop
    simp only [Bool.and_eq_true, beq_iff_eq, decide_eq_true_eq] at hc
    obtain ⟨⟨⟨⟨⟨⟨⟨rfl, h1⟩, h2⟩, h3⟩, h4⟩, h5⟩, hk⟩, h6⟩ := hc
    obtain ⟨i, z, i1, i2, i3⟩ := zeroT_spec h3
    have ht := sliceT_spec h1
    have hz : Els w (okI w0 ok0 w loc) e (List.replicate k zs) (((Array.range (k * e)).map fun q => z.cells[q % z.cells.size]!).toList) := els_zero i3 h4
    obtain ⟨B, hB, hr⟩ := fill_els hG ps.toList qs _ _ xs h6 hz hxs
    have hlen : ∀ (qs : List (Nat × X)) (xs ys : List (List V)), fillR g e xs qs = some ys → ys.length = xs.length := by
     intro qs
     induction qs with
     | nil => intro xs ys h; cases h; rfl
     | cons q r ih =>
      intro xs ys h
      obtain ⟨q1, q2⟩ := q
      simp only [fillR] at h
      split at h
      ·split at h
       ·rw [ih _ _ h, List.length_set]
       ·cases h
      ·cases h
    have hxl : xs.length = k := by rw [hlen qs _ _ hxs]; simp
    have hrun : (execOp a.eval o).run P w = .ok (.value (.slice (some ⟨w.heap.size, 0, none⟩) k k)) (w.alloc (.cells B el)) := by
     have h5' : ¬ (k * e > 2 ^ 24) := by omega
     by_cases h0 : k * e = 0
     ·have hsame : ((Array.range (k * e)).map fun q => (#[] : Array Value)[q % (#[] : Array Value).size]!) = ((Array.range (k * e)).map fun q => z.cells[q % z.cells.size]!) := by rw [h0, show Array.range 0 = #[] from rfl, Array.map_empty, Array.map_empty]
      unfold execOp
      rw [hop]
      simp only [Instr.buildSlice, Sem.run_bind, run_underlying ht, Result.andThen_ok, run_sizeOf h2, if_neg h5', if_pos h0, Sem.run_pure, hsame, Array.toList_map, hB, newRow, run_newObj]
      rfl
     ·unfold execOp
      rw [hop]
      have hzero : (zeroValue el).run P w = .ok z w := by simp [zeroValue, typeInfo, i1, i2]
      simp only [Instr.buildSlice, Sem.run_bind, run_underlying ht, Result.andThen_ok, run_sizeOf h2, if_neg h5', if_neg h0, hzero, Sem.run_pure, Array.toList_map, hB, newRow, run_newObj]
      rfl
    unfold Oper.wp
    rw [hrun, Oper.upon_value]
    have hnew := I.newrows (64 * d) (fresh1 hf) el e xs B hr (by rw [hxl]; unfold maxLen; omega) o.dst hd
    rw [hxl] at hnew
    exact hn _ _ _ hnew
   ·cases hc
  ·cases he
 | load ag m x =>
  simp only [ev] at he
  split at he
  ·rename_i p hp
   split at he
   ·rename_i ws hw
    rw [Option.map_eq_some_iff] at he
    obtain ⟨s, hs, he⟩ := he
    cases he
    simp only [chk] at hc
    split at hc
    ·simp only [Bool.and_eq_true] at hc
     obtain ⟨h1, h2⟩ := agT_spec hc.1
     exact yld_wp I hd (y_load ‹_› h1 h2 hc.2 hG hH hp hw hs) hn
    ·cases hc
   ·cases he
  ·cases he
 | ldb ag m x =>
  simp only [ev] at he
  split at he
  ·rename_i p hp
   split at he
   ·rename_i ws hw
    rw [Option.map_eq_some_iff] at he
    obtain ⟨s, hs, he⟩ := he
    cases he
    simp only [chk] at hc
    split at hc
    ·simp only [Bool.and_eq_true] at hc
     obtain ⟨h1, h2⟩ := agT_spec hc.1
     exact yld_wp I hd (y_load ‹_› h1 h2 hc.2 hG hH hp (rdb_rd hw) hs) hn
    ·cases hc
   ·cases he
  ·cases he
 | nck x =>
  simp only [ev] at he
  simp only [chk] at hc
  split at hc
  ·split at he
   ·cases he; exact yld_wp I hd (y_nck ‹_› hc hG ‹_› rfl) hn
   ·cases he; exact yld_wp I hd (y_nck ‹_› hc hG ‹_› rfl) hn
   ·cases he; exact yld_wp I hd (y_nck ‹_› hc hG ‹_› rfl) hn
   ·cases he
  ·cases hc
 | mks el e by_ zs l c =>
  simp only [ev] at he
  split at he
  ·rename_i l' c' hl hcp
   split at he
   ·rename_i hb
    obtain ⟨hb1, hb2, hb3⟩ := hb
    subst hb2
    cases he
    simp only [chk] at hc
    split at hc
    ·rename_i t l0 c0 hop
     simp only [Bool.and_eq_true] at hc
     obtain ⟨⟨⟨h1, h2⟩, h3⟩, h4⟩ := hc
     have ht := sliceT_spec h1
     obtain ⟨k, hk⟩ := asI_spec (a := a) h3 hG hl
     obtain ⟨k', hk'⟩ := asI_spec (a := a) h4 hG hcp
     obtain ⟨z, z1, z2, z3⟩ := run_makeSlice (P := P) (w := w) (k := k) (k' := k') ht h2 hb1 hb3
     have hrun : (execOp a.eval o).run P w = .ok (.value (.slice (some ⟨w.heap.size, 0, none⟩) l'.toNat l'.toNat)) (w.alloc (.cells ((Array.range (l'.toNat * e)).map fun i => z.cells[i % z.cells.size]!) el)) := by
      unfold execOp
      rw [hop]
      simp only [hk, hk', Sem.run_bind, z3, Result.andThen_ok, Sem.run_pure]
     unfold Oper.wp
     rw [hrun, Oper.upon_value]
     have hlm : l'.toNat ≤ 140737488355328 := by
      unfold mksT at h2
      simp only [Bool.and_eq_true, decide_eq_true_eq] at h2
      have h1 : l' * 1 ≤ l' * by_ := Int.mul_le_mul_of_nonneg_left (by omega) hb1
      omega
     have hnew := I.newrows (64 * d) (fresh1 hf) el e (List.replicate l'.toNat zs) _ (els_zero z1 z2) (by simp; unfold maxLen; omega) o.dst hd
     rw [List.length_replicate] at hnew
     exact hn _ _ _ hnew
    ·cases hc
   ·cases he
  ·cases he
 | stop =>
  simp only [ev] at he
  cases he
 | kow el e x =>
  simp only [ev] at he
  have hop : ∃ x0, (o.op = .move x0 ∨ o.op = .assign x0) ∧ xok x0 x = true := by
   simp only [chk] at hc
   split at hc
   ·exact ⟨_, .inl ‹_›, hc⟩
   ·exact ⟨_, .inr ‹_›, hc⟩
   ·cases hc
  obtain ⟨x0, hop, hx⟩ := hop
  split at he
  ·rename_i ex
   cases he
   have hz := knil hx hG ex
   have hrun : (execOp a.eval o).run P w = .ok (.value (.slice none 0 0)) w := by
    unfold execOp
    rcases hop with q | q
    ·rw [q]; simp [hz]
    ·rw [q]; simp [hz]
   unfold Oper.wp
   rw [hrun, Oper.upon_value]
   exact hn _ _ _ (I.newnil (64 * d) (fresh1 hf) el e o.dst hd)
  ·rename_i s hs _
   cases he
   exact yld_wp I hd (y_mov hop hx hG ‹_›) hn
  ·cases he
 | kln x =>
  simp only [ev] at he
  split at he
  ·rename_i ex
   cases he
   simp only [chk] at hc
   split at hc
   ·rename_i c hop
    split at hc
    ·rename_i x0 t q1 q2 q3
     simp only [Bool.and_eq_true] at hc
     have hce : c = { callee := .builtin .len, args := #[x0], argTypes := #[t] } := by
      obtain ⟨c1, c2, c3⟩ := c
      simp only at q1 q2 q3
      subst q1
      congr 1
      ·exact Array.toList_inj.1 (by simpa using q2)
      ·exact Array.toList_inj.1 (by simpa using q3)
     subst hce
     split at hc
     ·rename_i el ht
      exact yld_wp I hd (y_kln hop (.inl rfl) ht hc.2 hG ex) hn
     ·cases hc.1
    ·rename_i x0 t q1 q2 q3
     simp only [Bool.and_eq_true] at hc
     have hce : c = { callee := .builtin .cap, args := #[x0], argTypes := #[t] } := by
      obtain ⟨c1, c2, c3⟩ := c
      simp only at q1 q2 q3
      subst q1
      congr 1
      ·exact Array.toList_inj.1 (by simpa using q2)
      ·exact Array.toList_inj.1 (by simpa using q3)
     subst hce
     split at hc
     ·rename_i el ht
      exact yld_wp I hd (y_kln hop (.inr rfl) ht hc.2 hG ex) hn
     ·cases hc.1
    ·cases hc
   ·cases hc
  ·cases he
 | kct x hi =>
  simp only [ev] at he
  split at he
  ·rename_i u ex eh
   split at he
   ·rename_i hu
    subst hu
    cases he
    simp only [chk] at hc
    split at hc
    ·rename_i t x0 hi0 hop
     simp only [Bool.and_eq_true] at hc
     obtain ⟨el, ht, hs⟩ := slT_spec hc.1.1
     exact yld_wp I hd (y_kct hop ht hs hc.1.2 hc.2 hG ex eh) hn
    ·cases hc
   ·cases he
  ·cases he
 | apz el e by_ zs x m =>
  simp only [ev] at he
  split at he
  ·rename_i l ex em
   split at he
   ·rename_i hb
    cases he
    simp only [chk] at hc
    split at hc
    ·rename_i c hop
     split at hc
     ·rename_i x0 m0 t t' q1 q2 q3
      simp only [Bool.and_eq_true, decide_eq_true_eq] at hc
      obtain ⟨⟨⟨⟨⟨h1, h2⟩, h3⟩, h4⟩, h5⟩, h6⟩ := hc
      have hce : c = { callee := .builtin .append, args := #[x0, m0], argTypes := #[t, t'] } := by
       obtain ⟨c1, c2, c3⟩ := c
       simp only at q1 q2 q3
       subst q1
       congr 1
       ·exact Array.toList_inj.1 (by simpa using q2)
       ·exact Array.toList_inj.1 (by simpa using q3)
      subst hce
      split at h1
      ·rename_i kn ht'
       have ht := sliceT_spec h2
       have hz := knil h5 hG ex
       obtain ⟨k, hk⟩ := asI_spec (a := a) h6 hG em
       obtain ⟨z, z1, z2, cap, c1, c2, c3⟩ := run_appz (P := P) (w := w) (k := k) o.type ht ht' h3 h4 hb.1 hb.2
       refine Lib.wp_append_run w x0 m0 t t' hop _ _ hz hk _ _ c3 ?_
       have hcz : z.cells.size = e := by
        have := (voks_rvs (w := w) (ok := okI w0 ok0 w loc) (loc := loc) z1).1
        simp at this
        omega
       have hels := els_zero (w := w) (ok := okI w0 ok0 w loc) (n := l.toNat) z1 z2
       have hcell : ∀ i j x p, (List.replicate l.toNat zs)[i]? = some x → x[j]? = some p → ∃ u, ((Builtin.zeroCells z.cells l.toNat ++ Builtin.zeroCells z.cells (cap - l.toNat)) : Array Value)[i * e + j]? = some u ∧ Rep w (okI w0 ok0 w loc) p u := by
        intro i j x p g1 g2
        obtain ⟨u, hu, hr⟩ := hels.2.2.1 i j x p g1 g2
        refine ⟨u, ?_, hr⟩
        rw [← hcz] at hu
        have hlt : i * e + j < (Builtin.zeroCells z.cells l.toNat).size := by
         have := (List.getElem?_eq_some_iff.1 hu).1
         simp only [Array.length_toList, Array.size_map, Array.size_range] at this
         rw [size_zeroCells]
         rw [hcz] at this ⊢
         exact this
        rw [Array.getElem?_append_left hlt, ← Array.getElem?_toList]
        rw [hcz] at hu
        unfold Builtin.zeroCells
        rw [hcz]
        exact hu
       have hnew := I.newroom (64 * d) (fresh1 hf) el e (List.replicate l.toNat zs) _ cap (w' := w.drew.alloc (.cells (Builtin.zeroCells z.cells l.toNat ++ Builtin.zeroCells z.cells (cap - l.toNat)) el)) ((Below.refl _ w).drew.alloc (Nat.le_refl _) _) (heap_alloc_new w.drew _) (by simp) hels.1 (by rw [Array.size_append, size_zeroCells, size_zeroCells, hcz, ← Nat.add_mul]; congr 1; omega) hcell (by simpa using c1) c2 o.dst hd
       rw [List.length_replicate] at hnew
       exact hn _ _ _ hnew
      ·cases h1
     ·cases hc
    ·cases hc
   ·cases he
  ·cases he
 | cu0 e x hi =>
  simp only [ev] at he
  split at he
  ·rename_i s off len u ex eh
   split at he
   ·rename_i hb
    cases he
    simp only [chk] at hc
    split at hc
    ·rename_i t x0 hi0 hop
     simp only [Bool.and_eq_true] at hc
     obtain ⟨el, ht, hs⟩ := slT_spec hc.1.1
     exact yld_wp I hd (y_cu0 hop ht hs hc.1.2 hc.2 hG ex eh hb.1 hb.2) hn
    ·cases hc
   ·cases he
  ·cases he
 | cut e x lo hi =>
  simp only [ev] at he
  simp only [chk] at hc
  split at hc
  ·simp only [Bool.and_eq_true] at hc
   obtain ⟨⟨⟨h1, h2⟩, h3⟩, h4⟩ := hc
   obtain ⟨el, ht, hs⟩ := slT_spec h1
   split at he
   ·rename_i xs hx
    split at he
    ·rename_i l u hl hu
     split at he
     ·rename_i hb
      by_cases hlu : l = u
      ·rw [if_pos hlu] at he
       cases he
       have := y_cut_row (P := P) (w := w) (o := o) ‹_› ht hs h2 h3 h4 hG hx hl hu hb.1 hb.2.1 hb.2.2 (fun h => absurd hlu h)
       rw [if_pos hlu] at this
       exact yld_wp I hd this hn
      ·rw [if_neg hlu] at he
       split at he
       ·rename_i hall
        cases he
        have := y_cut_row (P := P) (w := w) (o := o) ‹_› ht hs h2 h3 h4 hG hx hl hu hb.1 hb.2.1 hb.2.2 (fun _ => hall)
        rw [if_neg hlu] at this
        exact yld_wp I hd this hn
       ·cases he
     ·cases he
    ·cases he
   ·rename_i s off len hx
    split at he
    ·rename_i el2 e0 xs hq
     split at he
     ·rename_i l u hl hu
      split at he
      ·rename_i hb
       by_cases hlu : l = u
       ·rw [if_pos hlu] at he
        cases he
        have := y_cut_sl (P := P) (w := w) (o := o) ‹_› ht hs h2 h3 h4 hG hH hx hq hl hu hb.1 hb.2.1 hb.2.2 (fun h => absurd hlu h)
        rw [if_pos hlu] at this
        exact yld_wp I hd this hn
       ·rw [if_neg hlu] at he
        split at he
        ·rename_i hee
         cases he
         have := y_cut_sl (P := P) (w := w) (o := o) ‹_› ht hs h2 h3 h4 hG hH hx hq hl hu hb.1 hb.2.1 hb.2.2 (fun _ => hee)
         rw [if_neg hlu] at this
         exact yld_wp I hd this hn
        ·cases he
      ·cases he
     ·cases he
    ·cases he
   ·cases he
  ·cases hc
 | fad off x =>
  simp only [ev] at he
  simp only [chk] at hc
  split at hc
  ·simp only [Bool.and_eq_true] at hc
   obtain ⟨fs, fd, f1, f2, f3⟩ := fdT_spec hc.1
   simp only [Bool.and_eq_true, beq_iff_eq] at f3
   obtain ⟨m, hm⟩ := posT_spec f3.2
   split at he
   ·cases he; exact yld_wp I hd (y_fad ‹_› f1 f2 f3.1 hm hc.2 hG ‹_› rfl) hn
   ·cases he; exact yld_wp I hd (y_fad ‹_› f1 f2 f3.1 hm hc.2 hG ‹_› rfl) hn
   ·cases he
  ·cases hc
 | fld ag off m x =>
  simp only [ev] at he
  simp only [chk] at hc
  split at hc
  ·simp only [Bool.and_eq_true] at hc
   obtain ⟨fs, fd, f1, f2, f3⟩ := fdT_spec hc.1
   simp only [Bool.and_eq_true, beq_iff_eq] at f3
   obtain ⟨h1, h2⟩ := agT_spec f3.2
   split at he
   ·rename_i vs hx
    split at he
    ·rename_i ws hw
     rw [Option.map_eq_some_iff] at he
     obtain ⟨s, hs, he⟩ := he
     cases he
     exact yld_wp I hd (y_fld ‹_› f1 f2 f3.1 h1 h2 hc.2 hG hx hw hs) hn
    ·cases he
   ·cases he
  ·cases hc
 | iad e x i =>
  simp only [ev] at he
  simp only [chk] at hc
  split at hc
  ·simp only [Bool.and_eq_true] at hc
   obtain ⟨el, ht, hs⟩ := slT_spec hc.1.1
   split at he
   ·rename_i xs m hx hi
    split at he
    ·rename_i hb
     split at he
     ·rename_i y hy
      split at he
      ·rename_i hl
       cases he
       exact yld_wp I hd (y_iad_row ‹_› ht hs hc.1.2 hc.2 hG hx hi hb.1 hb.2 hy hl) hn
      ·cases he
     ·cases he
    ·cases he
   ·rename_i s off len m hx hi
    split at he
    ·rename_i el2 e0 xs hq
     split at he
     ·rename_i hb
      cases he
      obtain ⟨rfl, hb1, hb2⟩ := hb
      exact yld_wp I hd (y_iad_sl ‹_› ht hs hc.1.2 hc.2 hG hH hx hi hq hb1 hb2) hn
     ·cases he
    ·cases he
   ·cases he
  ·cases hc
 | iada e len x i =>
  simp only [ev] at he
  simp only [chk] at hc
  split at hc
  ·simp only [Bool.and_eq_true] at hc
   obtain ⟨el, ht, hs⟩ := arrT_spec hc.1.1
   split at he
   ·rename_i s c j m hx hi
    split at he
    ·rename_i vs hq
     split at he
     ·rename_i hb
      cases he
      exact yld_wp I hd (y_iada_ref ‹_› ht hs hc.1.2 hc.2 hG hH hx hi hq hb.1 hb.2) hn
     ·cases he
    ·cases he
   ·rename_i cs m hx hi
    split at he
    ·rename_i hb
     cases he
     exact yld_wp I hd (y_iada_ptr ‹_› ht hs hc.1.2 hc.2 hG hx hi hb.1 hb.2) hn
    ·cases he
   ·cases he
  ·cases hc
 | idx ag e len x i =>
  simp only [ev] at he
  simp only [chk] at hc
  split at hc
  ·simp only [Bool.and_eq_true] at hc
   obtain ⟨⟨h1, h2⟩, h3⟩ := hc
   split at h1
   ·rename_i m el ht
    simp only [Bool.and_eq_true, beq_iff_eq] at h1
    obtain ⟨⟨rfl, hs⟩, hag⟩ := h1
    obtain ⟨g1, g2⟩ := agT_spec hag
    split at he
    ·rename_i vs k hx hi
     split at he
     ·rename_i hb
      split at he
      ·rename_i ws hw
       rw [Option.map_eq_some_iff] at he
       obtain ⟨s, hsh, he⟩ := he
       cases he
       exact yld_wp I hd (y_idx ‹_› ht hs g1 g2 h2 h3 hG hx hi hb.1 hb.2 hw hsh) hn
      ·cases he
     ·cases he
    ·cases he
   ·cases h1
  ·cases hc
 | ext x i =>
  simp only [ev] at he
  simp only [chk] at hc
  split at hc
  ·simp only [Bool.and_eq_true, beq_iff_eq] at hc
   obtain ⟨rfl, h1⟩ := hc
   split at he
   ·rename_i xs hx
    rw [Option.map_eq_some_iff] at he
    obtain ⟨s, hs, he⟩ := he
    cases he
    exact yld_wp I hd (y_ext ‹_› h1 hG hx hs) hn
   ·cases he
  ·cases hc
 | call own f as =>
  simp only [ev] at he
  simp only [chk] at hc
  split at hc
  ·rename_i c hop
   split at hc
   ·rename_i f0 hcal
    simp only [Bool.and_eq_true, beq_iff_eq] at hc
    obtain ⟨rfl, h1⟩ := hc
    split at he
    ·rename_i ss hss
     obtain ⟨k1, k2⟩ := evs_rs hG h1 hss
     refine o_call hE I (vs := (c.args.map a.eval)) (fun hfn => ?_) (by simp [k1]) (fun j s u b1 b2 => k2 j s u b1 (by simpa using b2)) hh he hf hd hn
     unfold execOp
     rw [hop]
     simp only [resolve, hcal, Act.eval, Deferred.ofValue, Sem.run_bind, Sem.run_pure, Result.andThen_ok, invoke]
     have := run_callFunc hfn (c.args.map a.eval) w
     simpa using this
    ·cases he
   ·cases hc
  ·cases hc
 | callv own x as =>
  simp only [ev] at he
  simp only [chk] at hc
  split at hc
  ·rename_i c hop
   split at hc
   ·rename_i x0 hcal
    simp only [Bool.and_eq_true] at hc
    split at he
    ·rename_i f cs hx
     split at he
     ·rename_i ss hss
      obtain ⟨k1, k2⟩ := evs_rs hG hc.2 hss
      have hfv : Rep w (okI w0 ok0 w loc) (.fn f cs) (a.eval x0) := xok_rs hc.1 hG hx
      generalize hz : a.eval x0 = z at hfv
      cases hfv with
      | fn u hlen hr hp =>
       rename_i vs
       refine o_call hE I (vs := (c.args.map a.eval) ++ vs) (fun hfn => ?_) (by simp [k1, hlen]) (fun j s x b1 b2 => ?_) hh he hf hd hn
       ·unfold execOp
        rw [hop]
        simp only [resolve, hcal, hz, Deferred.ofValue, Sem.run_bind, Sem.run_pure, Result.andThen_ok, invoke]
        have := run_callFunc hfn (c.args.map a.eval ++ vs) w
        simpa using this
       ·by_cases hj : j < ss.length
        ·rw [List.getElem?_append_left hj] at b1
         rw [Array.toList_append, List.getElem?_append_left (by simp [← k1, hj])] at b2
         exact k2 j s x b1 (by simpa using b2)
        ·rw [List.getElem?_append_right (by omega), List.getElem?_map, Option.map_eq_some_iff] at b1
         obtain ⟨p, b1, rfl⟩ := b1
         rw [Array.toList_append, List.getElem?_append_right (by simp [← k1]; omega)] at b2
         have hlen2 : (c.args.map a.eval).toList.length = ss.length := by simp [k1]
         rw [hlen2] at b2
         have h3 := hr _ _ b1
         have h4 : vs[j - ss.length]? = some x := by simpa using b2
         rw [h4] at h3
         cases h3
         exact (hp _ _ b1).rv
     ·cases he
    ·cases he
   ·cases hc
  ·cases hc
 | len x =>
  simp only [ev] at he
  simp only [chk] at hc
  split at hc
  ·rename_i c hop
   split at hc
   ·rename_i x0 t q1 q2 q3
    simp only [Bool.and_eq_true] at hc
    have hce : c = { callee := .builtin .len, args := #[x0], argTypes := #[t] } := by
     obtain ⟨c1, c2, c3⟩ := c
     simp only at q1 q2 q3
     subst q1
     congr 1
     ·exact Array.toList_inj.1 (by simpa using q2)
     ·exact Array.toList_inj.1 (by simpa using q3)
    subst hce
    split at hc
    ·rename_i el ht
     split at he
     ·cases he; exact yld_wp I hd (y_len (ts := #[]) hop ht hc.2 hG ‹_› rfl) hn
     ·cases he; exact yld_wp I hd (y_len (ts := #[]) hop ht hc.2 hG ‹_› rfl) hn
     ·cases he
    ·cases hc.1
   ·cases hc
  ·cases hc
 | mx x y =>
  simp only [ev] at he
  simp only [chk] at hc
  split at hc
  ·rename_i c hop
   split at hc
   ·rename_i x0 y0 q1 q2
    simp only [Bool.and_eq_true] at hc
    have hce : c = { callee := .builtin .max, args := #[x0, y0], argTypes := c.argTypes } := by
     obtain ⟨c1, c2, c3⟩ := c
     simp only at q1 q2
     subst q1
     congr 1
     exact Array.toList_inj.1 (by simpa using q2)
    rw [hce] at hop
    split at he
    ·rename_i k m k' m' h1 h2
     split at he
     ·rename_i hk
      subst hk
      cases he
      exact yld_wp I hd (y_mx hop hc.1 hc.2 hG h1 h2) hn
     ·cases he
    ·cases he
   ·cases hc
  ·cases hc
 | mx3 x y z =>
  simp only [ev] at he
  simp only [chk] at hc
  split at hc
  ·rename_i c hop
   split at hc
   ·rename_i x0 y0 z0 q1 q2
    simp only [Bool.and_eq_true] at hc
    have hce : c = { callee := .builtin .max, args := #[x0, y0, z0], argTypes := c.argTypes } := by
     obtain ⟨c1, c2, c3⟩ := c
     simp only at q1 q2
     subst q1
     congr 1
     exact Array.toList_inj.1 (by simpa using q2)
    rw [hce] at hop
    split at he
    ·rename_i k m k' m' k2 m2 h1 h2 h3
     split at he
     ·rename_i hk
      obtain ⟨hk1, hk2⟩ := hk
      subst hk1
      subst hk2
      cases he
      exact yld_wp I hd (y_mx3 hop hc.1.1 hc.1.2 hc.2 hG h1 h2 h3) hn
     ·cases he
    ·cases he
   ·cases hc
  ·cases hc
 | mn x y =>
  simp only [ev] at he
  simp only [chk] at hc
  split at hc
  ·rename_i c hop
   split at hc
   ·rename_i x0 y0 q1 q2
    simp only [Bool.and_eq_true] at hc
    have hce : c = { callee := .builtin .min, args := #[x0, y0], argTypes := c.argTypes } := by
     obtain ⟨c1, c2, c3⟩ := c
     simp only at q1 q2
     subst q1
     congr 1
     exact Array.toList_inj.1 (by simpa using q2)
    rw [hce] at hop
    split at he
    ·rename_i k m k' m' h1 h2
     split at he
     ·rename_i hk
      subst hk
      cases he
      exact yld_wp I hd (y_mn hop hc.1 hc.2 hG h1 h2) hn
     ·cases he
    ·cases he
   ·cases hc
  ·cases hc
 | mkf f cs =>
  simp only [ev] at he
  simp only [chk] at hc
  split at hc
  ·rename_i f0 fi cs0 hop
   simp only [Bool.and_eq_true, beq_iff_eq] at hc
   obtain ⟨⟨rfl, h1⟩, h2⟩ := hc
   have hfi : fi = #[] := Array.toList_inj.1 (by simpa using h1)
   subst hfi
   split at he
   ·rename_i ss hss
    split at he
    ·rename_i vs hvs
     split at he
     ·rename_i hm
      cases he
      exact yld_wp I hd (y_mkf hop h2 hG hss hvs hm) hn
     ·cases he
    ·cases he
   ·cases he
  ·cases hc
 | store key m x y => cases hns
 | app el e by_ x y => cases he
 | clr el e x => cases he
 | apk el e by_ x y => cases he
 | apl el e by_ zs x m => cases he
 | cvb x => cases he
 | mkp t x => cases he
 | mki t x =>
  simp only [ev] at he
  simp only [chk] at hc
  split at hc
  ·rename_i t0 x0 hop
   simp only [Bool.and_eq_true, beq_iff_eq] at hc
   obtain ⟨⟨rfl, h1⟩, h2⟩ := hc
   split at he
   ·rename_i v ex
    split at he
    ·rename_i hm
     cases he
     exact yld_wp I hd (y_mki hop h1 h2 hG ex hm) hn
    ·cases he
   ·cases he
  ·cases hc
 | ifn neg x =>
  simp only [ev] at he
  simp only [chk] at hc
  split at hc
  ·rename_i op t0 x0 u0 hop
   simp only [Bool.and_eq_true, decide_eq_true_eq] at hc
   obtain ⟨⟨h0, h1⟩, h2⟩ := hc
   split at he
   ·rename_i s v ex
    cases he
    exact yld_wp I hd (y_ifn_i neg hop h0 h1 h2 hG ex) hn
   ·rename_i ex
    cases he
    exact yld_wp I hd (y_ifn_n neg hop h0 h1 h2 hG ex) hn
   ·cases he
  ·cases hc
 | ieq tbl x y =>
  simp only [ev] at he
  simp only [chk] at hc
  split at hc
  ·rename_i t0 x0 y0 u0 hop
   simp only [Bool.and_eq_true] at hc
   obtain ⟨⟨⟨h1, h2⟩, h3⟩, h4⟩ := hc
   split at he
   ·rename_i t v t' v' ex ey
    split at he
    ·rename_i e
     subst e
     split at he
     ·split at he
      ·rename_i htb
       cases he
       exact yld_wp I hd (y_ieq_i hop h1 h2 htb h3 h4 hG ex ey) hn
      ·cases he
     ·cases he
    ·rename_i hne
     cases he
     exact yld_wp I hd (y_ieq_t hop h1 h3 h4 hG ex ey hne) hn
   ·cases he
  ·cases hc
 | tas T tbl x =>
  simp only [ev] at he
  simp only [chk] at hc
  split at hc
  ·rename_i x0 t0 T0 hop
   simp only [Bool.and_eq_true, beq_iff_eq] at hc
   obtain ⟨⟨rfl, h1⟩, h2⟩ := hc
   split at he
   ·rename_i t v ex
    split at he
    ·rename_i hb
     cases he
     exact yld_wp I hd (y_tas hop h1 hb h2 hG ex) hn
    ·rename_i hb
     cases he
     exact yld_wp I hd (y_tas hop h1 hb h2 hG ex) hn
    ·cases he
   ·cases he
  ·cases hc
 | inv own tbl x as =>
  simp only [ev] at he
  simp only [chk] at hc
  split at hc
  ·rename_i c hop
   split at hc
   ·rename_i x0 name hcal
    simp only [Bool.and_eq_true] at hc
    obtain ⟨⟨h0, h1⟩, h2⟩ := hc
    split at he
    ·rename_i t v ex
     split at he
     ·rename_i f hf0
      split at he
      ·rename_i ss hss
       obtain ⟨k1, k2⟩ := evs_rs hG h2 hss
       have hm := List.all_eq_true.1 h0 (t, f) (look_mem _ _ _ hf0)
       have hv : Rep w (okI w0 ok0 w loc) (.ifc t v) (a.eval x0) := xok_rs h1 hG ex
       generalize hz : a.eval x0 = z at hv
       cases hv with
       | ifc hv =>
        rename_i u
        refine o_call hE I (vs := #[u] ++ c.args.map a.eval) (fun hfn => ?_) (by simp [k1]) (fun j s x b1 b2 => ?_) hh he hf hd hn
        ·unfold execOp
         rw [hop]
         have hd0 : 0 < Made.depth := by decide
         have hk : ∃ k, P.types.size + Made.depth = k + 1 := ⟨P.types.size + Made.depth - 1, by omega⟩
         obtain ⟨k, hk⟩ := hk
         have h3 := run_callFunc hfn (#[u] ++ c.args.map a.eval) w
         have h4 := run_method hm k u w
         simp only [resolve, hcal, hz, Sem.run_bind, Sem.run_pure, Result.andThen_ok, invoke]
         have h5 : (#[Value.iface t u] ++ c.args.map a.eval)[0]? = some (.iface t u) := by rw [Array.getElem?_append_left (by simp)]; rfl
         have h6 : (#[Value.iface t u] ++ c.args.map a.eval).extract 1 (#[Value.iface t u] ++ c.args.map a.eval).size = c.args.map a.eval := by
          apply Array.toList_inj.1
          simp
          exact List.take_of_length_le (by simp)
         rw [h5]
         simp only [h6]
         simp only [callMethod, Sem.run_bind, run_program, Result.andThen_ok, hk, h4, h3, Sem.run_pure]
         try simpa using h3
        ·cases j with
         | zero => simp at b1 b2; subst b1; subst b2; exact hv.rv
         | succ j => exact k2 j s x (by simpa using b1) (by simpa using b2)
      ·cases he
     ·cases he
    ·cases he
   ·cases hc
  ·cases hc
 | bsr el e m zs qs =>
  simp only [ev] at he
  split at he
  ·rename_i xs hxs
   cases he
   simp only [chk] at hc
   split at hc
   ·rename_i t k ps hop
    simp only [Bool.and_eq_true, beq_iff_eq, decide_eq_true_eq] at hc
    obtain ⟨⟨⟨⟨⟨⟨⟨rfl, h1⟩, h2⟩, h3⟩, h4⟩, h5⟩, hk⟩, h6⟩ := hc
    obtain ⟨i, z, i1, i2, i3⟩ := zeroT_spec h3
    have ht := sliceT_spec h1
    have hz : Els w (okI w0 ok0 w loc) e (List.replicate k zs) (((Array.range (k * e)).map fun q => z.cells[q % z.cells.size]!).toList) := els_zero i3 h4
    obtain ⟨B, hB, hr⟩ := fill_els hG ps.toList qs _ _ xs h6 hz hxs
    have hlen : ∀ (qs : List (Nat × X)) (xs ys : List (List V)), fillR g e xs qs = some ys → ys.length = xs.length := by
     intro qs
     induction qs with
     | nil => intro xs ys h; cases h; rfl
     | cons q r ih =>
      intro xs ys h
      obtain ⟨q1, q2⟩ := q
      simp only [fillR] at h
      split at h
      ·split at h
       ·rw [ih _ _ h, List.length_set]
       ·cases h
      ·cases h
    have hxl : xs.length = k := by rw [hlen qs _ _ hxs]; simp
    have hrun : (execOp a.eval o).run P w = .ok (.value (.slice (some ⟨w.heap.size, 0, none⟩) k k)) (w.alloc (.cells B el)) := by
     have h5' : ¬ (k * e > 2 ^ 24) := by omega
     by_cases h0 : k * e = 0
     ·have hsame : ((Array.range (k * e)).map fun q => (#[] : Array Value)[q % (#[] : Array Value).size]!) = ((Array.range (k * e)).map fun q => z.cells[q % z.cells.size]!) := by rw [h0, show Array.range 0 = #[] from rfl, Array.map_empty, Array.map_empty]
      unfold execOp
      rw [hop]
      simp only [Instr.buildSlice, Sem.run_bind, run_underlying ht, Result.andThen_ok, run_sizeOf h2, if_neg h5', if_pos h0, Sem.run_pure, hsame, Array.toList_map, hB, newRow, run_newObj]
      rfl
     ·unfold execOp
      rw [hop]
      have hzero : (zeroValue el).run P w = .ok z w := by simp [zeroValue, typeInfo, i1, i2]
      simp only [Instr.buildSlice, Sem.run_bind, run_underlying ht, Result.andThen_ok, run_sizeOf h2, if_neg h5', if_neg h0, hzero, Sem.run_pure, Array.toList_map, hB, newRow, run_newObj]
      rfl
    unfold Oper.wp
    rw [hrun, Oper.upon_value]
    have hB' : Below w.heap.size w (w.alloc (.cells B el)) := (Below.refl _ w).alloc (Nat.le_refl _) _
    have hlt : w.heap.size < (w.alloc (.cells B el)).heap.size := by show _ < (w.heap.push _).size; simp
    have hnok : okI w0 ok0 (w.alloc (.cells B el)) loc w.heap.size := ⟨.inr I.below.size, hlt, fun s l h1 h2 => by have := (I.hp.lo s l _ h1 h2).2; omega⟩
    have hokm : ∀ c, okI w0 ok0 w loc c → okI w0 ok0 (w.alloc (.cells B el)) loc c ∧ (w.alloc (.cells B el)).heap[c]? = w.heap[c]? := fun c h => ⟨⟨h.1, by have := h.2.1; omega, h.2.2⟩, hB'.block c h.2.1⟩
    have hrow : Rep (w.alloc (.cells B el)) (okI w0 ok0 (w.alloc (.cells B el)) loc) (.row xs) (.slice (some ⟨w.heap.size, 0, none⟩) k k) := by
     by_cases h0 : k = 0
     ·obtain rfl : xs = [] := List.eq_nil_of_length_eq_zero (by omega)
      subst h0
      exact .row0 _ _
     ·refine .row (fun i j => (B[i * e + j]?).getD Go.undef) hxl (by omega) (Nat.le_refl _) hnok hr.1 (fun i j x p h1 h2 => ?_) (fun i j x p h1 h2 => ?_)
      ·obtain ⟨u, hu, _⟩ := hr.2.2.1 i j x p h1 h2
       rw [Addr.add_lit, Nat.zero_add, cell_of_row _ _ _ B _ (0, 0) (heap_alloc_new w _)]
       have hu' : B[i * e + j]? = some u := by simpa using hu
       rw [hu']
       rfl
      ·obtain ⟨u, hu, hq⟩ := hr.2.2.1 i j x p h1 h2
       have hu' : B[i * e + j]? = some u := by simpa using hu
       rw [hu']
       exact hq.mono hokm
    have hnew := I.ext hB' (fun _ => none) [] (fun s => rfl) (fun s h => by cases h) (fun s l b h => by cases h) (fun s s' l l' b h => by cases h) (fun s l B h => by cases h) o.dst hd (.one (.row xs)) (.slice (some ⟨w.heap.size, 0, none⟩) k k) (by rw [Locs.or_none]; exact hrow)
    rw [Locs.or_none] at hnew
    exact hn _ _ _ hnew
   ·cases hc
  ·cases he
 | mkz el e by_ zs c =>
  simp only [ev] at he
  split at he
  ·rename_i c' hcp
   split at he
   ·rename_i hb
    obtain ⟨hb1, hb3⟩ := hb
    cases he
    simp only [chk] at hc
    split at hc
    ·rename_i t kk c0 hop
     simp only [Bool.and_eq_true] at hc
     obtain ⟨⟨h1, h2⟩, h4⟩ := hc
     have ht := sliceT_spec h1
     obtain ⟨k', hk'⟩ := asI_spec (a := a) h4 hG hcp
     obtain ⟨z, z1, z2, z3⟩ := run_makeSlice0 (P := P) (w := w) (k := kk) (k' := k') ht h2 hb1 hb3
     have hrun : (execOp a.eval o).run P w = .ok (.value (.slice (some ⟨w.heap.size, 0, none⟩) 0 c'.toNat)) (w.alloc (.cells ((Array.range (c'.toNat * e)).map fun i => z.cells[i % z.cells.size]!) el)) := by
      unfold execOp
      rw [hop]
      have hcon : a.eval (.const (.int kk 0)) = .int kk 0 := rfl
      simp only [hcon, hk', Sem.run_bind, z3, Result.andThen_ok, Sem.run_pure]
     unfold Oper.wp
     rw [hrun, Oper.upon_value]
     have hlm : c'.toNat ≤ 140737488355328 := by
      unfold mksT at h2
      simp only [Bool.and_eq_true, decide_eq_true_eq] at h2
      have h1 : c' * 1 ≤ c' * by_ := Int.mul_le_mul_of_nonneg_left (by omega) hb1
      omega
     have hB : Below w.heap.size w (w.alloc (.cells ((Array.range (c'.toNat * e)).map fun i => z.cells[i % z.cells.size]!) el)) := (Below.refl _ w).alloc (Nat.le_refl _) _
     have hnew := I.newroom (64 * d) (fresh1 hf) el e [] _ c'.toNat hB (heap_alloc_new w _) (by show _ < (w.heap.push _).size; simp) (fun x hx => by cases hx) (by simp) (fun i j x p h1 _ => by simp at h1) (by simp) (by unfold maxLen; omega) o.dst hd
     exact hn _ _ _ hnew
    ·cases hc
   ·cases he
  ·cases he
 | apn el e by_ x y =>
  simp only [ev] at he
  simp only [chk] at hc
  split at hc
  ·rename_i c hop
   split at hc
   ·rename_i x0 y0 t t' q1 q2 q3
    simp only [Bool.and_eq_true, beq_iff_eq] at hc
    obtain ⟨⟨⟨⟨rfl, h1⟩, h2⟩, h3⟩, h4⟩ := hc
    have hce : c = { callee := .builtin .append, args := #[x0, y0], argTypes := #[t, t] } := by
     obtain ⟨c1, c2, c3⟩ := c
     simp only at q1 q2 q3
     subst q1
     congr 1
     ·exact Array.toList_inj.1 (by simpa using q2)
     ·exact Array.toList_inj.1 (by simpa using q3)
    subst hce
    split at he
    ·rename_i yv ex ey
     split at he
     ·rename_i ys hpur
      split at he
      ·rename_i hb
       cases he
       have hx0 := knil h3 hG ex
       have hyv : RV w (okI w0 ok0 w loc) loc yv (a.eval y0) := xok_rs h4 hG ey
       obtain ⟨u, w', loc', g1, g2⟩ := append_nil I (sliceT_spec h1) h2 hH hyv hpur hb.1 hb.2 (fresh1 hf) o.type o.dst hd
       have hrun : (execOp a.eval o).run P w = .ok (.value u) w' := by
        unfold execOp
        rw [hop]
        simp [resolve, invoke, builtin, hx0, g1]
       unfold Oper.wp
       rw [hrun, Oper.upon_value]
       exact hn _ _ _ g2
      ·cases he
     ·cases he
    ·cases he
   ·cases hc
  ·cases hc
 | callo f as => cases he
 | bxo x ps =>
  simp only [ev] at he
  split at he
  case h_2 => cases he
  rename_i vs hvs
  split at he
  case isFalse => cases he
  rename_i hok
  simp only [Bool.and_eq_true, decide_eq_true_eq] at hok
  obtain ⟨hok, hps⟩ := hok
  cases he
  rw [Option.bind_eq_some_iff] at hvs
  obtain ⟨s0, hs1, hs2⟩ := hvs
  simp only [chk] at hc
  split at hc
  ·rename_i el x0 hop
   obtain ⟨r1, r2⟩ := cells_rvs (xok_rs hc hG hs1) hs2
   have hrun : (execOp a.eval o).run P w = .ok (.value (.pointer (some ⟨w.heap.size, 0, none⟩))) (w.alloc (.cells (a.eval x0).cells el)) := by
    unfold execOp
    rw [hop]
    simp [Instr.box, newVar, newRow]
   unfold Oper.wp
   rw [hrun, Oper.upon_value]
   obtain ⟨locN, hlocN⟩ : ∃ locN : Locs, ∀ s, locN s = if s = 64 * d then some (.box w.heap.size) else if 64 * d + 1 ≤ s ∧ s < 64 * d + 1 + ps.length then some .virt else none := ⟨_, fun _ => rfl⟩
   have hN0 : (loc.or locN) (64 * d) = some (.box w.heap.size) := by
    show (match locN (64 * d) with | some l => some l | none => loc (64 * d)) = _
    rw [hlocN, if_pos rfl]
   have hNv : ∀ q, 1 ≤ q → q < 1 + ps.length → (loc.or locN) (64 * d + q) = some .virt := by
    intro q h1 h2
    show (match locN (64 * d + q) with | some l => some l | none => loc (64 * d + q)) = _
    rw [hlocN, if_neg (by omega), if_pos (by omega)]
   have hcs : ∀ s l, locN s = some l → (s = 64 * d ∧ l = .box w.heap.size) ∨ ((64 * d + 1 ≤ s ∧ s < 64 * d + 1 + ps.length) ∧ l = .virt) := by
    intro s l h
    rw [hlocN] at h
    split at h
    ·cases h; exact .inl ⟨‹_›, rfl⟩
    ·split at h
     ·cases h; exact .inr ⟨‹_›, rfl⟩
     ·cases h
   refine hn _ _ _ (I.ext (below_new w _) locN _ (fun s => ?_) (fresh_spec hf) (fun s l b h1 h2 => ?_) (fun s s' l l' b h1 h2 h3 h4 => ?_) (fun s l B h1 h2 => ?_) o.dst hd _ _ (.inl ⟨_, hN0, rfl, rfl⟩))
   ·rw [hlocN]
    simp only [look]
    by_cases h : s = 64 * d
    ·rw [if_pos h, if_pos (Eq.symm h)]; rfl
    ·rw [if_neg h, if_neg (fun e : 64 * d = s => h (Eq.symm e))]
     by_cases h1 : 64 * d + 1 ≤ s ∧ s < 64 * d + 1 + ps.length
     ·rw [if_pos h1, aloB_is h1]; rfl
     ·rw [if_neg h1]
      cases h2 : look (aloB d 1 ps) s with
      | none => rfl
      | some B => exact absurd (aloB_some h2).1 h1
   ·rcases hcs s l h1 with ⟨_, rfl⟩ | ⟨_, rfl⟩
    ·cases h2; exact ⟨Nat.le_refl _, by simp⟩
    ·cases h2
   ·rcases hcs s l h1 with ⟨e1, rfl⟩ | ⟨_, rfl⟩
    ·rcases hcs s' l' h2 with ⟨e2, rfl⟩ | ⟨_, rfl⟩
     ·rw [e1, e2]
     ·cases h4
    ·cases h3
   ·rcases hcs s l h1 with ⟨e1, rfl⟩ | ⟨e1, rfl⟩
    ·simp only [look] at h2
     rw [if_pos e1.symm] at h2
     cases h2
     refine ⟨(a.eval x0).cells, el, heap_alloc_new w _, aloV_rvs (zo := vs.map nilV) hok (fun q h1 h2 => hNv q h1 h2) (fun j hj => ?_) (r1.mono ?_ ?_)⟩
     ·rw [List.getElem?_map, Option.map_eq_some_iff] at hj
      obtain ⟨v, hv1, hv2⟩ := hj
      have hv : v = .k (.slice none 0 0) := by
       unfold nilV at hv2
       split at hv2
       ·rfl
       ·cases hv2
      subst hv
      have hj2 : j < vs.length := (List.getElem?_eq_some_iff.1 hv1).1
      obtain ⟨c, hc1⟩ : ∃ c, (a.eval x0).cells.toList[j]? = some c := ⟨_, List.getElem?_eq_getElem (by rw [← r1.1]; exact hj2)⟩
      have := r1.2 j _ c hv1 hc1
      cases (show Rep w _ (.k (.slice none 0 0)) c from this)
      exact hc1
     ·intro b hb
      refine okx (below_new w _) (fun s l b h1 h2 => ?_) b hb
      rcases hcs s l h1 with ⟨_, rfl⟩ | ⟨_, rfl⟩
      ·cases h2; exact Nat.le_refl _
      ·cases h2
     ·intro s l _ hl
      show (match locN s with | some l => some l | none => loc s) = _
      cases hq : locN s with
      | none => exact hl
      | some l' =>
       exfalso
       have hd1 := I.hp.dom s
       rw [hl] at hd1
       have hk : (look ((64 * d, Blk.box (aloV d 1 vs ps)) :: aloB d 1 ps) s).isSome = true := by
        simp only [look]
        rcases hcs s l' hq with ⟨e1, _⟩ | ⟨e1, _⟩
        ·rw [if_pos e1.symm]; rfl
        ·rw [if_neg (by omega)]; exact aloB_is e1
       rw [fresh_spec hf s hk] at hd1
       cases hd1
    ·simp only [look] at h2
     rw [if_neg (by omega)] at h2
     obtain ⟨_, el', e', rfl⟩ := aloB_some h2
     rfl
  ·cases hc
 | alo zs ps =>
  simp only [ev] at he
  split at he
  case isFalse => cases he
  rename_i hok
  cases he
  simp only [chk] at hc
  split at hc
  ·rename_i el hop
   simp only [Bool.and_eq_true, decide_eq_true_eq] at hc
   obtain ⟨hz, hps⟩ := hc
   obtain ⟨i, z, i1, i2, i3⟩ := zeroT_spec hz
   have hrun : (execOp a.eval o).run P w = .ok (.value (.pointer (some ⟨w.heap.size, 0, none⟩))) (w.alloc (.cells z.cells el)) := by
    unfold execOp
    rw [hop]
    simp [Instr.alloc, zeroValue, typeInfo, i1, i2, newVar, newRow]
   unfold Oper.wp
   rw [hrun, Oper.upon_value]
   obtain ⟨locN, hlocN⟩ : ∃ locN : Locs, ∀ s, locN s = if s = 64 * d then some (.box w.heap.size) else if 64 * d + 1 ≤ s ∧ s < 64 * d + 1 + ps.length then some .virt else none := ⟨_, fun _ => rfl⟩
   have hN0 : (loc.or locN) (64 * d) = some (.box w.heap.size) := by
    show (match locN (64 * d) with | some l => some l | none => loc (64 * d)) = _
    rw [hlocN, if_pos rfl]
   have hNv : ∀ q, 1 ≤ q → q < 1 + ps.length → (loc.or locN) (64 * d + q) = some .virt := by
    intro q h1 h2
    show (match locN (64 * d + q) with | some l => some l | none => loc (64 * d + q)) = _
    rw [hlocN, if_neg (by omega), if_pos (by omega)]
   have hcs : ∀ s l, locN s = some l → (s = 64 * d ∧ l = .box w.heap.size) ∨ ((64 * d + 1 ≤ s ∧ s < 64 * d + 1 + ps.length) ∧ l = .virt) := by
    intro s l h
    rw [hlocN] at h
    split at h
    ·cases h; exact .inl ⟨‹_›, rfl⟩
    ·split at h
     ·cases h; exact .inr ⟨‹_›, rfl⟩
     ·cases h
   refine hn _ _ _ (I.ext (below_new w _) locN _ (fun s => ?_) (fresh_spec hf) (fun s l b h1 h2 => ?_) (fun s s' l l' b h1 h2 h3 h4 => ?_) (fun s l B h1 h2 => ?_) o.dst hd _ _ (.inl ⟨_, hN0, rfl, rfl⟩))
   ·rw [hlocN]
    simp only [look]
    by_cases h : s = 64 * d
    ·rw [if_pos h, if_pos (Eq.symm h)]; rfl
    ·rw [if_neg h, if_neg (fun e : 64 * d = s => h (Eq.symm e))]
     by_cases h1 : 64 * d + 1 ≤ s ∧ s < 64 * d + 1 + ps.length
     ·rw [if_pos h1, aloB_is h1]; rfl
     ·rw [if_neg h1]
      cases h2 : look (aloB d 1 ps) s with
      | none => rfl
      | some B => exact absurd (aloB_some h2).1 h1
   ·rcases hcs s l h1 with ⟨_, rfl⟩ | ⟨_, rfl⟩
    ·cases h2; exact ⟨Nat.le_refl _, by simp⟩
    ·cases h2
   ·rcases hcs s l h1 with ⟨e1, rfl⟩ | ⟨_, rfl⟩
    ·rcases hcs s' l' h2 with ⟨e2, rfl⟩ | ⟨_, rfl⟩
     ·rw [e1, e2]
     ·cases h4
    ·cases h3
   ·rcases hcs s l h1 with ⟨e1, rfl⟩ | ⟨e1, rfl⟩
    ·simp only [look] at h2
     rw [if_pos e1.symm] at h2
     cases h2
     exact ⟨z.cells, el, heap_alloc_new w _, aloV_rvs (zo := zs) hok (fun q h1 h2 => hNv q h1 h2) (voks_nil i3) (voks_rvs i3)⟩
    ·simp only [look] at h2
     rw [if_neg (by omega)] at h2
     obtain ⟨_, el', e', rfl⟩ := aloB_some h2
     rfl
  ·cases hc
end
end Go.Proofs.YtdflglehippoiaaGreatDoorR
namespace Go.Proofs.YtdflglehippoiaaGreatDoorR
open Go Go.RowKit

section
variable {P : Program} {n : Nat} {Γ : Ent} {w0 : World} {ok0 : Nat → Prop} {loc : Locs} {st st' : St} {a : Act} {w : World} {E : Nat → Model} {o : Oper}

theorem RV.frz {s : Nat} (I : Inv n Γ w0 ok0 loc st a w) {v : V} {x : Value} (h : RV w (okI w0 ok0 w loc) loc v x) (hok : ∀ b, okI w0 ok0 w loc b → okI w0 ok0 w (fun t => if t = s then none else loc t) b)
  (hs : ∀ l b, loc s = some l → l.blk = some b → okI w0 ok0 w (fun t => if t = s then none else loc t) b) : RV w (okI w0 ok0 w (fun t => if t = s then none else loc t)) (fun t => if t = s then none else loc t) (v.frz s (look st.hp s)) x := by
 have h1 := h.one
 have hne : ∀ t l, t ≠ s → loc t = some l → (if t = s then none else loc t) = some l := fun t l h1 h2 => by rw [if_neg h1]; exact h2
 have hok' : ∀ b, okI w0 ok0 w loc b → okI w0 ok0 w (fun t => if t = s then none else loc t) b ∧ w.heap[b]? = w.heap[b]? := fun b hb => ⟨hok b hb, rfl⟩
 have hH : HOk w (okI w0 ok0 w loc) loc (look st.hp) := I.hok fun _ _ h => h
 cases v with
 | sl s' off len =>
  simp only [V.frz]
  split
  ·rename_i e
   subst e
   split
   ·rename_i el e xs hq
    split
    ·rename_i hl
     refine Rep.rv (pur1_rep hH hok (fun s l b hm hl' hb => hs l b (by cases hm; exact hl') hb) h ?_)
     simp only [V.pur1, hq, if_pos hl]
    ·exact Rep.dead h1
   ·exact Rep.dead h1
  ·rename_i hn
   exact h.mono hok' fun t l ht => hne t l (by cases ht; exact hn)
 | ref s' i j =>
  simp only [V.frz]
  split
  ·rename_i e
   subst e
   split
   ·rename_i vs hq
    split
    ·rename_i hc
     rcases h with ⟨b, g1, _, rfl⟩ | ⟨b, el, e, cap, g1, rfl⟩
     ·obtain ⟨cs, el, hb, hr⟩ := hH _ _ _ g1 hq
      have hcs : vs.length = cs.size := by rw [hr.1]; simp
      refine Rep.rv (.ptr (fun m => (cs[j + m]?).getD Go.undef) (hs _ _ g1 rfl) (fun m p a1 => ?_) (fun m p a1 => ?_))
      ·rw [List.getElem?_drop] at a1
       have hlt : j + m < cs.size := by rw [← hcs]; exact (List.getElem?_eq_some_iff.1 a1).1
       rw [Addr.add_lit, cell_of_row w b _ cs _ (0, 0) hb]
       simp [hlt]
      ·rw [List.getElem?_drop] at a1
       have hlt : j + m < cs.size := by rw [← hcs]; exact (List.getElem?_eq_some_iff.1 a1).1
       refine (rv_rep (hr.2 (j + m) p _ a1 ?_) (ments_nil hc.2 p (List.mem_of_getElem? a1))).mono hok'
       simp [hlt]
     ·exact (hH _ _ _ g1 hq).elim
    ·exact Rep.dead h1
   ·rename_i el e xs hq
    split
    ·rename_i y hy
     rcases h with ⟨b, g1, _, rfl⟩ | ⟨b, el', e', cap, g1, rfl⟩
     ·exact (hH _ _ _ g1 hq).elim
     ·obtain ⟨e1, e2', hm, hxc, hlen, cs, hb, hcs, hr⟩ := hH _ _ _ g1 hq
      subst e2'
      refine Rep.rv (.ptr (fun m => (cs[i * e + (j + m)]?).getD Go.undef) (hs _ _ g1 rfl) (fun m p a1 => ?_) (fun m p a1 => ?_))
      ·rw [List.getElem?_drop] at a1
       obtain ⟨u, hu, _⟩ := hr _ _ _ _ hy a1
       rw [Addr.add_lit, cell_of_row w b _ cs _ (0, 0) hb, Nat.add_assoc, hu]
       rfl
      ·rw [List.getElem?_drop] at a1
       obtain ⟨u, hu, hq'⟩ := hr _ _ _ _ hy a1
       rw [hu]
       exact hq'.mono hok'
    ·exact Rep.dead h1
   ·exact Rep.dead h1
  ·rename_i hn
   exact h.mono hok' fun t l ht => hne t l (by cases ht; exact hn)
 | _ => exact RV.mono h hok' fun t l ht => by cases ht

theorem drop1_look (s : Nat) : ∀ (hp : List (Nat × Blk)) (t : Nat), look (drop1 s hp) t = if t = s then none else look hp t
 | [], t => by simp [drop1, look]
 | (k, B) :: r, t => by
  simp only [drop1]
  split
  ·rename_i e
   rw [drop1_look s r t]
   simp only [look]
   by_cases h : t = s
   ·rw [if_pos h, if_pos h]
   ·rw [if_neg h, if_neg h, if_neg (fun e' => h (by rw [← e', e]))]
  ·rename_i e
   simp only [look]
   rw [drop1_look s r t]
   by_cases h : k = t
   ·subst h; rw [if_pos rfl, if_neg e, if_pos rfl]
   ·rw [if_neg h]
    by_cases h2 : t = s
    ·rw [if_pos h2, if_pos h2]
    ·rw [if_neg h2, if_neg h2, if_neg h]
theorem sf_get (s : Nat) (b : Option Blk) : ∀ (xs : List S) (j : Nat) (x : S), (S.frz.sf s b xs)[j]? = some x → ∃ y, xs[j]? = some y ∧ x = y.frz s b
 | [], j, x, h => by cases h
 | a :: r, j, x, h => by
  cases j with
  | zero => simp [S.frz.sf] at h; exact ⟨a, rfl, h.symm⟩
  | succ j => exact sf_get s b r j x (by simpa [S.frz.sf] using h)
theorem sf_length (s : Nat) (b : Option Blk) : ∀ (xs : List S), (S.frz.sf s b xs).length = xs.length
 | [] => rfl
 | a :: r => by simp [S.frz.sf, sf_length s b r]
theorem Inv.freeze1 (I : Inv n Γ w0 ok0 loc st a w) (s : Nat) (hs64 : ¬ s < 64) : Inv n Γ w0 ok0 (fun t => if t = s then none else loc t) (freeze s st) a w := by
 have hloc : ∀ t l, (if t = s then none else loc t) = some l → t ≠ s ∧ loc t = some l := by
  intro t l h
  split at h
  ·cases h
  ·exact ⟨‹_›, h⟩
 have hok : ∀ b, okI w0 ok0 w loc b → okI w0 ok0 w (fun t => if t = s then none else loc t) b := fun b h => ⟨h.1, h.2.1, fun t l ht => h.2.2 t l (hloc t l ht).2⟩
 have hs : ∀ l b, loc s = some l → l.blk = some b → okI w0 ok0 w (fun t => if t = s then none else loc t) b := by
  intro l b h1 h2
  have h3 := I.hp.lo s l b h1 h2
  exact ⟨h3.1.elim (fun h => .inl (I.oko b h)) .inr, h3.2, fun t m ht hm => (hloc t m ht).1 (I.hp.inj t s m l b (hloc t m ht).2 h1 hm h2)⟩
 have hV : ∀ {v x}, RV w (okI w0 ok0 w loc) loc v x → RV w (okI w0 ok0 w (fun t => if t = s then none else loc t)) (fun t => if t = s then none else loc t) (v.frz s (look st.hp s)) x := fun h => h.frz I hok hs
 have hVs : ∀ {vs cs}, RVs w (okI w0 ok0 w loc) loc vs cs → RVs w (okI w0 ok0 w (fun t => if t = s then none else loc t)) (fun t => if t = s then none else loc t) (vs.map (V.frz s (look st.hp s))) cs := by
  intro vs cs h
  refine ⟨by rw [List.length_map]; exact h.1, fun j v c h1 h2 => ?_⟩
  rw [List.getElem?_map, Option.map_eq_some_iff] at h1
  obtain ⟨v', h3, rfl⟩ := h1
  exact hV (h.2 j v' c h3 h2)
 have hS0 : ∀ {v x}, RS0 w (okI w0 ok0 w loc) loc v x → RS0 w (okI w0 ok0 w (fun t => if t = s then none else loc t)) (fun t => if t = s then none else loc t) (v.frz s (look st.hp s)) x := by
  intro v x h
  cases v with
  | undef => exact h
  | one v => exact hV h
  | agg vs =>
   obtain ⟨cs, h1, h2⟩ := h
   exact ⟨cs, h1, hVs h2⟩
  | tup xs => exact h.elim
 have hS : ∀ {v x}, RS w (okI w0 ok0 w loc) loc v x → RS w (okI w0 ok0 w (fun t => if t = s then none else loc t)) (fun t => if t = s then none else loc t) (v.frz s (look st.hp s)) x := by
  intro v x h
  cases v with
  | tup xs =>
   obtain ⟨us, h1, h2, h3⟩ := h
   refine ⟨us, h1, by rw [h2, sf_length], fun j q u a1 a2 => ?_⟩
   obtain ⟨y, b1, rfl⟩ := sf_get s _ xs j q a1
   exact hS0 (h3 j y u b1 a2)
  | undef => exact h
  | one v => exact hS0 (v := .one v) h
  | agg vs => exact hS0 (v := .agg vs) h
 refine ⟨I.below, I.okb, ⟨fun t => ?_, fun t l B h1 h2 => ?_, fun t t' l l' b h1 h2 h3 h4 => I.hp.inj t t' l l' b (hloc t l h1).2 (hloc t' l' h2).2 h3 h4, fun t l b h1 h2 => I.hp.lo t l b (hloc t l h1).2 h2⟩, I.oko, fun t b h => ⟨(I.bx t b h).1, by rw [if_neg (fun e => hs64 (by rw [← e]; exact (I.bx t b h).1))]; exact (I.bx t b h).2⟩, I.sz, fun t v h => ?_, I.df⟩
 ·show _ = (look ((drop1 s st.hp).map fun p => (p.1, p.2.frz s (look st.hp s))) t).isSome
  rw [look_map, drop1_look]
  (try dsimp only)
  by_cases h : t = s
  ·rw [if_pos h, if_pos h]; rfl
  ·rw [if_neg h, if_neg h, I.hp.dom]
   cases look st.hp t <;> rfl
 ·obtain ⟨g1, g2⟩ := hloc t l h1
  have h2' : look ((drop1 s st.hp).map fun p => (p.1, p.2.frz s (look st.hp s))) t = some B := h2
  rw [look_map, drop1_look, if_neg g1, Option.map_eq_some_iff] at h2'
  obtain ⟨B', h3, rfl⟩ := h2'
  have hb := I.hp.blk t l B' g2 h3
  cases l with
  | virt => cases B' <;> exact hb
  | box b => cases B' with
   | box vs =>
    obtain ⟨cs, el, k1, k2⟩ := hb
    exact ⟨cs, el, k1, hVs k2⟩
   | rows el e xs => exact hb
  | rows b el e cap => cases B' with
   | box vs => exact hb
   | rows el' e' xs =>
    obtain ⟨k1, k2, k3, k4, k5, cs, k6, k7, k8⟩ := hb
    exact ⟨k1, k2, k3, k4, k5, cs, k6, k7, fun i j x p a1 a2 => let ⟨u, hu, hr⟩ := k8 i j x p a1 a2; ⟨u, hu, hr.mono fun b hb => ⟨hok b hb, rfl⟩⟩⟩
 ·have h' : look (st.sl.map fun p => (p.1, p.2.frz s (look st.hp s))) t = some v := h
  rw [look_map, Option.map_eq_some_iff] at h'
  obtain ⟨v', h1, rfl⟩ := h'
  obtain ⟨g1, g2⟩ := I.sl t v' h1
  exact ⟨g1, hS g2⟩
theorem Inv.freeze (I : Inv n Γ w0 ok0 loc st a w) (s : Nat) (hs64 : ¬ s < 64) : ∃ loc', Inv n Γ w0 ok0 loc' (freeze s st) a w := ⟨_, I.freeze1 s hs64⟩

theorem Inv.freezes : ∀ (l : List Nat) {loc : Locs} {st : St}, Inv n Γ w0 ok0 loc st a w → ∃ loc', Inv n Γ w0 ok0 loc' (freezes l st) a w
 | [], loc, st, I => ⟨loc, I⟩
 | s :: r, loc, st, I => by
  unfold Go.Proofs.YtdflglehippoiaaGreatDoorR.freezes
  split
  ·exact Inv.freezes r I
  ·rename_i hs
   obtain ⟨loc', I'⟩ := I.freeze s hs
   exact Inv.freezes r I'

theorem Inv.congr0 (I : Inv n Γ w0 ok0 loc st a w) {hp : Hp} (h : look hp = look st.hp) : Inv n Γ w0 ok0 loc { st with hp := hp } a w :=
 ⟨I.below, I.okb, ⟨fun s => by show _ = (look hp s).isSome; rw [h]; exact I.hp.dom s, fun s l B h1 h2 => I.hp.blk s l B h1 (by rw [← h]; exact h2), I.hp.inj, I.hp.lo⟩, I.oko, I.bx, I.sz, fun t s h1 => I.sl t s h1, I.df⟩
theorem Inv.kept (I : Inv n Γ w0 ok0 loc st a w) {s : Nat} (hs64 : 64 ≤ s) {b el e cap : Nat} {cs : Array Value} {zs : List (List V)} (hb : w.heap[b]? = some (.cells cs el (0, 0))) (hbok : okI w0 ok0 w (fun t => if t = s then none else loc t) b) (hz : ∀ x ∈ zs, x.length = e) (hcap : zs.length ≤ cap)
  (hr : ∀ i j x p, zs[i]? = some x → x[j]? = some p → ∃ u, cs[i * e + j]? = some u ∧ Rep w (okI w0 ok0 w loc) p u) :
  ∃ loc', Inv n Γ w0 ok0 loc' (Go.Proofs.YtdflglehippoiaaGreatDoorR.freeze s st) a w ∧ RS w (okI w0 ok0 w loc') loc' (.one (.row zs)) (.slice (some ⟨b, 0, none⟩) zs.length cap) := by
 refine ⟨_, I.freeze1 s (by omega), ?_⟩
 have hok : ∀ c, okI w0 ok0 w loc c → okI w0 ok0 w (fun t => if t = s then none else loc t) c ∧ w.heap[c]? = w.heap[c]? := fun c h => ⟨⟨h.1, h.2.1, fun t l ht => h.2.2 t l (by (try dsimp only at ht); split at ht; cases ht; exact ht)⟩, rfl⟩
 show Rep w _ (.row zs) _
 cases zs with
 | nil => exact .row0 _ _
 | cons z zs =>
  refine .row (fun i j => (cs[i * e + j]?).getD Go.undef) rfl (by simp) hcap hbok hz (fun i j x p h1 h2 => ?_) (fun i j x p h1 h2 => ?_)
  ·obtain ⟨u, hu, _⟩ := hr i j x p h1 h2
   rw [Addr.add_lit, Nat.zero_add, cell_of_row w b _ cs _ (0, 0) hb, hu]
   rfl
  ·obtain ⟨u, hu, hq⟩ := hr i j x p h1 h2
   rw [hu]
   exact hq.mono hok
theorem o_apk (I : Inv n Γ w0 ok0 loc st a w) {t : TypeId} {x y : Operand} {x' y' : X} {el e by_ : Nat} (ho : o.op = .call { callee := .builtin .append, args := #[x, y], argTypes := #[t, t] }) (ht : P.underlying t = some (.slice el)) (hT : appT P el e by_ = true) (hx : xok x x' = true) (hy : xok y y' = true)
  {d : Nat} {s' : S} {st' : St} (he : evE E d st (.apk el e by_ x' y') = some (s', st')) :
  ∃ v w' loc', (execOp a.eval o).run P w = .ok (.value v) w' ∧ Inv n Γ w0 ok0 loc' st' a w' ∧ RS w' (okI w0 ok0 w' loc') loc' s' v := by
 unfold appT at hT
 split at hT
 ·rename_i ti hti
  simp only [Bool.and_eq_true, beq_iff_eq, decide_eq_true_eq] at hT
  obtain ⟨⟨⟨⟨t1, t2⟩, t3⟩, t4⟩, t5⟩ := hT
  split at t3
  ·rename_i z hz
   simp only [beq_iff_eq] at t3
   simp only [evE] at he
   split at he
   ·rename_i s m y0 ex ey
    split at he
    ·rename_i el' e' xs ys hq hpur
     split at he
     ·rename_i hc
      obtain ⟨rfl, rfl, hm, hall, hbytes, hs64⟩ := hc
      cases he
      have hg : GOk w (okI w0 ok0 w loc) loc a (look st.sl) := I.gok fun _ _ h => h
      have hh : HOk w (okI w0 ok0 w loc) loc (look st.hp) := I.hok fun _ _ h => h
      have hlen : ∀ y ∈ ys, y.length = e' := fun y hy => by have := List.all_eq_true.1 hall y hy; simpa using this
      have hxv : RV w (okI w0 ok0 w loc) loc (.sl s 0 m) (a.eval x) := xok_rs hx hg ex
      have hyv : RV w (okI w0 ok0 w loc) loc y0 (a.eval y) := xok_rs hy hg ey
      obtain ⟨A, c, hya, hsrc⟩ := row_src hh hyv hpur hlen
      have hmod : m + ys.length ≤ 140737488355328 := Nat.le_trans (Nat.le_mul_of_pos_right _ t5) hbytes
      have hexec : ∀ v w', (Builtin.append_ #[t, t] o.type #[a.eval x, a.eval y]).run P w = .ok v w' → (execOp a.eval o).run P w = .ok (.value v) w' := by
       intro v w' h
       unfold execOp
       rw [ho]
       simp [resolve, invoke, builtin, h]
      have hgrow : ∀ {w' : World}, Below w.heap.size w w' → Inv n Γ w0 ok0 loc st a w' := by
       intro w' hb
       have h := I.ext hb (fun _ => none) [] (fun s => rfl) (fun s h => by cases h) (fun s l b h => by cases h) (fun s s' l l' b h => by cases h) (fun s l B h => by cases h) none (fun t h => by cases h) .undef Go.undef rfl
       rw [Locs.or_none] at h
       exact h
      have hnewok : ∀ {w' : World}, w.heap.size < w'.heap.size → okI w0 ok0 w' (fun t => if t = s then none else loc t) w.heap.size := by
       intro w' hlt
       refine ⟨.inr I.below.size, hlt, fun q l hq hl => ?_⟩
       (try dsimp only at hq)
       split at hq
       ·cases hq
       ·have := (I.hp.lo q l _ hq hl).2
        omega
      rcases hxv with ⟨b, el2, e2, cap, g1, g2, g3⟩ | ⟨g1, _, hm0, g3⟩
      ·obtain ⟨e1, e2', k1, k2, k3, cs, hb, hcs, hr⟩ := I.hp.blk _ _ _ g1 hq
       subst e1; subst e2'
       rw [Nat.zero_mul, Nat.sub_zero] at g3
       have hmcs : m * e' ≤ cs.toList.length := by
        have h1 : m * e' ≤ cap * e' := Nat.mul_le_mul_right e' (by omega)
        simp [hcs]; omega
       have hold : ∀ i j x p, i < m → xs[i]? = some x → x[j]? = some p → ∃ u, (cs.toList.take (m * e'))[i * e' + j]? = some u ∧ Rep w (okI w0 ok0 w loc) p u := by
        intro i j x p hi h1 h2
        obtain ⟨u, hu, hr'⟩ := hr i j x p h1 h2
        have hj : j < e' := by rw [← k3 x (List.mem_of_getElem? h1)]; exact (List.getElem?_eq_some_iff.1 h2).1
        exact ⟨u, by rw [List.getElem?_take, if_pos (idx_lt hi hj)]; simpa using hu, hr'⟩
       have htl : (cs.toList.take (m * e')).length = m * e' := by rw [List.length_take]; omega
       have htx : xs.take m = xs := List.take_of_length_le (by omega)
       have hbok : ∀ {w' : World}, w'.heap.size = w.heap.size → okI w0 ok0 w' (fun t => if t = s then none else loc t) b := by
        intro w' hsz
        have h3 := I.hp.lo s _ b g1 rfl
        refine ⟨h3.1.elim (fun h => .inl (I.oko b h)) .inr, by rw [hsz]; exact h3.2, fun q l hq hl => ?_⟩
        (try dsimp only at hq)
        split at hq
        ·cases hq
        ·rename_i hne
         exact hne (I.hp.inj q s l _ b hq g1 hl rfl)
       by_cases h0 : ys = []
       ·subst h0
        have hrun := run_append_none (P := P) (w := w) (i := ti) o.type ht hti (some ⟨b, 0, none⟩) A m cap c (by omega)
        obtain ⟨loc', j1, j2⟩ := I.kept (s := s) hs64 (zs := xs ++ []) hb (hbok rfl) (fun x hx => k3 x (by simpa using hx)) (by simpa using k2) (fun i j x p h1 h2 => hr i j x p (by simpa using h1) h2)
        refine ⟨_, w, loc', hexec _ _ (by rw [g3, hya]; exact hrun), j1, ?_⟩
        simpa [hm] using j2
       ·obtain ⟨ad, news, hA, hnl, hnews, hone, hnr⟩ := hsrc.resolve_left h0
        subst hA
        by_cases hroom : m + ys.length ≤ cap
        ·have hfit : m * ti.size + news.length ≤ cs.size := by
          rw [hnl, hcs, t1, ← Nat.add_mul]
          exact Nat.mul_le_mul_right _ hroom
         have hrun := run_append_room (P := P) w t o.type el' ti ht hti b m cap cs hb ad ys.length c news (by rw [hnl, t1]) hnews hone hroom hfit
         rw [t1] at hrun
         generalize hcc : (cs.toList.take (m * e') ++ news ++ cs.toList.drop (m * e' + news.length)).toArray = cc at hrun
         have hsz : (w.setRow b cc).heap.size = w.heap.size := by simp [World.setRow]
         have hmono : ∀ {p : V} {u : Value}, Rep w (okI w0 ok0 w loc) p u → Rep (w.setRow b cc) (okI w0 ok0 (w.setRow b cc) loc) p u := by
          intro p u h
          refine h.mono fun b' hb' => ⟨⟨hb'.1, by rw [hsz]; exact hb'.2.1, hb'.2.2⟩, setRow_other w b b' _ fun e => hb'.2.2 _ _ g1 (by rw [e]; rfl)⟩
         have hokeq : okI w0 ok0 (w.setRow b cc) loc = okI w0 ok0 w loc := by funext b'; simp only [okI, hsz]
         have hheap : (w.setRow b cc).heap[b]? = some (.cells cc el' (0, 0)) := setRow_heap w b cs _ _ _ hb
         have hccs : cc.size = cap * e' := by
          rw [← hcc]
          simp only [List.size_toArray, List.length_append, htl, List.length_drop, hnl, Array.length_toList, hcs]
          rw [t1, hnl, hcs] at hfit
          omega
         have hrows : ∀ i j x p, (xs ++ ys)[i]? = some x → x[j]? = some p → ∃ u, cc[i * e' + j]? = some u ∧ Rep (w.setRow b cc) (okI w0 ok0 (w.setRow b cc) loc) p u := by
          intro i j x p h1 h2
          obtain ⟨u, hu, hr'⟩ := rows_app (w := w) k3 (by omega) htl hold hnr (cs.toList.drop (m * e' + news.length)) i j x p (by rw [htx]; exact h1) h2
          exact ⟨u, by rw [← hcc]; simpa using hu, hmono hr'⟩
         have I1 : Inv n Γ w0 ok0 loc st a (w.setRow b cc) := by
          have h := I.upd g1 rfl (w.setRow b cc) rfl rfl rfl hsz (fun b' h => setRow_other w b b' _ h) (.rows el' e' xs) ⟨rfl, rfl, k1, k2, k3, cc, hheap, hccs, fun i j x p h1 h2 => by
           obtain ⟨u, hu, hr'⟩ := hrows i j x p (by rw [List.getElem?_append_left (List.getElem?_eq_some_iff.1 h1).1]; exact h1) h2
           rw [hokeq] at hr'
           exact ⟨u, hu, hr'⟩⟩
          have hl : look st.hp = look ((s, Blk.rows el' e' xs) :: st.hp) := by
           funext q
           simp only [look]
           split
           ·rename_i e; rw [← e]; exact hq
           ·rfl
          exact h.congr0 (hp := st.hp) hl
         obtain ⟨loc', j1, j2⟩ := I1.kept (s := s) hs64 (zs := xs ++ ys) (cap := cap) hheap (hbok hsz) (fun x hx => by
          rcases List.mem_append.1 hx with h | h
          ·exact k3 x h
          ·exact hlen x h) (by rw [List.length_append]; omega) hrows
         refine ⟨_, _, loc', hexec _ _ (by rw [g3, hya]; exact hrun), j1, ?_⟩
         rw [List.length_append, ← hm] at j2
         exact j2
        ·have hholds : ∀ (j : Nat) u, (cs.toList.take (m * e'))[j]? = some u → w.cell? ((⟨b, 0, none⟩ : Addr).add j) = some u := by
          intro j u hu
          rw [Addr.add_lit, Nat.zero_add, cell_of_row w b j cs _ (0, 0) hb]
          rw [List.getElem?_take] at hu
          split at hu
          ·simpa using hu
          ·cases hu
         have hrun := run_append_grow (P := P) w t o.type el' ti z ht hti hz ⟨b, 0, none⟩ m cap (cs.toList.take (m * e')) (by rw [htl, t1]) hholds ad ys.length c news (by rw [hnl, t1]) hnews (by omega) (by omega) (by rw [t2]; exact growslice_fits (by omega) hbytes)
         have hge := grownCap_ge w (m + ys.length) cap el'
         generalize grownCap w (m + ys.length) cap el' = cap' at hrun hge
         generalize hcells : ((cs.toList.take (m * e')).toArray ++ news.toArray ++ Builtin.zeroCells z.cells (cap' - (m + ys.length))) = cells at hrun
         have hcl : cells.toList = cs.toList.take (m * e') ++ news ++ (Builtin.zeroCells z.cells (cap' - (m + ys.length))).toList := by rw [← hcells]; simp
         have hB : Below w.heap.size w (w.drew.alloc (.cells cells el')) := (Below.refl _ w).drew.alloc (Nat.le_refl _) _
         have hlt : w.heap.size < (w.drew.alloc (.cells cells el')).heap.size := by show _ < (w.heap.push _).size; simp
         have hmono : ∀ {p : V} {u : Value}, Rep w (okI w0 ok0 w loc) p u → Rep (w.drew.alloc (.cells cells el')) (okI w0 ok0 (w.drew.alloc (.cells cells el')) loc) p u := by
          intro p u h
          exact h.mono fun b' hb' => ⟨⟨hb'.1, by have := hb'.2.1; omega, hb'.2.2⟩, heap_alloc_old w.drew _ b' hb'.2.1⟩
         obtain ⟨loc', j1, j2⟩ := (hgrow hB).kept (s := s) hs64 (zs := xs ++ ys) (cap := cap') (heap_alloc_new w.drew _) (hnewok hlt) (fun x hx => by
          rcases List.mem_append.1 hx with h | h
          ·exact k3 x h
          ·exact hlen x h) (by rw [List.length_append]; omega) (fun i j x p h1 h2 => by
          obtain ⟨u, hu, hr'⟩ := rows_app (w := w) k3 (by omega) htl hold hnr (Builtin.zeroCells z.cells (cap' - (m + ys.length))).toList i j x p (by rw [htx]; exact h1) h2
          rw [← hcl] at hu
          exact ⟨u, by simpa using hu, hmono hr'⟩)
         refine ⟨_, _, loc', hexec _ _ (by rw [g3, hya]; exact hrun), j1, ?_⟩
         rw [List.length_append, ← hm] at j2
         exact j2
      ·have hxs : xs = [] := I.hp.blk _ _ _ g1 hq
       subst hm0
       subst hxs
       by_cases h0 : ys = []
       ·subst h0
        have hrun := run_append_none (P := P) (w := w) (i := ti) o.type ht hti none A 0 0 c (Nat.le_refl _)
        exact ⟨_, w, _, hexec _ _ (by rw [g3, hya]; exact hrun), I.freeze1 s (by omega), Rep.row0 none 0⟩
       ·obtain ⟨ad, news, hA, hnl, hnews, hone, hnr⟩ := hsrc.resolve_left h0
        subst hA
        have hys : 0 < ys.length := List.length_pos_iff.2 h0
        rw [Nat.zero_add] at hbytes
        have hrun := run_append_nil (P := P) w t o.type el' ti z ht hti hz ad ys.length c news (by rw [hnl, t1]) hnews hys (by omega) (by rw [t2]; omega)
        have hge := grownCap_ge w ys.length 0 el'
        generalize grownCap w ys.length 0 el' = cap' at hrun hge
        generalize hcells : (news.toArray ++ Builtin.zeroCells z.cells (cap' - ys.length)) = cells at hrun
        have hcl : cells.toList = [] ++ news ++ (Builtin.zeroCells z.cells (cap' - ys.length)).toList := by rw [← hcells]; simp
        have hB : Below w.heap.size w (w.drew.alloc (.cells cells el')) := (Below.refl _ w).drew.alloc (Nat.le_refl _) _
        have hlt : w.heap.size < (w.drew.alloc (.cells cells el')).heap.size := by show _ < (w.heap.push _).size; simp
        have hmono : ∀ {p : V} {u : Value}, Rep w (okI w0 ok0 w loc) p u → Rep (w.drew.alloc (.cells cells el')) (okI w0 ok0 (w.drew.alloc (.cells cells el')) loc) p u := by
         intro p u h
         exact h.mono fun b' hb' => ⟨⟨hb'.1, by have := hb'.2.1; omega, hb'.2.2⟩, heap_alloc_old w.drew _ b' hb'.2.1⟩
        obtain ⟨loc', j1, j2⟩ := (hgrow hB).kept (s := s) hs64 (zs := [] ++ ys) (cap := cap') (heap_alloc_new w.drew _) (hnewok hlt) (fun x hx => hlen x (by simpa using hx)) (by simpa using hge) (fun i j x p h1 h2 => by
         obtain ⟨u, hu, hr'⟩ := rows_app (w := w) (n := 0) (xs := []) (ys := ys) (cs1 := []) (cs2 := news) (e := e') (fun x hx => by cases hx) (Nat.le_refl _) (by simp) (fun i j x p hi => absurd hi (Nat.not_lt_zero _)) hnr (Builtin.zeroCells z.cells (cap' - ys.length)).toList i j x p h1 h2
         rw [← hcl] at hu
         exact ⟨u, by simpa using hu, hmono hr'⟩)
        exact ⟨_, _, loc', hexec _ _ (by rw [g3, hya]; exact hrun), j1, j2⟩
     ·cases he
    ·cases he
   ·cases he
  ·cases t3
 ·cases hT
theorem run_apl_room {m : Nat} {t tn e : TypeId} (ty : TypeId) {i : TypeInfo} {z : Value} {k kn : IntKind} (ht : P.underlying t = some (.slice e)) (htn : P.underlying tn = some (.int kn)) (hi : P.info? e = some i) (hz : i.zero = some z)
  (hzs : z.cells.size = i.size) (h1 : ∀ u ∈ (Builtin.zeroCells z.cells m).toList, u.oneCell' = true) (g sLen sCap : Nat) (cur : Array Value) (hg : w.heap[g]? = some (.cells cur e (0, 0))) (h0 : 0 < m) (hs : 0 < i.size) (h48 : m * i.bytes ≤ 281474976710656) (h63 : m ≤ 9223372036854775807)
  (hroom : sLen + m ≤ sCap) (hfit : sLen * i.size + (Builtin.zeroCells z.cells m).toList.length ≤ cur.size) :
  (Builtin.append_ #[t, tn] ty #[.slice (some ⟨g, 0, none⟩) sLen sCap, .int k m]).run P w =
   .ok (.slice (some ⟨g, 0, none⟩) (sLen + m) sCap) (w.setRow g (cur.toList.take (sLen * i.size) ++ (Builtin.zeroCells z.cells m).toList ++ cur.toList.drop (sLen * i.size + (Builtin.zeroCells z.cells m).toList.length)).toArray) := by
 have hst := run_storeCells_at P g (sLen * i.size) e (Builtin.zeroCells z.cells m).toList 0 cur w hg (by simpa using hfit) h1
 simp only [Nat.add_zero] at hst
 have hw : IntKind.i64.wrap (m : Int) = m := by rw [IntKind.wrap_i64]; omega
 have h48i : ¬ (281474976710656 < (m : Int) * (i.bytes : Int)) := by
  rw [← Int.natCast_mul]
  omega
 have hneg : ¬ ((m : Int) < 0) := by omega
 have hns : ¬ (m * i.size = 0) := Nat.mul_ne_zero (by omega) (by omega)
 have hm0 : m ≠ 0 := by omega
 have hs0 : i.size ≠ 0 := by omega
 simp [Builtin.append_, run_underlying ht, run_underlying htn, sizeOf, typeInfo, zeroValue, hi, hz, asInt, asIntOf, hw, hneg, hns, hm0, hs0, h48i, hroom, Addr.add_lit, hst]
theorem run_apl_grow {m : Nat} {t tn e : TypeId} (ty : TypeId) {i : TypeInfo} {z : Value} {k kn : IntKind} (ht : P.underlying t = some (.slice e)) (htn : P.underlying tn = some (.int kn)) (hi : P.info? e = some i) (hz : i.zero = some z)
  (b : Addr) (sLen sCap : Nat) (olds : List Value) (hlo : olds.length = sLen * i.size) (holds : ∀ j v, olds[j]? = some v → w.cell? (b.add j) = some v) (h0 : 0 < m) (hs : 0 < i.size) (h48 : m * i.bytes ≤ 281474976710656)
  (hg : sCap < sLen + m) (h63 : ((sLen + m : Nat) : Int) ≤ 9223372036854775807) (hfit : Builtin.nextslicecap (sLen + m) sCap * i.bytes ≤ 281474976710656) :
  (Builtin.append_ #[t, tn] ty #[.slice (some b) sLen sCap, .int k m]).run P w =
   .ok (.slice (some ⟨w.heap.size, 0, none⟩) (sLen + m) (grownCap w (sLen + m) sCap e))
    (w.drew.alloc (.cells (olds.toArray ++ (Builtin.zeroCells z.cells m).toList.toArray ++ Builtin.zeroCells z.cells (grownCap w (sLen + m) sCap e - (sLen + m))) e)) := by
 have hn : ¬ (sLen + m ≤ sCap) := by omega
 have h63' : ¬ (9223372036854775807 < ((sLen : Int) + (m : Int))) := by omega
 have h48' : ¬ (281474976710656 < Builtin.nextslicecap (sLen + m) sCap * i.bytes) := by omega
 have hfo := run_firstCells_some (P := P) w.drew i.size sLen b sLen sCap olds hlo (by simpa using holds)
 have hw : IntKind.i64.wrap (m : Int) = m := by rw [IntKind.wrap_i64]; omega
 have h48i : ¬ (281474976710656 < (m : Int) * (i.bytes : Int)) := by
  rw [← Int.natCast_mul]
  omega
 have hneg : ¬ ((m : Int) < 0) := by omega
 have hns : ¬ (m * i.size = 0) := Nat.mul_ne_zero (by omega) (by omega)
 have hm0 : m ≠ 0 := by omega
 have hs0 : i.size ≠ 0 := by omega
 simp [Builtin.append_, run_underlying ht, run_underlying htn, sizeOf, typeInfo, zeroValue, hi, hz, asInt, asIntOf, hw, hneg, hns, hm0, hs0, h48i, hn, h63', h48', Question.forced, hfo, newRow, grownCap]
 try (congr 2; apply Array.ext'; simp [List.append_assoc])
theorem o_apl (I : Inv n Γ w0 ok0 loc st a w) {t tn : TypeId} {x y : Operand} {x' y' : X} {el e by_ : Nat} {zs : List V} {kn : IntKind} (ho : o.op = .call { callee := .builtin .append, args := #[x, y], argTypes := #[t, tn] }) (ht : P.underlying t = some (.slice el)) (htn : P.underlying tn = some (.int kn)) (hT : mksT P el e by_ zs = true) (hpos : 0 < e) (hx : xok x x' = true) (hy : xok y y' = true)
  {d : Nat} {s' : S} {st' : St} (he : evE E d st (.apl el e by_ zs x' y') = some (s', st')) :
  ∃ v w' loc', (execOp a.eval o).run P w = .ok (.value v) w' ∧ Inv n Γ w0 ok0 loc' st' a w' ∧ RS w' (okI w0 ok0 w' loc') loc' s' v := by
 have hT0 := hT
 unfold mksT at hT
 simp only [Bool.and_eq_true, beq_iff_eq, decide_eq_true_eq] at hT
 obtain ⟨⟨⟨⟨hz0, hs0⟩, hl0⟩, hp0⟩, hby0⟩ := hT
 obtain ⟨ti, z, hti, hz, hvok⟩ := zeroT_spec hz0
 rw [hti] at hby0
 simp only [beq_iff_eq] at hby0
 have t1 : ti.size = e := by
  unfold sizeT at hs0
  rw [hti] at hs0
  simpa using hs0
 have t2 : ti.bytes = by_ := hby0
 simp only [evE] at he
 split at he
 ·rename_i s m l ex em
  split at he
  ·rename_i el' e' xs hq
   split at he
   ·rename_i hc
    obtain ⟨rfl, rfl, hm, hlpos, hbytes0, hs64⟩ := hc
    cases he
    obtain ⟨q, rfl⟩ : ∃ q : Nat, l = (q : Int) := ⟨l.toNat, by omega⟩
    have hqn : ((q : Int)).toNat = q := rfl
    rw [hqn]
    have hq0 : 0 < q := by omega
    have hg : GOk w (okI w0 ok0 w loc) loc a (look st.sl) := I.gok fun _ _ h => h
    have hh : HOk w (okI w0 ok0 w loc) loc (look st.hp) := I.hok fun _ _ h => h
    have hcz : z.cells.size = e' := by
     have := (voks_rvs (w := w) (ok := okI w0 ok0 w loc) (loc := loc) hvok).1
     simp at this
     omega
    obtain ⟨ys, hys⟩ : ∃ ys, ys = List.replicate q zs := ⟨_, rfl⟩
    have hyl : ys.length = q := by rw [hys]; simp
    rw [← hys]
    have hels := els_zero (w := w) (ok := okI w0 ok0 w loc) (n := q) hvok hl0
    rw [← hys] at hels
    obtain ⟨news, hnews0⟩ : ∃ news, news = (Builtin.zeroCells z.cells q).toList := ⟨_, rfl⟩
    have hnz : ((Array.range (q * e')).map fun i => z.cells[i % z.cells.size]!).toList = news := by
     rw [hnews0]; unfold Builtin.zeroCells; rw [hcz]
    rw [hnz] at hels
    obtain ⟨hlen, hnl, hnr, hone⟩ := hels
    rw [hyl] at hnl
    have hbytes : (m + q) * by_ ≤ 140737488355328 := by
     have : (((m + q : Nat) : Int)) * (by_ : Int) ≤ 140737488355328 := by simpa using hbytes0
     rw [← Int.natCast_mul] at this
     omega
    have hxv : RV w (okI w0 ok0 w loc) loc (.sl s 0 m) (a.eval x) := xok_rs hx hg ex
    obtain ⟨k, hyv⟩ := asI_spec (a := a) hy hg em
    have t5 := hp0
    have hmod : m + q ≤ 140737488355328 := Nat.le_trans (Nat.le_mul_of_pos_right _ t5) hbytes
    have hq48 : q * ti.bytes ≤ 281474976710656 := by
     have h1 : q * by_ ≤ (m + q) * by_ := Nat.mul_le_mul_right by_ (by omega)
     rw [t2]
     omega
    have hexec : ∀ v w', (Builtin.append_ #[t, tn] o.type #[a.eval x, a.eval y]).run P w = .ok v w' → (execOp a.eval o).run P w = .ok (.value v) w' := by
     intro v w' h
     unfold execOp
     rw [ho]
     simp [resolve, invoke, builtin, h]
    have hgrow : ∀ {w' : World}, Below w.heap.size w w' → Inv n Γ w0 ok0 loc st a w' := by
     intro w' hb
     have h := I.ext hb (fun _ => none) [] (fun s => rfl) (fun s h => by cases h) (fun s l b h => by cases h) (fun s s' l l' b h => by cases h) (fun s l B h => by cases h) none (fun t h => by cases h) .undef Go.undef rfl
     rw [Locs.or_none] at h
     exact h
    have hnewok : ∀ {w' : World}, w.heap.size < w'.heap.size → okI w0 ok0 w' (fun t => if t = s then none else loc t) w.heap.size := by
     intro w' hlt
     refine ⟨.inr I.below.size, hlt, fun q l hq hl => ?_⟩
     (try dsimp only at hq)
     split at hq
     ·cases hq
     ·have := (I.hp.lo q l _ hq hl).2
      omega
    rcases hxv with ⟨b, el2, e2, cap, g1, g2, g3⟩ | ⟨g1, _, hm0, g3⟩
    ·obtain ⟨e1, e2', k1, k2, k3, cs, hb, hcs, hr⟩ := I.hp.blk _ _ _ g1 hq
     subst e1; subst e2'
     rw [Nat.zero_mul, Nat.sub_zero] at g3
     have hmcs : m * e' ≤ cs.toList.length := by
      have h1 : m * e' ≤ cap * e' := Nat.mul_le_mul_right e' (by omega)
      simp [hcs]; omega
     have hold : ∀ i j x p, i < m → xs[i]? = some x → x[j]? = some p → ∃ u, (cs.toList.take (m * e'))[i * e' + j]? = some u ∧ Rep w (okI w0 ok0 w loc) p u := by
      intro i j x p hi h1 h2
      obtain ⟨u, hu, hr'⟩ := hr i j x p h1 h2
      have hj : j < e' := by rw [← k3 x (List.mem_of_getElem? h1)]; exact (List.getElem?_eq_some_iff.1 h2).1
      exact ⟨u, by rw [List.getElem?_take, if_pos (idx_lt hi hj)]; simpa using hu, hr'⟩
     have htl : (cs.toList.take (m * e')).length = m * e' := by rw [List.length_take]; omega
     have htx : xs.take m = xs := List.take_of_length_le (by omega)
     have hbok : ∀ {w' : World}, w'.heap.size = w.heap.size → okI w0 ok0 w' (fun t => if t = s then none else loc t) b := by
      intro w' hsz
      have h3 := I.hp.lo s _ b g1 rfl
      refine ⟨h3.1.elim (fun h => .inl (I.oko b h)) .inr, by rw [hsz]; exact h3.2, fun q l hq hl => ?_⟩
      (try dsimp only at hq)
      split at hq
      ·cases hq
      ·rename_i hne
       exact hne (I.hp.inj q s l _ b hq g1 hl rfl)
     by_cases h0 : ys = []
     ·exfalso; rw [h0] at hyl; simp at hyl; omega
     ·skip
      by_cases hroom : m + q ≤ cap
      ·have hfit : m * ti.size + news.length ≤ cs.size := by
        rw [hnl, hcs, t1, ← Nat.add_mul]
        exact Nat.mul_le_mul_right _ hroom
       have hrun := run_apl_room (P := P) (w := w) (m := q) (k := k) o.type ht htn hti hz (by rw [hcz, t1]) (by rw [← hnews0]; exact hone) b m cap cs hb hq0 (by omega) hq48 (by omega) hroom (by rw [← hnews0]; exact hfit)
       rw [← hnews0] at hrun
       rw [t1] at hrun
       generalize hcc : (cs.toList.take (m * e') ++ news ++ cs.toList.drop (m * e' + news.length)).toArray = cc at hrun
       have hsz : (w.setRow b cc).heap.size = w.heap.size := by simp [World.setRow]
       have hmono : ∀ {p : V} {u : Value}, Rep w (okI w0 ok0 w loc) p u → Rep (w.setRow b cc) (okI w0 ok0 (w.setRow b cc) loc) p u := by
        intro p u h
        refine h.mono fun b' hb' => ⟨⟨hb'.1, by rw [hsz]; exact hb'.2.1, hb'.2.2⟩, setRow_other w b b' _ fun e => hb'.2.2 _ _ g1 (by rw [e]; rfl)⟩
       have hokeq : okI w0 ok0 (w.setRow b cc) loc = okI w0 ok0 w loc := by funext b'; simp only [okI, hsz]
       have hheap : (w.setRow b cc).heap[b]? = some (.cells cc el' (0, 0)) := setRow_heap w b cs _ _ _ hb
       have hccs : cc.size = cap * e' := by
        rw [← hcc]
        simp only [List.size_toArray, List.length_append, htl, List.length_drop, hnl, Array.length_toList, hcs]
        rw [t1, hnl, hcs] at hfit
        omega
       have hrows : ∀ i j x p, (xs ++ ys)[i]? = some x → x[j]? = some p → ∃ u, cc[i * e' + j]? = some u ∧ Rep (w.setRow b cc) (okI w0 ok0 (w.setRow b cc) loc) p u := by
        intro i j x p h1 h2
        obtain ⟨u, hu, hr'⟩ := rows_app (w := w) k3 (by omega) htl hold hnr (cs.toList.drop (m * e' + news.length)) i j x p (by rw [htx]; exact h1) h2
        exact ⟨u, by rw [← hcc]; simpa using hu, hmono hr'⟩
       have I1 : Inv n Γ w0 ok0 loc st a (w.setRow b cc) := by
        have h := I.upd g1 rfl (w.setRow b cc) rfl rfl rfl hsz (fun b' h => setRow_other w b b' _ h) (.rows el' e' xs) ⟨rfl, rfl, k1, k2, k3, cc, hheap, hccs, fun i j x p h1 h2 => by
         obtain ⟨u, hu, hr'⟩ := hrows i j x p (by rw [List.getElem?_append_left (List.getElem?_eq_some_iff.1 h1).1]; exact h1) h2
         rw [hokeq] at hr'
         exact ⟨u, hu, hr'⟩⟩
        have hl : look st.hp = look ((s, Blk.rows el' e' xs) :: st.hp) := by
         funext q
         simp only [look]
         split
         ·rename_i e; rw [← e]; exact hq
         ·rfl
        exact h.congr0 (hp := st.hp) hl
       obtain ⟨loc', j1, j2⟩ := I1.kept (s := s) hs64 (zs := xs ++ ys) (cap := cap) hheap (hbok hsz) (fun x hx => by
        rcases List.mem_append.1 hx with h | h
        ·exact k3 x h
        ·exact hlen x h) (by rw [List.length_append]; omega) hrows
       refine ⟨_, _, loc', hexec _ _ (by rw [g3, hyv]; exact hrun), j1, ?_⟩
       rw [List.length_append, ← hm, hyl] at j2
       exact j2
      ·have hholds : ∀ (j : Nat) u, (cs.toList.take (m * e'))[j]? = some u → w.cell? ((⟨b, 0, none⟩ : Addr).add j) = some u := by
        intro j u hu
        rw [Addr.add_lit, Nat.zero_add, cell_of_row w b j cs _ (0, 0) hb]
        rw [List.getElem?_take] at hu
        split at hu
        ·simpa using hu
        ·cases hu
       have hrun := run_apl_grow (P := P) (w := w) (m := q) (k := k) o.type ht htn hti hz ⟨b, 0, none⟩ m cap (cs.toList.take (m * e')) (by rw [htl, t1]) hholds hq0 (by omega) hq48 (by omega) (by omega) (by rw [t2]; exact growslice_fits (by omega) hbytes)
       rw [← hnews0] at hrun
       have hge := grownCap_ge w (m + q) cap el'
       generalize grownCap w (m + q) cap el' = cap' at hrun hge
       generalize hcells : ((cs.toList.take (m * e')).toArray ++ news.toArray ++ Builtin.zeroCells z.cells (cap' - (m + q))) = cells at hrun
       have hcl : cells.toList = cs.toList.take (m * e') ++ news ++ (Builtin.zeroCells z.cells (cap' - (m + q))).toList := by rw [← hcells]; simp
       have hB : Below w.heap.size w (w.drew.alloc (.cells cells el')) := (Below.refl _ w).drew.alloc (Nat.le_refl _) _
       have hlt : w.heap.size < (w.drew.alloc (.cells cells el')).heap.size := by show _ < (w.heap.push _).size; simp
       have hmono : ∀ {p : V} {u : Value}, Rep w (okI w0 ok0 w loc) p u → Rep (w.drew.alloc (.cells cells el')) (okI w0 ok0 (w.drew.alloc (.cells cells el')) loc) p u := by
        intro p u h
        exact h.mono fun b' hb' => ⟨⟨hb'.1, by have := hb'.2.1; omega, hb'.2.2⟩, heap_alloc_old w.drew _ b' hb'.2.1⟩
       obtain ⟨loc', j1, j2⟩ := (hgrow hB).kept (s := s) hs64 (zs := xs ++ ys) (cap := cap') (heap_alloc_new w.drew _) (hnewok hlt) (fun x hx => by
        rcases List.mem_append.1 hx with h | h
        ·exact k3 x h
        ·exact hlen x h) (by rw [List.length_append]; omega) (fun i j x p h1 h2 => by
        obtain ⟨u, hu, hr'⟩ := rows_app (w := w) k3 (by omega) htl hold hnr (Builtin.zeroCells z.cells (cap' - (m + q))).toList i j x p (by rw [htx]; exact h1) h2
        rw [← hcl] at hu
        exact ⟨u, by simpa using hu, hmono hr'⟩)
       refine ⟨_, _, loc', hexec _ _ (by rw [g3, hyv]; exact hrun), j1, ?_⟩
       rw [List.length_append, ← hm, hyl] at j2
       exact j2
    ·have hxs : xs = [] := I.hp.blk _ _ _ g1 hq
     subst hm0
     subst hxs
     by_cases h0 : ys = []
     ·exfalso; rw [h0] at hyl; simp at hyl; omega
     ·skip
      have hys : 0 < q := hq0
      rw [Nat.zero_add] at hbytes
      have hrun := Lib.run_append_nil_zeros w t tn o.type el' ti z k kn ht htn hti hz q hq0 (by omega) (by omega) hq48
      rw [show Builtin.zeroCells z.cells q = news.toArray by rw [hnews0]] at hrun
      have hge := grownCap_ge w q 0 el'
      generalize grownCap w q 0 el' = cap' at hrun hge
      generalize hcells : (news.toArray ++ Builtin.zeroCells z.cells (cap' - q)) = cells at hrun
      have hcl : cells.toList = [] ++ news ++ (Builtin.zeroCells z.cells (cap' - q)).toList := by rw [← hcells]; simp
      have hB : Below w.heap.size w (w.drew.alloc (.cells cells el')) := (Below.refl _ w).drew.alloc (Nat.le_refl _) _
      have hlt : w.heap.size < (w.drew.alloc (.cells cells el')).heap.size := by show _ < (w.heap.push _).size; simp
      have hmono : ∀ {p : V} {u : Value}, Rep w (okI w0 ok0 w loc) p u → Rep (w.drew.alloc (.cells cells el')) (okI w0 ok0 (w.drew.alloc (.cells cells el')) loc) p u := by
       intro p u h
       exact h.mono fun b' hb' => ⟨⟨hb'.1, by have := hb'.2.1; omega, hb'.2.2⟩, heap_alloc_old w.drew _ b' hb'.2.1⟩
      obtain ⟨loc', j1, j2⟩ := (hgrow hB).kept (s := s) hs64 (zs := [] ++ ys) (cap := cap') (heap_alloc_new w.drew _) (hnewok hlt) (fun x hx => hlen x (by simpa using hx)) (by rw [List.nil_append, hyl]; exact hge) (fun i j x p h1 h2 => by
       obtain ⟨u, hu, hr'⟩ := rows_app (w := w) (n := 0) (xs := []) (ys := ys) (cs1 := []) (cs2 := news) (e := e') (fun x hx => by cases hx) (Nat.le_refl _) (by simp) (fun i j x p hi => absurd hi (Nat.not_lt_zero _)) hnr (Builtin.zeroCells z.cells (cap' - q)).toList i j x p h1 h2
       rw [← hcl] at hu
       exact ⟨u, by simpa using hu, hmono hr'⟩)
      rw [show ([] ++ ys : List (List V)).length = q by rw [List.nil_append, hyl]] at j2
      exact ⟨_, _, loc', hexec _ _ (by rw [g3, hyv]; exact hrun), j1, j2⟩
   ·cases he
  ·cases he
 ·cases he
theorem o_mkp (I : Inv n Γ w0 ok0 loc st a w) {t : TypeId} {x : Operand} {x' : X} (ho : o.op = .makeInterface t x) (ht : ifT P t false = true) (hx : xok x x' = true)
  {d : Nat} {s' : S} {st' : St} (he : evE E d st (.mkp t x') = some (s', st')) :
  ∃ v w' loc', (execOp a.eval o).run P w = .ok (.value v) w' ∧ Inv n Γ w0 ok0 loc' st' a w' ∧ RS w' (okI w0 ok0 w' loc') loc' s' v := by
 simp only [evE] at he
 split at he
 ·rename_i s0 i0 j0 ex0
  obtain ⟨loc1, I1⟩ := Inv.freezes (blkMents (look st.hp) [s0]) I
  generalize freezes (blkMents (look st.hp) [s0]) st = st1 at he I1
  split at he
  ·rename_i s ex
   split at he
   ·rename_i vs hq
    split at he
    ·rename_i hc
     obtain ⟨hs64, hm⟩ := hc
     cases he
     have hg : GOk w (okI w0 ok0 w loc1) loc1 a (look st1.sl) := I1.gok fun _ _ h => h
     have hxv : RV w (okI w0 ok0 w loc1) loc1 (.ref s 0 0) (a.eval x) := xok_rs hx hg ex
     have hloc : ∀ t l, (if t = s then none else loc1 t) = some l → t ≠ s ∧ loc1 t = some l := by
      intro t l h
      split at h
      ·cases h
      ·exact ⟨‹_›, h⟩
     have hok : ∀ b, okI w0 ok0 w loc1 b → okI w0 ok0 w (fun t => if t = s then none else loc1 t) b := fun b h => ⟨h.1, h.2.1, fun t l ht => h.2.2 t l (hloc t l ht).2⟩
     have hs : ∀ l b, loc1 s = some l → l.blk = some b → okI w0 ok0 w (fun t => if t = s then none else loc1 t) b := by
      intro l b h1 h2
      have h3 := I1.hp.lo s l b h1 h2
      exact ⟨h3.1.elim (fun h => .inl (I1.oko b h)) .inr, h3.2, fun t m ht hm => (hloc t m ht).1 (I1.hp.inj t s m l b (hloc t m ht).2 h1 hm h2)⟩
     have hfz := hxv.frz I1 hok hs
     rw [hq] at hfz
     have hvf : V.frz s (some (.box vs)) (.ref s 0 0) = .ptr vs := by
      simp only [V.frz, if_true]
      rw [if_pos ⟨trivial, hm⟩, List.drop_zero]
     rw [hvf] at hfz
     refine ⟨.iface t (a.eval x), w, _, ?_, I1.freeze1 s (by omega), ?_⟩
     ·unfold execOp
      rw [ho]
      simp [run_mki ht]
     ·show Rep _ _ (.ifc t (.ptr vs)) _
      exact .ifc hfz
    ·cases he
   ·cases he
  ·cases he
 ·cases he
theorem freeze_heap (w : World) (b m : Nat) (cs : Array Value) (el : TypeId) (h : w.heap[b]? = some (.cells cs el (0, 0))) : (w.freeze ⟨b, m, none⟩ 1).heap[b]? = some (.cells cs el (m, m + 1)) := by
 unfold World.freeze
 rw [if_neg (by decide)]
 show (w.heap.modify b _)[b]? = _
 rw [Array.getElem?_modify, if_pos rfl, h]
 rfl
theorem freeze_other (w : World) (b m k : Nat) (h : k ≠ b) : (w.freeze ⟨b, m, none⟩ 1).heap[k]? = w.heap[k]? := by
 unfold World.freeze
 rw [if_neg (by decide)]
 show (w.heap.modify b _)[k]? = _
 rw [Array.getElem?_modify, if_neg (fun e => h e.symm)]
theorem freeze_size (w : World) (b m : Nat) : (w.freeze ⟨b, m, none⟩ 1).heap.size = w.heap.size := by
 unfold World.freeze
 rw [if_neg (by decide)]
 show (w.heap.modify b _).size = _
 rw [Array.size_modify]
theorem o_cvb (I : Inv n Γ w0 ok0 loc st a w) {t el : TypeId} {x : Operand} {x' : X} (ho : o.op = .convert t t x) (ht : P.underlying t = some (.slice el)) (hu : P.underlying el = some (.int .u8)) (hx : xok x x' = true)
  {d : Nat} {s' : S} {st' : St} (he : evE E d st (.cvb x') = some (s', st')) :
  ∃ v w' loc', (execOp a.eval o).run P w = .ok (.value v) w' ∧ Inv n Γ w0 ok0 loc' st' a w' ∧ RS w' (okI w0 ok0 w' loc') loc' s' v := by
 simp only [evE] at he
 split at he
 ·rename_i s m ex
  split at he
  ·rename_i el' e' xs hq
   split at he
   ·rename_i hc
    obtain ⟨hm, hpos⟩ := hc
    cases he
    have hg : GOk w (okI w0 ok0 w loc) loc a (look st.sl) := I.gok fun _ _ h => h
    have hxv : RV w (okI w0 ok0 w loc) loc (.sl s 0 m) (a.eval x) := xok_rs hx hg ex
    rcases hxv with ⟨b, el2, e2, cap, g1, g2, g3⟩ | ⟨g1, _, hm0, g3⟩
    ·obtain ⟨e1, e2', k1, k2, k3, cs, hb, hcs, hr⟩ := I.hp.blk _ _ _ g1 hq
     subst e1; subst e2'
     rw [Nat.zero_mul, Nat.sub_zero] at g3
     have hsh : w.shape? b = some (el', cs.size) := by simp [World.shape?, hb]
     have hrun : (execOp a.eval o).run P w = .ok (.value (.slice (some ⟨b, 0, none⟩) m cap)) (w.freeze ⟨b, cs.size, none⟩ 1) := by
      unfold execOp
      rw [ho]
      simp [convert, run_underlying ht, run_underlying hu, g3, markStringish, hsh, Result.andThen]
     have hsz := freeze_size w b cs.size
     have I1 := I.appd (l' := .virt) g1 (fun _ h => by cases h) (w.freeze ⟨b, cs.size, none⟩ 1) rfl rfl rfl (by rw [hsz]; exact Nat.le_refl _) (fun b' h => by cases h) (fun k _ hk => freeze_other w b cs.size k fun e => hk (by rw [e]; rfl)) (.rows el' e' []) rfl
     refine ⟨_, _, _, hrun, I1, ?_⟩
     have hlo := I.hp.lo s _ b g1 rfl
     have hbok : okI w0 ok0 (w.freeze ⟨b, cs.size, none⟩ 1) (loc.set s .virt) b := by
      refine ⟨hlo.1.elim (fun h => .inl (I.oko b h)) .inr, by rw [hsz]; exact hlo.2, fun q l hq' hl => ?_⟩
      by_cases hqs : q = s
      ·subst hqs; rw [set_same] at hq'; cases hq'; cases hl
      ·rw [set_other _ _ hqs] at hq'
       exact hqs (I.hp.inj q s l _ b hq' g1 hl rfl)
     have hok : ∀ c, okI w0 ok0 w loc c → okI w0 ok0 (w.freeze ⟨b, cs.size, none⟩ 1) (loc.set s .virt) c ∧ (w.freeze ⟨b, cs.size, none⟩ 1).heap[c]? = w.heap[c]? := by
      intro c h
      refine ⟨⟨h.1, by rw [hsz]; exact h.2.1, fun q l hq' hl => ?_⟩, freeze_other w b cs.size c fun e => h.2.2 _ _ g1 (by rw [e]; rfl)⟩
      by_cases hqs : q = s
      ·subst hqs; rw [set_same] at hq'; cases hq'; cases hl
      ·rw [set_other _ _ hqs] at hq'
       exact h.2.2 q l hq' hl
     show Rep _ _ (.row xs) _
     refine .row (fun i j => (cs[i * e' + j]?).getD Go.undef) hm.symm hpos (by omega) hbok k3 (fun i j x p h1 h2 => ?_) (fun i j x p h1 h2 => ?_)
     ·obtain ⟨u, hu', _⟩ := hr i j x p h1 h2
      rw [Addr.add_lit, Nat.zero_add, cell_of_row _ b _ cs _ _ (freeze_heap w b cs.size cs _ hb), hu']
      rfl
     ·obtain ⟨u, hu', hq'⟩ := hr i j x p h1 h2
      rw [hu']
      exact hq'.mono hok
    ·omega
   ·cases he
  ·cases he
 ·cases he
end
end Go.Proofs.YtdflglehippoiaaGreatDoorR
namespace Go.Proofs.YtdflglehippoiaaGreatDoorR
open Go Go.RowKit

def dstOk (n : Nat) : Option Tmp → Option Nat → Bool
 | none, none => true
 | some d, some d' => d == d' && decide (d < n)
 | _, _ => false
def guardOk (ops : List Oper) : Option (Nat × Bool) → Option (Nat × Bool) → Bool
 | none, none => true
 | some (j, want), some (t, want') => want == want' && (match ops[j]? with | some o => (match o.dst with | some d => d == t | none => false) | none => false)
 | _, _ => false
def chkO (P : Program) (n : Nat) (ops : List Oper) (o : Oper) (io : IO) : Bool := chk P o.op io.i && dstOk n o.dst io.dst && guardOk ops o.guard io.guard
def chkL (P : Program) (n : Nat) (ops : List Oper) : List Oper → List IO → Bool
 | [], [] => true
 | o :: r, io :: q => chkO P n ops o io && chkL P n ops r q
 | _, _ => false

section
variable {P : Program} {n : Nat} {Γ : Ent} {w0 : World} {ok0 : Nat → Prop} {loc : Locs} {st st' : St} {a : Act} {w : World} {o : Oper} {io : IO} {E : Nat → Model}

theorem dstOk_spec (h : dstOk n o.dst io.dst = true) : io.dst = o.dst ∧ ∀ t, o.dst = some t → t < n := by
 unfold dstOk at h
 split at h
 ·rename_i h1 h2; exact ⟨by rw [h1, h2], fun t ht => by rw [h1] at ht; cases ht⟩
 ·rename_i d d' h1 h2
  simp only [Bool.and_eq_true, beq_iff_eq, decide_eq_true_eq] at h
  obtain ⟨rfl, h3⟩ := h
  exact ⟨by rw [h1, h2], fun t ht => by rw [h1] at ht; cases ht; exact h3⟩
 ·cases h

theorem Inv.undef (I : Inv n Γ w0 ok0 loc st a w) (d : Option Nat) (hd : ∀ t, d = some t → t < n) : Inv n Γ w0 ok0 loc (st.put d .undef) (a.put d Go.undef) w := I.val d hd .undef Go.undef rfl

theorem eff_ok (hE : ∀ f, Sound P f (E f)) (I : Inv n Γ w0 ok0 loc st a w) (hc : chk P o.op io.i = true) (heff : io.i.eff = true) (hdst : io.dst = o.dst) (hd : ∀ t, o.dst = some t → t < n) {r : S × St} (he : evE E (io.dst.getD 0) st io.i = some r) {next : Act → World → Prop} {Q : Exit → Act → World → Prop}
  (hn : ∀ a' w' loc', Inv n Γ w0 ok0 loc' (r.2.put io.dst r.1) a' w' → next a' w') : o.wp P a w next Q := by
 obtain ⟨v, st1⟩ := r
 rw [hdst] at hn
 generalize io.i = i at hc heff he
 cases i with
 | app el e by_ x y =>
  simp only [chk] at hc
  split at hc
  ·rename_i c hop
   split at hc
   ·rename_i x0 y0 t t' q1 q2 q3
    simp only [Bool.and_eq_true, beq_iff_eq] at hc
    obtain ⟨⟨⟨⟨rfl, h1⟩, h2⟩, h3⟩, h4⟩ := hc
    have hce : c = { callee := .builtin .append, args := #[x0, y0], argTypes := #[t, t] } := by
     obtain ⟨c1, c2, c3⟩ := c
     simp only at q1 q2 q3
     subst q1
     congr 1
     ·exact Array.toList_inj.1 (by simpa using q2)
     ·exact Array.toList_inj.1 (by simpa using q3)
    subst hce
    obtain ⟨u, w', loc', g1, g2, g3⟩ := o_app I hop (sliceT_spec h1) h2 h3 h4 he
    unfold Oper.wp
    rw [g1, Oper.upon_value]
    exact hn _ _ _ (g2.val o.dst hd v u g3)
   ·cases hc
  ·cases hc
 | apk el e by_ x y =>
  simp only [chk] at hc
  split at hc
  ·rename_i c hop
   split at hc
   ·rename_i x0 y0 t t' q1 q2 q3
    simp only [Bool.and_eq_true, beq_iff_eq] at hc
    obtain ⟨⟨⟨⟨rfl, h1⟩, h2⟩, h3⟩, h4⟩ := hc
    have hce : c = { callee := .builtin .append, args := #[x0, y0], argTypes := #[t, t] } := by
     obtain ⟨c1, c2, c3⟩ := c
     simp only at q1 q2 q3
     subst q1
     congr 1
     ·exact Array.toList_inj.1 (by simpa using q2)
     ·exact Array.toList_inj.1 (by simpa using q3)
    subst hce
    obtain ⟨u, w', loc', g1, g2, g3⟩ := o_apk I hop (sliceT_spec h1) h2 h3 h4 he
    unfold Oper.wp
    rw [g1, Oper.upon_value]
    exact hn _ _ _ (g2.val o.dst hd v u g3)
   ·cases hc
  ·cases hc
 | apl el e by_ zs x m =>
  simp only [chk] at hc
  split at hc
  ·rename_i c hop
   split at hc
   ·rename_i x0 y0 t t' q1 q2 q3
    simp only [Bool.and_eq_true, decide_eq_true_eq] at hc
    obtain ⟨⟨⟨⟨⟨h1, h2⟩, h3⟩, h4⟩, h5⟩, h6⟩ := hc
    have hce : c = { callee := .builtin .append, args := #[x0, y0], argTypes := #[t, t'] } := by
     obtain ⟨c1, c2, c3⟩ := c
     simp only at q1 q2 q3
     subst q1
     congr 1
     ·exact Array.toList_inj.1 (by simpa using q2)
     ·exact Array.toList_inj.1 (by simpa using q3)
    subst hce
    split at h1
    ·rename_i kn ht'
     obtain ⟨u, w', loc', g1, g2, g3⟩ := o_apl I hop (sliceT_spec h2) ht' h3 h4 h5 h6 he
     unfold Oper.wp
     rw [g1, Oper.upon_value]
     exact hn _ _ _ (g2.val o.dst hd v u g3)
    ·cases h1
   ·cases hc
  ·cases hc
 | mkp t x =>
  simp only [chk] at hc
  split at hc
  ·rename_i t0 x0 hop
   simp only [Bool.and_eq_true, beq_iff_eq] at hc
   obtain ⟨⟨rfl, h1⟩, h2⟩ := hc
   obtain ⟨u, w', loc', g1, g2, g3⟩ := o_mkp I hop h1 h2 he
   unfold Oper.wp
   rw [g1, Oper.upon_value]
   exact hn _ _ _ (g2.val o.dst hd v u g3)
  ·cases hc
 | cvb x =>
  simp only [chk] at hc
  split at hc
  ·rename_i t t' x0 hop
   simp only [Bool.and_eq_true, beq_iff_eq] at hc
   obtain ⟨⟨rfl, h1⟩, h2⟩ := hc
   split at h1
   ·rename_i el ht
    split at h1
    ·rename_i hu
     obtain ⟨u, w', loc', g1, g2, g3⟩ := o_cvb I hop ht hu h2 he
     unfold Oper.wp
     rw [g1, Oper.upon_value]
     exact hn _ _ _ (g2.val o.dst hd v u g3)
    ·cases h1
   ·cases h1
  ·cases hc
 | clr el e x =>
  simp only [chk] at hc
  split at hc
  ·rename_i c hop
   split at hc
   ·rename_i x0 t q1 q2 q3
    simp only [Bool.and_eq_true] at hc
    obtain ⟨⟨h1, h2⟩, h3⟩ := hc
    have hce : c = { callee := .builtin .clear, args := #[x0], argTypes := #[t] } := by
     obtain ⟨c1, c2, c3⟩ := c
     simp only at q1 q2 q3
     subst q1
     congr 1
     ·exact Array.toList_inj.1 (by simpa using q2)
     ·exact Array.toList_inj.1 (by simpa using q3)
    subst hce
    have ht := sliceT_spec h1
    have hexec : ∀ v w', (Builtin.clear_ #[t] o.type #[a.eval x0]).run P w = .ok v w' → (execOp a.eval o).run P w = .ok (.value v) w' := by
     intro v w' h
     unfold execOp
     rw [hop]
     simp [resolve, invoke, builtin, h]
    have hG : GOk w (okI w0 ok0 w loc) loc a (look st.sl) := I.gok fun _ _ h => h
    have htup : ∀ {w' : World} {ok : Nat → Prop} {loc' : Locs}, RS w' ok loc' (.tup []) (.tuple #[]) := ⟨#[], rfl, rfl, fun j s u g1 => by simp at g1⟩
    have hnil : ∀ A cc, a.eval x0 = .slice A 0 cc → (Builtin.clear_ #[t] o.type #[a.eval x0]).run P w = .ok (.tuple #[]) w := by
     intro A cc hx
     rw [hx]
     cases A <;> simp [Builtin.clear_, run_underlying ht]
    simp only [evE] at he
    split at he
    ·rename_i hx
     cases he
     have hr : Rep w (okI w0 ok0 w loc) (.row []) (a.eval x0) := xok_rs h3 hG hx
     generalize hz : a.eval x0 = z at hr
     cases hr with
     | row0 A cc =>
      unfold Oper.wp
      rw [hexec _ _ (hnil A cc hz), Oper.upon_value]
      exact hn _ _ _ (I.val o.dst hd _ _ htup)
     | row u hn0 hne => simp at hn0; omega
    ·rename_i s off len hx
     split at he
     ·rename_i el' e' xs hq
      split at he
      ·rename_i hcond
       obtain ⟨rfl, rfl, hlen⟩ := hcond
       cases he
       have hxv : RV w (okI w0 ok0 w loc) loc (.sl s off len) (a.eval x0) := xok_rs h3 hG hx
       rcases hxv with ⟨b, el2, e2, cap, g1, g2, g3⟩ | ⟨g1, rfl, rfl, g4⟩
       ·obtain ⟨e1, e2', k1, k2, k3, cs, hb, hcs, hr⟩ := I.hp.blk _ _ _ g1 hq
        subst e1; subst e2'
        have hroom : off * e' + len * e' ≤ cs.size := by
         rw [hcs, ← Nat.add_mul]
         exact Nat.mul_le_mul_right e' g2
        by_cases h0 : len = 0
        ·subst h0
         unfold Oper.wp
         rw [hexec _ _ (hnil _ _ g3), Oper.upon_value]
         have hI := I.upd g1 rfl w rfl rfl rfl rfl (fun _ _ => rfl) (.rows el' e' (xs.take off)) ⟨rfl, rfl, k1, by rw [List.length_take]; omega, fun x hx => k3 x (List.mem_of_mem_take hx), cs, hb, hcs, fun i j x p a1 a2 => by
          rw [List.getElem?_take] at a1
          split at a1
          ·exact hr i j x p a1 a2
          ·cases a1⟩
         exact hn _ _ _ (hI.val o.dst hd _ _ htup)
        ·unfold clrT at h2
         split at h2
         case h_2 => cases h2
         rename_i ti hti
         simp only [Bool.and_eq_true, beq_iff_eq] at h2
         obtain ⟨h4, h5⟩ := h2
         split at h5
         case h_2 => cases h5
         rename_i z hz
         simp only [Bool.and_eq_true, beq_iff_eq, List.all_eq_true] at h5
         obtain ⟨h6, h7⟩ := h5
         have hzv : (zeroValue el').run P w = .ok z w := by simp [zeroValue, typeInfo, hti, hz]
         have hsz : (Builtin.zeroCells z.cells len).toList.length = len * e' := by rw [Array.length_toList, size_zeroCells, h6]
         have hone : ∀ c ∈ (Builtin.zeroCells z.cells len).toList, c.oneCell' = true := by
          intro c hc
          unfold Builtin.zeroCells at hc
          rw [Array.toList_map, List.mem_map] at hc
          obtain ⟨q, hq, rfl⟩ := hc
          have hpos : 0 < z.cells.size := by
           rcases Nat.eq_zero_or_pos z.cells.size with h | h
           ·rw [h] at hq; simp at hq
           ·exact h
          have hlt : q % z.cells.size < z.cells.size := Nat.mod_lt _ hpos
          rw [getElem!_pos z.cells _ hlt]
          exact h7 _ (by simp)
         have hst := run_storeCells_at P b (off * e') el' (Builtin.zeroCells z.cells len).toList 0 cs w hb (by rw [hsz]; omega) hone
         rw [Nat.add_zero] at hst
         have hrun : (Builtin.clear_ #[t] o.type #[a.eval x0]).run P w = .ok (.tuple #[]) (w.setRow b (cs.toList.take (off * e') ++ (Builtin.zeroCells z.cells len).toList ++ cs.toList.drop (off * e' + (Builtin.zeroCells z.cells len).toList.length)).toArray) := by
          rw [g3]
          obtain ⟨m, rfl⟩ : ∃ m, len = m + 1 := ⟨len - 1, by omega⟩
          simp [Builtin.clear_, run_underlying ht, hzv, hst]
         unfold Oper.wp
         rw [hexec _ _ hrun, Oper.upon_value]
         have hlo := I.hp.lo _ _ b g1 rfl
         have hI := set_one I g1 rfl cs el' hb (cs.toList.take (off * e') ++ (Builtin.zeroCells z.cells len).toList ++ cs.toList.drop (off * e' + (Builtin.zeroCells z.cells len).toList.length)).toArray (.rows el' e' (xs.take off)) ⟨rfl, rfl, k1, by rw [List.length_take]; omega, fun x hx => k3 x (List.mem_of_mem_take hx), _, setRow_heap w b cs _ el' _ hb, by
          have hcl : cs.toList.length = cap * e' := by simp [hcs]
          rw [hcs] at hroom
          rw [List.size_toArray, List.length_append, List.length_append, List.length_take, List.length_drop, hsz, hcl]
          omega, fun i j x p a1 a2 => by
          rw [List.getElem?_take] at a1
          split at a1
          ·rename_i hi
           obtain ⟨u, hu, hr'⟩ := hr i j x p a1 a2
           have hj : j < e' := by rw [← k3 x (List.mem_of_getElem? a1)]; exact (List.getElem?_eq_some_iff.1 a2).1
           have hlt := idx_lt hi hj
           refine ⟨u, ?_, hr'.mono fun b' hb' => ⟨hb', setRow_other w b b' _ fun e => hb'.2.2 _ _ g1 (by rw [e]; rfl)⟩⟩
           rw [List.getElem?_toArray, List.append_assoc, List.getElem?_append_left (by rw [List.length_take, Array.length_toList]; omega), List.getElem?_take, if_pos hlt]
           simpa using hu
          ·cases a1⟩
         exact hn _ _ _ (hI.val o.dst hd _ _ htup)
       ·unfold Oper.wp
        rw [hexec _ _ (hnil none 0 g4), Oper.upon_value]
        have hB := I.hp.blk _ _ _ g1 hq
        have hxs : xs = [] := hB
        subst hxs
        have hI : Inv n Γ w0 ok0 loc { st with hp := (s, .rows el' e' ([] : List (List V))) :: st.hp } a w := by
         refine I.congr0 ?_
         funext q
         simp only [look]
         split
         ·rename_i e; subst e; exact hq.symm
         ·rfl
        exact hn _ _ _ (hI.val o.dst hd _ _ htup)
      ·cases he
     ·cases he
    ·cases he
   ·cases hc
  ·cases hc
 | callo f as =>
  simp only [chk] at hc
  split at hc
  ·rename_i c hop
   split at hc
   ·rename_i f0 hcal
    simp only [Bool.and_eq_true, beq_iff_eq] at hc
    obtain ⟨rfl, h1⟩ := hc
    simp only [evE] at he
    split at he
    ·rename_i ss hss
     have hG : GOk w (okI w0 ok0 w loc) loc a (look st.sl) := I.gok fun _ _ h => h
     obtain ⟨k1, k2⟩ := evs_rs hG h1 hss
     refine o_callo hE I (vs := (c.args.map a.eval)) (fun hfn => ?_) (by simp [k1]) (fun j s u b1 b2 => k2 j s u b1 (by simpa using b2)) he hd (fun x w' loc' hI => hn _ _ _ hI)
     unfold execOp
     rw [hop]
     simp only [resolve, hcal, Act.eval, Deferred.ofValue, Sem.run_bind, Sem.run_pure, Result.andThen_ok, invoke]
     have := run_callFunc hfn (c.args.map a.eval) w
     simpa using this
    ·cases he
   ·cases hc
  ·cases hc
 | _ => cases heff

theorem vG_le (fb : List Nat) (st : St) (t : Nat) (s : S) (h : vG fb st t = some s) : look st.sl t = some s := by
 unfold vG at h
 split at h
 ·cases h
 ·exact h
theorem vH_le (fb : List Nat) (st : St) (t : Nat) (s : Blk) (h : vH fb st t = some s) : look st.hp t = some s := by
 unfold vH at h
 split at h
 ·cases h
 ·exact h

theorem guard_ok (I : Inv n Γ w0 ok0 loc st a w) {ops : Array Oper} {t : Nat} {want : Bool} (hg : guardOk ops.toList o.guard (some (t, want)) = true) {s : S} (hs : look st.sl t = some s) :
  (∀ b, s = .one (.bool b) → Region.wanted o (yielded ops a.tmps) = (b == want)) ∧ (s = .undef → Region.wanted o (yielded ops a.tmps) = false) := by
 unfold guardOk at hg
 split at hg
 ·rename_i h1 h2; cases h2
 ·rename_i j want' t' want'' h1 h2
  cases h2
  simp only [Bool.and_eq_true, beq_iff_eq] at hg
  obtain ⟨rfl, hg⟩ := hg
  split at hg
  ·rename_i q hq
   split at hg
   ·rename_i d hd
    simp only [beq_iff_eq] at hg
    subst hg
    obtain ⟨hlt, hr⟩ := I.sl d s hs
    have hlt' : d < a.tmps.size := by rw [I.sz]; exact hlt
    have hq' : ops[j]? = some q := by simpa using hq
    have hv : a.tmps[d]? = some (a.tmps.getD d undef) := by simp [hlt']
    refine ⟨fun b hb => ?_, fun hb => ?_⟩
    ·subst hb
     have hbv := rs_bool hr
     rw [hbv] at hv
     simp [Region.wanted, h1, yielded, hq', hd, hv]
    ·subst hb
     have hbv : a.tmps.getD d undef = undef := hr
     rw [hbv] at hv
     simp [Region.wanted, h1, yielded, hq', hd, hv, undef]
   ·cases hg
  ·cases hg
 ·cases hg

theorem step_ok (hE : ∀ f, Sound P f (E f)) (I : Inv n Γ w0 ok0 loc st a w) {ops : Array Oper} (hc : chkO P n ops.toList o io = true) (hs : step E io st = some st') {next : Act → World → Prop} {Q : Exit → Act → World → Prop} (hn : ∀ a' w' loc', Inv n Γ w0 ok0 loc' st' a' w' → next a' w') :
  if Region.wanted o (yielded ops a.tmps) = true then o.wp P a w next Q ∨ (o.asks P a w ∧ LetsOut Q) else next (a.put o.dst undef) w := by
 unfold chkO at hc
 simp only [Bool.and_eq_true] at hc
 obtain ⟨⟨h1, h2⟩, h3⟩ := hc
 obtain ⟨hdst, hd⟩ := dstOk_spec h2
 have hskip : ∀ {s}, some (st.put io.dst .undef) = some s → s = st' → next (a.put o.dst undef) w := by
  intro s hs' he
  cases hs'
  subst he
  rw [hdst] at hn
  exact hn _ _ _ (I.undef o.dst hd)
 unfold step at hs
 split at hs
 ·rename_i heff
  have hgo : (evE E (io.dst.getD 0) st io.i).map (fun r => r.2.put io.dst r.1) = some st' → o.wp P a w next Q := by
   intro he
   rw [Option.map_eq_some_iff] at he
   obtain ⟨r, he, rfl⟩ := he
   exact eff_ok hE I h1 heff hdst hd he hn
  split at hs
  ·rename_i hg
   rw [hg] at h3
   have hw : Region.wanted o (yielded ops a.tmps) = true := by
    unfold guardOk at h3
    split at h3
    ·simp [Region.wanted, ‹o.guard = none›]
    ·rename_i q2; cases q2
    ·cases h3
   rw [if_pos hw]
   exact .inl (hgo hs)
  ·rename_i t want hg
   rw [hg] at h3
   split at hs
   ·rename_i b hb
    have hw := (guard_ok (o := o) I h3 hb).1 b rfl
    by_cases hbw : b = want
    ·rw [if_pos hbw] at hs
     rw [hw, if_pos (by simp [hbw])]
     exact .inl (hgo hs)
    ·rw [if_neg hbw] at hs
     rw [hw, if_neg (by simp [hbw])]
     exact hskip hs rfl
   ·rename_i hb
    have hw := (guard_ok (o := o) I h3 hb).2 rfl
    rw [hw, if_neg (by simp)]
    exact hskip hs rfl
   ·cases hs
 ·rename_i heff
  split at hs
  ·rename_i v news hcore
   split at hs
   ·rename_i hf
    cases hs
    have hgo : ev E (io.dst.getD 0) (vG io.fb st) (vH io.fb st) io.i = some (v, news) → o.wp P a w next Q := by
     intro he
     rw [hdst] at hn
     cases hst : io.i.stk with
     | none =>
      rw [hst] at hf
      exact ev_ok hE I h1 hst (vG_le io.fb st) (vH_le io.fb st) he (by simpa using hf) hd fun x w' loc' hI => hn _ _ _ hI
     | some key =>
      generalize hii : io.i = i at h1 he hst
      cases i with
      | store key' m x y =>
       simp only [chk] at h1
       split at h1
       ·simp only [Bool.and_eq_true] at h1
        obtain ⟨w', g1, g2, g3⟩ := o_store I ‹_› h1.1.1 h1.1.2 h1.2 (vG_le io.fb st) (vH_le io.fb st) he
        unfold Oper.wp
        rw [g1, Oper.upon_skip]
        subst g2
        have := g3.undef o.dst hd
        refine hn _ _ loc ?_
        cases hq : o.dst with
        | none => rw [hq] at this; exact this
        | some d => rw [hq] at this; exact this
       ·cases h1
      | _ => cases hst
    have hsk : (v, news) = (S.undef, []) → next (a.put o.dst undef) w := by
     intro he
     cases he
     rw [hdst] at hn
     have := I.undef o.dst hd
     refine hn _ _ loc ?_
     cases hq : o.dst with
     | none => rw [hq] at this; exact this
     | some d => rw [hq] at this; exact this
    unfold core at hcore
    split at hcore
    ·rename_i hg
     rw [hg] at h3
     have hw : Region.wanted o (yielded ops a.tmps) = true := by
      unfold guardOk at h3
      split at h3
      ·simp [Region.wanted, ‹o.guard = none›]
      ·rename_i q2; cases q2
      ·cases h3
     rw [if_pos hw]
     exact .inl (hgo hcore)
    ·rename_i t want hg
     rw [hg] at h3
     split at hcore
     ·rename_i b hb
      have hw := (guard_ok (o := o) I h3 (vG_le _ _ _ _ hb)).1 b rfl
      by_cases hbw : b = want
      ·rw [if_pos hbw] at hcore
       rw [hw, if_pos (by simp [hbw])]
       exact .inl (hgo hcore)
      ·rw [if_neg hbw] at hcore
       rw [hw, if_neg (by simp [hbw])]
       exact hsk (by cases hcore; rfl)
     ·rename_i hb
      have hw := (guard_ok (o := o) I h3 (vG_le _ _ _ _ hb)).2 rfl
      rw [hw, if_neg (by simp)]
      exact hsk (by cases hcore; rfl)
     ·cases hcore
   ·cases hs
  ·cases hs

theorem steps_ok (hE : ∀ f, Sound P f (E f)) {ops : Array Oper} {Q : Exit → Act → World → Prop} : ∀ (l : List Oper) (q : List IO) (k : Nat) (st st' : St) (loc : Locs) (a : Act) (w : World), (∀ j, l[j]? = ops[k + j]?) → chkL P n ops.toList l q = true → Inv n Γ w0 ok0 loc st a w → steps E q st = some st' →
  (∀ a' w' loc', Inv n Γ w0 ok0 loc' st' a' w' → Q .normal a' w') → wpOps P ops Q (List.range' k l.length) a w
 | [], [], k, st, st', loc, a, w, hl, hc, I, hs, hn => by cases hs; exact hn _ _ _ I
 | o :: l, io :: q, k, st, st', loc, a, w, hl, hc, I, hs, hn => by
  simp only [chkL, Bool.and_eq_true] at hc
  simp only [steps] at hs
  split at hs
  ·rename_i st1 h1
   have h0 : ops[k]? = some o := by have := hl 0; simpa using this.symm
   rw [List.length_cons, List.range'_succ, wpOps_cons]
   unfold wpOp
   rw [h0]
   exact step_ok hE I hc.1 h1 fun a' w' loc' I' => steps_ok hE l q (k + 1) st1 st' loc' a' w' (fun j => by have := hl (j + 1); simpa [Nat.add_assoc, Nat.add_comm 1 j] using this) hc.2 I' hs hn
  ·cases hs
 | [], _ :: _, _, _, _, _, _, _, _, hc, _, _, _ => by cases hc
 | _ :: _, [], _, _, _, _, _, _, _, hc, _, _, _ => by cases hc
theorem region_ok (hE : ∀ f, Sound P f (E f)) {id : Nat} {ops : Array Oper} {q : List IO} {Q : Exit → Act → World → Prop} (hc : chkL P n ops.toList ops.toList q = true) (I : Inv n Γ w0 ok0 loc st a w) (hs : steps E q st = some st') (hn : ∀ a' w' loc', Inv n Γ w0 ok0 loc' st' a' w' → Q .normal a' w') :
  (Code.region id ops false).wp P Q a w := by
 refine wp_region ?_
 have h := steps_ok (ops := ops) (Q := Q) hE ops.toList q 0 st st' loc a w (fun j => by simp) hc I hs hn
 rw [List.range_eq_range', ← Array.length_toList]
 exact h
end
end Go.Proofs.YtdflglehippoiaaGreatDoorR
namespace Go.Proofs.YtdflglehippoiaaGreatDoorR
open Go Go.RowKit

structure Eqv (s t : St) : Prop where
 sl : look s.sl = look t.sl
 hp : look s.hp = look t.hp
theorem Eqv.refl (s : St) : Eqv s s := ⟨rfl, rfl⟩
theorem Eqv.symm {s t : St} (h : Eqv s t) : Eqv t s := ⟨h.sl.symm, h.hp.symm⟩
theorem Eqv.trans {s t u : St} (h : Eqv s t) (k : Eqv t u) : Eqv s u := ⟨h.sl.trans k.sl, h.hp.trans k.hp⟩

section
variable {P : Program} {n : Nat} {Γ : Ent} {w0 : World} {ok0 : Nat → Prop} {loc : Locs} {st st' : St} {a : Act} {w : World} {E : Nat → Model}

theorem Inv.congr (I : Inv n Γ w0 ok0 loc st a w) (h : Eqv st st') : Inv n Γ w0 ok0 loc st' a w :=
 ⟨I.below, I.okb, ⟨fun s => by rw [← h.hp]; exact I.hp.dom s, fun s l B h1 h2 => I.hp.blk s l B h1 (by rw [h.hp]; exact h2), I.hp.inj, I.hp.lo⟩, I.oko, I.bx, I.sz, fun t s h1 => I.sl t s (by rw [h.sl]; exact h1), I.df⟩

theorem look_cons_congr {α : Type} {l l' : List (Nat × α)} (h : look l = look l') (k : Nat) (v : α) : look ((k, v) :: l) = look ((k, v) :: l') := by
 funext s; simp only [look, h]
theorem look_app_congr {α : Type} {l l' : List (Nat × α)} (h : look l = look l') (m : List (Nat × α)) : look (m ++ l) = look (m ++ l') := by
 funext s; rw [look_append, look_append, h]
theorem Eqv.put {s t : St} (h : Eqv s t) (d : Option Nat) (v : S) : Eqv (s.put d v) (t.put d v) := by
 cases d with
 | none => exact h
 | some d => exact ⟨look_cons_congr h.sl d v, h.hp⟩
theorem fresh_congr {s t : St} (h : Eqv s t) (news : Hp) : fresh s news = fresh t news := by unfold fresh; rw [h.hp]
theorem callU_congr {s t : St} (h : Eqv s t) {d : Nat} {ns : List Nat} {q : Option (S × Hp)} {v : S} {s1 : St} (he : callU d s ns q = some (v, s1)) : ∃ t1, callU d t ns q = some (v, t1) ∧ Eqv s1 t1 := by
 cases q with
 | none => cases he
 | some p =>
  obtain ⟨r, hp⟩ := p
  simp only [callU, ← h.hp] at he ⊢
  split at he
  ·rename_i hc
   rw [if_pos hc]
   have hw : fresh ⟨[], without ns s.hp⟩ (hpBack ns d hp) = fresh ⟨[], without ns t.hp⟩ (hpBack ns d hp) := by
    unfold fresh
    congr 1
    funext p
    dsimp only
    rw [look_without, look_without, h.hp]
   rw [← hw]
   split at he
   ·rename_i hf
    cases he
    rw [if_pos hf]
    refine ⟨_, rfl, ?_, ?_⟩
    ·funext k; dsimp only; rw [look_map, look_map, h.sl]
    ·refine look_app_congr ?_ _
     funext k; rw [look_map, look_map, look_without, look_without, h.hp]
   ·cases he
  ·cases he
theorem freeze_congr {s t : St} (h : Eqv s t) (k : Nat) : Eqv (freeze k s) (freeze k t) := by
 refine ⟨?_, ?_⟩
 ·funext q
  simp only [freeze]
  rw [look_map, look_map, h.sl, h.hp]
 ·funext q
  simp only [freeze]
  rw [look_map, look_map, drop1_look, drop1_look, h.hp]
theorem freezes_congr : ∀ (l : List Nat) {s t : St}, Eqv s t → Eqv (freezes l s) (freezes l t)
 | [], s, t, h => h
 | k :: r, s, t, h => by
  unfold freezes
  split
  ·exact freezes_congr r h
  ·exact freezes_congr r (freeze_congr h k)
theorem mkp_congr {E : Nat → Model} {s t : St} (h : Eqv s t) {d ty : Nat} {x : X} {v : S} {s1 : St} (he : evE E d s (.mkp ty x) = some (v, s1)) : ∃ t1, evE E d t (.mkp ty x) = some (v, t1) ∧ Eqv s1 t1 := by
 simp only [evE] at he ⊢
 rw [← h.sl, ← h.hp]
 split at he
 ·rename_i s0 _ _ _
  have h2 := freezes_congr (blkMents (look s.hp) [s0]) h
  generalize freezes (blkMents (look s.hp) [s0]) s = q at he h2 ⊢
  generalize freezes (blkMents (look s.hp) [s0]) t = q' at he h2 ⊢
  rw [← h2.sl, ← h2.hp]
  split at he
  ·rename_i hq
   (try simp only [hq])
   split at he
   ·rename_i hq2
    (try simp only [hq2])
    split at he
    ·rename_i hc
     cases he
     rw [if_pos hc]
     exact ⟨_, rfl, freeze_congr h2 _⟩
    ·cases he
   ·cases he
  ·cases he
 ·cases he
theorem evE_congr {s t : St} (h : Eqv s t) {d : Nat} {i : I} {v : S} {s1 : St} (he : evE E d s i = some (v, s1)) : ∃ t1, evE E d t i = some (v, t1) ∧ Eqv s1 t1 := by
 cases i with
 | app el e by_ x y =>
  simp only [evE, ← h.sl, ← h.hp] at he ⊢
  split at he
  ·split at he
   ·rename_i hq hy
    (try simp only [hq, hy])
    split at he
    ·rename_i hc
     cases he
     rw [if_pos hc]
     refine ⟨_, rfl, ?_, ?_⟩
     ·funext k; rw [look_map, look_map, h.sl]
     ·refine look_cons_congr ?_ _ _
      funext k; rw [look_map, look_map, h.hp]
    ·cases he
   ·cases he
  ·cases he
 | clr el e x =>
  simp only [evE, ← h.sl, ← h.hp] at he ⊢
  split at he
  ·cases he; exact ⟨_, rfl, h⟩
  ·split at he
   ·rename_i hq
    (try simp only [hq])
    split at he
    ·rename_i hc
     cases he
     rw [if_pos hc]
     exact ⟨_, rfl, h.sl, look_cons_congr h.hp _ _⟩
    ·cases he
   ·cases he
  ·cases he
 | apk el e by_ x y =>
  simp only [evE, ← h.sl, ← h.hp] at he ⊢
  split at he
  ·split at he
   ·rename_i hq hy
    (try simp only [hq, hy])
    split at he
    ·rename_i hc
     cases he
     rw [if_pos hc]
     exact ⟨_, rfl, freeze_congr h _⟩
    ·cases he
   ·cases he
  ·cases he
 | apl el e by_ zs x m =>
  simp only [evE, ← h.sl, ← h.hp] at he ⊢
  split at he
  ·split at he
   ·rename_i hq hy
    (try simp only [hq, hy])
    split at he
    ·rename_i hc
     cases he
     rw [if_pos hc]
     exact ⟨_, rfl, freeze_congr h _⟩
    ·cases he
   ·cases he
  ·cases he
 | mkp t x => exact mkp_congr h he
 | cvb x =>
  simp only [evE, ← h.sl, ← h.hp] at he ⊢
  split at he
  ·split at he
   ·rename_i hq
    (try simp only [hq])
    split at he
    ·rename_i hc
     cases he
     rw [if_pos hc]
     refine ⟨_, rfl, ?_, ?_⟩
     ·funext k; rw [look_map, look_map, h.sl]
     ·refine look_cons_congr ?_ _ _
      funext k; rw [look_map, look_map, h.hp]
    ·cases he
   ·cases he
  ·cases he
 | callo f as =>
  simp only [evE, callS, callT, ← h.sl, ← h.hp] at he ⊢
  split at he
  ·split at he
   ·rename_i hq
    (try simp only [hq])
    exact callU_congr h he
   ·cases he
  ·cases he
 | _ => cases he
theorem vG_congr {s t : St} (h : Eqv s t) (fb : List Nat) : vG fb s = vG fb t := by funext k; unfold vG; rw [h.sl]
theorem vH_congr {s t : St} (h : Eqv s t) (fb : List Nat) : vH fb s = vH fb t := by funext k; unfold vH; rw [h.hp]
theorem step_congr {s t : St} (h : Eqv s t) {o : IO} {s1 : St} (he : step E o s = some s1) : ∃ t1, step E o t = some t1 ∧ Eqv s1 t1 := by
 unfold step at he ⊢
 split at he
 ·rename_i heff
  rw [if_pos heff]
  have hgo : (evE E (o.dst.getD 0) s o.i).map (fun r => r.2.put o.dst r.1) = some s1 → ∃ t1, (evE E (o.dst.getD 0) t o.i).map (fun r => r.2.put o.dst r.1) = some t1 ∧ Eqv s1 t1 := by
   intro h1
   rw [Option.map_eq_some_iff] at h1
   obtain ⟨⟨v, q⟩, h1, rfl⟩ := h1
   obtain ⟨q', h2, h3⟩ := evE_congr h h1
   exact ⟨_, by rw [h2]; rfl, h3.put _ _⟩
  split at he
  ·rename_i hg
   (try simp only [hg])
   exact hgo he
  ·rename_i t0 want hg
   (try simp only [hg])
   rw [← h.sl]
   split at he
   ·rename_i b hb
    (try simp only [hb])
    split at he
    ·rename_i hw; rw [if_pos hw]; exact hgo he
    ·rename_i hw; rw [if_neg hw]; cases he; exact ⟨_, rfl, h.put _ _⟩
   ·rename_i hb
    (try simp only [hb])
    cases he; exact ⟨_, rfl, h.put _ _⟩
   ·cases he
 ·rename_i heff
  rw [if_neg heff, ← vG_congr h, ← vH_congr h]
  split at he
  ·rename_i v news hc
   (try simp only [hc])
   rw [← fresh_congr h]
   split at he
   ·rename_i hf
    cases he
    rw [if_pos hf]
    exact ⟨_, rfl, ⟨(h.put _ _).sl, look_app_congr h.hp _⟩⟩
   ·cases he
  ·cases he
def stepsI (E : Nat → Model) (q : List IO) : List Nat → St → Option St
 | [], st => some st
 | i :: r, st => match q[i]? with
  | some o => match step E o st with
   | some st' => stepsI E q r st'
   | none => none
  | none => none
theorem stepsI_congr {q : List IO} : ∀ {l : List Nat} {s t s1 : St}, Eqv s t → stepsI E q l s = some s1 → ∃ t1, stepsI E q l t = some t1 ∧ Eqv s1 t1
 | [], s, t, s1, h, he => by cases he; exact ⟨t, rfl, h⟩
 | i :: r, s, t, s1, h, he => by
  simp only [stepsI] at he ⊢
  split at he
  ·rename_i o ho
   split at he
   ·rename_i s2 h2
    obtain ⟨t2, g1, g2⟩ := step_congr h h2
    obtain ⟨t1, k1, k2⟩ := stepsI_congr g2 he
    exact ⟨t1, by simp only [ho, g1]; exact k1, k2⟩
   ·cases he
  ·cases he

def keyOf (d : Nat) (i : I) : Nat := i.stk.getD d
def IO.key (o : IO) : Nat := keyOf (o.dst.getD 0) o.i
theorem keys_ev {i : I} {d : Nat} {g : Nat → Option S} {h : Nat → Option Blk} {v : S} {news : Hp} (hw : i.wild = false) (he : ev E d g h i = some (v, news)) : ∀ k B, (k, B) ∈ news → k / 64 = keyOf d i := by
  have hcall : ∀ {own f as}, callI E d h own f as = some (v, news) → ∀ k B, (k, B) ∈ news → k / 64 = d := by
    intro own f as hc
    unfold callI at hc
    split at hc
    · split at hc
      · split at hc
        · split at hc
          · split at hc
            · rename_i h64
              cases hc
              intro k B hm
              unfold Hp.ren at hm
              rw [List.mem_map] at hm
              obtain ⟨p, hp, e⟩ := hm
              cases e
              have := ok64_mem h64 (k := p.1) (B := p.2) hp
              omega
            · cases hc
          · split at hc
            · split at hc
              · cases hc; intro k B hm; cases hm
              · cases hc
            · cases hc
        · cases hc
      · cases hc
    · cases hc
  have h1 : ∀ {B' : Blk}, news = [(64 * d, B')] → ∀ k B, (k, B) ∈ news → k / 64 = d := by
    intro B' hn k B hm
    rw [hn] at hm
    simp only [List.mem_singleton, Prod.mk.injEq] at hm
    omega
  have h0 : news = [] → ∀ k B, (k, B) ∈ news → k / 64 = d := by
    intro hn k B hm
    rw [hn] at hm
    cases hm
  cases i <;> simp only [ev] at he <;> simp only [keyOf, I.stk, Option.getD_none, Option.getD_some]
  case call => split at he <;> first | exact hcall he | cases he
  case callv =>
    split at he
    · split at he
      · exact hcall he
      · cases he
    · cases he
  case nilsl el e k =>
    split at he
    · cases he
      intro q B hm
      simp only [List.mem_singleton, Prod.mk.injEq] at hm
      omega
    · cases he
  case alloc => cases he; exact h1 rfl
  case box => split at he <;> first | (cases he; exact h1 rfl) | cases he
  case bsl => split at he <;> first | (cases he; exact h1 rfl) | cases he
  case kow =>
    split at he
    · cases he; exact h1 rfl
    · cases he; exact h0 rfl
    · cases he
  case apn =>
    split at he
    · split at he
      · split at he
        · cases he; exact h1 rfl
        · cases he
      · cases he
    · cases he
  case apz =>
    split at he
    · split at he
      · cases he; exact h1 rfl
      · cases he
    · cases he
  case mks =>
    split at he
    · split at he
      · cases he; exact h1 rfl
      · cases he
    · cases he
  case store key n x y =>
    cases key with
    | none => cases hw
    | some key =>
    simp only [okKey, beq_iff_eq, Option.getD_some] at he ⊢
    split at he
    · split at he
      · rename_i hk
        split at he
        · split at he
          · cases he
            intro k B hm
            simp only [List.mem_singleton, Prod.mk.injEq] at hm
            rw [hm.1]; exact hk.2
          · cases he
        · split at he
          · split at he
            · cases he
              intro k B hm
              simp only [List.mem_singleton, Prod.mk.injEq] at hm
              rw [hm.1]; exact hk.2
            · cases he
          · cases he
        · cases he
      · cases he
    · cases he
  case app => cases he
  case clr => cases he
  case apk => cases he
  case apl => cases he
  case cvb => cases he
  case mkp => cases he
  case inv =>
    split at he
    · split at he
      · split at he
        · exact hcall he
        · cases he
      · cases he
    · cases he
  case mkz =>
    split at he
    · split at he
      · cases he; exact h1 rfl
      · cases he
    · cases he
  case callo => cases he
  case alo => cases hw
  case bxo =>
    split at he
    · split at he
      · rename_i hok
        simp only [Bool.and_eq_true, decide_eq_true_eq] at hok
        cases he
        intro k B hm
        rcases List.mem_cons.1 hm with hm | hm
        · cases hm; omega
        · have : ∀ (ps : List (Nat × Nat × Nat)) (q : Nat), (k, B) ∈ aloB d q ps → 64 * d + q ≤ k ∧ k < 64 * d + q + ps.length := by
            intro ps
            induction ps with
            | nil => intro q h; cases h
            | cons p r ih =>
              intro q h
              obtain ⟨a, b, e⟩ := p
              simp only [aloB, List.mem_cons, Prod.mk.injEq, List.length_cons] at h ⊢
              rcases h with ⟨h, _⟩ | h
              · omega
              · have := ih _ h; omega
          have := this _ _ hm
          omega
      · cases he
    · cases he
  all_goals
    refine h0 ?_
    repeat' split at he
    all_goals first
      | (cases he; done)
      | (cases he; rfl)
      | (simp only [Option.map_eq_some_iff, Prod.mk.injEq] at he
         obtain ⟨_, _, _, e⟩ := he
         exact e.symm)
theorem keys_core {o : IO} {g : Nat → Option S} {h : Nat → Option Blk} {v : S} {news : Hp} (hw : o.i.wild = false) (he : core E o g h = some (v, news)) : ∀ k B, (k, B) ∈ news → k / 64 = o.key := by
 unfold core at he
 split at he
 ·exact keys_ev hw he
 ·split at he
  ·split at he
   ·exact keys_ev hw he
   ·cases he; intro k B hm; cases hm
  ·cases he; intro k B hm; cases hm
  ·cases he

def noSee (fb : List Nat) (o : IO) : Bool := (match o.dst with | some d => fb.contains d | none => true) && fb.contains o.key
def indep0 (p i : IO) : Bool := !p.i.wild && !i.i.wild && noSee i.fb p && noSee p.fb i && !(p.key == i.key) && (match p.dst, i.dst with
 | some d, some e => !(d == e)
 | _, _ => true)
def X.no (c : Nat) : X → Bool
 | .t k => !(k == c)
 | _ => false
def X.noc (c : Nat) : X → Bool
 | .t k => !(k == c)
 | _ => true
def noX (c : Nat) : Option X → Bool
 | some x => x.noc c
 | none => true
def comm (p i : IO) : Bool := match p.dst, p.i, p.guard, i.dst, i.guard with
 | some d, .app _ _ _ x y, none, some c, none => !(d == c) && x.noc c && y.noc c && (match i.i with
  | .mov x' => x'.no d
  | .cut _ x' lo hi => x'.no d && noX d lo && noX d hi
  | .bsl _ _ _ _ qs => qs.all fun q => q.2.noc d
  | _ => false)
 | _, _, _, _, _ => false
def comm2 (p i : IO) : Bool := match p.dst, p.i, p.guard, i.dst, i.i, i.guard with
 | some c, .mov (.t k), none, some d, .app _ _ _ x y, none => !(d == c) && x.noc c && y.noc c && !(k == d)
 | _, _, _, _, _, _ => false
def comm3 (p i : IO) : Bool := match p.dst, p.i, p.guard, i.dst, i.i, i.guard with
 | some c, .ldb _ _ (.t k), none, some d, .app _ _ _ x y, none => !(d == c) && x.noc c && y.noc c && !(k == d)
 | _, _, _, _, _, _ => false
def indep (p i : IO) : Bool := indep0 p i || comm p i || comm2 p i || comm3 p i
theorem look_none_of {news : Hp} {d s : Nat} (h : ∀ k B, (k, B) ∈ news → k / 64 = d) (hs : s / 64 ≠ d) : look news s = none := by
 cases hq : look news s with
 | none => rfl
 | some B => exact absurd (h s B (look_mem _ _ _ hq)) hs
theorem see {fb : List Nat} {p : IO} (hn : noSee fb p = true) {s : St} {v : S} {news : Hp} (kp : ∀ k B, (k, B) ∈ news → k / 64 = p.key) : vG fb { sl := (s.put p.dst v).sl, hp := news ++ s.hp } = vG fb s ∧ vH fb { sl := (s.put p.dst v).sl, hp := news ++ s.hp } = vH fb s := by
 unfold noSee at hn
 simp only [Bool.and_eq_true] at hn
 constructor
 ·funext t
  unfold vG
  split
  ·rfl
  ·rename_i ht
   cases hd : p.dst with
   | none => rfl
   | some d =>
    have h1 := hn.1
    rw [hd] at h1
    show look ((d, v) :: s.sl) t = _
    simp only [look]
    rw [if_neg (fun e => ht (by rw [← e]; exact h1))]
 ·funext t
  unfold vH
  split
  ·rfl
  ·rename_i ht
   show look (news ++ s.hp) t = _
   rw [look_append, look_none_of kp (fun e => ht (by rw [e]; exact hn.2))]
theorem fresh_see {p : IO} {s : St} {v : S} {news news' : Hp} {k' : Nat} {b : Bool} (hk : k' ≠ p.key) (kp : ∀ k B, (k, B) ∈ news → k / 64 = p.key) (ki : ∀ k B, (k, B) ∈ news' → k / 64 = k') : (b || fresh { sl := (s.put p.dst v).sl, hp := news ++ s.hp } news') = (b || fresh s news') := by
 cases b with
 | true => rfl
 | false =>
  simp only [Bool.false_or]
  unfold fresh
  rw [Bool.eq_iff_iff, List.all_eq_true, List.all_eq_true]
  have h3 : ∀ x ∈ news', look (news ++ s.hp) x.1 = look s.hp x.1 := fun x hx => by rw [look_append, look_none_of kp (by rw [ki x.1 x.2 hx]; exact hk)]
  constructor
  ·intro h x hx
   have := h x hx
   have h4 : (look (news ++ s.hp) x.1).isNone = true := this
   rw [h3 x hx] at h4
   exact h4
  ·intro h x hx
   show (look (news ++ s.hp) x.1).isNone = true
   rw [h3 x hx]
   exact h x hx
theorem not_eff {i : I} (h : i.wild = false) : i.eff = false := by cases i <;> first | rfl | cases h
theorem swap0 {p i : IO} (hi : indep0 p i = true) {s s1 s2 : St} (h1 : step E p s = some s1) (h2 : step E i s1 = some s2) : ∃ t1 t2, step E i s = some t1 ∧ step E p t1 = some t2 ∧ Eqv s2 t2 := by
 unfold indep0 at hi
 simp only [Bool.and_eq_true, Bool.not_eq_true', beq_eq_false_iff_ne] at hi
 obtain ⟨⟨⟨⟨⟨wp, wi⟩, f1⟩, f2⟩, hne⟩, hdd⟩ := hi
 have hp := not_eff wp
 have hie := not_eff wi
 unfold step at h1 h2
 rw [hp] at h1
 rw [hie] at h2
 simp only [Bool.false_eq_true, if_false] at h1 h2
 split at h1
 ·rename_i v news hc
  split at h1
  ·rename_i hf
   cases h1
   split at h2
   ·rename_i v' news' hc'
    split at h2
    ·rename_i hf'
     cases h2
     have kp := keys_core wp hc
     obtain ⟨vg, vh⟩ := see f1 (s := s) (v := v) kp
     rw [vg, vh] at hc'
     have ki := keys_core wi hc'
     rw [fresh_see (fun e => hne e.symm) kp ki] at hf'
     obtain ⟨vg2, vh2⟩ := see f2 (s := s) (v := v') ki
     have hfp := fresh_see (p := i) (s := s) (v := v') (b := p.i.stk.isSome) hne ki kp
     refine ⟨{ sl := (s.put i.dst v').sl, hp := news' ++ s.hp }, { sl := (St.put { sl := (s.put i.dst v').sl, hp := news' ++ s.hp } p.dst v).sl, hp := news ++ (news' ++ s.hp) }, ?_, ?_, ?_, ?_⟩
     ·unfold step
      rw [hie]
      simp only [Bool.false_eq_true, if_false, hc']
      rw [if_pos hf']
     ·unfold step
      rw [hp]
      simp only [Bool.false_eq_true, if_false, vg2, vh2, hc]
      rw [if_pos (by rw [hfp]; exact hf)]
     ·funext t
      cases hd : p.dst with
      | none => cases i.dst <;> rfl
      | some d =>
       cases he : i.dst with
       | none => rfl
       | some e =>
        rw [hd, he] at hdd
        simp only [Bool.not_eq_true', beq_eq_false_iff_ne] at hdd
        show look ((e, v') :: (d, v) :: s.sl) t = look ((d, v) :: (e, v') :: s.sl) t
        simp only [look]
        by_cases c1 : e = t
        ·subst c1
         rw [if_pos rfl, if_neg hdd, if_pos rfl]
        ·rw [if_neg c1, if_neg c1]
     ·funext t
      show look (news' ++ (news ++ s.hp)) t = look (news ++ (news' ++ s.hp)) t
      simp only [look_append]
      by_cases c1 : t / 64 = i.key
      ·rw [look_none_of kp (by rw [c1]; exact fun h => hne h.symm)]
      ·rw [look_none_of ki c1]
    ·cases h2
   ·cases h2
  ·cases h1
 ·cases h1
theorem X.ev_no {c : Nat} {x : X} (h : x.noc c = true) {v : S} {l : List (Nat × S)} : x.ev (look ((c, v) :: l)) = x.ev (look l) := by
 cases x with
 | t k =>
  simp only [X.noc, Bool.not_eq_true', beq_eq_false_iff_ne] at h
  simp only [X.ev, look]
  rw [if_neg (fun e => h e.symm)]
 | _ => rfl
theorem V.kill_int {s : Nat} {v : V} {k : IntKind} {n : Int} (h : v.kill s = .int k n) : v = .int k n := by
 cases v <;> simp only [V.kill] at h <;> first | exact h | (split at h <;> cases h)
theorem V.kill_row {s : Nat} {v : V} {xs : List (List V)} (h : v.kill s = .row xs) : v = .row xs := by
 cases v <;> simp only [V.kill] at h <;> first | exact h | (split at h <;> cases h)
theorem V.kill_sl {s : Nat} {v : V} {a b c : Nat} (h : v.kill s = .sl a b c) : v = .sl a b c ∧ a ≠ s := by
 cases v <;> simp only [V.kill] at h <;> first | (cases h; done) | (split at h <;> first | (cases h; done) | (rename_i hn; cases h; exact ⟨rfl, hn⟩))
theorem S.kill_one {s : Nat} {q : S} {v : V} (h : q.kill s = .one v) : ∃ u, q = .one u ∧ u.kill s = v := by
 cases q <;> simp only [S.kill] at h <;> first | (cases h; done) | (cases h; exact ⟨_, rfl, rfl⟩)
theorem vG_kill {fb : List Nat} {st : St} {d k : Nat} {v : S} {hp hp' : Hp} {t : Nat} (ht : t ≠ d) : vG fb { sl := (d, v) :: st.sl.map (fun p => (p.1, p.2.kill k)), hp := hp } t = (vG fb st t).map (S.kill k) := by
 unfold vG
 split
 ·rfl
 ·simp only [look]
  rw [if_neg (fun e => ht e.symm), look_map]
theorem X.no_noc {c : Nat} {x : X} (h : x.no c = true) : x.noc c = true := by cases x <;> first | exact h | rfl
theorem X.ev_kill {fb : List Nat} {st : St} {d k : Nat} {v : S} {hp : Hp} {x : X} (hx : x.noc d = true) {w : V} (h : x.ev (vG fb { sl := (d, v) :: st.sl.map (fun p => (p.1, p.2.kill k)), hp := hp }) = some (.one w)) (hw : ∀ u : V, u.kill k = w → u = w ∨ x.ev (vG fb st) ≠ some (.one u)) : x.ev (vG fb st) = some (.one w) := by
 cases x with
 | t n =>
  simp only [X.noc, Bool.not_eq_true', beq_eq_false_iff_ne] at hx
  simp only [X.ev] at h hw ⊢
  rw [vG_kill (hp' := hp) hx, Option.map_eq_some_iff] at h
  obtain ⟨q, h1, h2⟩ := h
  obtain ⟨u, rfl, hu⟩ := S.kill_one h2
  rcases hw u hu with e | e
  ·rw [h1, e]
  ·exact absurd h1 e
 | c z => exact h
 | ca zs => exact h
theorem bnd_kill {fb : List Nat} {st : St} {d k : Nat} {v : S} {hp : Hp} {o : Option X} (ho : noX d o = true) {f n : Int} (h : bnd (vG fb { sl := (d, v) :: st.sl.map (fun p => (p.1, p.2.kill k)), hp := hp }) f o = some n) : bnd (vG fb st) f o = some n := by
 cases o with
 | none => exact h
 | some x =>
  simp only [bnd] at h ⊢
  unfold asI at h
  split at h
  ·rename_i q m e
   cases h
   rw [X.ev_kill ho e fun u hu => .inl (V.kill_int hu)]
   rfl
  ·cases h
theorem vH_kill {fb : List Nat} {hp : Hp} {k t : Nat} {B : Blk} (ht : t ≠ k) {sl sl' : List (Nat × S)} {el e : Nat} {xs : List (List V)} (h : vH fb { sl := sl, hp := (k, B) :: hp.map (fun p => (p.1, p.2.kill k)) } t = some (.rows el e xs)) : vH fb { sl := sl', hp := hp } t = some (.rows el e xs) := by
 unfold vH at h ⊢
 split
 ·rename_i hc; rw [if_pos hc] at h; cases h
 ·rename_i hc
  rw [if_neg hc] at h
  simp only [look] at h ⊢
  rw [if_neg (fun e => ht e.symm), look_map, Option.map_eq_some_iff] at h
  obtain ⟨C, h1, h2⟩ := h
  cases C with
  | box vs => cases h2
  | rows a b c => cases h2; exact h1
theorem step_pure {c : Nat} {ii : I} {fb an : List Nat} {st : St} {v : S} {news : Hp} (heff : ii.eff = false) (h : ev E c (vG fb st) (vH fb st) ii = some (v, news)) (hf : fresh st news = true) : step E ⟨some c, ii, none, fb, an⟩ st = some ⟨(c, v) :: st.sl, news ++ st.hp⟩ := by
 simp only [step, heff, Bool.false_eq_true, if_false, core, Option.getD, h]
 rw [if_pos (by rw [hf, Bool.or_true])]
 rfl
theorem step_pure' {c : Nat} {ii : I} {fb an : List Nat} {st s2 : St} (heff : ii.eff = false) (hstk : ii.stk = none) (h : step E ⟨some c, ii, none, fb, an⟩ st = some s2) : ∃ v news, ev E c (vG fb st) (vH fb st) ii = some (v, news) ∧ fresh st news = true ∧ s2 = ⟨(c, v) :: st.sl, news ++ st.hp⟩ := by
 simp only [step, heff, Bool.false_eq_true, if_false, core, Option.getD] at h
 split at h
 ·rename_i v news hv
  split at h
  ·rename_i hf
   cases h
   rw [hstk] at hf
   exact ⟨v, news, hv, by simpa using hf, rfl⟩
  ·cases h
 ·cases h
theorem live_kill {k : Nat} {v : V} (h : (v.kill k).live = true) : v.kill k = v := by
 cases v <;> simp only [V.kill] at h ⊢ <;> (split <;> first | rfl | (rename_i hn; rw [if_pos hn] at h; cases h))
theorem lives_kill {k : Nat} : ∀ {vs : List V}, lives (vs.map (V.kill k)) = true → vs.map (V.kill k) = vs
 | [], _ => rfl
 | v :: r, h => by
  simp only [List.map_cons, lives, Bool.and_eq_true] at h
  rw [List.map_cons, live_kill h.1, lives_kill h.2]
theorem cells_kill {k : Nat} {q : S} {vs : List V} (h : (q.kill k).cells = some vs) (hl : lives vs = true) : q.cells = some vs := by
 cases q with
 | undef => cases h
 | one v =>
  simp only [S.kill, S.cells, Option.some.injEq] at h ⊢
  subst h
  simp only [lives, Bool.and_true] at hl
  rw [live_kill hl]
 | agg ws =>
  simp only [S.kill, S.cells, Option.some.injEq] at h ⊢
  subst h
  rw [lives_kill hl]
 | tup xs => cases h
theorem fill_kill {fb : List Nat} {st : St} {d k e : Nat} {v : S} {hp : Hp} : ∀ {qs : List (Nat × X)} {xs ys : List (List V)}, (qs.all fun q => q.2.noc d) = true → fillR (vG fb ⟨(d, v) :: st.sl.map (fun p => (p.1, p.2.kill k)), hp⟩) e xs qs = some ys → fillR (vG fb st) e xs qs = some ys
 | [], xs, ys, _, h => h
 | (i, x) :: r, xs, ys, hq, h => by
  simp only [List.all_cons, Bool.and_eq_true] at hq
  simp only [fillR] at h ⊢
  split at h
  ·rename_i us hus
   split at h
   ·rename_i hc
    rw [Option.bind_eq_some_iff] at hus
    obtain ⟨q, h1, h2⟩ := hus
    have h3 : (x.ev (vG fb st)).bind S.cells = some us := by
     cases x with
     | t m =>
      have hm := hq.1
      simp only [X.noc, Bool.not_eq_true', beq_eq_false_iff_ne] at hm
      simp only [X.ev] at h1 ⊢
      rw [vG_kill (hp' := st.hp) hm, Option.map_eq_some_iff] at h1
      obtain ⟨u, h4, rfl⟩ := h1
      rw [h4, Option.bind_some]
      exact cells_kill h2 hc.2.2.2
     | c z => simp only [X.ev, Option.some.injEq] at h1 ⊢; subst h1; exact h2
     | ca zs => simp only [X.ev, Option.some.injEq] at h1 ⊢; subst h1; exact h2
    rw [h3]
    (try dsimp only)
    rw [if_pos hc]
    exact fill_kill hq.2 h
   ·cases h
  ·cases h
theorem ev_kill {fb : List Nat} {st : St} {d k n c : Nat} {B : Blk} {ii : I} (hii : (match ii with
  | .mov x' => x'.no d
  | .cut _ x' lo hi => x'.no d && noX d lo && noX d hi
  | .bsl _ _ _ _ qs => qs.all fun q => q.2.noc d
  | _ => false) = true) {v : S} {news : Hp}
  (h : ev E c (vG fb ⟨(d, .one (.sl k 0 n)) :: st.sl.map (fun p => (p.1, p.2.kill k)), (k, B) :: st.hp.map (fun p => (p.1, p.2.kill k))⟩) (vH fb ⟨(d, .one (.sl k 0 n)) :: st.sl.map (fun p => (p.1, p.2.kill k)), (k, B) :: st.hp.map (fun p => (p.1, p.2.kill k))⟩) ii = some (v, news))
  (hf : fresh ⟨(d, .one (.sl k 0 n)) :: st.sl.map (fun p => (p.1, p.2.kill k)), (k, B) :: st.hp.map (fun p => (p.1, p.2.kill k))⟩ news = true) :
  ∃ v0, ev E c (vG fb st) (vH fb st) ii = some (v0, news) ∧ fresh st news = true ∧ v = v0.kill k ∧ look news k = none ∧ news.map (fun p => (p.1, p.2.kill k)) = news := by
 have hn0 : fresh st ([] : Hp) = true := by unfold fresh; simp
 cases ii with
 | mov x' =>
  simp only [ev, Option.map_eq_some_iff, Prod.mk.injEq] at h ⊢
  obtain ⟨q, h1, rfl, rfl⟩ := h
  cases x' with
  | t m =>
   simp only [X.no, Bool.not_eq_true', beq_eq_false_iff_ne] at hii
   simp only [X.ev] at h1 ⊢
   rw [vG_kill (hp' := st.hp) hii, Option.map_eq_some_iff] at h1
   obtain ⟨u, h3, h4⟩ := h1
   exact ⟨u, ⟨u, h3, rfl, trivial⟩, hn0, h4.symm, rfl, rfl⟩
  | c z => cases hii
  | ca zs => cases hii
 | bsl el e m zs qs =>
  simp only [ev] at h ⊢
  split at h
  ·rename_i xs hx
   cases h
   rw [fill_kill hii hx]
   have hk : k ≠ 64 * c := by
    intro e
    subst e
    simp [fresh, look] at hf
   have hk2 : (look st.hp (64 * c)).isNone = true := by
    unfold fresh at hf
    simp only [List.all_cons, List.all_nil, Bool.and_true, look] at hf
    rw [if_neg hk, look_map] at hf
    cases hl : look st.hp (64 * c) with
    | none => rfl
    | some B => rw [hl] at hf; cases hf
   refine ⟨_, rfl, ?_, ?_, ?_, rfl⟩
   ·unfold fresh
    simp only [List.all_cons, List.all_nil, Bool.and_true]
    exact hk2
   ·simp only [S.kill, V.kill]
    rw [if_neg (fun e => hk e.symm)]
   ·simp only [look]
    rw [if_neg (fun e => hk e.symm)]
  ·cases h
 | cut e2 x' lo hi =>
  simp only [Bool.and_eq_true] at hii
  obtain ⟨⟨hx', hlo⟩, hhi⟩ := hii
  simp only [ev] at h ⊢
  split at h
  ·rename_i xs e
   rw [X.ev_kill (X.no_noc hx') e fun u hu => .inl (V.kill_row hu)]
   (try dsimp only)
   split at h
   ·rename_i l u e1 e2
    rw [bnd_kill hlo e1, bnd_kill hhi e2]
    (try dsimp only)
    split at h
    ·rename_i hc
     rw [if_pos hc]
     split at h
     ·rename_i hc2
      rw [if_pos hc2]
      cases h
      exact ⟨_, rfl, hn0, rfl, rfl, rfl⟩
     ·rename_i hc2
      rw [if_neg hc2]
      split at h
      ·rename_i hc3
       rw [if_pos hc3]
       cases h
       exact ⟨_, rfl, hn0, rfl, rfl, rfl⟩
      ·cases h
    ·cases h
   ·cases h
  ·rename_i s' off len e
   have hne : s' ≠ k := by
    cases x' with
    | t m =>
     simp only [X.no, Bool.not_eq_true', beq_eq_false_iff_ne] at hx'
     simp only [X.ev] at e
     rw [vG_kill (hp' := st.hp) hx', Option.map_eq_some_iff] at e
     obtain ⟨q, h3, h4⟩ := e
     obtain ⟨u, rfl, hu⟩ := S.kill_one h4
     exact (V.kill_sl hu).2
    | c z => cases hx'
    | ca zs => cases hx'
   rw [X.ev_kill (X.no_noc hx') e fun u hu => .inl (V.kill_sl hu).1]
   (try dsimp only)
   split at h
   ·rename_i el e' xs hh
    rw [vH_kill (sl' := st.sl) hne hh]
    (try dsimp only)
    split at h
    ·rename_i l u e1 e2
     rw [bnd_kill hlo e1, bnd_kill hhi e2]
     (try dsimp only)
     split at h
     ·rename_i hc
      rw [if_pos hc]
      split at h
      ·rename_i hc2
       rw [if_pos hc2]
       cases h
       exact ⟨_, rfl, hn0, rfl, rfl, rfl⟩
      ·rename_i hc2
       rw [if_neg hc2]
       split at h
       ·rename_i hc3
        rw [if_pos hc3]
        cases h
        refine ⟨_, rfl, hn0, ?_, rfl, rfl⟩
        simp only [S.kill, V.kill]
        rw [if_neg hne]
       ·cases h
     ·cases h
    ·cases h
   ·cases h
  ·cases h
 | _ => cases hii
theorem pur1_more {h h' : Nat → Option Blk} {v r : V} (hh : ∀ s B, h s = some B → h' s = some B) (hp : v.pur1 h = some r) : v.pur1 h' = some r := by
 cases v with
 | sl s off len =>
  simp only [V.pur1] at hp ⊢
  split at hp
  ·rename_i el e xs hq
   rw [hh _ _ hq]
   exact hp
  ·cases hp
 | ref s i j => cases hp
 | _ => exact hp
theorem swapC {p i : IO} (hi : comm p i = true) {s s1 s2 : St} (h1 : step E p s = some s1) (h2 : step E i s1 = some s2) : ∃ t1 t2, step E i s = some t1 ∧ step E p t1 = some t2 ∧ Eqv s2 t2 := by
 obtain ⟨pd, pi, pg, pf, pa⟩ := p
 obtain ⟨id, ii, ig, jf, ia⟩ := i
 unfold comm at hi
 split at hi
 ·rename_i d el e by_ x y c q1 q2 q3 q4 q5
  simp only at q1 q2 q3 q4 q5
  subst q1; subst q2; subst q3; subst q4; subst q5
  simp only [Bool.and_eq_true, Bool.not_eq_true', beq_eq_false_iff_ne] at hi
  obtain ⟨⟨⟨hdc, hx⟩, hy⟩, hii⟩ := hi
  have heff : ii.eff = false := by cases ii <;> first | rfl | cases hii
  have hstk : ii.stk = none := by cases ii <;> first | rfl | cases hii
  simp only [step, I.eff, if_true, Option.map_eq_some_iff, evE, Option.getD] at h1
  obtain ⟨r, hr, hs1⟩ := h1
  split at hr
  ·rename_i k n y0 ex ey
   split at hr
   ·rename_i el' e' xs ys hq hpur
    split at hr
    ·rename_i hc
     cases hr
     obtain rfl : s1 = ⟨(d, .one (.sl k 0 (n + ys.length))) :: s.sl.map (fun p => (p.1, p.2.kill k)), (k, .rows el e (xs.take n ++ ys)) :: s.hp.map (fun p => (p.1, p.2.kill k))⟩ := hs1.symm
     obtain ⟨v, news, hv, hf, rfl⟩ := step_pure' heff hstk h2
     obtain ⟨v0, hv0, hf0, rfl, hnk, hmap⟩ := ev_kill hii hv hf
     have hmore : ∀ t B, look s.hp t = some B → look (news ++ s.hp) t = some B := by
      intro t B ht
      rw [look_append]
      cases hl : look news t with
      | none => exact ht
      | some C =>
       have := List.all_eq_true.1 hf0 (t, C) (look_mem _ _ _ hl)
       simp only at this
       rw [ht] at this
       cases this
     have hpur' : (y0.pur1 (look (news ++ s.hp))).bind asRow = some ys := by
      rw [Option.bind_eq_some_iff] at hpur ⊢
      obtain ⟨u, h3, h4⟩ := hpur
      exact ⟨u, pur1_more hmore h3, h4⟩
     refine ⟨⟨(c, v0) :: s.sl, news ++ s.hp⟩, ⟨(d, .one (.sl k 0 (n + ys.length))) :: (c, v0.kill k) :: s.sl.map (fun p => (p.1, p.2.kill k)), (k, .rows el e (xs.take n ++ ys)) :: (news ++ s.hp.map (fun p => (p.1, p.2.kill k)))⟩, step_pure heff hv0 hf0, ?_, ?_, ?_⟩
     ·simp only [step, I.eff, if_true, evE, Option.getD, X.ev_no hx, X.ev_no hy, ex, ey, hmore _ _ hq, hpur', if_pos hc, Option.map_some, St.put, List.map_cons, List.map_append, hmap]
     ·funext t
      simp only [look]
      by_cases c1 : c = t
      ·subst c1
       rw [if_pos rfl, if_neg hdc, if_pos rfl]
      ·rw [if_neg c1, if_neg c1]
     ·funext t
      (try dsimp only)
      rw [look_append]
      simp only [look]
      rw [look_append]
      by_cases c1 : k = t
      ·subst c1
       simp only [hnk, if_true]
      ·rw [if_neg c1, if_neg c1]
    ·cases hr
   ·cases hr
  ·cases hr
 ·cases hi
theorem swapD {p i : IO} (hi : comm2 p i = true) {s s1 s2 : St} (h1 : step E p s = some s1) (h2 : step E i s1 = some s2) : ∃ t1 t2, step E i s = some t1 ∧ step E p t1 = some t2 ∧ Eqv s2 t2 := by
 obtain ⟨pd, pi, pg, pf, pa⟩ := p
 obtain ⟨id, ii, ig, jf, ia⟩ := i
 unfold comm2 at hi
 split at hi
 ·rename_i c k0 d el e by_ x y q1 q2 q3 q4 q5 q6
  simp only at q1 q2 q3 q4 q5 q6
  subst q1; subst q2; subst q3; subst q4; subst q5; subst q6
  simp only [Bool.and_eq_true, Bool.not_eq_true', beq_eq_false_iff_ne] at hi
  obtain ⟨⟨⟨hdc, hx⟩, hy⟩, hk⟩ := hi
  obtain ⟨v, news, hv, hf, rfl⟩ := step_pure' rfl rfl h1
  simp only [ev, Option.map_eq_some_iff, X.ev] at hv
  obtain ⟨v', hv', he⟩ := hv
  cases he
  simp only [step, I.eff, if_true, Option.map_eq_some_iff, evE, Option.getD] at h2
  obtain ⟨r, hr, hs2⟩ := h2
  rw [X.ev_no hx, X.ev_no hy] at hr
  split at hr
  ·rename_i a n y0 ex ey
   split at hr
   ·rename_i el' e' xs ys hq hpur
    split at hr
    ·rename_i hc
     cases hr
     refine ⟨⟨(d, .one (.sl a 0 (n + ys.length))) :: s.sl.map (fun p => (p.1, p.2.kill a)), (a, .rows el e (xs.take n ++ ys)) :: s.hp.map (fun p => (p.1, p.2.kill a))⟩, ⟨(c, v.kill a) :: (d, .one (.sl a 0 (n + ys.length))) :: s.sl.map (fun p => (p.1, p.2.kill a)), (a, .rows el e (xs.take n ++ ys)) :: s.hp.map (fun p => (p.1, p.2.kill a))⟩, ?_, ?_, ?_⟩
     ·simp only [List.nil_append] at hq hpur
      simp only [step, I.eff, if_true, evE, Option.getD, ex, ey, hq, hpur, if_pos hc, Option.map_some, St.put]
     ·refine step_pure (news := []) rfl ?_ rfl
      simp only [ev, X.ev]
      rw [vG_kill (hp' := s.hp) (fun h => hk h)]
      rw [show vG pf { sl := s.sl, hp := s.hp } k0 = some v from hv']
      rfl
     ·subst hs2
      refine ⟨?_, rfl⟩
      funext t
      simp only [look, List.map_cons, St.put]
      by_cases c1 : c = t
      ·subst c1
       rw [if_pos rfl, if_neg hdc, if_pos rfl]
      ·rw [if_neg c1, if_neg c1]
    ·cases hr
   ·cases hr
  ·cases hr
 ·cases hi
theorem shape_kill {ag : Bool} {a : Nat} {ws : List V} {v : S} (h : shape ag ws = some v) : shape ag (ws.map (V.kill a)) = some (v.kill a) := by
 unfold shape at h ⊢
 split at h
 ·rename_i hc
  rw [if_pos hc]
  cases h
  rfl
 ·rename_i hc
  rw [if_neg hc]
  split at h
  ·cases h; rfl
  ·cases h
theorem swapE {p i : IO} (hi : comm3 p i = true) {s s1 s2 : St} (h1 : step E p s = some s1) (h2 : step E i s1 = some s2) : ∃ t1 t2, step E i s = some t1 ∧ step E p t1 = some t2 ∧ Eqv s2 t2 := by
 obtain ⟨pd, pi, pg, pf, pa⟩ := p
 obtain ⟨id, ii, ig, jf, ia⟩ := i
 unfold comm3 at hi
 split at hi
 ·rename_i c ag m k0 d el e by_ x y q1 q2 q3 q4 q5 q6
  simp only at q1 q2 q3 q4 q5 q6
  subst q1; subst q2; subst q3; subst q4; subst q5; subst q6
  simp only [Bool.and_eq_true, Bool.not_eq_true', beq_eq_false_iff_ne] at hi
  obtain ⟨⟨⟨hdc, hx⟩, hy⟩, hk⟩ := hi
  obtain ⟨v, news, hv, hf, rfl⟩ := step_pure' rfl rfl h1
  simp only [ev, X.ev] at hv
  split at hv
  ·rename_i p0 ek
   split at hv
   ·rename_i ws hw
    rw [Option.map_eq_some_iff] at hv
    obtain ⟨v', hs, he⟩ := hv
    cases he
    unfold rdb at hw
    split at hw
    ·rename_i s' i0 j
     split at hw
     ·rename_i vs hb
      split at hw
      ·rename_i hi0
       simp only [step, I.eff, if_true, Option.map_eq_some_iff, evE, Option.getD] at h2
       obtain ⟨r, hr, hs2⟩ := h2
       rw [X.ev_no hx, X.ev_no hy] at hr
       split at hr
       ·rename_i a n y0 ex ey
        split at hr
        ·rename_i el' e' xs ys hq hpur
         split at hr
         ·rename_i hc
          cases hr
          simp only [List.nil_append] at hq hpur
          have hbl : pf.contains (s' / 64) = false ∧ look s.hp s' = some (.box vs) := by
           unfold vH at hb
           split at hb
           ·cases hb
           ·rename_i hn; exact ⟨by simpa using hn, hb⟩
          have hne : s' ≠ a := by
           intro e
           subst e
           rw [hbl.2] at hq
           cases hq
          refine ⟨⟨(d, .one (.sl a 0 (n + ys.length))) :: s.sl.map (fun p => (p.1, p.2.kill a)), (a, .rows el e (xs.take n ++ ys)) :: s.hp.map (fun p => (p.1, p.2.kill a))⟩, ⟨(c, v.kill a) :: (d, .one (.sl a 0 (n + ys.length))) :: s.sl.map (fun p => (p.1, p.2.kill a)), (a, .rows el e (xs.take n ++ ys)) :: s.hp.map (fun p => (p.1, p.2.kill a))⟩, ?_, ?_, ?_⟩
          ·simp only [step, I.eff, if_true, evE, Option.getD, ex, ey, hq, hpur, if_pos hc, Option.map_some, St.put]
          ·refine step_pure (news := []) rfl ?_ rfl
           have hh : vH pf { sl := (d, S.one (.sl a 0 (n + ys.length))) :: s.sl.map (fun p => (p.1, p.2.kill a)), hp := (a, Blk.rows el e (xs.take n ++ ys)) :: s.hp.map (fun p => (p.1, p.2.kill a)) } s' = some (.box (vs.map (V.kill a))) := by
            unfold vH
            rw [if_neg (by rw [hbl.1]; decide)]
            simp only [look]
            rw [if_neg (fun e => hne e.symm), look_map, hbl.2]
            rfl
           simp only [ev, X.ev]
           rw [vG_kill (hp' := s.hp) (fun h => hk h)]
           rw [show vG pf { sl := s.sl, hp := s.hp } k0 = some (.one (.ref s' i0 j)) from ek]
           simp only [Option.map_some, S.kill, V.kill]
           rw [if_neg hne]
           simp only [rdb]
           rw [hh]
           dsimp only
           rw [if_pos hi0]
           have hsub : sub (vs.map (V.kill a)) j m = some (ws.map (V.kill a)) := by
            unfold sub at hw ⊢
            rw [List.length_map]
            split at hw
            ·rename_i hl
             rw [if_pos hl]
             cases hw
             rw [← List.map_drop, ← List.map_take]
            ·cases hw
           rw [hsub]
           dsimp only
           rw [shape_kill hs]
           rfl
          ·subst hs2
           refine ⟨?_, rfl⟩
           funext t
           simp only [look, List.map_cons, St.put]
           by_cases c1 : c = t
           ·subst c1
            rw [if_pos rfl, if_neg hdc, if_pos rfl]
           ·rw [if_neg c1, if_neg c1]
         ·cases hr
        ·cases hr
       ·cases hr
      ·cases hw
     ·cases hw
    ·cases hw
   ·cases hv
  ·cases hv
 ·cases hi
theorem swap {p i : IO} (hi : indep p i = true) {s s1 s2 : St} (h1 : step E p s = some s1) (h2 : step E i s1 = some s2) : ∃ t1 t2, step E i s = some t1 ∧ step E p t1 = some t2 ∧ Eqv s2 t2 := by
 unfold indep at hi
 rw [Bool.or_eq_true, Bool.or_eq_true, Bool.or_eq_true] at hi
 rcases hi with ((h | h) | h) | h
 ·exact swap0 h h1 h2
 ·exact swapC h h1 h2
 ·exact swapD h h1 h2
 ·exact swapE h h1 h2
theorem first {q : List IO} {i : Nat} {oi : IO} (hoi : q[i]? = some oi) {post : List Nat} : ∀ {pre : List Nat} {s sF : St}, (∀ p op, p ∈ pre → q[p]? = some op → indep op oi = true) → stepsI E q (pre ++ i :: post) s = some sF →
  ∃ t1 tF, step E oi s = some t1 ∧ stepsI E q (pre ++ post) t1 = some tF ∧ Eqv sF tF
 | [], s, sF, _, h => by
  simp only [List.nil_append, stepsI, hoi] at h
  split at h
  ·rename_i t1 ht
   exact ⟨t1, sF, ht, h, Eqv.refl _⟩
  ·cases h
 | p :: pre, s, sF, hp, h => by
  simp only [List.cons_append, stepsI] at h
  split at h
  ·rename_i op hop
   split at h
   ·rename_i s1 hs1
    obtain ⟨u1, uF, g1, g2, g3⟩ := first hoi (pre := pre) (fun p' op' h1 h2 => hp p' op' (List.mem_cons_of_mem _ h1) h2) h
    obtain ⟨t1, t2, k1, k2, k3⟩ := swap (hp p op (List.mem_cons_self ..) hop) hs1 g1
    obtain ⟨tF, m1, m2⟩ := stepsI_congr k3 g2
    exact ⟨t1, tF, k1, by simp only [List.cons_append, stepsI, hop, k2]; exact m1, g3.trans m2⟩
   ·cases h
  ·cases h
theorem stepsI_range {q : List IO} : ∀ (l : List IO) (k : Nat) (s : St), (∀ j, l[j]? = q[k + j]?) → stepsI E q (List.range' k l.length) s = steps E l s
 | [], _, _, _ => rfl
 | o :: l, k, s, h => by
  have h0 : q[k]? = some o := by have := h 0; simpa using this.symm
  rw [List.length_cons, List.range'_succ]
  simp only [stepsI, h0, steps]
  cases step E o s with
  | none => rfl
  | some s1 => exact stepsI_range l (k + 1) s1 fun j => by have := h (j + 1); simpa [Nat.add_assoc, Nat.add_comm 1 j] using this

def edges (o : Oper) : List Nat := (o.after.toList.filter fun e => Region.binds .any e).map (·.on)
def ancOk (ops : List Oper) (q : List IO) : Bool := (List.range q.length).all fun i => match ops[i]?, q[i]? with
 | some o, some io => (edges o).all (fun e => decide (e < i)) && io.anc.all (fun p => (edges o).contains p || (edges o).any fun e => match q[e]? with | some oe => oe.anc.contains p | none => false)
 | _, _ => false
def pairsOk (q : List IO) : Bool := (List.range q.length).all fun i => (List.range i).all fun p => match q[p]?, q[i]? with
 | some op, some oi => oi.anc.contains p || indep op oi
 | _, _ => false
def chkR (P : Program) (n : Nat) (ops : List Oper) (q : List IO) (draw : Bool) : Bool := chkL P n ops ops q && (!draw || (P.follows .mixedOrders && ancOk ops q && pairsOk q))
theorem chkL_get {ops0 : List Oper} : ∀ {l : List Oper} {q : List IO}, chkL P n ops0 l q = true → l.length = q.length ∧ ∀ (j : Nat) o io, l[j]? = some o → q[j]? = some io → chkO P n ops0 o io = true
 | [], [], _ => ⟨rfl, fun j o io h => by cases h⟩
 | o :: l, io :: q, h => by
  simp only [chkL, Bool.and_eq_true] at h
  obtain ⟨g1, g2⟩ := chkL_get h.2
  refine ⟨by simp [g1], fun j o' io' h1 h2 => ?_⟩
  cases j with
  | zero => simp at h1 h2; subst h1; subst h2; exact h.1
  | succ j => exact g2 j o' io' (by simpa using h1) (by simpa using h2)
 | [], _ :: _, h => by cases h
 | _ :: _, [], h => by cases h

theorem mem_readyI {md : Region.Mode} {ops : Array Oper} {listed : Array Bool} {i : Nat} (h : i ∈ Region.ready md ops listed) : listed.getD i true = false ∧ ∃ o, ops[i]? = some o ∧ ∀ e ∈ o.after, Region.binds md e = true → listed.getD e.on false = true := mem_ready.1 h

theorem any_ok (hE : ∀ f, Sound P f (E f)) {ops : Array Oper} {q : List IO} {Q : Exit → Act → World → Prop} (hc : chkL P n ops.toList ops.toList q = true) (hanc : ancOk ops.toList q = true) (hpair : pairsOk q = true) :
  ∀ (L : List Nat) (listed : Array Bool) (st st' : St) (loc : Locs) (a : Act) (w : World), listed.size = ops.size → (∀ j, j ∈ L ↔ listed.getD j true = false) → L.Pairwise (· < ·) →
   (∀ i io p, q[i]? = some io → listed.getD i false = true → p ∈ io.anc → listed.getD p false = true) →
   Inv n Γ w0 ok0 loc st a w → stepsI E q L st = some st' → (∀ a' w' loc', Inv n Γ w0 ok0 loc' st' a' w' → Q .normal a' w') → wpAny P .any ops Q L.length listed a w := by
 have hql : ops.size = q.length := by have := (chkL_get hc).1; simpa using this
 intro L
 generalize hm : L.length = m
 induction m generalizing L with
 | zero =>
  intro listed st st' loc a w hsz hL hpw hcl I hs hn
  have hL0 : L = [] := List.eq_nil_of_length_eq_zero hm
  subst hL0
  cases hs
  refine ⟨?_, hn _ _ _ I⟩
  cases hr : Region.ready .any ops listed with
  | nil => rfl
  | cons i r =>
   have := (mem_readyI (md := .any) (ops := ops) (listed := listed) (i := i) (by rw [hr]; exact List.mem_cons_self ..)).1
   exact absurd ((hL i).2 this) (by simp)
 | succ m ih =>
  intro listed st st' loc a w hsz hL hpw hcl I hs hn
  have hanc' : ∀ i o io, ops[i]? = some o → q[i]? = some io → (∀ e ∈ edges o, e < i) ∧ ∀ p ∈ io.anc, p ∈ edges o ∨ ∃ e oe, e ∈ edges o ∧ q[e]? = some oe ∧ p ∈ oe.anc := by
   intro i o io h1 h2
   have hi : i < q.length := (List.getElem?_eq_some_iff.1 h2).1
   have h3 := List.all_eq_true.1 hanc i (List.mem_range.2 hi)
   have h1' : ops.toList[i]? = some o := by simpa using h1
   simp only [h1', h2, Bool.and_eq_true, List.all_eq_true, decide_eq_true_eq, Bool.or_eq_true, List.contains_iff_mem, List.any_eq_true] at h3
   refine ⟨h3.1, fun p hp => ?_⟩
   rcases h3.2 p hp with h4 | ⟨e, h4, h5⟩
   ·exact .inl h4
   ·split at h5
    ·exact .inr ⟨e, _, h4, ‹_›, by simpa using h5⟩
    ·cases h5
  have hedge : ∀ {o : Oper} {e : Nat}, e ∈ edges o → ∃ x ∈ o.after, Region.binds .any x = true ∧ x.on = e := by
   intro o e he
   unfold edges at he
   rw [List.mem_map] at he
   obtain ⟨x, hx, rfl⟩ := he
   rw [List.mem_filter] at hx
   exact ⟨x, by simpa using hx.1, hx.2, rfl⟩
  refine ⟨fun hr => ?_, fun i hi => ?_⟩
  ·-- the least one that is left may come
   exfalso
   cases L with
   | nil => simp at hm
   | cons i r =>
    have hiu := (hL i).1 (List.mem_cons_self ..)
    have hlt : i < ops.size := by
     rcases Nat.lt_or_ge i listed.size with h | h
     ·omega
     ·rw [Array.getD_eq_getD_getElem?, Array.getElem?_eq_none h] at hiu; cases hiu
    have ho : ops[i]? = some ops[i] := by simp [hlt]
    have hq : q[i]? = some q[i] := by simp
    have hin : i ∈ Region.ready .any ops listed := by
     rw [mem_ready]
     refine ⟨hiu, ops[i], ho, fun e he hb => ?_⟩
     have hlt' := (hanc' i _ _ ho hq).1 e.on (by unfold edges; rw [List.mem_map]; exact ⟨e, List.mem_filter.2 ⟨by simpa using he, hb⟩, rfl⟩)
     cases hl : listed.getD e.on false with
     | true => rfl
     | false =>
      have h5 : listed.getD e.on true = false := by
       have h6 : e.on < listed.size := by omega
       rw [Array.getD_eq_getD_getElem?, Array.getElem?_eq_getElem h6] at hl ⊢
       exact hl
      have h7 := (hL e.on).2 h5
      rcases List.mem_cons.1 h7 with h8 | h8
      ·omega
      ·have := (List.pairwise_cons.1 hpw).1 e.on h8; omega
    rw [hr] at hin
    cases hin
  ·obtain ⟨hiu, o, ho, hall⟩ := mem_readyI hi
   have hiL := (hL i).2 hiu
   obtain ⟨pre, post, rfl⟩ := List.append_of_mem hiL
   have hlt : i < q.length := by rw [← hql]; exact (Array.getElem?_eq_some_iff.1 ho).1
   have hoi : q[i]? = some q[i] := by simp
   have hpre : ∀ p ∈ pre, p < i := fun p hp => (List.pairwise_append.1 hpw).2.2 p hp i (List.mem_cons_self ..)
   have hedges : ∀ e ∈ edges o, listed.getD e false = true := by
    intro e he
    obtain ⟨x, h1, h2, rfl⟩ := hedge he
    exact hall x h1 h2
   have hancl : ∀ p ∈ (q[i]).anc, listed.getD p false = true := by
    intro p hp
    rcases (hanc' i o _ ho hoi).2 p hp with h1 | ⟨e, oe, h1, h2, h3⟩
    ·exact hedges p h1
    ·exact hcl e oe p h2 (hedges e h1) h3
   have hind : ∀ p op, p ∈ pre → q[p]? = some op → indep op q[i] = true := by
    intro p op hp hop
    have h1 := List.all_eq_true.1 hpair i (List.mem_range.2 hlt)
    have h2 := List.all_eq_true.1 h1 p (List.mem_range.2 (hpre p hp))
    simp only [hop, hoi, Bool.or_eq_true, List.contains_iff_mem] at h2
    refine h2.resolve_left fun h3 => ?_
    have h4 := hancl p h3
    have h5 := (hL p).1 (List.mem_append_left _ hp)
    have h6 : p < listed.size := by have := hpre p hp; omega
    rw [Array.getD_eq_getD_getElem?, Array.getElem?_eq_getElem h6] at h4 h5
    rw [show listed[p] = true from h4] at h5
    cases h5
   obtain ⟨t1, tF, g1, g2, g3⟩ := first hoi hind hs
   have ho' : ops.toList[i]? = some o := by simpa using ho
   have hchk := (chkL_get hc).2 i o _ ho' hoi
   unfold wpOp
   rw [ho]
   refine step_ok hE I hchk g1 fun a' w' loc' I' => ?_
   have hset : ∀ j (d : Bool), (listed.setIfInBounds i true).getD j d = if i = j ∧ i < listed.size then true else listed.getD j d := by
    intro j d
    rw [Array.getD_eq_getD_getElem?, Array.getElem?_setIfInBounds, Array.getD_eq_getD_getElem?]
    by_cases h1 : i = j
    ·subst h1
     by_cases h2 : i < listed.size
     ·rw [if_pos rfl, if_pos h2, if_pos ⟨rfl, h2⟩]; rfl
     ·rw [if_pos rfl, if_neg h2, if_neg (fun h => h2 h.2), Array.getElem?_eq_none (by omega)]
    ·rw [if_neg h1, if_neg (fun h => h1 h.1)]
   have hil : i < listed.size := by omega
   refine ih (pre ++ post) (by simp at hm ⊢; omega) (listed.setIfInBounds i true) t1 tF loc' a' w' (by simp [hsz]) (fun j => ?_) ?_ (fun j io p h1 h2 h3 => ?_) I' g2 (fun a2 w2 loc2 I2 => hn a2 w2 loc2 (I2.congr g3.symm))
   ·rw [hset]
    have hj := hL j
    by_cases h1 : i = j
    ·subst h1
     rw [if_pos ⟨rfl, hil⟩]
     constructor
     ·intro h2
      exfalso
      rcases List.mem_append.1 h2 with h3 | h3
      ·have := hpre i h3; omega
      ·have := (List.pairwise_cons.1 (List.pairwise_append.1 hpw).2.1).1 i h3; omega
     ·intro h2; cases h2
    ·rw [if_neg (fun h => h1 h.1), ← hj]
     simp only [List.mem_append, List.mem_cons]
     constructor
     ·rintro (h2 | h2)
      ·exact .inl h2
      ·exact .inr (.inr h2)
     ·rintro (h2 | h2 | h2)
      ·exact .inl h2
      ·exact absurd h2.symm h1
      ·exact .inr h2
   ·rw [List.pairwise_append] at hpw ⊢
    exact ⟨hpw.1, (List.pairwise_cons.1 hpw.2.1).2, fun x hx y hy => hpw.2.2 x hx y (List.mem_cons_of_mem _ hy)⟩
   ·rw [hset] at h2 ⊢
    by_cases hip : i = p
    ·rw [if_pos ⟨hip, hil⟩]
    ·rw [if_neg (fun h => hip h.1)]
     by_cases hij : i = j
     ·subst hij
      rw [hoi] at h1
      cases h1
      exact hancl p h3
     ·rw [if_neg (fun h => hij h.1)] at h2
      exact hcl j io p h1 h2 h3
theorem regionR_ok (hE : ∀ f, Sound P f (E f)) {id : Nat} {ops : Array Oper} {q : List IO} {draw : Bool} {Q : Exit → Act → World → Prop} (hc : chkR P n ops.toList q draw = true) (I : Inv n Γ w0 ok0 loc st a w) (hs : steps E q st = some st') (hn : ∀ a' w' loc', Inv n Γ w0 ok0 loc' st' a' w' → Q .normal a' w') :
  (Code.region id ops draw).wp P Q a w := by
 unfold chkR at hc
 simp only [Bool.and_eq_true, Bool.or_eq_true, Bool.not_eq_true'] at hc
 cases draw with
 | false => exact region_ok hE hc.1 I hs hn
 | true =>
  obtain ⟨⟨hm, hanc⟩, hpair⟩ := hc.2.resolve_left (by simp)
  have hql : ops.size = q.length := by have := (chkL_get hc.1).1; simpa using this
  refine wp_region_any hm ?_
  have hI : Inv n Γ w0 ok0 loc st a { w with drawn := w.drawn + 1 } := by
   refine ⟨⟨I.below.os, I.below.tape, I.below.output, I.below.size, I.below.block⟩, I.okb, ⟨I.hp.dom, fun s l B h1 h2 => (I.hp.blk s l B h1 h2).mono (fun b hb => ⟨hb, rfl⟩) (fun _ _ => rfl) (fun _ _ _ h => h), I.hp.inj, I.hp.lo⟩, I.oko, I.bx, I.sz, fun t s h => ⟨(I.sl t s h).1, (I.sl t s h).2.mono (fun b hb => ⟨hb, rfl⟩) (fun _ _ _ h => h)⟩, I.df⟩
  have h := any_ok (ops := ops) (Q := Q) hE hc.1 hanc hpair (List.range' 0 q.length) (Array.replicate ops.size false) st st' loc a _ (by simp) (fun j => ?_) ?_ (fun i io p h1 h2 h3 => ?_) hI (by rw [stepsI_range q 0 st (fun j => by simp)]; exact hs) hn
  ·simpa [hql] using h
  ·simp [← hql, Array.getD_eq_getD_getElem?, Array.getElem?_replicate]
   by_cases hj : j < ops.size <;> simp [hj]
  ·rw [← List.range_eq_range']
   exact List.pairwise_lt_range
  ·simp [Array.getD_eq_getD_getElem?, Array.getElem?_replicate] at h2
   by_cases hj : i < ops.size <;> simp [hj] at h2
end
end Go.Proofs.YtdflglehippoiaaGreatDoorR
namespace Go.Proofs.YtdflglehippoiaaGreatDoorR
open Go Go.RowKit

section
variable {P : Program} {n : Nat} {Γ : Ent} {w0 : World} {ok0 : Nat → Prop} {loc : Locs} {st st' : St} {a : Act} {w : World} {E : Nat → Model}

theorem look_pickL {α : Type} (l : List (Nat × α)) : ∀ (ns : List Nat) (k : Nat) (v : α), look (pickL l ns) k = some v → look l k = some v
 | [], k, v, h => by cases h
 | m :: r, k, v, h => by
  simp only [pickL] at h
  split at h
  ·rename_i x hx
   simp only [look] at h
   split at h
   ·rename_i e; subst e; cases h; exact hx
   ·exact look_pickL l r k v h
  ·exact look_pickL l r k v h
theorem mem_slMent : ∀ {sl : List (Nat × S)} {t : Nat} {v : S} {s : Nat}, (t, v) ∈ sl → s ∈ v.ment → s ∈ slMent sl
 | [], t, v, s, h, _ => by cases h
 | (t', v') :: r, t, v, s, h, hm => by
  simp only [slMent]
  rcases List.mem_cons.1 h with h | h
  ·cases h; exact List.mem_append_left _ hm
  ·exact List.mem_append_right _ (mem_slMent h hm)
theorem mem_hpMent : ∀ {hp : Hp} {t : Nat} {B : Blk} {s : Nat}, (t, B) ∈ hp → s ∈ B.ment → s ∈ hpMent hp
 | [], t, v, s, h, _ => by cases h
 | (t', .box vs) :: r, t, v, s, h, hm => by
  simp only [hpMent]
  rcases List.mem_cons.1 h with h | h
  ·cases h; exact List.mem_append_left _ hm
  ·exact List.mem_append_right _ (mem_hpMent h hm)
 | (t', .rows el e xs) :: r, t, v, s, h, hm => by
  simp only [hpMent]
  rcases List.mem_cons.1 h with h | h
  ·cases h; cases hm
  ·exact mem_hpMent h hm

theorem pickL_is {α : Type} {l : List (Nat × α)} : ∀ {ns : List Nat} {s : Nat}, s ∈ ns → (look l s).isSome = true → (look (pickL l ns) s).isSome = true
 | [], s, h, _ => by cases h
 | k :: r, s, h, hs => by
  unfold pickL
  by_cases hk : k = s
  ·subst hk
   cases hq : look l k with
   | none => rw [hq] at hs; cases hs
   | some v => simp [look]
  ·have h' : s ∈ r := (List.mem_cons.1 h).resolve_left fun e => hk e.symm
   split
   ·simp only [look]
    rw [if_neg hk]
    exact pickL_is h' hs
   ·exact pickL_is h' hs
theorem mem_lowB' {s : Nat} (hs : s < 64) {vs : List V} : ∀ {hp : Hp} {seen : List Nat}, s ∉ seen → look hp s = some (.box vs) → s ∈ lowB seen hp
 | [], seen, _, h => by cases h
 | (k, B) :: r, seen, hn, h => by
  simp only [look] at h
  unfold lowB
  by_cases hk : k = s
  ·subst hk
   rw [if_pos rfl] at h
   cases h
   rw [if_neg (by omega), if_neg (fun hc => hn (List.contains_iff_mem.1 hc))]
   exact List.mem_cons_self ..
  ·rw [if_neg hk] at h
   have hn' : s ∉ k :: seen := by rw [List.mem_cons, not_or]; exact ⟨fun e => hk e.symm, hn⟩
   split
   ·exact mem_lowB' hs hn h
   ·split
    ·exact mem_lowB' hs hn h
    ·split
     ·exact List.mem_cons_of_mem _ (mem_lowB' hs hn' h)
     ·exact mem_lowB' hs hn' h
theorem mem_lowB {s : Nat} (hs : s < 64) {vs : List V} {hp : Hp} (h : look hp s = some (.box vs)) : s ∈ lowB [] hp := mem_lowB' hs (by simp) h
theorem Inv.keep (I : Inv n Γ w0 ok0 loc st a w) {l : List Nat} (hk : gcK l st = some st') : ∃ loc', Inv n Γ w0 ok0 loc' st' a w := by
 unfold gcK at hk
 dsimp only at hk
 split at hk
 ·rename_i hc
  cases hk
  simp only [Bool.and_eq_true, List.all_eq_true] at hc
  obtain ⟨c1, c2⟩ := hc
  generalize hhp : pickL st.hp (slMent (pickL st.sl l) ++ lowB [] st.hp ++ hpMent (pickL st.hp (slMent (pickL st.sl l) ++ lowB [] st.hp))) = hp at c1 c2
  have hsub : ∀ s B, look hp s = some B → look st.hp s = some B := by
   intro s B h
   rw [← hhp] at h
   exact look_pickL _ _ _ _ h
  refine ⟨fun s => if (look hp s).isSome then loc s else none, ?_⟩
  have hloc : ∀ s m, (if (look hp s).isSome then loc s else none) = some m → loc s = some m := by
   intro s m h
   split at h
   ·exact h
   ·cases h
  have hok : ∀ b, okI w0 ok0 w loc b → okI w0 ok0 w (fun s => if (look hp s).isSome then loc s else none) b ∧ w.heap[b]? = w.heap[b]? := fun b h => ⟨⟨h.1, h.2.1, fun s m hs => h.2.2 s m (hloc s m hs)⟩, rfl⟩
  have hkeep : ∀ s m, (look hp s).isSome = true → loc s = some m → (if (look hp s).isSome then loc s else none) = some m := fun s m h1 h2 => by rw [if_pos h1]; exact h2
  refine ⟨I.below, I.okb, ⟨fun s => ?_, fun s m B h1 h2 => ?_, fun s s' m m' b h1 h2 h3 h4 => I.hp.inj s s' m m' b (hloc s m h1) (hloc s' m' h2) h3 h4, fun s m b h1 h2 => I.hp.lo s m b (hloc s m h1) h2⟩, I.oko, fun s b h => ⟨(I.bx s b h).1, hkeep s _ ?_ (I.bx s b h).2⟩, I.sz, fun t v h => ?_, I.df⟩
  ·dsimp only
   cases hq : look hp s with
   | none => simp
   | some B => simp only [Option.isSome_some, if_true]; rw [I.hp.dom, hsub s B hq]; rfl
  ·refine (I.hp.blk s m B (hloc s m h1) (hsub s B h2)).mono hok (fun _ _ => rfl) (fun t m' ht hm' => hkeep t m' (c1 t ?_) hm')
   exact mem_hpMent (look_mem _ _ _ h2) ht
  ·obtain ⟨b1, b2⟩ := I.bx s b h
   have h3 := I.hp.dom s
   rw [b2] at h3
   cases h4 : look st.hp s with
   | none => rw [h4] at h3; cases h3
   | some B =>
    have h5 := I.hp.blk s _ B b2 h4
    cases B with
    | rows el e xs => exact h5.elim
    | box vs =>
     rw [← hhp]
     exact pickL_is (List.mem_append_left _ (List.mem_append_right _ (mem_lowB b1 h4))) (by rw [h4]; rfl)
  ·have h1 := look_pickL _ _ _ _ h
   obtain ⟨g1, g2⟩ := I.sl t v h1
   refine ⟨g1, g2.mono hok fun s m hs hm => hkeep s m (c2 s ?_) hm⟩
   exact mem_slMent (look_mem _ _ _ h) hs
 ·cases hk

def chkC (P : Program) (n : Nat) : C → Code → Bool
 | .keep _ c, d => chkC P n c d
 | .frz _ c, d => chkC P n c d
 | .skip, d => match d with
  | .skip => true
  | .label _ => true
  | _ => false
 | .region q draw, d => match d with
  | .region _ ops dr => (draw == dr) && chkR P n ops.toList q draw
  | _ => false
 | .seq x y, d => match d with
  | .seq x' y' => chkC P n x x' && chkC P n y y'
  | _ => false
 | .cond c x y, d => match d with
  | .cond c' x' y' => xok c' c && chkC P n x x' && chkC P n y y'
  | _ => false
 | .block id x, d => match d with
  | .block id' x' => (id == id') && chkC P n x x'
  | _ => false
 | .loop x, d => match d with
  | .loop x' => chkC P n x x'
  | _ => false
 | .exit id, d => match d with
  | .exit id' => id == id'
  | _ => false
 | .ret, d => match d with
  | .ret => true
  | _ => false
def Out.ex : Out → Exit
 | .norm => .normal
 | .exit id => .exit id
 | .ret => .ret

theorem code_ok (hE : ∀ f, Sound P f (E f)) {N : Nat} : ∀ (c : C) (d : Code) (st st' : St) (out : Out) (loc : Locs) (a : Act) (w : World) (Q : Exit → Act → World → Prop), chkC P n c d = true → Inv n Γ w0 ok0 loc st a w → c.ev E N st = some (out, st') →
  (∀ a' w' loc', Inv n Γ w0 ok0 loc' st' a' w' → Q out.ex a' w') → d.wp P Q a w
 | .skip, d, st, st', out, loc, a, w, Q, hc, I, he, hn => by
  simp only [C.ev] at he
  cases he
  simp only [chkC] at hc
  split at hc
  ·exact wp_skip (hn _ _ _ I)
  ·exact wp_label (hn _ _ _ I)
  ·cases hc
 | .region q draw, d, st, st', out, loc, a, w, Q, hc, I, he, hn => by
  simp only [C.ev] at he
  split at he
  ·rename_i s1 hs
   cases he
   simp only [chkC] at hc
   split at hc
   ·simp only [Bool.and_eq_true, beq_iff_eq] at hc
    obtain ⟨rfl, hc⟩ := hc
    exact regionR_ok hE hc I hs hn
   ·cases hc
  ·cases he
 | .seq x y, d, st, st', out, loc, a, w, Q, hc, I, he, hn => by
  simp only [C.ev] at he
  simp only [chkC] at hc
  split at hc
  ·rename_i x' y'
   simp only [Bool.and_eq_true] at hc
   refine wp_seq ?_
   split at he
   ·rename_i s1 h1
    exact code_ok hE x x' st s1 .norm loc a w _ hc.1 I h1 fun a' w' loc' I' => code_ok hE y y' s1 st' out loc' a' w' Q hc.2 I' he hn
   ·rename_i hno
    cases out with
    | norm => exact absurd he (hno st')
    | exit id => exact code_ok hE x x' st st' (.exit id) loc a w _ hc.1 I he hn
    | ret => exact code_ok hE x x' st st' .ret loc a w _ hc.1 I he hn
  ·cases hc
 | .cond c x y, d, st, st', out, loc, a, w, Q, hc, I, he, hn => by
  simp only [C.ev] at he
  simp only [chkC] at hc
  split at hc
  ·simp only [Bool.and_eq_true] at hc
   split at he
   ·rename_i t ht
    have hb := rs_bool (xok_rs hc.1.1 (I.gok fun _ _ h => h) ht)
    refine wp_cond hb ?_
    cases t with
    | true => exact code_ok hE x _ st st' out loc a w Q hc.1.2 I he hn
    | false => exact code_ok hE y _ st st' out loc a w Q hc.2 I he hn
   ·cases he
  ·cases hc
 | .block id x, d, st, st', out, loc, a, w, Q, hc, I, he, hn => by
  simp only [C.ev] at he
  simp only [chkC] at hc
  split at hc
  ·simp only [Bool.and_eq_true, beq_iff_eq] at hc
   obtain ⟨rfl, hc⟩ := hc
   refine wp_block ?_
   split at he
   ·rename_i i s1 h1
    refine code_ok hE x _ st s1 (.exit i) loc a w _ hc I h1 fun a' w' loc' I' => ?_
    show if i = id then Q .normal a' w' else Q (.exit i) a' w'
    split at he
    ·rename_i hi; cases he; rw [if_pos hi]; exact hn _ _ _ I'
    ·rename_i hi; cases he; rw [if_neg hi]; exact hn _ _ _ I'
   ·rename_i hno
    cases out with
    | norm => exact code_ok hE x _ st st' .norm loc a w _ hc I he hn
    | exit i => exact absurd he (hno i st')
    | ret => exact code_ok hE x _ st st' .ret loc a w _ hc I he hn
  ·cases hc
 | .loop x, d, st, st', out, loc, a, w, Q, hc, I, he, hn => by
  simp only [C.ev] at he
  simp only [chkC] at hc
  split at hc
  ·rename_i x'
   have key : ∀ (m : Nat) (st : St) (loc : Locs) (a : Act) (w : World), Inv n Γ w0 ok0 loc st a w → iter m (x.ev E N) st = some (out, st') → Code.rounds P x' Q m a w := by
    intro m
    induction m with
    | zero => intro st loc a w I he; cases he
    | succ m ih =>
     intro st loc a w I he
     rw [rounds_succ]
     simp only [iter] at he
     split at he
     ·rename_i s1 h1
      exact code_ok hE x x' st s1 .norm loc a w _ hc I h1 fun a' w' loc' I' => ih s1 loc' a' w' I' he
     ·rename_i hno
      cases out with
      | norm => exact absurd he (hno st')
      | exit id => exact code_ok hE x x' st st' (.exit id) loc a w _ hc I he hn
      | ret => exact code_ok hE x x' st st' .ret loc a w _ hc I he hn
   exact wp_loop_rounds N (key N st loc a w I he)
  ·cases hc
 | .exit id, d, st, st', out, loc, a, w, Q, hc, I, he, hn => by
  simp only [C.ev] at he
  cases he
  simp only [chkC] at hc
  split at hc
  ·simp only [beq_iff_eq] at hc
   subst hc
   exact wp_exit (hn _ _ _ I)
  ·cases hc
 | .ret, d, st, st', out, loc, a, w, Q, hc, I, he, hn => by
  simp only [C.ev] at he
  cases he
  simp only [chkC] at hc
  split at hc
  ·exact wp_ret (hn _ _ _ I)
  ·cases hc
 | .keep l x, d, st, st', out, loc, a, w, Q, hc, I, he, hn => by
  simp only [C.ev] at he
  split at he
  ·rename_i s1 h1
   obtain ⟨loc', I'⟩ := I.keep h1
   exact code_ok hE x d s1 st' out loc' a w Q hc I' he hn
  ·cases he
 | .frz l x, d, st, st', out, loc, a, w, Q, hc, I, he, hn => by
  simp only [C.ev] at he
  obtain ⟨loc', I'⟩ := Inv.freezes _ I
  exact code_ok hE x d _ st' out loc' a w Q hc I' he hn
end
end Go.Proofs.YtdflglehippoiaaGreatDoorR
namespace Go.Proofs.YtdflglehippoiaaGreatDoorR
open Go Go.RowKit

abbrev Al := List (Nat × Nat)
def aL (m : Nat) (al : Al) (loc : Locs) : Locs := fun k => if k < m then loc k else match look al k with
 | some s => loc s
 | none => none
section
variable {P : Program} {n : Nat} {Γ : Ent} {w0 : World} {ok0 : Nat → Prop} {loc : Locs} {st st' : St} {a : Act} {w : World} {E : Nat → Model} {m : Nat}

def AlLe (al al' : Al) : Prop := ∀ q s, look al q = some s → look al' q = some s
theorem AlLe.refl (al : Al) : AlLe al al := fun _ _ h => h
theorem AlLe.trans {a b c : Al} (h : AlLe a b) (h' : AlLe b c) : AlLe a c := fun q s hq => h' q s (h q s hq)
def Seen (w : World) (ok : Nat → Prop) (loc : Locs) (m : Nat) (al : Al) (vs vs' : List V) : Prop := ∀ cs, RVs w ok loc vs cs → ∀ (alF : Al) (okF : Nat → Prop), AlLe al alF → (∀ b, ok b → okF b) → RVs w okF (aL m alF loc) vs' cs
theorem Seen.mono {w : World} {ok : Nat → Prop} {loc : Locs} {m : Nat} {al al' : Al} {vs vs' : List V} (h : Seen w ok loc m al vs vs') (hl : AlLe al al') : Seen w ok loc m al' vs vs' := fun cs hv alF okF h1 h2 => h cs hv alF okF (hl.trans h1) h2
def HandB (w : World) (ok : Nat → Prop) (loc : Locs) (m : Nat) (al : Al) (B0 B : Blk) : Prop :=
 (∃ el e xs len, B0 = .rows el e xs ∧ B = .rows el e (xs.take len)) ∨ (∃ vs vs', B0 = .box vs ∧ B = .box vs' ∧ Seen w ok loc m al vs vs')
theorem HandB.mono {w : World} {ok : Nat → Prop} {loc : Locs} {m : Nat} {al al' : Al} {B0 B : Blk} (h : HandB w ok loc m al B0 B) (hl : AlLe al al') : HandB w ok loc m al' B0 B := by
 rcases h with h | ⟨vs, vs', h1, h2, h3⟩
 ·exact .inl h
 ·exact .inr ⟨vs, vs', h1, h2, h3.mono hl⟩
structure Own (w : World) (ok : Nat → Prop) (loc : Locs) (m : Nat) (h : Nat → Option Blk) (k : Nat) (al : Al) (hp : Hp) : Prop where
 ge : m ≤ k
 lt : ∀ q s, look al q = some s → m ≤ q ∧ q < k
 ne : ∀ q s, look al q = some s → m ≤ s
 dom : ∀ q, (look al q).isSome = (look hp q).isSome
 blk : ∀ q s B, look al q = some s → look hp q = some B → ∃ B0, h s = some B0 ∧ HandB w ok loc m al B0 B
 inj : ∀ q q' s, look al q = some s → look al q' = some s → q = q'
theorem Own.up {ok : Nat → Prop} {h : Nat → Option Blk} {k k' : Nat} {al : Al} {hp : Hp} (o : Own w ok loc m h k al hp) (hk : k ≤ k') : Own w ok loc m h k' al hp := ⟨Nat.le_trans o.ge hk, fun q s hq => ⟨(o.lt q s hq).1, Nat.lt_of_lt_of_le (o.lt q s hq).2 hk⟩, o.ne, o.dom, o.blk, o.inj⟩
theorem mem_snd {al : Al} {q s : Nat} (h : look al q = some s) : s ∈ al.map (·.2) := List.mem_map.2 ⟨(q, s), look_mem _ _ _ h, rfl⟩
theorem Own.add {ok : Nat → Prop} {h : Nat → Option Blk} {k : Nat} {al : Al} {hp : Hp} (o : Own w ok loc m h k al hp) {s : Nat} (hs : m ≤ s) (hu : s ∉ al.map (·.2)) {B0 B : Blk} (hB : h s = some B0) (hH : HandB w ok loc m ((k, s) :: al) B0 B) :
  Own w ok loc m h (k + 1) ((k, s) :: al) (hp ++ [(k, B)]) ∧ AlLe al ((k, s) :: al) := by
 have hle : AlLe al ((k, s) :: al) := by
  intro q t hq
  have := (o.lt q t hq).2
  simp only [look]
  rw [if_neg (by omega)]
  exact hq
 have hnk : look al k = none := by
  cases h4 : look al k with
  | none => rfl
  | some t => have := (o.lt k t h4).2; omega
 have hnh : look hp k = none := by
  have h3 := o.dom k
  rw [hnk] at h3
  cases h5 : look hp k with
  | none => rfl
  | some B => rw [h5] at h3; cases h3
 refine ⟨⟨by have := o.ge; omega, fun q t hq => ?_, fun q t hq => ?_, fun q => ?_, fun q t B' h1 h2 => ?_, fun q q' t h1 h2 => ?_⟩, hle⟩
 ·simp only [look] at hq
  split at hq
  ·have := o.ge; omega
  ·have := o.lt q t hq; omega
 ·simp only [look] at hq
  split at hq
  ·cases hq; exact hs
  ·exact o.ne q t hq
 ·rw [look_append]
  simp only [look]
  by_cases hkq : k = q
  ·subst hkq
   rw [if_pos rfl, hnh]
   simp
  ·rw [if_neg hkq, if_neg hkq, o.dom q]
   cases look hp q <;> rfl
 ·simp only [look] at h1
  rw [look_append] at h2
  split at h1
  ·rename_i hkq
   subst hkq
   cases h1
   rw [hnh] at h2
   simp only [look, if_true] at h2
   cases h2
   exact ⟨B0, hB, hH⟩
  ·rename_i hkq
   have h3 := o.dom q
   rw [h1] at h3
   cases h5 : look hp q with
   | some B'' =>
    rw [h5] at h2
    cases h2
    obtain ⟨B1, g1, g2⟩ := o.blk q t _ h1 h5
    exact ⟨B1, g1, g2.mono hle⟩
   | none => rw [h5] at h3; cases h3
 ·simp only [look] at h1 h2
  split at h1
  ·split at h2
   ·omega
   ·cases h1; exact absurd (mem_snd h2) hu
  ·split at h2
   ·cases h2; exact absurd (mem_snd h1) hu
   ·exact o.inj q q' t h1 h2

theorem handV_ok {h : Nat → Option Blk} {al : Al} {hpA : Hp} {k : Nat} (o : Own w (okI w0 ok0 w loc) loc m h k al hpA) {v v' : V} {used : List Nat} {hp : Hp} (hh : handV h m (al.map (·.2)) k v = some (v', used, hp)) :
  ∃ al', AlLe al al' ∧ used = al'.map (·.2) ∧ Own w (okI w0 ok0 w loc) loc m h (k + 1) al' (hpA ++ hp) ∧ ∀ x, RV w (okI w0 ok0 w loc) loc v x → ∀ (alF : Al) (okF : Nat → Prop), AlLe al' alF → (∀ b, okI w0 ok0 w loc b → okF b) → RV w okF (aL m alF loc) v' x := by
 have hpure : ∀ {v : V}, v.ment = none → some (v, al.map (·.2), ([] : Hp)) = some (v', used, hp) → ∃ al', AlLe al al' ∧ used = al'.map (·.2) ∧ Own w (okI w0 ok0 w loc) loc m h (k + 1) al' (hpA ++ hp) ∧ ∀ x, RV w (okI w0 ok0 w loc) loc v x → ∀ (alF : Al) (okF : Nat → Prop), AlLe al' alF → (∀ b, okI w0 ok0 w loc b → okF b) → RV w okF (aL m alF loc) v' x := by
  intro v hm he
  cases he
  exact ⟨al, AlLe.refl al, rfl, by rw [List.append_nil]; exact o.up (Nat.le_succ k), fun x hv alF okF _ h2 => ((rv_rep hv hm).mono fun b hb => ⟨h2 b hb, rfl⟩).rv⟩
 have hlow : ∀ {v : V} {s : Nat}, s < m → (∀ t, v.ment = some t → t = s) → some (v, al.map (·.2), ([] : Hp)) = some (v', used, hp) → ∃ al', AlLe al al' ∧ used = al'.map (·.2) ∧ Own w (okI w0 ok0 w loc) loc m h (k + 1) al' (hpA ++ hp) ∧ ∀ x, RV w (okI w0 ok0 w loc) loc v x → ∀ (alF : Al) (okF : Nat → Prop), AlLe al' alF → (∀ b, okI w0 ok0 w loc b → okF b) → RV w okF (aL m alF loc) v' x := by
  intro v s hs hm he
  cases he
  refine ⟨al, AlLe.refl al, rfl, by rw [List.append_nil]; exact o.up (Nat.le_succ k), fun x hv alF okF _ h2 => RV.mono hv (fun b hb => ⟨h2 b hb, rfl⟩) fun t l ht hl => ?_⟩
  rw [hm t ht] at hl ⊢
  unfold aL
  rw [if_pos hs]
  exact hl
 cases v with
 | sl s off len =>
  simp only [handV] at hh
  split at hh
  ·exact hlow ‹_› (fun t ht => by cases ht; rfl) hh
  ·rename_i hsm
   split at hh
   ·rename_i hc
    obtain ⟨rfl, hu⟩ := hc
    split at hh
    ·rename_i el e xs hq
     split at hh
     ·rename_i hl
      cases hh
      have hnot : s ∉ al.map (·.2) := by simpa using hu
      obtain ⟨h1, h2⟩ := o.add (B := .rows el e (xs.take len)) (by omega) hnot hq (.inl ⟨el, e, xs, len, rfl, rfl⟩)
      refine ⟨(k, s) :: al, h2, rfl, h1, fun x hv alF okF h3 h4 => ?_⟩
      have h5 : look alF k = some s := h3 k s (by simp only [look, if_true])
      have h6 : aL m alF loc k = loc s := by unfold aL; rw [if_neg (by have := o.ge; omega), h5]
      rcases hv with ⟨b, el2, e2, cap, g1, g2, g3⟩ | ⟨g1, g2, g3, g4⟩
      ·exact .inl ⟨b, el2, e2, cap, by rw [h6]; exact g1, g2, g3⟩
      ·exact .inr ⟨by rw [h6]; exact g1, g2, g3, g4⟩
     ·cases hh
    ·cases hh
   ·cases hh
 | ref s i j =>
  simp only [handV] at hh
  split at hh
  ·exact hlow ‹_› (fun t ht => by cases ht; rfl) hh
  ·cases hh
 | _ => exact hpure rfl hh

theorem handVs_ok {h : Nat → Option Blk} : ∀ (vs : List V) (vs' : List V) (al : Al) (hpA : Hp) (k k' : Nat) (used : List Nat) (hp : Hp), Own w (okI w0 ok0 w loc) loc m h k al hpA → handVs h m (al.map (·.2)) k vs = some (vs', used, k', hp) →
  ∃ al', AlLe al al' ∧ used = al'.map (·.2) ∧ Own w (okI w0 ok0 w loc) loc m h k' al' (hpA ++ hp) ∧ Seen w (okI w0 ok0 w loc) loc m al' vs vs'
 | [], vs', al, hpA, k, k', used, hp, o, hh => by
  cases hh
  exact ⟨al, AlLe.refl al, rfl, by rw [List.append_nil]; exact o, fun cs hv alF okF _ _ => ⟨hv.1, fun j v c h => by cases h⟩⟩
 | v :: r, vs', al, hpA, k, k', used, hp, o, hh => by
  simp only [handVs] at hh
  split at hh
  ·rename_i v1 used1 hp1 h1
   split at hh
   ·rename_i r1 used2 k2 hp2 h2
    cases hh
    obtain ⟨al1, a1, a2, a3, a4⟩ := handV_ok o h1
    subst a2
    obtain ⟨al2, b1, b2, b3, b4⟩ := handVs_ok r r1 al1 (hpA ++ hp1) (k + 1) k' used hp2 a3 h2
    refine ⟨al2, a1.trans b1, b2, by rw [← List.append_assoc]; exact b3, fun cs hv alF okF c1 c2 => ?_⟩
    cases cs with
    | nil => cases hv.1
    | cons c q =>
     obtain ⟨d1, d2⟩ := b4 q ⟨by have := hv.1; simpa using this, fun j v c g1 g2 => hv.2 (j + 1) v c (by simpa using g1) (by simpa using g2)⟩ alF okF c1 c2
     refine ⟨by simp [d1], fun j v' c' g1 g2 => ?_⟩
     cases j with
     | zero => simp at g1 g2; subst g1; subst g2; exact a4 _ (hv.2 0 v _ rfl rfl) alF okF (b1.trans c1) c2
     | succ j => exact d2 j v' c' (by simpa using g1) (by simpa using g2)
   ·cases hh
  ·cases hh
theorem handS_ok {h : Nat → Option Blk} {s s' : S} {al : Al} {hpA : Hp} {k k' : Nat} {used : List Nat} {hp : Hp} (o : Own w (okI w0 ok0 w loc) loc m h k al hpA) (hh : handS h m (al.map (·.2)) k s = some (s', used, k', hp)) :
  ∃ al', AlLe al al' ∧ used = al'.map (·.2) ∧ Own w (okI w0 ok0 w loc) loc m h k' al' (hpA ++ hp) ∧ ∀ x, RS w (okI w0 ok0 w loc) loc s x → ∀ (alF : Al) (okF : Nat → Prop), AlLe al' alF → (∀ b, okI w0 ok0 w loc b → okF b) → RS0 w okF (aL m alF loc) s' x := by
 have hone : ∀ {v : V}, (match handVs h m (al.map (·.2)) k [v] with | some ([v'], used', k', hp) => some (S.one v', used', k', hp) | _ => none) = some (s', used, k', hp) → ∃ al', AlLe al al' ∧ used = al'.map (·.2) ∧ Own w (okI w0 ok0 w loc) loc m h k' al' (hpA ++ hp) ∧ ∀ x, RS w (okI w0 ok0 w loc) loc (.one v) x → ∀ (alF : Al) (okF : Nat → Prop), AlLe al' alF → (∀ b, okI w0 ok0 w loc b → okF b) → RS0 w okF (aL m alF loc) s' x := by
  intro v he
  split at he
  ·rename_i v' used' k2 hp' h1
   cases he
   obtain ⟨al', a1, a2, a3, a4⟩ := handVs_ok [v] [v'] al hpA k k' used hp o h1
   refine ⟨al', a1, a2, a3, fun x hv alF okF c1 c2 => (a4 [x] ⟨rfl, fun j v0 c g1 g2 => ?_⟩ alF okF c1 c2).2 0 v' x rfl rfl⟩
   cases j with
   | zero => simp at g1 g2; subst g1; subst g2; exact hv
   | succ j => simp at g1
  ·cases he
 cases s with
 | one v =>
  cases v with
  | ref t i j =>
   simp only [handS] at hh
   split at hh
   ·rename_i ht
    cases hh
    refine ⟨al, AlLe.refl al, rfl, by rw [List.append_nil]; exact o, fun x hv alF okF _ h2 => RV.mono (w := w) (w' := w) (v := .ref t i j) hv (fun b hb => ⟨h2 b hb, rfl⟩) fun q l hq hl => ?_⟩
    cases hq
    unfold aL
    rw [if_pos ht]
    exact hl
   ·rename_i htm
    split at hh
    ·rename_i hij
     obtain ⟨rfl, rfl⟩ := hij
     split at hh
     ·rename_i vs hvs
      split at hh
      ·rename_i vs' used' k2 hp' h1
       split at hh
       ·rename_i hu
        cases hh
        obtain ⟨al', a1, a2, a3, a4⟩ := handVs_ok vs vs' al hpA k k2 used' hp' o h1
        have hnot : t ∉ al'.map (·.2) := by rw [← a2]; simpa using hu
        have hle : AlLe al' ((k2, t) :: al') := by
         intro q s hq
         have := (a3.lt q s hq).2
         simp only [look]
         rw [if_neg (by omega)]
         exact hq
        obtain ⟨h3, h4⟩ := a3.add (B := .box vs') (by omega) hnot hvs (.inr ⟨vs, vs', rfl, rfl, a4.mono hle⟩)
        refine ⟨(k2, t) :: al', a1.trans h4, by rw [a2]; rfl, by rw [← List.append_assoc]; exact h3, fun x hv alF okF c1 c2 => ?_⟩
        have h5 : look alF k2 = some t := c1 k2 t (by simp only [look, if_true])
        have h6 : aL m alF loc k2 = loc t := by unfold aL; rw [if_neg (by have := a3.ge; omega), h5]
        have hv' : RV w (okI w0 ok0 w loc) loc (.ref t 0 0) x := hv
        rcases hv' with ⟨b, g1, g2, g3⟩ | ⟨b, el, e, cap, g1, g3⟩
        ·exact .inl ⟨b, by rw [h6]; exact g1, rfl, g3⟩
        ·exact .inr ⟨b, el, e, cap, by rw [h6]; exact g1, g3⟩
       ·cases hh
      ·cases hh
     ·cases hh
    ·cases hh
  | _ => exact hone hh
 | agg vs =>
  simp only [handS] at hh
  split at hh
  ·rename_i vs' used' k2 hp' h1
   cases hh
   obtain ⟨al', a1, a2, a3, a4⟩ := handVs_ok vs vs' al hpA k k' used hp o h1
   refine ⟨al', a1, a2, a3, fun x hv alF okF c1 c2 => ?_⟩
   obtain ⟨cs, rfl, hr⟩ := hv
   exact ⟨cs, rfl, a4 _ hr alF okF c1 c2⟩
  ·cases hh
 | undef => cases hh
 | tup xs => cases hh
theorem handSs_ok {h : Nat → Option Blk} : ∀ (l l' : List S) (al : Al) (hpA : Hp) (k k' : Nat) (used : List Nat) (hp : Hp), Own w (okI w0 ok0 w loc) loc m h k al hpA → handSs h m (al.map (·.2)) k l = some (l', used, k', hp) →
  ∃ al', AlLe al al' ∧ used = al'.map (·.2) ∧ Own w (okI w0 ok0 w loc) loc m h k' al' (hpA ++ hp) ∧ l'.length = l.length ∧ ∀ (xs : List Value), (∀ (j : Nat) s x, l[j]? = some s → xs[j]? = some x → RS w (okI w0 ok0 w loc) loc s x) → ∀ (alF : Al) (okF : Nat → Prop), AlLe al' alF → (∀ b, okI w0 ok0 w loc b → okF b) → ∀ (j : Nat) s x, l'[j]? = some s → xs[j]? = some x → RS0 w okF (aL m alF loc) s x
 | [], l', al, hpA, k, k', used, hp, o, hh => by
  cases hh
  exact ⟨al, AlLe.refl al, rfl, by rw [List.append_nil]; exact o, rfl, fun xs _ alF okF _ _ j s x h => by cases h⟩
 | s :: r, l', al, hpA, k, k', used, hp, o, hh => by
  simp only [handSs] at hh
  split at hh
  ·rename_i s1 used1 k1 hp1 h1
   split at hh
   ·rename_i r1 used2 k2 hp2 h2
    cases hh
    obtain ⟨al1, a1, a2, a3, a4⟩ := handS_ok o h1
    subst a2
    obtain ⟨al2, b1, b2, b3, b5, b4⟩ := handSs_ok r r1 al1 (hpA ++ hp1) k1 k' used hp2 a3 h2
    refine ⟨al2, a1.trans b1, b2, by rw [← List.append_assoc]; exact b3, by simp [b5], fun xs hv alF okF c1 c2 j s' x' g1 g2 => ?_⟩
    cases xs with
    | nil => simp at g2
    | cons x q =>
     cases j with
     | zero => simp at g1 g2; subst g1; subst g2; exact a4 _ (hv 0 s _ rfl rfl) alF okF (b1.trans c1) c2
     | succ j => exact b4 q (fun j s x g1 g2 => hv (j + 1) s x (by simpa using g1) (by simpa using g2)) alF okF c1 c2 j s' x' (by simpa using g1) (by simpa using g2)
   ·cases hh
  ·cases hh
theorem handBs_ok {h : Nat → Option Blk} : ∀ (l : List Nat) (al : Al) (hpA : Hp) (k : Nat) (used : List Nat) (hpE hpN : Hp), used = al.map (·.2) → Own w (okI w0 ok0 w loc) loc m h k al hpA → handBs h m used k l = some (hpE, hpN) →
  ∃ al' k', AlLe al al' ∧ Own w (okI w0 ok0 w loc) loc m h k' al' (hpA ++ hpN) ∧ (∀ s, (look hpE s).isSome = true ↔ s ∈ l ∧ (h s).isSome = true) ∧ ∀ s B, look hpE s = some B → ∃ B0, h s = some B0 ∧ ((∃ el e xs, B0 = .rows el e xs ∧ B = .rows el e xs) ∨ ∃ vs vs', B0 = .box vs ∧ B = .box vs' ∧ Seen w (okI w0 ok0 w loc) loc m al' vs vs')
 | [], al, hpA, k, used, hpE, hpN, hu, o, hh => by
  cases hh
  exact ⟨al, k, AlLe.refl al, by rw [List.append_nil]; exact o, fun s => by simp [look], fun s B h => by cases h⟩
 | t :: r, al, hpA, k, used, hpE, hpN, hu, o, hh => by
  simp only [handBs] at hh
  split at hh
  ·rename_i vs hvs
   split at hh
   ·rename_i vs' used' k' hpN1 h1
    split at hh
    ·rename_i hpE2 hpN2 h2
     cases hh
     subst hu
     obtain ⟨al1, a1, a2, a3, a4⟩ := handVs_ok vs vs' al hpA k k' used' hpN1 o h1
     obtain ⟨al2, k2, b1, b2, b3, b4⟩ := handBs_ok r al1 (hpA ++ hpN1) k' used' hpE2 hpN2 a2 a3 h2
     refine ⟨al2, k2, a1.trans b1, by rw [← List.append_assoc]; exact b2, fun s => ?_, fun s B hs => ?_⟩
     ·simp only [look]
      by_cases hts : t = s
      ·subst hts; rw [if_pos rfl]; simp [hvs]
      ·rw [if_neg hts, b3, List.mem_cons]
       simp [show ¬ s = t from fun e => hts e.symm]
     ·simp only [look] at hs
      split at hs
      ·rename_i e; subst e; cases hs
       exact ⟨_, hvs, .inr ⟨vs, vs', rfl, rfl, a4.mono b1⟩⟩
      ·exact b4 s B hs
    ·cases hh
   ·cases hh
  ·rename_i el e xs hxs
   split at hh
   ·rename_i hpE2 hpN2 h2
    cases hh
    obtain ⟨al2, k2, b1, b2, b3, b4⟩ := handBs_ok r al hpA k used hpE2 hpN hu o h2
    refine ⟨al2, k2, b1, b2, fun s => ?_, fun s B hs => ?_⟩
    ·simp only [look]
     by_cases hts : t = s
     ·subst hts; rw [if_pos rfl]; simp [hxs]
     ·rw [if_neg hts, b3, List.mem_cons]
      simp [show ¬ s = t from fun e => hts e.symm]
    ·simp only [look] at hs
     split at hs
     ·rename_i e'; subst e'; cases hs
      exact ⟨_, hxs, .inl ⟨el, e, xs, rfl, rfl⟩⟩
     ·exact b4 s B hs
   ·cases hh
  ·rename_i hn
   obtain ⟨al2, k2, b1, b2, b3, b4⟩ := handBs_ok r al hpA k used hpE hpN hu o hh
   refine ⟨al2, k2, b1, b2, fun s => ?_, b4⟩
   rw [b3, List.mem_cons]
   constructor
   ·exact fun h => ⟨.inr h.1, h.2⟩
   ·rintro ⟨rfl | h1, h2⟩
    ·rw [hn] at h2; cases h2
    ·exact ⟨h1, h2⟩

theorem mem_upTo {s : Nat} : ∀ {n k : Nat}, s ∈ upTo k n ↔ k ≤ s ∧ s < k + n
 | 0, k => by simp [upTo]
 | n + 1, k => by
  unfold upTo
  rw [List.mem_cons, mem_upTo]
  omega
theorem hand_ok (I : Inv n Γ w0 ok0 loc st a w) (hm : m ≤ 64) {l : List S} {xs : List Value} (hl : l.length = xs.length) (hv : ∀ (j : Nat) s x, l[j]? = some s → xs[j]? = some x → RS w (okI w0 ok0 w loc) loc s x) {r : S} {hp : Hp} (h : hand m (look st.hp) l = some (r, hp)) :
  ∃ loc', HpRel Γ.own w0.heap.size w (okI w0 ok0 w loc') loc' hp ∧ RS w (okI w0 ok0 w loc') loc' r (if h : xs.toArray.size = 1 then xs.toArray[0] else .tuple xs.toArray) ∧ ∀ s, s < m → loc' s = loc s := by
 unfold hand at h
 split at h
 case h_2 => cases h
 rename_i l' used k hpR h1
 split at h
 case h_2 => cases h
 rename_i hpE hpN h2
 cases h
 have hO : Own w (okI w0 ok0 w loc) loc m (look st.hp) (if m = 0 then 0 else 64) [] [] := ⟨by split <;> omega, fun q s h => (by cases h), fun q s h => (by cases h), fun q => rfl, fun q s B h => (by cases h), fun q q' s h => (by cases h)⟩
 obtain ⟨al1, a1, a2, a3, a5, a4⟩ := handSs_ok l l' [] [] _ k used hpR hO h1
 obtain ⟨al, k', b1, b2, b3, b4⟩ := handBs_ok (upTo 0 m) al1 ([] ++ hpR) k used hpE hpN a2 a3 h2
 rw [List.nil_append] at b2
 have hinv : ∀ q l, aL m al loc q = some l → ∃ s, loc s = some l ∧ ((q < m ∧ s = q) ∨ (m ≤ q ∧ m ≤ s ∧ look al q = some s)) := by
  intro q l hq
  unfold aL at hq
  split at hq
  ·exact ⟨q, hq, .inl ⟨‹_›, rfl⟩⟩
  ·split at hq
   ·rename_i s hs
    exact ⟨s, hq, .inr ⟨by omega, b2.ne q s hs, hs⟩⟩
   ·cases hq
 have hok : ∀ b, okI w0 ok0 w loc b → okI w0 ok0 w (aL m al loc) b := fun b hb => ⟨hb.1, hb.2.1, fun q l hq => by
  obtain ⟨s, h2, _⟩ := hinv q l hq
  exact hb.2.2 s l h2⟩
 have hbox : ∀ {b : Nat} {vs vs' : List V}, HB w (okI w0 ok0 w loc) loc (.box b) (.box vs) → Seen w (okI w0 ok0 w loc) loc m al vs vs' → HB w (okI w0 ok0 w (aL m al loc)) (aL m al loc) (.box b) (.box vs') := by
  intro b vs vs' hb hs
  obtain ⟨cs, el, g1, g2⟩ := hb
  exact ⟨cs, el, g1, hs _ g2 al _ (AlLe.refl al) hok⟩
 have hnoE : ∀ q, m ≤ q → look hpE q = none := by
  intro q hq
  cases h3 : look hpE q with
  | none => rfl
  | some B =>
   have := (b3 q).1 (by rw [h3]; rfl)
   have := mem_upTo.1 this.1
   omega
 refine ⟨aL m al loc, ⟨fun q => ?_, fun q l B g1 g2 => ?_, fun q q' l l' b g1 g2 g3 g4 => ?_, fun q l b g1 g2 => ?_⟩, ?_, fun s hs => by unfold aL; rw [if_pos hs]⟩
 ·rw [look_append]
  unfold aL
  by_cases hq : q < m
  ·rw [if_pos hq, I.hp.dom]
   cases h3 : look st.hp q with
   | some B0 =>
    have h4 := (b3 q).2 ⟨mem_upTo.2 ⟨Nat.zero_le _, by omega⟩, by rw [h3]; rfl⟩
    cases h5 : look hpE q with
    | some B => rfl
    | none => rw [h5] at h4; cases h4
   | none =>
    have h4 : look hpE q = none := by
     cases h5 : look hpE q with
     | none => rfl
     | some B => have := (b3 q).1 (by rw [h5]; rfl); rw [h3] at this; cases this.2
    rw [h4]
    have h5 := b2.dom q
    cases h6 : look al q with
    | some s => have := (b2.lt q s h6).1; omega
    | none => rw [h6] at h5; exact h5
  ·rw [if_neg hq, hnoE q (by omega)]
   dsimp only
   rw [← b2.dom q]
   cases h3 : look al q with
   | none => rfl
   | some s =>
    have h5 := b2.dom q
    rw [h3] at h5
    cases h6 : look (hpR ++ hpN) q with
    | none => rw [h6] at h5; cases h5
    | some B =>
     obtain ⟨B0, h7, _⟩ := b2.blk q s B h3 h6
     dsimp only
     rw [I.hp.dom, h7]; rfl
 ·rw [look_append] at g2
  obtain ⟨s, g3, g4⟩ := hinv q l g1
  rcases g4 with ⟨g4, rfl⟩ | ⟨g4, g5, g6⟩
  ·cases h3 : look hpE s with
   | none =>
    exfalso
    rw [h3] at g2
    have h5 := b2.dom s
    rw [show look (hpR ++ hpN) s = some B from g2] at h5
    cases h6 : look al s with
    | none => rw [h6] at h5; cases h5
    | some t => have := (b2.lt s t h6).1; omega
   | some B' =>
    rw [h3] at g2
    cases g2
    obtain ⟨B0, h4, h5⟩ := b4 s B h3
    have hb := I.hp.blk s l B0 g3 h4
    rcases h5 with ⟨el, e, ys, rfl, rfl⟩ | ⟨vs, vs', rfl, rfl, h6⟩
    ·exact hb.mono (fun b hb => ⟨hok b hb, rfl⟩) (fun _ _ => rfl) (fun t m' ht => by cases ht)
    ·cases l with
     | virt => exact hb.elim
     | rows b el e cap => exact hb.elim
     | box b => exact hbox hb h6
  ·rw [hnoE q g4] at g2
   obtain ⟨B0, h4, h5⟩ := b2.blk q s B g6 g2
   have hb := I.hp.blk s l B0 g3 h4
   rcases h5 with ⟨el, e, ys, len, rfl, rfl⟩ | ⟨vs, vs', rfl, rfl, h6⟩
   ·cases l with
    | virt =>
     have : ys = [] := hb
     subst this
     show List.take len [] = []
     simp
    | box b => exact hb
    | rows b el' e' cap =>
     obtain ⟨k1, k2, k3, k4, k5, cs, k6, k7, k8⟩ := hb
     refine ⟨k1, k2, k3, by rw [List.length_take]; omega, fun x hx => k5 x (List.mem_of_mem_take hx), cs, k6, k7, fun i j x p a1 a2 => ?_⟩
     rw [List.getElem?_take] at a1
     split at a1
     ·obtain ⟨u, hu, hr⟩ := k8 i j x p a1 a2
      exact ⟨u, hu, hr.mono fun b hb => ⟨hok b hb, rfl⟩⟩
     ·cases a1
   ·cases l with
    | virt => exact hb.elim
    | rows b el e cap => exact hb.elim
    | box b => exact hbox hb h6
 ·obtain ⟨s, e1, e2⟩ := hinv q l g1
  obtain ⟨s', e3, e4⟩ := hinv q' l' g2
  have := I.hp.inj s s' l l' b e1 e3 g3 g4
  subst this
  rcases e2 with ⟨e5, e6⟩ | ⟨e5, e6, e7⟩ <;> rcases e4 with ⟨e8, e9⟩ | ⟨e8, e9, e10⟩
  ·rw [← e6, ← e9]
  ·omega
  ·omega
  ·exact b2.inj q q' s e7 e10
 ·obtain ⟨s, e1, _⟩ := hinv q l g1
  exact I.hp.lo s l b e1 g2
 ·have hcell := a4 xs hv al _ b1 hok
  unfold one1
  split
  ·rename_i s
   have hx1 : xs.length = 1 := by rw [← hl, ← a5]; rfl
   match xs, hx1, hcell with
   | [x], _, hc => exact (hc 0 s x rfl rfl).rs
  ·rename_i hno
   have hx1 : xs.length ≠ 1 := by
    intro hx
    have h2 : l'.length = 1 := by rw [a5, hl, hx]
    match l', h2 with
    | [s], _ => exact hno s rfl
   rw [dif_neg (by simpa using hx1)]
   exact ⟨_, rfl, by simp [a5, hl], fun j s u g1 g2 => hcell j s u g1 (by simpa using g2)⟩

def resT (P : Program) : List ResultVar → List R → Bool
 | [], [] => true
 | .tmp t :: r, .t t' :: q => t == t' && resT P r q
 | .cell p ty :: r, .c p' m ag :: q => p == p' && agT P ty ag m && resT P r q
 | _, _ => false
def chkF (P : Program) (fn : Func) (F : F) : Bool := match fn.body with
 | some c => decide (F.np ≤ F.nt) && (fn.ntmps == F.nt) && chkC P F.nt F.body c && resT P fn.results.toList F.res
 | none => false
theorem run_results (I : Inv n Γ w0 ok0 loc st a w) : ∀ (rs : List ResultVar) (q : List R) (l : List S), resT P rs q = true → Rs.ev st q = some l → ∃ xs : List Value, (rs.mapM fun
  | .tmp t => (pure (a.tmps.getD t undef) : Sem Value)
  | .cell p t => do loadVar t (← asAddr (a.tmps.getD p undef)) : Sem (List Value)).run P w = .ok xs w ∧ l.length = xs.length ∧ ∀ (j : Nat) s x, l[j]? = some s → xs[j]? = some x → RS w (okI w0 ok0 w loc) loc s x
 | [], [], l, _, h => by cases h; exact ⟨[], rfl, rfl, fun j s x h => by cases h⟩
 | .tmp t :: r, .t t' :: q, l, hc, h => by
  simp only [resT, Bool.and_eq_true, beq_iff_eq] at hc
  obtain ⟨rfl, hc⟩ := hc
  simp only [Rs.ev] at h
  split at h
  ·rename_i v hv
   split at h
   ·rename_i q' hq
    cases h
    obtain ⟨xs, g1, g2, g3⟩ := run_results I r q q' hc hq
    refine ⟨a.tmps.getD t undef :: xs, ?_, by simp [g2], fun j s x a1 a2 => ?_⟩
    ·rw [List.mapM_cons]
     simp only [Sem.run_bind, Sem.run_pure, Result.andThen_ok, g1]
    ·cases j with
     | zero => simp at a1 a2; subst a1; subst a2; exact (by simpa using (I.sl t v hv).2)
     | succ j => exact g3 j s x (by simpa using a1) (by simpa using a2)
   ·cases h
  ·cases h
 | .cell p ty :: r, .c p' m ag :: q, l, hc, h => by
  simp only [resT, Bool.and_eq_true, beq_iff_eq] at hc
  obtain ⟨⟨rfl, hag⟩, hc⟩ := hc
  obtain ⟨k1, k2⟩ := agT_spec hag
  simp only [Rs.ev] at h
  split at h
  ·rename_i v hv
   split at h
   ·rename_i q' hq
    cases h
    obtain ⟨xs, g1, g2, g3⟩ := run_results I r q q' hc hq
    simp only [R.ev] at hv
    split at hv
    ·rename_i pv hp
     split at hv
     ·rename_i vs hvs
      obtain ⟨ad, c1, c2, c3⟩ := rd_spec (w := w) (I.hok fun _ _ h => h) hvs (I.sl p _ hp).2
      obtain ⟨u, hu, hr⟩ := run_loadVar (P := P) (w := w) k1 k2 c2 hv c3
      refine ⟨u :: xs, ?_, by simp [g2], fun j s x a1 a2 => ?_⟩
      ·rw [List.mapM_cons]
       have hA : (asAddr (.pointer (some ad))).run P w = .ok ad w := rfl
       simp only [Sem.run_bind, c1, hA, Sem.run_pure, Result.andThen_ok, hu, g1]
      ·cases j with
       | zero => simp at a1 a2; subst a1; subst a2; exact hr
       | succ j => exact g3 j s x (by simpa using a1) (by simpa using a2)
     ·cases hv
    ·cases hv
   ·cases h
  ·cases h
 | [], _ :: _, _, hc, _ => by cases hc
 | .tmp _ :: _, [], _, hc, _ => by cases hc
 | .cell _ _ :: _, [], _, hc, _ => by cases hc
 | .tmp _ :: _, .c _ _ _ :: _, _, hc, _ => by cases hc
 | .cell _ _ :: _, .t _ :: _, _, hc, _ => by cases hc

theorem params_look : ∀ (args : List S) (k t : Nat) (s : S), look (params k args) t = some s → k ≤ t ∧ t < k + args.length ∧ args[t - k]? = some s
 | [], k, t, s, h => by cases h
 | x :: r, k, t, s, h => by
  simp only [params, look] at h
  split at h
  ·rename_i e
   subst e
   cases h
   exact ⟨Nat.le_refl _, by simp, by simp⟩
  ·obtain ⟨h1, h2, h3⟩ := params_look r (k + 1) t s h
   refine ⟨by omega, by simp; omega, ?_⟩
   rw [show t - k = (t - (k + 1)) + 1 by omega, List.getElem?_cons_succ]
   exact h3

theorem decH_keys : ∀ {l : List S} {k : Nat} {h : Hp} {s : Nat}, decH k l = some h → (look h s).isSome = true → k ≤ s ∧ s < k + h.length
 | [], k, h, s, hd, hs => by cases hd; cases hs
 | x :: r, k, h, s, hd, hs => by
  simp only [decH] at hd
  split at hd
  ·split at hd
   ·rename_i B hB q hq
    cases hd
    simp only [look] at hs
    simp only [List.length_cons]
    split at hs
    ·omega
    ·have := decH_keys hq hs; omega
   ·cases hd
  ·cases hd
theorem splitA_keys : ∀ {args as : List S} {h : Hp} {s : Nat}, splitA args = some (as, h) → (look h s).isSome = true → s < h.length
 | [], as, h, s, hs, hl => by cases hs; cases hl
 | x :: r, as, h, s, hs, hl => by
  cases x with
  | tup l =>
   simp only [splitA] at hs
   split at hs
   ·split at hs
    ·rename_i q hq
     cases hs
     have := decH_keys hq hl
     omega
    ·cases hs
   ·cases hs
  | undef =>
   simp only [splitA] at hs
   split at hs
   ·rename_i as' h' hq; cases hs; exact splitA_keys hq hl
   ·cases hs
  | one v =>
   simp only [splitA] at hs
   split at hs
   ·rename_i as' h' hq; cases hs; exact splitA_keys hq hl
   ·cases hs
  | agg v =>
   simp only [splitA] at hs
   split at hs
   ·rename_i as' h' hq; cases hs; exact splitA_keys hq hl
   ·cases hs
theorem sound_of {f : FuncId} {fn : Func} (fd : F) (hf : P.funcs[f]? = some fn) (hname : (fn.name == "runtime.NumGoroutine") = false) (hc : chkF P fn fd = true) (hE : ∀ f, Sound P f (E f)) {m : Model} (hm : ∀ args r, m args = some r → ∃ N, fd.ev E N args = some r) : Sound P f m := by
 intro args r hp hr as h0 hsp w ok0 loc0 vs hgl hok hHp hargs
 obtain ⟨N, he⟩ := hm args _ hr
 unfold chkF at hc
 split at hc
 ·rename_i c hb
  simp only [Bool.and_eq_true, beq_iff_eq, decide_eq_true_eq] at hc
  obtain ⟨⟨⟨h1, h2⟩, h3⟩, h4⟩ := hc
  refine ⟨by unfold fnOk; rw [hf]; simp [hname, hb], ?_⟩
  unfold F.ev at he
  rw [hsp] at he
  dsimp only at he
  split at he
  ·rename_i hlen'
   obtain ⟨hlen, h64⟩ := hlen'
   have hvl : vs.size = as.length := by have := hargs.1; simpa using this.symm
   obtain ⟨Γ, hΓ⟩ : ∃ Γ : Ent, Γ = ⟨ownL loc0, fun s => match loc0 s with | some (.box b) => some b | _ => none⟩ := ⟨_, rfl⟩
   have hown : Γ.own = ownL loc0 := by rw [hΓ]
   have hkey : ∀ s l, loc0 s = some l → s < h0.length := fun s l hs => splitA_keys hsp (by rw [← hHp.dom, hs]; rfl)
   have hlb : ∀ s b, Γ.lb s = some b ↔ loc0 s = some (.box b) := by
    intro s b
    rw [hΓ]
    dsimp only
    split
    ·rename_i b' hb'
     rw [hb']
     constructor
     ·intro h; cases h; rfl
     ·intro h; cases h; rfl
    ·rename_i hno
     constructor
     ·intro h; cases h
     ·intro h; exact absurd h (hno b)
   have hoks : ∀ b, ok0 b → okI w (fun b => ok0 b ∨ ownL loc0 b) w loc0 b := fun b hb => ⟨.inl (.inl hb), (hok b hb).1, fun s l hs hl => (hok b hb).2 ⟨s, l, hs, hl⟩⟩
   have I : Inv fd.nt Γ w (fun b => ok0 b ∨ ownL loc0 b) loc0 ⟨params 0 as, h0⟩ { tmps := vs ++ Array.replicate (fn.ntmps - vs.size) undef, defers := [] } w := by
    refine ⟨Frm.refl _ _, ⟨fun b hb => hb.elim (fun h => (hok b h).1) (fun ⟨s, l, h5, h6⟩ => (hHp.lo s l b h5 h6).2), by rw [hown]; exact hgl⟩, ⟨hHp.dom, fun s l B h5 h6 => (hHp.blk s l B h5 h6).mono (fun b hb => ⟨hoks b hb, rfl⟩) (fun _ _ => rfl) (fun _ _ _ h => h), hHp.inj, fun s l b h5 h6 => by rw [hown]; exact hHp.lo s l b h5 h6⟩, fun b hb => .inr (by rw [← hown]; exact hb), fun s b hs => ?_, by simp; omega, fun t s h => ?_, rfl⟩
    ·have h5 := (hlb s b).1 hs
     exact ⟨by have := hkey s _ h5; omega, h5⟩
    ·obtain ⟨k1, k2, k3⟩ := params_look as 0 t s h
     simp only [Nat.sub_zero, Nat.zero_add] at k2 k3
     have ht : t < vs.size := by omega
     refine ⟨by omega, ?_⟩
     have h5 := hargs.2 t s vs[t] k3 (by simp [ht])
     have h6 : (vs ++ Array.replicate (fn.ntmps - vs.size) undef).getD t undef = vs[t] := by
      rw [Array.getD_eq_getD_getElem?, Array.getElem?_append_left ht]
      simp [ht]
     show RS w _ _ s ((vs ++ Array.replicate (fn.ntmps - vs.size) undef).getD t undef)
     rw [h6]
     exact (h5.rs).mono (fun b hb => ⟨hoks b hb, rfl⟩) (fun t l _ h => h)
   refine calls_of_wp hf hb ?_
   have hpost : ∀ (st : St) (out : Out), (match Rs.ev st fd.res with | some l => hand h0.length (look st.hp) l | none => none) = some (r, hp) → (out = .norm ∨ out = .ret) → ∀ a' w' loc', Inv fd.nt Γ w (fun b => ok0 b ∨ ownL loc0 b) loc' st a' w' →
     bodyPost P fn (fun e w' => ∃ v loc, e = .returned v ∧ Frm (ownL loc0) w w' ∧ HpRel (ownL loc0) w.heap.size w' (okI w (fun b => ok0 b ∨ ownL loc0 b) w' loc) loc hp ∧ RS w' (okI w (fun b => ok0 b ∨ ownL loc0 b) w' loc) loc r v ∧ ∀ s b, loc0 s = some (.box b) → loc s = some (.box b)) out.ex a' w' := by
    intro st out hh ho a' w' loc' I'
    split at hh
    ·rename_i l hl
     obtain ⟨xs, g1, g2, g3⟩ := run_results (P := P) I' fn.results.toList fd.res l h4 hl
     obtain ⟨loc2, k1, k2, k3⟩ := hand_ok I' h64 g2 g3 hh
     rw [hown] at k1
     have hres : (results fn a'.tmps).run P w' = .ok (if h : xs.toArray.size = 1 then xs.toArray[0] else .tuple xs.toArray) w' := by
      unfold results
      rw [Array.mapM_eq_mapM_toList, Sem.run_bind, Sem.run_map]
      exact (congrArg (fun r : Result (List Value) => (r.andThen fun a w' => Result.ok a.toArray w').andThen fun a w' => Sem.run P (pure (if h : a.size = 1 then a[0] else Value.tuple a)) w') g1).trans rfl
     have : a'.defers = [] ∧ ∃ v, (results fn a'.tmps).run P w' = .ok v w' ∧ ∃ v_1 loc, Ending.returned v = .returned v_1 ∧ Frm (ownL loc0) w w' ∧ HpRel (ownL loc0) w.heap.size w' (okI w (fun b => ok0 b ∨ ownL loc0 b) w' loc) loc hp ∧ RS w' (okI w (fun b => ok0 b ∨ ownL loc0 b) w' loc) loc r v_1 ∧ ∀ s b, loc0 s = some (.box b) → loc s = some (.box b) :=
      ⟨I'.df, _, hres, _, loc2, rfl, by rw [← hown]; exact I'.below, k1, k2, fun s b hs => by rw [k3 s (hkey s _ hs)]; exact (I'.bx s b ((hlb s b).2 hs)).2⟩
     rcases ho with rfl | rfl <;> exact this
    ·cases hh
   split at he
   ·rename_i st hev
    exact code_ok hE fd.body c _ st .norm _ _ w _ h3 I hev (hpost st .norm he (.inl rfl))
   ·rename_i st hev
    exact code_ok hE fd.body c _ st .ret _ _ w _ h3 I hev (hpost st .ret he (.inr rfl))
   ·cases he
  ·cases he
 ·cases hc
theorem sound_nil {f : FuncId} {E : Nat → Model} {fd : F} (hs : ∀ m : Model, (∀ args r, m args = some r → ∃ N, fd.ev E N args = some r) → Sound P f m) {r : S × Hp} (h : ∀ A c, ∃ N, fd.ev E N [.one (.k (.slice A 0 c))] = some r) : Sound P f fun
  | [.one (.row [])] => some r
  | _ => none := by
 intro args r' hp hr as h0 hsp w ok0 loc0 vs hgl hok hHp hargs
 dsimp only at hr
 split at hr
 ·cases hr
  cases hsp
  obtain ⟨h1, h2⟩ := hargs
  have hv : ∃ x, vs.toList = [x] := by
   match hq : vs.toList, h1 with
   | [x], _ => exact ⟨x, rfl⟩
  obtain ⟨x, hx⟩ := hv
  have h3 := h2 0 _ x rfl (by rw [hx]; rfl)
  cases (h3 : Rep w ok0 (.row []) x) with
  | row0 A c =>
   have := hs (fun args => if args.length = 1 then fd.ev E (h A c).choose args else none) (fun args r hr => by
    split at hr
    ·exact ⟨_, hr⟩
    ·cases hr) [.one (.k (.slice A 0 c))] r' hp (by dsimp only; rw [if_pos (by rfl)]; exact (h A c).choose_spec) _ [] rfl w ok0 loc0 vs hgl hok hHp ⟨by rw [hx]; rfl, fun j s u a1 a2 => ?_⟩
   ·exact this
   ·rw [hx] at a2
    cases j with
    | zero => simp at a1 a2; subst a1; subst a2; exact Rep.k rfl
    | succ j => simp at a1
  | row u hn hne => simp at hn; omega
 ·cases hr
end
end Go.Proofs.YtdflglehippoiaaGreatDoorR
