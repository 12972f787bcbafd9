/- The check of an operation, and an operation in its place. -/
import Derived.Test.YtgjacdfiilcaaaaR10
import Derived.IntWalk
import Derived.Lib.AppendZeros
import Derived.Stop.Asserts
import Derived.LaidEql
set_option linter.unusedVariables false
set_option linter.unusedSimpArgs false
namespace Go.Proofs.YtgjacdfiilcaaaaR
open Go Go.RowKit

def slT (P : Program) (t : TypeId) (e : Nat) : Bool := match P.underlying t with
  | some (.slice el) => sizeT P el e
  | _ => false
def fdT (P : Program) (t : TypeId) (f : Nat) (p : Field → Bool) : Bool := match P.underlying t with
  | some (.struct fs) => match fs[f]? with
    | some fd => p fd
    | none => false
  | _ => false
def posT (P : Program) (t : TypeId) : Bool := match P.info? t with
  | some i => decide (0 < i.size)
  | none => false
def agT (P : Program) (t : TypeId) (ag : Bool) (n : Nat) : Bool := aggT P t ag && (if ag then sizeT P t n else n == 1)
def mksT (P : Program) (el e by_ : Nat) (zs : List V) : Bool := zeroT P el zs && sizeT P el e && (zs.length == e) && decide (0 < by_) && (match P.info? el with | some i => i.bytes == by_ | none => false)
def clrT (P : Program) (el e : Nat) : Bool := match P.info? el with
  | some i => i.size == e && (match i.zero with | some z => (z.cells.size == e) && z.cells.toList.all (·.oneCell') | none => false)
  | none => false
/-- Is it an interface type; another? -/
def ifT (P : Program) (t : TypeId) (b : Bool) : Bool := match P.underlying t with
  | some (.interface _) => b
  | some _ => !b
  | none => false
/-- Types of whole numbers that may be held against each other. -/
def eqT (P : Program) (tbl : List Nat) : Bool := tbl.all fun t => (match P.underlying t with
  | some (.int _) => true
  | _ => false) && ((P.info? t).map (·.comparable) == some true)
/-- Which types have the methods of an interface type. -/
def tasT (P : Program) (T : TypeId) (tbl : List (Nat × Bool)) : Bool := (match P.underlying T with
  | some (.interface want) => tbl.all fun p => (P.info? p.1).map (fun i => (lacking want i.methods).isEmpty) == some p.2
  | _ => false) && (match P.info? T with
  | some i => (match i.zero with
    | some .nilIface => true
    | _ => false)
  | none => false)
/-- The functions behind a method's name. -/
def methodT (P : Program) (t : TypeId) (name : String) (f : FuncId) : Bool := (match P.info? t with
  | some i => (match i.methods.find? (·.name == name) with
    | some m => m.path.isEmpty && (match m.func with
      | some (g, true) => g == f
      | _ => false)
    | none => false)
  | none => false) && (match P.underlying t with
  | some (.pointer _) => true
  | _ => false)
/-- Is this the evaluator's operation? -/
def chk (P : Program) (op : Op) : I → Bool
  | .mov y => match op with
    | .move x => xok x y
    | .assign x => xok x y
    | _ => false
  | .nilsl _ _ _ => match op with
    | .move (.const (.slice none 0 0)) => true
    | .assign (.const (.slice none 0 0)) => true
    | _ => false
  | .pick c' x' y' => match op with
    | .pick c x y => xok c c' && xok x x' && xok y y'
    | _ => false
  | .bin op' x' y' => match op with
    | .binOp op _ x y _ => decide (op = op') && xok x x' && xok y y'
    | _ => false
  | .eqb neg x' y' => match op with
    | .binOp op t x y _ => decide (op = if neg then .neq else .eql) && (match P.underlying t with | some .bool => true | _ => false) && xok x x' && xok y y'
    | _ => false
  | .eqs neg ks x' y' => match op with
    | .binOp op t x y _ => decide (op = if neg then .neq else .eql) && eqsT P t ks && xok x x' && xok y y'
    | _ => false
  | .un op' x' => match op with
    | .unOp op _ x => decide (op = op') && xok x x'
    | _ => false
  | .conv k x' => match op with
    | .convert src dst x => (P.underlying src).isSome && (match P.underlying dst with | some (.int k') => decide (k' = k) | _ => false) && xok x x'
    | _ => false
  | .alloc zs => match op with
    | .alloc el => zeroT P el zs
    | _ => false
  | .box x' => match op with
    | .box _ x => xok x x'
    | _ => false
  | .build zs qs => match op with
    | .build t ps => buildT P t zs ps.toList qs
    | _ => false
  | .bsl el e m zs qs => match op with
    | .buildSlice t k ps => (k == m) && sliceT P t el && sizeT P el e && zeroT P el zs && (zs.length == e) && decide (m * e ≤ 16777216) && decide (m ≤ 16777216) && partsR ps.toList qs
    | _ => false
  | .load ag m x' => match op with
    | .load t x => agT P t ag m && xok x x'
    | _ => false
  | .nck x' => match op with
    | .nilCheck x => xok x x'
    | _ => false
  | .mks el e by_ zs l' c' => match op with
    | .makeSlice t l c => sliceT P t el && mksT P el e by_ zs && xok l l' && xok c c'
    | _ => false
  | .stop => true
  | .kow _ _ x' => match op with
    | .move x => xok x x'
    | .assign x => xok x x'
    | _ => false
  | .kln x' => match op with
    | .call c => match c.callee, c.args.toList, c.argTypes.toList with
      | .builtin .len, [x], [t] => (match P.underlying t with | some (.slice _) => true | _ => false) && xok x x'
      | .builtin .cap, [x], [t] => (match P.underlying t with | some (.slice _) => true | _ => false) && xok x x'
      | _, _, _ => false
    | _ => false
  | .kct x' hi' => match op with
    | .slice t x none (some hi) none => slT P t 1 && xok x x' && xok hi hi'
    | _ => false
  | .apz el e by_ zs x' m' => match op with
    | .call c => match c.callee, c.args.toList, c.argTypes.toList with
      | .builtin .append, [x, m], [t, t'] => (match P.underlying t' with | some (.int _) => true | _ => false) && sliceT P t el && mksT P el e by_ zs && decide (0 < e) && xok x x' && xok m m'
      | _, _, _ => false
    | _ => false
  | .apl el e by_ zs x' m' => match op with
    | .call c => match c.callee, c.args.toList, c.argTypes.toList with
      | .builtin .append, [x, m], [t, t'] => (match P.underlying t' with | some (.int _) => true | _ => false) && sliceT P t el && mksT P el e by_ zs && decide (0 < e) && xok x x' && xok m m'
      | _, _, _ => false
    | _ => false
  | .cu0 e x' hi' => match op with
    | .slice t x none (some hi) none => slT P t e && xok x x' && xok hi hi'
    | _ => false
  | .cut e x' lo' hi' => match op with
    | .slice t x lo hi none => slT P t e && xok x x' && xokO lo lo' && xokO hi hi'
    | _ => false
  | .fad off x' => match op with
    | .fieldAddr t x f => fdT P t f (fun fd => fd.offset == off && posT P fd.type) && xok x x'
    | _ => false
  | .fld ag off m x' => match op with
    | .field t x f => fdT P t f (fun fd => fd.offset == off && agT P fd.type ag m) && xok x x'
    | _ => false
  | .iad e x' i' => match op with
    | .indexAddr t x i => slT P t e && xok x x' && xok i i'
    | _ => false
  | .iada e len x' i' => match op with
    | .indexAddr t x i => arrT P t len e && xok x x' && xok i i'
    | _ => false
  | .idx ag e len x' i' => match op with
    | .index t x i => (match P.underlying t with | some (.array m el) => (m == len) && sizeT P el e && agT P el ag e | _ => false) && xok x x' && xok i i'
    | _ => false
  | .ext x' i' => match op with
    | .extract x i => (i == i') && xok x x'
    | _ => false
  | .call _ f' as' => match op with
    | .call c => match c.callee with
      | .value (.func f) => (f == f') && xoks c.args.toList as'
      | _ => false
    | _ => false
  | .callv _ x' as' => match op with
    | .call c => match c.callee with
      | .value x => xok x x' && xoks c.args.toList as'
      | _ => false
    | _ => false
  | .len x' => match op with
    | .call c => match c.callee, c.args.toList, c.argTypes.toList with
      | .builtin .len, [x], [t] => (match P.underlying t with | some (.slice _) => true | _ => false) && xok x x'
      | _, _, _ => false
    | _ => false
  | .mx x' y' => match op with
    | .call c => match c.callee, c.args.toList with
      | .builtin .max, [x, y] => xok x x' && xok y y'
      | _, _ => false
    | _ => false
  | .mn x' y' => match op with
    | .call c => match c.callee, c.args.toList with
      | .builtin .min, [x, y] => xok x x' && xok y y'
      | _, _ => false
    | _ => false
  | .mkf f' cs' => match op with
    | .makeFunc (.func f) fi cs => (f == f') && fi.toList.isEmpty && xoks cs.toList cs'
    | _ => false
  | .store _ m x' v' => match op with
    | .store t x v => sizeT P t m && xok x x' && xok v v'
    | _ => false
  | .app el e by_ x' y' => match op with
    | .call c => match c.callee, c.args.toList, c.argTypes.toList with
      | .builtin .append, [x, y], [t, t'] => (t == t') && sliceT P t el && appT P el e by_ && xok x x' && xok y y'
      | _, _, _ => false
    | _ => false
  | .apn el e by_ x' y' => match op with
    | .call c => match c.callee, c.args.toList, c.argTypes.toList with
      | .builtin .append, [x, y], [t, t'] => (t == t') && sliceT P t el && appT P el e by_ && xok x x' && xok y y'
      | _, _, _ => false
    | _ => false
  | .apk el e by_ x' y' => match op with
    | .call c => match c.callee, c.args.toList, c.argTypes.toList with
      | .builtin .append, [x, y], [t, t'] => (t == t') && sliceT P t el && appT P el e by_ && xok x x' && xok y y'
      | _, _, _ => false
    | _ => false
  | .mki t' x' => match op with
    | .makeInterface t x => (t == t') && ifT P t false && xok x x'
    | _ => false
  | .mkp t' x' => match op with
    | .makeInterface t x => (t == t') && ifT P t false && xok x x'
    | _ => false
  | .ifn neg x' => match op with
    | .binOp op t x (.const .nilIface) _ => decide (op = if neg then .neq else .eql) && ifT P t true && xok x x'
    | _ => false
  | .ieq tbl x' y' => match op with
    | .binOp .eql t x y _ => ifT P t true && eqT P tbl && xok x x' && xok y y'
    | _ => false
  | .tas T' tbl x' => match op with
    | .typeAssert x _ T true => (T == T') && tasT P T tbl && xok x x'
    | _ => false
  | .inv _ tbl x' as' => match op with
    | .call c => match c.callee with
      | .invoke x name => tbl.all (fun p => methodT P p.1 name p.2) && xok x x' && xoks c.args.toList as'
      | _ => false
    | _ => false
  | .bsr el e m zs qs => match op with
    | .buildSlice t k ps => (k == m) && sliceT P t el && sizeT P el e && zeroT P el zs && (zs.length == e) && decide (m * e ≤ 16777216) && decide (m ≤ 16777216) && partsR ps.toList qs
    | _ => false
  | .mkz el e by_ zs c' => match op with
    | .makeSlice t (.const (.int _ 0)) c => sliceT P t el && mksT P el e by_ zs && xok c c'
    | _ => false
  | .cvb x' => match op with
    | .convert t t' x => (t == t') && (match P.underlying t with
      | some (.slice el) => (match P.underlying el with
        | some (.int .u8) => true
        | _ => false)
      | _ => false) && xok x x'
    | _ => false
  | .clr el e x' => match op with
    | .call c => match c.callee, c.args.toList, c.argTypes.toList with
      | .builtin .clear, [x], [t] => sliceT P t el && clrT P el e && xok x x'
      | _, _, _ => false
    | _ => false
  | .callo f' as' => match op with
    | .call c => match c.callee with
      | .value (.func f) => (f == f') && xoks c.args.toList as'
      | _ => false
    | _ => false
  | .alo zs ps => match op with
    | .alloc el => zeroT P el zs && decide (ps.length < 63)
    | _ => false
  | .isnil neg x' => match op with
    | .binOp op t x (.const (.slice none 0 0)) _ => decide (op = if neg then .neq else .eql) && (match P.underlying t with | some (.slice _) => true | _ => false) && xok x x'
    | _ => false

section
variable {P : Program} {n : Nat} {Γ : Ent} {w0 : World} {ok0 : Nat → Prop} {loc : Locs} {st : St} {a : Act} {w : World} {o : Oper}

theorem slT_spec {t : TypeId} {e : Nat} (h : slT P t e = true) : ∃ el, P.underlying t = some (.slice el) ∧ sizeT P el e = true := by
  unfold slT at h
  split at h
  · exact ⟨_, ‹_›, h⟩
  · cases h
theorem fdT_spec {t : TypeId} {f : Nat} {p : Field → Bool} (h : fdT P t f p = true) : ∃ fs fd, P.underlying t = some (.struct fs) ∧ fs[f]? = some fd ∧ p fd = true := by
  unfold fdT at h
  split at h
  · split at h
    · exact ⟨_, _, ‹_›, ‹_›, h⟩
    · cases h
  · cases h
theorem posT_spec {t : TypeId} (h : posT P t = true) : ∃ m, sizeT P t (m + 1) = true := by
  unfold posT at h
  split at h
  · rename_i i hi
    have h0 := of_decide_eq_true h
    exact ⟨i.size - 1, by unfold sizeT; rw [hi]; simp; omega⟩
  · cases h
theorem agT_spec {t : TypeId} {ag : Bool} {m : Nat} (h : agT P t ag m = true) : aggT P t ag = true ∧ (if ag then sizeT P t m else m == 1) = true := by
  unfold agT at h
  simpa using h

theorem yld_wp {v : S} (I : Inv n Γ w0 ok0 loc st a w) (hd : ∀ t, o.dst = some t → t < n) (hy : Yld P w (okI w0 ok0 w loc) loc a o v) {next : Act → World → Prop} {Q : Exit → Act → World → Prop}
    (hn : ∀ x w' loc', Inv n Γ w0 ok0 loc' { sl := (st.put o.dst v).sl, hp := [] ++ st.hp } (a.put o.dst x) w' → next (a.put o.dst x) w') : o.wp P a w next Q := by
  obtain ⟨x, hx, hr⟩ := hy
  unfold Oper.wp
  rw [hx, Oper.upon_value]
  have h := I.val o.dst hd v x hr
  refine hn x w loc ?_
  cases hdst : o.dst with
  | none => rw [hdst] at h; exact h
  | some d => rw [hdst] at h; exact h

theorem evs_rs {g : Nat → Option S} {ok : Nat → Prop} (hg : GOk w ok loc a g) : ∀ {l : List Operand} {l' : List X} {ss : List S}, xoks l l' = true → evs g l' = some ss → ss.length = l.length ∧ ∀ (j : Nat) s u, ss[j]? = some s → (l.map a.eval)[j]? = some u → RS w ok loc s u
  | [], [], ss, _, h => by cases h; exact ⟨rfl, fun j s u h => by cases h⟩
  | x :: r, y :: q, ss, hx, h => by
    simp only [xoks, Bool.and_eq_true] at hx
    simp only [evs] at h
    split at h
    · rename_i s hs
      split at h
      · rename_i ss' hss
        cases h
        obtain ⟨g1, g2⟩ := evs_rs hg hx.2 hss
        refine ⟨by simp [g1], fun j s' u a1 a2 => ?_⟩
        cases j with
        | zero => simp at a1 a2; subst a1; subst a2; exact xok_rs hx.1 hg hs
        | succ j => exact g2 j s' u (by simpa using a1) (by simpa using a2)
      · cases h
    · cases h
  | [], _ :: _, _, hx, _ => by cases hx
  | _ :: _, [], _, hx, _ => by cases hx

theorem run_makeSlice {t el : TypeId} {e by_ : Nat} {zs : List V} {l : Int} {k k' : IntKind} (ht : P.underlying t = some (.slice el)) (hT : mksT P el e by_ zs = true) (h0 : 0 ≤ l) (hb : l * by_ ≤ 140737488355328) :
    ∃ z : Value, voks z.cells.toList zs = true ∧ zs.length = e ∧ (Instr.makeSlice t (.int k l) (.int k' l)).run P w = .ok (.slice (some ⟨w.heap.size, 0, none⟩) l.toNat l.toNat) (w.alloc (.cells ((Array.range (l.toNat * e)).map fun i => z.cells[i % z.cells.size]!) el)) := by
  unfold mksT at hT
  simp only [Bool.and_eq_true, beq_iff_eq, decide_eq_true_eq] at hT
  obtain ⟨⟨⟨⟨hz, hs⟩, hl⟩, hp⟩, hby⟩ := hT
  obtain ⟨i, z, i1, i2, i3⟩ := zeroT_spec hz
  rw [i1] at hby
  simp only [beq_iff_eq] at hby
  have hlb : l ≤ 140737488355328 := by
    have h1 : l * 1 ≤ l * by_ := Int.mul_le_mul_of_nonneg_left (by omega) h0
    omega
  have hw : IntKind.i64.wrap l = l := IntWalk.i64_in _ (by omega)
  refine ⟨z, i3, hl, ?_⟩
  have hmul : ¬ (281474976710656 < (by_ : Int) * l) := by rw [Int.mul_comm]; omega
  have hmul' : ¬ (by_ : Int) * l > 2 ^ 48 := by rw [show ((2 : Int) ^ 48) = 281474976710656 from rfl]; omega
  have h0' : ¬ l < 0 := by omega
  by_cases hn : l.toNat * e = 0
  · have hzero : Array.range (l.toNat * e) = #[] := by rw [hn]; rfl
    simp [Instr.makeSlice, run_underlying ht, asInt, asIntOf, typeInfo, i1, hby, hw, hmul, hmul', run_sizeOf hs, hn, newRow, h0']
    rw [show Array.range 0 = #[] from rfl, Array.map_empty, Array.map_empty]
  · simp [Instr.makeSlice, run_underlying ht, asInt, asIntOf, typeInfo, i1, i2, zeroValue, hby, hw, hmul, hmul', run_sizeOf hs, hn, newRow, h0']
theorem run_makeSlice0 {t el : TypeId} {e by_ : Nat} {zs : List V} {l : Int} {k k' : IntKind} (ht : P.underlying t = some (.slice el)) (hT : mksT P el e by_ zs = true) (h0 : 0 ≤ l) (hb : l * by_ ≤ 140737488355328) :
    ∃ z : Value, voks z.cells.toList zs = true ∧ zs.length = e ∧ (Instr.makeSlice t (.int k 0) (.int k' l)).run P w = .ok (.slice (some ⟨w.heap.size, 0, none⟩) 0 l.toNat) (w.alloc (.cells ((Array.range (l.toNat * e)).map fun i => z.cells[i % z.cells.size]!) el)) := by
  unfold mksT at hT
  simp only [Bool.and_eq_true, beq_iff_eq, decide_eq_true_eq] at hT
  obtain ⟨⟨⟨⟨hz, hs⟩, hl⟩, hp⟩, hby⟩ := hT
  obtain ⟨i, z, i1, i2, i3⟩ := zeroT_spec hz
  rw [i1] at hby
  simp only [beq_iff_eq] at hby
  have hlb : l ≤ 140737488355328 := by
    have h1 : l * 1 ≤ l * by_ := Int.mul_le_mul_of_nonneg_left (by omega) h0
    omega
  have hw : IntKind.i64.wrap l = l := IntWalk.i64_in _ (by omega)
  have hw0 : IntKind.i64.wrap 0 = 0 := rfl
  refine ⟨z, i3, hl, ?_⟩
  have hmul : ¬ (281474976710656 < (by_ : Int) * l) := by rw [Int.mul_comm]; omega
  have hmul' : ¬ (by_ : Int) * l > 2 ^ 48 := by rw [show ((2 : Int) ^ 48) = 281474976710656 from rfl]; omega
  have h0' : ¬ l < 0 := by omega
  by_cases hn : l.toNat * e = 0
  · have hzero : Array.range (l.toNat * e) = #[] := by rw [hn]; rfl
    simp [Instr.makeSlice, run_underlying ht, asInt, asIntOf, typeInfo, i1, hby, hw, hw0, hmul, hmul', run_sizeOf hs, hn, newRow, h0']
    rw [show Array.range 0 = #[] from rfl, Array.map_empty, Array.map_empty]
  · simp [Instr.makeSlice, run_underlying ht, asInt, asIntOf, typeInfo, i1, i2, zeroValue, hby, hw, hw0, hmul, hmul', run_sizeOf hs, hn, newRow, h0']
theorem run_appz {t t' el : TypeId} {e by_ : Nat} {zs : List V} {l : Int} {k kn : IntKind} (ty : TypeId) (ht : P.underlying t = some (.slice el)) (ht' : P.underlying t' = some (.int kn)) (hT : mksT P el e by_ zs = true) (hpos : 0 < e) (h0 : 0 < l) (hb : l * by_ ≤ 140737488355328) :
    ∃ z : Value, voks z.cells.toList zs = true ∧ zs.length = e ∧ ∃ cap : Nat, l.toNat ≤ cap ∧ cap ≤ maxLen ∧ (Builtin.append_ #[t, t'] ty #[.slice none 0 0, .int k l]).run P w =
      .ok (.slice (some ⟨w.heap.size, 0, none⟩) l.toNat cap) (w.drew.alloc (.cells (Builtin.zeroCells z.cells l.toNat ++ Builtin.zeroCells z.cells (cap - l.toNat)) el)) := by
  unfold mksT at hT
  simp only [Bool.and_eq_true, beq_iff_eq, decide_eq_true_eq] at hT
  obtain ⟨⟨⟨⟨hz, hs⟩, hl⟩, hp⟩, hby⟩ := hT
  obtain ⟨i, z, i1, i2, i3⟩ := zeroT_spec hz
  rw [i1] at hby
  simp only [beq_iff_eq] at hby
  have hlb : l ≤ 140737488355328 := by
    have h1 : l * 1 ≤ l * by_ := Int.mul_le_mul_of_nonneg_left (by omega) (by omega)
    omega
  obtain ⟨m, rfl⟩ : ∃ m : Nat, l = (m : Int) := ⟨l.toNat, by omega⟩
  have hm : ((m : Int)).toNat = m := rfl
  rw [hm]
  have hmb : m * by_ ≤ 140737488355328 := by
    rw [← Int.natCast_mul] at hb
    omega
  have hsz : 0 < i.size := by
    unfold sizeT at hs
    rw [i1] at hs
    simp only [beq_iff_eq] at hs
    omega
  refine ⟨z, i3, hl, grownCap w m 0 el, ?_, ?_, ?_⟩
  · exact grownCap_ge w m 0 el
  · exact grownCap_le_maxLen w m 0 el (by unfold maxLen; omega)
  · exact Lib.run_append_nil_zeros w t t' ty el i z k kn ht ht' i1 i2 m (by omega) hsz (by omega) (by rw [hby]; omega)

/-! Interface values. -/
theorem ifT_spec {t : TypeId} {b : Bool} (h : ifT P t b = true) : ∃ u, P.underlying t = some u ∧ (if b then ∃ ms, u = .interface ms else ∀ ms, u ≠ .interface ms) := by
  unfold ifT at h
  split at h
  · rename_i ms hu
    subst h
    exact ⟨_, hu, _, rfl⟩
  · rename_i u hne hu
    have hb : b = false := by simpa using h
    subst hb
    exact ⟨u, hu, fun ms e => hne ms e⟩
  · cases h
theorem run_mki {t : TypeId} (h : ifT P t false = true) (v : Value) (w : World) : (Instr.makeInterface t v).run P w = .ok (.iface t v) w := by
  obtain ⟨u, hu, hn⟩ := ifT_spec h
  have hn : ∀ ms, u ≠ .interface ms := hn
  cases u <;> first
    | exact absurd rfl (hn _)
    | simp [Instr.makeInterface, run_underlying hu]
theorem y_mki {ok : Nat → Prop} {g : Nat → Option S} {t : TypeId} {x : Operand} {x' : X} {v : V} (ho : o.op = .makeInterface t x) (ht : ifT P t false = true) (hx : xok x x' = true) (hg : GOk w ok loc a g) (ex : x'.ev g = some (.one v)) (hm : (ments [v]).isEmpty = true) : Yld P w ok loc a o (.one (.ifc t v)) := by
  have hv : RV w ok loc v (a.eval x) := xok_rs hx hg ex
  refine ⟨.iface t (a.eval x), ?_, Rep.rv (loc := loc) (.ifc (rv_rep hv (ments_nil hm v (List.mem_singleton.2 rfl))))⟩
  unfold execOp
  rw [ho]
  simp [run_mki ht]
theorem eql_iface_nil {ti : TypeId} {ms : Array (String × TypeId)} (t : TypeId) (v : Value) (hi : P.underlying ti = some (.interface ms)) (w : World) : (binOp .eql ti (.iface t v) .nilIface).run P w = .ok (.bool false) w := by
  have h : ∀ d : Nat, (Op.equalIn (d + 1) ti (.iface t v) .nilIface).run P w = .ok false w := fun d => by simp [Op.equalIn, run_underlying hi]
  simp only [binOp]
  simp [Op.equal, Op.maxDepth, h 9999]
theorem neq_iface_nil {ti : TypeId} {ms : Array (String × TypeId)} (t : TypeId) (v : Value) (hi : P.underlying ti = some (.interface ms)) (w : World) : (binOp .neq ti (.iface t v) .nilIface).run P w = .ok (.bool true) w := by
  have h : ∀ d : Nat, (Op.equalIn (d + 1) ti (.iface t v) .nilIface).run P w = .ok false w := fun d => by simp [Op.equalIn, run_underlying hi]
  simp only [binOp]
  simp [Op.equal, Op.maxDepth, h 9999]
theorem eql_nil_nil {ti : TypeId} {ms : Array (String × TypeId)} (hi : P.underlying ti = some (.interface ms)) (w : World) : (binOp .eql ti .nilIface .nilIface).run P w = .ok (.bool true) w := by
  have h : ∀ d : Nat, (Op.equalIn (d + 1) ti .nilIface .nilIface).run P w = .ok true w := fun d => by simp [Op.equalIn, run_underlying hi]
  simp only [binOp]
  simp [Op.equal, Op.maxDepth, h 9999]
theorem neq_nil_nil {ti : TypeId} {ms : Array (String × TypeId)} (hi : P.underlying ti = some (.interface ms)) (w : World) : (binOp .neq ti .nilIface .nilIface).run P w = .ok (.bool false) w := by
  have h : ∀ d : Nat, (Op.equalIn (d + 1) ti .nilIface .nilIface).run P w = .ok true w := fun d => by simp [Op.equalIn, run_underlying hi]
  simp only [binOp]
  simp [Op.equal, Op.maxDepth, h 9999]
theorem eql_iface_int {ti t : TypeId} {ms : Array (String × TypeId)} {k : IntKind} {k' : IntKind} {i : TypeInfo} (m n : Int) (hi : P.underlying ti = some (.interface ms)) (ht : P.underlying t = some (.int k')) (hinf : P.info? t = some i) (hc : i.comparable = true) (w : World) : (binOp .eql ti (.iface t (.int k m)) (.iface t (.int k n))).run P w = .ok (.bool (m == n)) w := by
  have h : ∀ d : Nat, (Op.equalIn (d + 1 + 1) ti (.iface t (.int k m)) (.iface t (.int k n))).run P w = .ok (m == n) w := fun d => by simp [Op.equalIn, run_underlying hi, run_underlying ht, typeInfo, hinf, hc]
  simp only [binOp]
  simp [Op.equal, Op.maxDepth, h 9998]
theorem guard_iface {t : TypeId} {op : BinOp} {x y : Operand} {s : TypeId} {v z : Value} (w : World) : (eqGuard op t x y (.iface s v) z).run P w = .ok () w := by
  unfold eqGuard
  cases op <;> rfl
theorem guard_nil {t : TypeId} {op : BinOp} {x : Operand} {v : Value} (w : World) : (eqGuard op t x (.const v) .nilIface .nilIface).run P w = .ok () w := by
  unfold eqGuard
  cases op <;> simp
theorem y_ifn_i {ok : Nat → Prop} {g : Nat → Option S} {op : BinOp} {t u : TypeId} {x : Operand} {x' : X} {s : Nat} {v : V} (neg : Bool) (ho : o.op = .binOp op t x (.const .nilIface) u) (hop : op = if neg then .neq else .eql) (ht : ifT P t true = true) (hx : xok x x' = true) (hg : GOk w ok loc a g) (ex : x'.ev g = some (.one (.ifc s v))) : Yld P w ok loc a o (.one (.bool neg)) := by
  have hv : Rep w ok (.ifc s v) (a.eval x) := xok_rs hx hg ex
  obtain ⟨q, hq, ms, rfl⟩ := ifT_spec ht
  generalize hz : a.eval x = z at hv
  cases hv with
  | ifc hv =>
    have hcon : a.eval (.const .nilIface) = .nilIface := rfl
    refine ⟨_, ?_, to_bool⟩
    unfold execOp
    rw [ho]
    subst hop
    cases neg
    · simp only [hz, hcon, Bool.false_eq_true, if_false, Sem.run_bind, guard_iface, eql_iface_nil _ _ hq, Result.andThen_ok, Sem.run_pure]
    · simp only [hz, hcon, if_true, Sem.run_bind, guard_iface, neq_iface_nil _ _ hq, Result.andThen_ok, Sem.run_pure]
theorem y_ifn_n {ok : Nat → Prop} {g : Nat → Option S} {op : BinOp} {t u : TypeId} {x : Operand} {x' : X} (neg : Bool) (ho : o.op = .binOp op t x (.const .nilIface) u) (hop : op = if neg then .neq else .eql) (ht : ifT P t true = true) (hx : xok x x' = true) (hg : GOk w ok loc a g) (ex : x'.ev g = some (.one (.k .nilIface))) : Yld P w ok loc a o (.one (.bool (!neg))) := by
  have hv : Rep w ok (.k .nilIface) (a.eval x) := xok_rs hx hg ex
  obtain ⟨q, hq, ms, rfl⟩ := ifT_spec ht
  generalize hz : a.eval x = z at hv
  cases hv with
  | k hv =>
    have hcon : a.eval (.const .nilIface) = .nilIface := rfl
    refine ⟨_, ?_, to_bool⟩
    unfold execOp
    rw [ho]
    subst hop
    cases neg
    · simp only [hz, hcon, Bool.false_eq_true, if_false, Sem.run_bind, guard_nil, eql_nil_nil hq, Result.andThen_ok, Sem.run_pure, Bool.not_false]
    · simp only [hz, hcon, if_true, Sem.run_bind, guard_nil, neq_nil_nil hq, Result.andThen_ok, Sem.run_pure, Bool.not_true]
theorem y_ieq_t {ok : Nat → Prop} {g : Nat → Option S} {t u : TypeId} {x y : Operand} {x' y' : X} {s s' : Nat} {v v' : V} (ho : o.op = .binOp .eql t x y u) (ht : ifT P t true = true) (hx : xok x x' = true) (hy : xok y y' = true) (hg : GOk w ok loc a g) (ex : x'.ev g = some (.one (.ifc s v))) (ey : y'.ev g = some (.one (.ifc s' v'))) (hne : s ≠ s') : Yld P w ok loc a o (.one (.bool false)) := by
  have hv : Rep w ok (.ifc s v) (a.eval x) := xok_rs hx hg ex
  have hv' : Rep w ok (.ifc s' v') (a.eval y) := xok_rs hy hg ey
  obtain ⟨q, hq, ms, rfl⟩ := ifT_spec ht
  generalize hz : a.eval x = z at hv
  generalize hz' : a.eval y = z' at hv'
  cases hv with
  | ifc hv => cases hv' with
    | ifc hv' =>
      refine ⟨_, ?_, to_bool⟩
      unfold execOp
      rw [ho]
      simp only [hz, hz', Sem.run_bind, guard_iface, run_eql_iface_types _ _ _ _ hq hne, Result.andThen_ok, Sem.run_pure]
theorem y_ieq_i {ok : Nat → Prop} {g : Nat → Option S} {t u : TypeId} {x y : Operand} {x' y' : X} {s : Nat} {m n : Int} {tbl : List Nat} (ho : o.op = .binOp .eql t x y u) (ht : ifT P t true = true) (htb : eqT P tbl = true) (hs : tbl.contains s = true) (hx : xok x x' = true) (hy : xok y y' = true) (hg : GOk w ok loc a g) (ex : x'.ev g = some (.one (.ifc s (.int .i64 m)))) (ey : y'.ev g = some (.one (.ifc s (.int .i64 n)))) : Yld P w ok loc a o (.one (.bool (decide (m = n)))) := by
  have hv : Rep w ok (.ifc s (.int .i64 m)) (a.eval x) := xok_rs hx hg ex
  have hv' : Rep w ok (.ifc s (.int .i64 n)) (a.eval y) := xok_rs hy hg ey
  obtain ⟨q, hq, ms, rfl⟩ := ifT_spec ht
  have h1 := List.all_eq_true.1 htb s (List.contains_iff_mem.1 hs)
  simp only [Bool.and_eq_true, beq_iff_eq] at h1
  obtain ⟨h1, h2⟩ := h1
  obtain ⟨i, hi, hc⟩ := Option.map_eq_some_iff.1 h2
  generalize hz : a.eval x = z at hv
  generalize hz' : a.eval y = z' at hv'
  split at h1
  · rename_i k' hk
    cases hv with
    | ifc hv => cases hv' with
      | ifc hv' =>
        cases hv
        cases hv'
        refine ⟨.bool (m == n), ?_, ?_⟩
        · unfold execOp
          rw [ho]
          simp only [hz, hz', Sem.run_bind, guard_iface, eql_iface_int m n hq hk hi hc, Result.andThen_ok, Sem.run_pure]
        · rw [show (m == n) = decide (m = n) from rfl]; exact to_bool
  · cases h1
theorem y_tas {ok : Nat → Prop} {g : Nat → Option S} {t T : TypeId} {x : Operand} {x' : X} {s : Nat} {v : V} {b : Bool} {tbl : List (Nat × Bool)} (ho : o.op = .typeAssert x t T true) (hT : tasT P T tbl = true) (hb : look tbl s = some b) (hx : xok x x' = true) (hg : GOk w ok loc a g) (ex : x'.ev g = some (.one (.ifc s v))) : Yld P w ok loc a o (.tup [.one (if b then .ifc s v else .k .nilIface), .one (.bool b)]) := by
  have hv : Rep w ok (.ifc s v) (a.eval x) := xok_rs hx hg ex
  unfold tasT at hT
  simp only [Bool.and_eq_true] at hT
  obtain ⟨h1, h2⟩ := hT
  split at h1
  · rename_i want hu
    have h3 := List.all_eq_true.1 h1 (s, b) (look_mem _ _ _ hb)
    simp only [beq_iff_eq] at h3
    have h2' : (P.info? T).map (·.zero) = some (some .nilIface) := by
      split at h2
      · rename_i i hi
        split at h2
        · rename_i hz0; rw [hi, Option.map_some, hz0]
        · cases h2
      · cases h2
    by_cases htr : True
    · have hz0 := h2'
      generalize hz : a.eval x = z at hv
      have hv0 := hv
      cases hv with
      | ifc hv =>
        rename_i u
        cases b with
        | true =>
          refine ⟨.tuple #[.iface s u, .bool true], ?_, _, rfl, rfl, fun j q c a1 a2 => ?_⟩
          · unfold execOp
            rw [ho]
            simp only [hz, Sem.run_bind, run_typeAssert_hasB hu h3, Result.andThen_ok, Sem.run_pure]
          · match j, a1, a2 with
            | 0, a1, a2 => cases a1; cases a2; exact hv0.rv (loc := loc)
            | 1, a1, a2 => cases a1; cases a2; exact Rep.rv (loc := loc) .bool
        | false =>
          refine ⟨.tuple #[.nilIface, .bool false], ?_, _, rfl, rfl, fun j q c a1 a2 => ?_⟩
          · unfold execOp
            rw [ho]
            simp only [hz, Sem.run_bind, run_typeAssert_lacksB hu h3 hz0, Result.andThen_ok, Sem.run_pure]
          · match j, a1, a2 with
            | 0, a1, a2 => cases a1; cases a2; exact Rep.rv (loc := loc) (.k rfl)
            | 1, a1, a2 => cases a1; cases a2; exact Rep.rv (loc := loc) .bool
    · exact absurd trivial htr
  · cases h1
theorem run_method {t : TypeId} {name : String} {f : FuncId} (h : methodT P t name f = true) (k : Nat) (v : Value) (w : World) : (Go.method (k + 1) t v name).run P w = .ok (f, v) w := by
  unfold methodT at h
  simp only [Bool.and_eq_true] at h
  obtain ⟨h1, h2⟩ := h
  split at h2
  · rename_i el hu
    split at h1
    · rename_i i hi
      split at h1
      · rename_i m hm
        simp only [Bool.and_eq_true] at h1
        obtain ⟨hp, h1⟩ := h1
        split at h1
        · rename_i g hg
          simp only [beq_iff_eq] at h1
          subst h1
          have hpl : m.path.toList = [] := by simpa using hp
          simp [Go.method, typeInfo, hi, hm, hpl, follow, hg, receiverAt, run_underlying hu, Place.get]
        · cases h1
      · cases h1
    · cases h1
  · cases h2
end
end Go.Proofs.YtgjacdfiilcaaaaR
