/- The check of an operation, and an operation in its place. -/
import Derived.Test.YtgjacdfiilcaaaaR10
import Derived.IntWalk
import Derived.Lib.AppendZeros
set_option linter.unusedVariables false
set_option linter.unusedSimpArgs false
namespace Go.Proofs.YtgjacdfiilcaaaaR
open Go Go.RowKit

def slT (P : Program) (t : TypeId) (e : Nat) : Bool := match P.underlying t with
  | some (.slice el) => sizeT P el e
  | _ => false
def fdT (P : Program) (t : TypeId) (f : Nat) (p : Field → Bool) : Bool := match P.underlying t with
  | some (.struct fs) => match fs[f]? with
    | some fd => p fd
    | none => false
  | _ => false
def posT (P : Program) (t : TypeId) : Bool := match P.info? t with
  | some i => decide (0 < i.size)
  | none => false
def agT (P : Program) (t : TypeId) (ag : Bool) (n : Nat) : Bool := aggT P t ag && (if ag then sizeT P t n else n == 1)
def mksT (P : Program) (el e by_ : Nat) (zs : List V) : Bool := zeroT P el zs && sizeT P el e && (zs.length == e) && decide (0 < by_) && (match P.info? el with | some i => i.bytes == by_ | none => false)
def clrT (P : Program) (el e : Nat) : Bool := match P.info? el with
  | some i => i.size == e && (match i.zero with | some z => (z.cells.size == e) && z.cells.toList.all (·.oneCell') | none => false)
  | none => false
/-- Is this the evaluator's operation? -/
def chk (P : Program) (op : Op) : I → Bool
  | .mov y => match op with
    | .move x => xok x y
    | .assign x => xok x y
    | _ => false
  | .nilsl _ _ _ => match op with
    | .move (.const (.slice none 0 0)) => true
    | .assign (.const (.slice none 0 0)) => true
    | _ => false
  | .pick c' x' y' => match op with
    | .pick c x y => xok c c' && xok x x' && xok y y'
    | _ => false
  | .bin op' x' y' => match op with
    | .binOp op _ x y _ => decide (op = op') && xok x x' && xok y y'
    | _ => false
  | .eqb neg x' y' => match op with
    | .binOp op t x y _ => decide (op = if neg then .neq else .eql) && (match P.underlying t with | some .bool => true | _ => false) && xok x x' && xok y y'
    | _ => false
  | .eqs neg ks x' y' => match op with
    | .binOp op t x y _ => decide (op = if neg then .neq else .eql) && eqsT P t ks && xok x x' && xok y y'
    | _ => false
  | .un op' x' => match op with
    | .unOp op _ x => decide (op = op') && xok x x'
    | _ => false
  | .conv k x' => match op with
    | .convert src dst x => (P.underlying src).isSome && (match P.underlying dst with | some (.int k') => decide (k' = k) | _ => false) && xok x x'
    | _ => false
  | .alloc zs => match op with
    | .alloc el => zeroT P el zs
    | _ => false
  | .box x' => match op with
    | .box _ x => xok x x'
    | _ => false
  | .build zs qs => match op with
    | .build t ps => buildT P t zs ps.toList qs
    | _ => false
  | .bsl el e m zs qs => match op with
    | .buildSlice t k ps => (k == m) && sliceT P t el && sizeT P el e && zeroT P el zs && (zs.length == e) && decide (m * e ≤ 16777216) && decide (m ≤ 16777216) && partsR ps.toList qs
    | _ => false
  | .load ag m x' => match op with
    | .load t x => agT P t ag m && xok x x'
    | _ => false
  | .nck x' => match op with
    | .nilCheck x => xok x x'
    | _ => false
  | .mks el e by_ zs l' c' => match op with
    | .makeSlice t l c => sliceT P t el && mksT P el e by_ zs && xok l l' && xok c c'
    | _ => false
  | .stop => true
  | .kow _ _ x' => match op with
    | .move x => xok x x'
    | .assign x => xok x x'
    | _ => false
  | .kln x' => match op with
    | .call c => match c.callee, c.args.toList, c.argTypes.toList with
      | .builtin .len, [x], [t] => (match P.underlying t with | some (.slice _) => true | _ => false) && xok x x'
      | .builtin .cap, [x], [t] => (match P.underlying t with | some (.slice _) => true | _ => false) && xok x x'
      | _, _, _ => false
    | _ => false
  | .kct x' hi' => match op with
    | .slice t x none (some hi) none => slT P t 1 && xok x x' && xok hi hi'
    | _ => false
  | .apz el e by_ zs x' m' => match op with
    | .call c => match c.callee, c.args.toList, c.argTypes.toList with
      | .builtin .append, [x, m], [t, t'] => (match P.underlying t' with | some (.int _) => true | _ => false) && sliceT P t el && mksT P el e by_ zs && decide (0 < e) && xok x x' && xok m m'
      | _, _, _ => false
    | _ => false
  | .cu0 e x' hi' => match op with
    | .slice t x none (some hi) none => slT P t e && xok x x' && xok hi hi'
    | _ => false
  | .cut e x' lo' hi' => match op with
    | .slice t x lo hi none => slT P t e && xok x x' && xokO lo lo' && xokO hi hi'
    | _ => false
  | .fad off x' => match op with
    | .fieldAddr t x f => fdT P t f (fun fd => fd.offset == off && posT P fd.type) && xok x x'
    | _ => false
  | .fld ag off m x' => match op with
    | .field t x f => fdT P t f (fun fd => fd.offset == off && agT P fd.type ag m) && xok x x'
    | _ => false
  | .iad e x' i' => match op with
    | .indexAddr t x i => slT P t e && xok x x' && xok i i'
    | _ => false
  | .iada e len x' i' => match op with
    | .indexAddr t x i => arrT P t len e && xok x x' && xok i i'
    | _ => false
  | .idx ag e len x' i' => match op with
    | .index t x i => (match P.underlying t with | some (.array m el) => (m == len) && sizeT P el e && agT P el ag e | _ => false) && xok x x' && xok i i'
    | _ => false
  | .ext x' i' => match op with
    | .extract x i => (i == i') && xok x x'
    | _ => false
  | .call _ f' as' => match op with
    | .call c => match c.callee with
      | .value (.func f) => (f == f') && xoks c.args.toList as'
      | _ => false
    | _ => false
  | .callv _ x' as' => match op with
    | .call c => match c.callee with
      | .value x => xok x x' && xoks c.args.toList as'
      | _ => false
    | _ => false
  | .len x' => match op with
    | .call c => match c.callee, c.args.toList, c.argTypes.toList with
      | .builtin .len, [x], [t] => (match P.underlying t with | some (.slice _) => true | _ => false) && xok x x'
      | _, _, _ => false
    | _ => false
  | .mx x' y' => match op with
    | .call c => match c.callee, c.args.toList with
      | .builtin .max, [x, y] => xok x x' && xok y y'
      | _, _ => false
    | _ => false
  | .mn x' y' => match op with
    | .call c => match c.callee, c.args.toList with
      | .builtin .min, [x, y] => xok x x' && xok y y'
      | _, _ => false
    | _ => false
  | .mkf f' cs' => match op with
    | .makeFunc (.func f) fi cs => (f == f') && fi.toList.isEmpty && xoks cs.toList cs'
    | _ => false
  | .store _ m x' v' => match op with
    | .store t x v => sizeT P t m && xok x x' && xok v v'
    | _ => false
  | .app el e by_ x' y' => match op with
    | .call c => match c.callee, c.args.toList, c.argTypes.toList with
      | .builtin .append, [x, y], [t, t'] => (t == t') && sliceT P t el && appT P el e by_ && xok x x' && xok y y'
      | _, _, _ => false
    | _ => false
  | .apn el e by_ x' y' => match op with
    | .call c => match c.callee, c.args.toList, c.argTypes.toList with
      | .builtin .append, [x, y], [t, t'] => (t == t') && sliceT P t el && appT P el e by_ && xok x x' && xok y y'
      | _, _, _ => false
    | _ => false
  | .apk el e by_ x' y' => match op with
    | .call c => match c.callee, c.args.toList, c.argTypes.toList with
      | .builtin .append, [x, y], [t, t'] => (t == t') && sliceT P t el && appT P el e by_ && xok x x' && xok y y'
      | _, _, _ => false
    | _ => false
  | .cvb x' => match op with
    | .convert t t' x => (t == t') && (match P.underlying t with
      | some (.slice el) => (match P.underlying el with
        | some (.int .u8) => true
        | _ => false)
      | _ => false) && xok x x'
    | _ => false
  | .clr el e x' => match op with
    | .call c => match c.callee, c.args.toList, c.argTypes.toList with
      | .builtin .clear, [x], [t] => sliceT P t el && clrT P el e && xok x x'
      | _, _, _ => false
    | _ => false
  | .callo f' as' => match op with
    | .call c => match c.callee with
      | .value (.func f) => (f == f') && xoks c.args.toList as'
      | _ => false
    | _ => false
  | .alo zs ps => match op with
    | .alloc el => zeroT P el zs && decide (ps.length < 63)
    | _ => false
  | .isnil neg x' => match op with
    | .binOp op t x (.const (.slice none 0 0)) _ => decide (op = if neg then .neq else .eql) && (match P.underlying t with | some (.slice _) => true | _ => false) && xok x x'
    | _ => false

section
variable {P : Program} {n : Nat} {Γ : Ent} {w0 : World} {ok0 : Nat → Prop} {loc : Locs} {st : St} {a : Act} {w : World} {o : Oper}

theorem slT_spec {t : TypeId} {e : Nat} (h : slT P t e = true) : ∃ el, P.underlying t = some (.slice el) ∧ sizeT P el e = true := by
  unfold slT at h
  split at h
  · exact ⟨_, ‹_›, h⟩
  · cases h
theorem fdT_spec {t : TypeId} {f : Nat} {p : Field → Bool} (h : fdT P t f p = true) : ∃ fs fd, P.underlying t = some (.struct fs) ∧ fs[f]? = some fd ∧ p fd = true := by
  unfold fdT at h
  split at h
  · split at h
    · exact ⟨_, _, ‹_›, ‹_›, h⟩
    · cases h
  · cases h
theorem posT_spec {t : TypeId} (h : posT P t = true) : ∃ m, sizeT P t (m + 1) = true := by
  unfold posT at h
  split at h
  · rename_i i hi
    have h0 := of_decide_eq_true h
    exact ⟨i.size - 1, by unfold sizeT; rw [hi]; simp; omega⟩
  · cases h
theorem agT_spec {t : TypeId} {ag : Bool} {m : Nat} (h : agT P t ag m = true) : aggT P t ag = true ∧ (if ag then sizeT P t m else m == 1) = true := by
  unfold agT at h
  simpa using h

theorem yld_wp {v : S} (I : Inv n Γ w0 ok0 loc st a w) (hd : ∀ t, o.dst = some t → t < n) (hy : Yld P w (okI w0 ok0 w loc) loc a o v) {next : Act → World → Prop} {Q : Exit → Act → World → Prop}
    (hn : ∀ x w' loc', Inv n Γ w0 ok0 loc' { sl := (st.put o.dst v).sl, hp := [] ++ st.hp } (a.put o.dst x) w' → next (a.put o.dst x) w') : o.wp P a w next Q := by
  obtain ⟨x, hx, hr⟩ := hy
  unfold Oper.wp
  rw [hx, Oper.upon_value]
  have h := I.val o.dst hd v x hr
  refine hn x w loc ?_
  cases hdst : o.dst with
  | none => rw [hdst] at h; exact h
  | some d => rw [hdst] at h; exact h

theorem evs_rs {g : Nat → Option S} {ok : Nat → Prop} (hg : GOk w ok loc a g) : ∀ {l : List Operand} {l' : List X} {ss : List S}, xoks l l' = true → evs g l' = some ss → ss.length = l.length ∧ ∀ (j : Nat) s u, ss[j]? = some s → (l.map a.eval)[j]? = some u → RS w ok loc s u
  | [], [], ss, _, h => by cases h; exact ⟨rfl, fun j s u h => by cases h⟩
  | x :: r, y :: q, ss, hx, h => by
    simp only [xoks, Bool.and_eq_true] at hx
    simp only [evs] at h
    split at h
    · rename_i s hs
      split at h
      · rename_i ss' hss
        cases h
        obtain ⟨g1, g2⟩ := evs_rs hg hx.2 hss
        refine ⟨by simp [g1], fun j s' u a1 a2 => ?_⟩
        cases j with
        | zero => simp at a1 a2; subst a1; subst a2; exact xok_rs hx.1 hg hs
        | succ j => exact g2 j s' u (by simpa using a1) (by simpa using a2)
      · cases h
    · cases h
  | [], _ :: _, _, hx, _ => by cases hx
  | _ :: _, [], _, hx, _ => by cases hx

theorem run_makeSlice {t el : TypeId} {e by_ : Nat} {zs : List V} {l : Int} {k k' : IntKind} (ht : P.underlying t = some (.slice el)) (hT : mksT P el e by_ zs = true) (h0 : 0 ≤ l) (hb : l * by_ ≤ 140737488355328) :
    ∃ z : Value, voks z.cells.toList zs = true ∧ zs.length = e ∧ (Instr.makeSlice t (.int k l) (.int k' l)).run P w = .ok (.slice (some ⟨w.heap.size, 0, none⟩) l.toNat l.toNat) (w.alloc (.cells ((Array.range (l.toNat * e)).map fun i => z.cells[i % z.cells.size]!) el)) := by
  unfold mksT at hT
  simp only [Bool.and_eq_true, beq_iff_eq, decide_eq_true_eq] at hT
  obtain ⟨⟨⟨⟨hz, hs⟩, hl⟩, hp⟩, hby⟩ := hT
  obtain ⟨i, z, i1, i2, i3⟩ := zeroT_spec hz
  rw [i1] at hby
  simp only [beq_iff_eq] at hby
  have hlb : l ≤ 140737488355328 := by
    have h1 : l * 1 ≤ l * by_ := Int.mul_le_mul_of_nonneg_left (by omega) h0
    omega
  have hw : IntKind.i64.wrap l = l := IntWalk.i64_in _ (by omega)
  refine ⟨z, i3, hl, ?_⟩
  have hmul : ¬ (281474976710656 < (by_ : Int) * l) := by rw [Int.mul_comm]; omega
  have hmul' : ¬ (by_ : Int) * l > 2 ^ 48 := by rw [show ((2 : Int) ^ 48) = 281474976710656 from rfl]; omega
  have h0' : ¬ l < 0 := by omega
  by_cases hn : l.toNat * e = 0
  · have hzero : Array.range (l.toNat * e) = #[] := by rw [hn]; rfl
    simp [Instr.makeSlice, run_underlying ht, asInt, asIntOf, typeInfo, i1, hby, hw, hmul, hmul', run_sizeOf hs, hn, newRow, h0']
    rw [show Array.range 0 = #[] from rfl, Array.map_empty, Array.map_empty]
  · simp [Instr.makeSlice, run_underlying ht, asInt, asIntOf, typeInfo, i1, i2, zeroValue, hby, hw, hmul, hmul', run_sizeOf hs, hn, newRow, h0']
theorem run_appz {t t' el : TypeId} {e by_ : Nat} {zs : List V} {l : Int} {k kn : IntKind} (ty : TypeId) (ht : P.underlying t = some (.slice el)) (ht' : P.underlying t' = some (.int kn)) (hT : mksT P el e by_ zs = true) (hpos : 0 < e) (h0 : 0 < l) (hb : l * by_ ≤ 140737488355328) :
    ∃ z : Value, voks z.cells.toList zs = true ∧ zs.length = e ∧ ∃ cap : Nat, l.toNat ≤ cap ∧ cap ≤ maxLen ∧ (Builtin.append_ #[t, t'] ty #[.slice none 0 0, .int k l]).run P w =
      .ok (.slice (some ⟨w.heap.size, 0, none⟩) l.toNat cap) (w.drew.alloc (.cells (Builtin.zeroCells z.cells l.toNat ++ Builtin.zeroCells z.cells (cap - l.toNat)) el)) := by
  unfold mksT at hT
  simp only [Bool.and_eq_true, beq_iff_eq, decide_eq_true_eq] at hT
  obtain ⟨⟨⟨⟨hz, hs⟩, hl⟩, hp⟩, hby⟩ := hT
  obtain ⟨i, z, i1, i2, i3⟩ := zeroT_spec hz
  rw [i1] at hby
  simp only [beq_iff_eq] at hby
  have hlb : l ≤ 140737488355328 := by
    have h1 : l * 1 ≤ l * by_ := Int.mul_le_mul_of_nonneg_left (by omega) (by omega)
    omega
  obtain ⟨m, rfl⟩ : ∃ m : Nat, l = (m : Int) := ⟨l.toNat, by omega⟩
  have hm : ((m : Int)).toNat = m := rfl
  rw [hm]
  have hmb : m * by_ ≤ 140737488355328 := by
    rw [← Int.natCast_mul] at hb
    omega
  have hsz : 0 < i.size := by
    unfold sizeT at hs
    rw [i1] at hs
    simp only [beq_iff_eq] at hs
    omega
  refine ⟨z, i3, hl, grownCap w m 0 el, ?_, ?_, ?_⟩
  · exact grownCap_ge w m 0 el
  · exact grownCap_le_maxLen w m 0 el (by unfold maxLen; omega)
  · exact Lib.run_append_nil_zeros w t t' ty el i z k kn ht ht' i1 i2 m (by omega) hsz (by omega) (by rw [hby]; omega)
end
end Go.Proofs.YtgjacdfiilcaaaaR
