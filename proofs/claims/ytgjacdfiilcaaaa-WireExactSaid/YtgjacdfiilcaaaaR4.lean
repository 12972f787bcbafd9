/- Operations that only compute, or read: what the model's operation yields stands for what the evaluator tells. -/
import Derived.Test.YtgjacdfiilcaaaaR3
set_option linter.unusedVariables false
set_option linter.unusedSimpArgs false
namespace Go.Proofs.YtgjacdfiilcaaaaR
open Go Go.RowKit

section
variable {P : Program} {w : World} {ok : Nat → Prop} {loc : Locs} {a : Act} {g : Nat → Option S} {h : Nat → Option Blk}
/-- The slots that are looked at, the blocks that are looked at. -/
def GOk (w : World) (ok : Nat → Prop) (loc : Locs) (a : Act) (g : Nat → Option S) : Prop := ∀ t s, g t = some s → RS w ok loc s (a.tmps.getD t undef)
def HOk (w : World) (ok : Nat → Prop) (loc : Locs) (h : Nat → Option Blk) : Prop := ∀ s l B, loc s = some l → h s = some B → HB w ok loc l B
/-- The operation yields one value, the world as it was. -/
def Yld (P : Program) (w : World) (ok : Nat → Prop) (loc : Locs) (a : Act) (o : Oper) (v : S) : Prop := ∃ x, (execOp a.eval o).run P w = .ok (.value x) w ∧ RS w ok loc v x

theorem rs_int {k : IntKind} {n : Int} {x : Value} (h : RS w ok loc (.one (.int k n)) x) : x = .int k n := by cases (h : Rep w ok (.int k n) x); rfl
theorem rs_bool {b : Bool} {x : Value} (h : RS w ok loc (.one (.bool b)) x) : x = .bool b := by cases (h : Rep w ok (.bool b) x); rfl
theorem to_int {k : IntKind} {n : Int} : RS w ok loc (.one (.int k n)) (.int k n) := Rep.int
theorem to_bool {b : Bool} : RS w ok loc (.one (.bool b)) (.bool b) := Rep.bool

theorem y_mov {o : Oper} {x : Operand} {y : X} {s : S} (ho : o.op = .move x ∨ o.op = .assign x) (hx : xok x y = true) (hg : GOk w ok loc a g) (he : y.ev g = some s) : Yld P w ok loc a o s := by
  refine ⟨a.eval x, ?_, xok_rs hx hg he⟩
  unfold execOp
  rcases ho with ho | ho <;> rw [ho] <;> rfl

theorem y_pick {o : Oper} {c x y : Operand} {c' x' y' : X} {t : Bool} {s s' : S} (ho : o.op = .pick c x y) (hc : xok c c' = true) (hx : xok x x' = true) (hy : xok y y' = true) (hg : GOk w ok loc a g) (ec : c'.ev g = some (.one (.bool t))) (ex : x'.ev g = some s) (ey : y'.ev g = some s') :
    Yld P w ok loc a o (if t then s else s') := by
  have h1 := rs_bool (xok_rs hc hg ec)
  refine ⟨if t then a.eval x else a.eval y, ?_, ?_⟩
  · unfold execOp
    rw [ho]
    simp [h1, asBool]
  · cases t with
    | true => simp only [if_true]; exact xok_rs hx hg ex
    | false => exact xok_rs hy hg ey

theorem run_ibin {op : BinOp} {k k' : IntKind} {m n : Int} {v : V} (t : TypeId) (h : ibin op k m k' n = some v) : ∃ x, (binOp op t (.int k m) (.int k' n)).run P w = .ok x w ∧ Rep w ok v x := by
  unfold ibin at h
  split at h
  · split at h
    · rename_i hb
      cases h
      refine ⟨_, ?_, .int⟩
      rw [binOp_shl, shift_shl _ _ _ _ hb.1 hb.2]
      rfl
    · cases h
  · split at h
    · rename_i hb
      cases h
      refine ⟨_, ?_, .int⟩
      rw [binOp_shr, shift_shr _ _ _ _ hb.1 hb.2]
      rfl
    · cases h
  · split at h
    · rename_i hk
      subst hk
      split at h <;> first
        | (cases h; exact ⟨_, by simp [binOp_add, binOp_sub, binOp_mul, Op.intArith], .int⟩)
        | (cases h; exact ⟨_, by simp [binOp_and, binOp_or, binOp_xor, binOp_andNot, intBits_and, intBits_or, intBits_xor, intBits_andNot], .int⟩)
        | (split at h
           · cases h
           · rename_i hb
             cases h
             exact ⟨_, by simp [binOp_quo, binOp_rem, Op.intDiv, hb], .int⟩)
        | (cases h; exact ⟨_, by simp only [binOp_eql, binOp_neq, binOp_lss, binOp_leq, binOp_gtr, binOp_geq, Sem.run_pure]; rfl, by first | exact .bool | (rw [show (m == n) = decide (m = n) from rfl]; exact .bool) | (rw [show (m != n) = !decide (m = n) from rfl]; exact .bool)⟩)
        | cases h
    · cases h

theorem y_bin {o : Oper} {op : BinOp} {t u : TypeId} {x y : Operand} {x' y' : X} {p q v : V} (ho : o.op = .binOp op t x y u) (hx : xok x x' = true) (hy : xok y y' = true) (hg : GOk w ok loc a g)
    (ex : x'.ev g = some (.one p)) (ey : y'.ev g = some (.one q)) (hb : bin op p q = some v) : Yld P w ok loc a o (.one v) := by
  unfold bin at hb
  split at hb
  · rename_i k m k' n
    have h1 := rs_int (xok_rs hx hg ex)
    have h2 := rs_int (xok_rs hy hg ey)
    obtain ⟨z, hz, hr⟩ := run_ibin (P := P) (w := w) (ok := ok) t hb
    refine ⟨z, ?_, hr.rv⟩
    unfold execOp
    rw [ho]
    simp [h1, h2, eqGuard_at_int, hz]
  · cases hb

theorem run_equalIn_bool (d : Nat) {t : TypeId} (p q : Bool) (ht : P.underlying t = some .bool) : (Op.equalIn (d + 1) t (.bool p) (.bool q)).run P w = .ok (p == q) w := by
  simp [Op.equalIn, run_underlying ht]
theorem run_eql_bool {t : TypeId} (p q : Bool) (ht : P.underlying t = some .bool) : (binOp .eql t (.bool p) (.bool q)).run P w = .ok (.bool (p == q)) w := by
  have h := run_equalIn_bool (w := w) 9999 p q ht
  simp only [binOp]
  simp [Op.equal, Op.maxDepth, h]
theorem run_neq_bool {t : TypeId} (p q : Bool) (ht : P.underlying t = some .bool) : (binOp .neq t (.bool p) (.bool q)).run P w = .ok (.bool (!(p == q))) w := by
  have h := run_equalIn_bool (w := w) 9999 p q ht
  simp only [binOp]
  simp [Op.equal, Op.maxDepth, h]
theorem y_eqb {o : Oper} {op : BinOp} {t u : TypeId} {x y : Operand} {x' y' : X} {p q : Bool} (neg : Bool) (ho : o.op = .binOp op t x y u) (hop : op = if neg then .neq else .eql) (ht : P.underlying t = some .bool) (hx : xok x x' = true) (hy : xok y y' = true) (hg : GOk w ok loc a g)
    (ex : x'.ev g = some (.one (.bool p))) (ey : y'.ev g = some (.one (.bool q))) : Yld P w ok loc a o (.one (.bool (if neg then !(p == q) else p == q))) := by
  have h1 := rs_bool (xok_rs hx hg ex)
  have h2 := rs_bool (xok_rs hy hg ey)
  refine ⟨_, ?_, to_bool⟩
  unfold execOp
  rw [ho]
  subst hop
  cases neg
  · simp only [h1, h2, eqGuard_at_bool, Bool.false_eq_true, if_false, Sem.run_bind, Sem.run_pure, Result.andThen_ok, run_eql_bool p q ht]
  · simp only [h1, h2, eqGuard_at_bool, if_true, Sem.run_bind, Sem.run_pure, Result.andThen_ok, run_neq_bool p q ht]

theorem run_equalIn_nil (d : Nat) {t el : TypeId} (A : Option Addr) (n c : Nat) (ht : P.underlying t = some (.slice el)) : (Op.equalIn (d + 1) t (.slice A n c) (.slice none 0 0)).run P w = .ok A.isNone w := by
  cases A <;> simp [Op.equalIn, run_underlying ht]
theorem run_eql_nil {t el : TypeId} (A : Option Addr) (n c : Nat) (ht : P.underlying t = some (.slice el)) : (binOp .eql t (.slice A n c) (.slice none 0 0)).run P w = .ok (.bool A.isNone) w := by
  have h := run_equalIn_nil (w := w) 9999 A n c ht
  simp only [binOp]
  simp [Op.equal, Op.maxDepth, h]
theorem run_neq_nil {t el : TypeId} (A : Option Addr) (n c : Nat) (ht : P.underlying t = some (.slice el)) : (binOp .neq t (.slice A n c) (.slice none 0 0)).run P w = .ok (.bool (!A.isNone)) w := by
  have h := run_equalIn_nil (w := w) 9999 A n c ht
  simp only [binOp]
  simp [Op.equal, Op.maxDepth, h]
theorem y_isnil {o : Oper} {op : BinOp} {t u el : TypeId} {x : Operand} {A : Option Addr} {n c : Nat} (neg : Bool) (ho : o.op = .binOp op t x (.const (.slice none 0 0)) u) (hop : op = if neg then .neq else .eql) (ht : P.underlying t = some (.slice el)) (hx : a.eval x = .slice A n c) : Yld P w ok loc a o (.one (.bool (if neg then !A.isNone else A.isNone))) := by
  have hcon : a.eval (.const (.slice none 0 0)) = .slice none 0 0 := rfl
  refine ⟨_, ?_, to_bool⟩
  unfold execOp
  rw [ho]
  subst hop
  cases neg
  · simp only [hx, hcon, eqGuard_at_slice, Bool.false_eq_true, if_false, Sem.run_bind, Sem.run_pure, Result.andThen_ok, run_eql_nil A n c ht]
  · simp only [hx, hcon, eqGuard_at_slice, if_true, Sem.run_bind, Sem.run_pure, Result.andThen_ok, run_neq_nil A n c ht]
theorem y_not {o : Oper} {t : TypeId} {x : Operand} {x' : X} {b : Bool} (ho : o.op = .unOp .not t x) (hx : xok x x' = true) (hg : GOk w ok loc a g) (ex : x'.ev g = some (.one (.bool b))) : Yld P w ok loc a o (.one (.bool (!b))) := by
  have h1 := rs_bool (xok_rs hx hg ex)
  refine ⟨_, ?_, to_bool⟩
  unfold execOp
  rw [ho]
  simp [h1, Op.unary]
theorem y_neg {o : Oper} {t : TypeId} {x : Operand} {x' : X} {k : IntKind} {n : Int} (ho : o.op = .unOp .neg t x) (hx : xok x x' = true) (hg : GOk w ok loc a g) (ex : x'.ev g = some (.one (.int k n))) : Yld P w ok loc a o (.one (.int k (k.wrap (0 - n)))) := by
  have h1 := rs_int (xok_rs hx hg ex)
  refine ⟨_, ?_, to_int⟩
  unfold execOp
  rw [ho]
  simp [h1, Op.unary, Op.intArith]
theorem y_xor {o : Oper} {t : TypeId} {x : Operand} {x' : X} {k : IntKind} {n : Int} (ho : o.op = .unOp .xor t x) (hx : xok x x' = true) (hg : GOk w ok loc a g) (ex : x'.ev g = some (.one (.int k n))) : Yld P w ok loc a o (.one (.int k (bits .xor k (if k.signed then -1 else k.max) n))) := by
  have h1 := rs_int (xok_rs hx hg ex)
  refine ⟨_, ?_, to_int⟩
  unfold execOp
  rw [ho]
  simp [h1, Op.unary, intBits_xor]
theorem y_conv {o : Oper} {src dst : TypeId} {x : Operand} {x' : X} {k k' : IntKind} {n : Int} (ho : o.op = .convert src dst x) (hs : (P.underlying src).isSome = true) (ht : P.underlying dst = some (.int k)) (hx : xok x x' = true) (hg : GOk w ok loc a g) (ex : x'.ev g = some (.one (.int k' n))) : Yld P w ok loc a o (.one (.int k (k.wrap n))) := by
  have h1 := rs_int (xok_rs hx hg ex)
  refine ⟨_, ?_, to_int⟩
  obtain ⟨d, hd⟩ := Option.isSome_iff_exists.mp hs
  unfold execOp
  rw [ho]
  simp [h1, convert, run_underlying hd, run_underlying ht, Conv.intToInt]

/-- A pointer that is read: its cells. -/
theorem rd_spec {p : V} {n : Nat} {ws : List V} {x : Value} (hh : HOk w ok loc h) (hr : rd h n p = some ws) (hx : RV w ok loc p x) :
    ∃ ad, x = .pointer (some ad) ∧ ws.length = n ∧ ∀ j q, ws[j]? = some q → ∃ u, w.cell? (ad.add j) = some u ∧ RV w ok loc q u := by
  unfold rd at hr
  split at hr
  · rename_i s i j
    split at hr
    · rename_i vs hq
      split at hr
      · rename_i hi
        subst hi
        obtain ⟨h1, h2, h3⟩ := sub_spec hr
        rcases hx with ⟨b, g1, _, rfl⟩ | ⟨b, el, e, cap, g1, rfl⟩
        · obtain ⟨cs, el, g2, g3⟩ := hh _ _ _ g1 hq
          refine ⟨_, rfl, h1, fun m q hm => ?_⟩
          have hmn : m < n := by rw [← h1]; exact (List.getElem?_eq_some_iff.1 hm).1
          rw [h3 m hmn] at hm
          have hlt : j + m < cs.toList.length := by rw [← g3.1]; exact (List.getElem?_eq_some_iff.1 hm).1
          refine ⟨cs.toList[j + m], ?_, g3.2 _ _ _ hm (List.getElem?_eq_getElem hlt)⟩
          rw [Addr.add_lit, cell_of_row w b (j + m) cs el (0, 0) g2]
          simp at hlt ⊢
        · exact (hh _ _ _ g1 hq).elim
      · cases hr
    · rename_i el e xs hq
      split at hr
      · rename_i y hy
        obtain ⟨h1, h2, h3⟩ := sub_spec hr
        rcases hx with ⟨b, g1, _, rfl⟩ | ⟨b, el', e', cap, g1, rfl⟩
        · exact (hh _ _ _ g1 hq).elim
        · obtain ⟨e1, e2, _, _, _, cs, g2, g4, g3⟩ := hh _ _ _ g1 hq
          subst e1; subst e2
          refine ⟨_, rfl, h1, fun m q hm => ?_⟩
          have hmn : m < n := by rw [← h1]; exact (List.getElem?_eq_some_iff.1 hm).1
          rw [h3 m hmn] at hm
          obtain ⟨u, hu, hq'⟩ := g3 i (j + m) y q hy hm
          refine ⟨u, ?_, hq'.rv⟩
          rw [Addr.add_lit, cell_of_row w b _ cs _ (0, 0) g2, Nat.add_assoc]
          exact hu
      · cases hr
    · cases hr
  · rename_i cs
    obtain ⟨h1, h2, h3⟩ := sub_spec hr
    cases (hx : Rep w ok (.ptr cs) x) with
    | ptr u ha hr' hp =>
      refine ⟨_, rfl, h1, fun m q hm => ?_⟩
      have hmn : m < n := by rw [← h1]; exact (List.getElem?_eq_some_iff.1 hm).1
      rw [h3 m hmn, Nat.zero_add] at hm
      exact ⟨u m, hr' m q hm, (hp m q hm).rv⟩
  · cases hr

theorem y_load {o : Oper} {t : TypeId} {x : Operand} {x' : X} {ag : Bool} {n : Nat} {p : V} {ws : List V} {s : S} (ho : o.op = .load t x) (ha : aggT P t ag = true) (hn : (if ag then sizeT P t n else n == 1) = true) (hx : xok x x' = true) (hg : GOk w ok loc a g) (hh : HOk w ok loc h)
    (ex : x'.ev g = some (.one p)) (hr : rd h n p = some ws) (hs : shape ag ws = some s) : Yld P w ok loc a o s := by
  obtain ⟨ad, h1, h2, h3⟩ := rd_spec hh hr (xok_rs hx hg ex)
  obtain ⟨v, hv, hr'⟩ := run_loadVar (P := P) (w := w) ha hn h2 hs h3
  refine ⟨v, ?_, hr'⟩
  unfold execOp
  rw [ho]
  simp [h1, Instr.loadAt, Instr.sureAddr, hv]

theorem y_nck {o : Oper} {x : Operand} {x' : X} {p : V} (ho : o.op = .nilCheck x) (hx : xok x x' = true) (hg : GOk w ok loc a g) (ex : x'.ev g = some (.one p)) (hp : (match p with | .ref _ _ _ | .ptr _ | .fn _ _ => true | _ => false) = true) : Yld P w ok loc a o (.one p) := by
  have h1 := xok_rs hx hg ex
  refine ⟨a.eval x, ?_, h1⟩
  unfold execOp
  rw [ho]
  have h2 : RV w ok loc p (a.eval x) := h1
  dsimp only
  generalize a.eval x = z at h2
  cases p <;> simp at hp
  · cases (h2 : Rep w ok (.ptr _) z); rfl
  · cases (h2 : Rep w ok (.fn _ _) z); rfl
  · rcases h2 with ⟨b, _, _, rfl⟩ | ⟨b, el, e, cap, _, rfl⟩ <;> rfl

theorem addr_add (ad : Addr) (m n : Nat) : (ad.add m).add n = ad.add (m + n) := by
  unfold Addr.add
  by_cases hm : m = 0 <;> by_cases hn : n = 0 <;> simp [hm, hn, Nat.add_assoc]
theorem rep_drop {cs : List V} {ad : Addr} {m : Nat} (hr : Rep w ok (.ptr cs) (.pointer (some ad))) : Rep w ok (.ptr (cs.drop m)) (.pointer (some (ad.add m))) := by
  cases hr with
  | ptr u ha hr hp =>
    refine .ptr (fun j => u (m + j)) (by rw [add_block]; exact ha) (fun j p h1 => ?_) (fun j p h1 => ?_)
    · rw [List.getElem?_drop] at h1
      rw [addr_add]
      exact hr _ _ h1
    · rw [List.getElem?_drop] at h1
      exact hp _ _ h1

theorem y_fad {o : Oper} {t : TypeId} {x : Operand} {x' : X} {f off : Nat} {fs : Array Field} {fd : Field} {p q : V} (ho : o.op = .fieldAddr t x f) (ht : P.underlying t = some (.struct fs)) (hf : fs[f]? = some fd) (hoff : fd.offset = off) {m : Nat} (hm : sizeT P fd.type (m + 1) = true) (hx : xok x x' = true) (hg : GOk w ok loc a g)
    (ex : x'.ev g = some (.one p)) (hq : (match p with | .ref s i j => some (V.ref s i (j + off)) | .ptr cs => some (V.ptr (cs.drop off)) | _ => none) = some q) : Yld P w ok loc a o (.one q) := by
  have h1 : RV w ok loc p (a.eval x) := xok_rs hx hg ex
  have key : ∀ ad, a.eval x = .pointer (some ad) → (execOp a.eval o).run P w = .ok (.value (.pointer (some (ad.add off)))) w := by
    intro ad had
    unfold execOp
    rw [ho]
    simp [had, Instr.fieldAt, Instr.sureAddr, run_underlying ht, hf, fieldPlace, run_sizeOf hm, hoff]
  cases p with
  | ref s i j =>
    cases hq
    rcases h1 with ⟨b, g1, g2, g3⟩ | ⟨b, el, e, cap, g1, g3⟩
    · exact ⟨_, key _ g3, .inl ⟨b, g1, g2, by rw [Addr.add_lit]⟩⟩
    · exact ⟨_, key _ g3, .inr ⟨b, el, e, cap, g1, by rw [Addr.add_lit, Nat.add_assoc]⟩⟩
  | ptr cs =>
    cases hq
    generalize hz : a.eval x = z at h1
    cases (h1 : Rep w ok (.ptr cs) z) with
    | ptr u ha hr hp => exact ⟨_, key _ hz, Rep.rv (loc := loc) (rep_drop (.ptr u ha hr hp))⟩
  | _ => cases hq

theorem y_fld {o : Oper} {t : TypeId} {x : Operand} {x' : X} {f off n : Nat} {ag : Bool} {fs : Array Field} {fd : Field} {vs ws : List V} {s : S} (ho : o.op = .field t x f) (ht : P.underlying t = some (.struct fs)) (hf : fs[f]? = some fd) (hoff : fd.offset = off) (ha : aggT P fd.type ag = true) (hn : (if ag then sizeT P fd.type n else n == 1) = true) (hx : xok x x' = true) (hg : GOk w ok loc a g)
    (ex : x'.ev g = some (.agg vs)) (hw : sub vs off n = some ws) (hs : shape ag ws = some s) : Yld P w ok loc a o s := by
  obtain ⟨cs, h1, h2⟩ := xok_rs hx hg ex
  obtain ⟨v, hv, hr⟩ := run_part (P := P) ha hn hw hs h2
  refine ⟨v, ?_, hr⟩
  unfold execOp
  rw [ho]
  simp [h1, Instr.field, run_underlying ht, hf, asAgg, hoff, hv]

theorem asI_spec {i : Operand} {i' : X} {n : Int} (hi : xok i i' = true) (hg : GOk w ok loc a g) (ei : asI (i'.ev g) = some n) : ∃ k, a.eval i = .int k n := by
  unfold asI at ei
  split at ei
  · rename_i k m hq
    cases ei
    exact ⟨k, rs_int (xok_rs hi hg hq)⟩
  · cases ei

theorem y_iad_row {o : Oper} {t el : TypeId} {x i : Operand} {x' i' : X} {e : Nat} {n : Int} {xs : List (List V)} {y : List V} (ho : o.op = .indexAddr t x i) (ht : P.underlying t = some (.slice el)) (hs : sizeT P el e = true) (hx : xok x x' = true) (hi : xok i i' = true) (hg : GOk w ok loc a g)
    (ex : x'.ev g = some (.one (.row xs))) (ei : asI (i'.ev g) = some n) (h0 : 0 ≤ n) (h1 : n < xs.length) (hy : xs[n.toNat]? = some y) (hl : y.length = e) : Yld P w ok loc a o (.one (.ptr y)) := by
  obtain ⟨k, hk⟩ := asI_spec hi hg ei
  have hr : Rep w ok (.row xs) (a.eval x) := xok_rs hx hg ex
  generalize hz : a.eval x = z at hr
  cases hr with
  | row0 A c => simp at h1; omega
  | row u hn hne hc ha he hr hp =>
    rename_i ad n' c e'
    have hee : e' = e := by rw [← he y (List.mem_of_getElem? hy)]; exact hl
    subst hee
    refine ⟨.pointer (some (ad.add (n.toNat * e'))), ?_, Rep.rv (loc := loc) (.ptr (fun j => u n.toNat j) (by rw [add_block]; exact ha) (fun j p hj => ?_) (fun j p hj => hp _ _ _ _ hy hj))⟩
    · unfold execOp
      rw [ho]
      have h2 : (n' : Int) = xs.length := by rw [hn]
      simp [hz, hk, Instr.indexAt, asIntOf, run_underlying ht, h0, h2, h1, run_sizeOf hs]
    · rw [addr_add]
      exact hr _ _ _ _ hy hj

theorem y_iad_sl {o : Oper} {t el : TypeId} {x i : Operand} {x' i' : X} {e : Nat} {n : Int} {s off len el' : Nat} {xs : List (List V)} (ho : o.op = .indexAddr t x i) (ht : P.underlying t = some (.slice el)) (hs : sizeT P el e = true) (hx : xok x x' = true) (hi : xok i i' = true) (hg : GOk w ok loc a g) (hh : HOk w ok loc h)
    (ex : x'.ev g = some (.one (.sl s off len))) (ei : asI (i'.ev g) = some n) (hq : h s = some (.rows el' e xs)) (h0 : 0 ≤ n) (h1 : n < len) : Yld P w ok loc a o (.one (.ref s (off + n.toNat) 0)) := by
  obtain ⟨k, hk⟩ := asI_spec hi hg ei
  rcases (xok_rs hx hg ex : RV w ok loc (.sl s off len) (a.eval x)) with ⟨b, el2, e2, cap, g1, g2, g3⟩ | ⟨g1, g2, g3, g4⟩
  · obtain ⟨e1, e2', _⟩ := hh _ _ _ g1 hq
    subst e2'
    refine ⟨.pointer (some ⟨b, (off + n.toNat) * e + 0, none⟩), ?_, .inr ⟨b, el2, e, cap, g1, rfl⟩⟩
    unfold execOp
    rw [ho]
    simp [g3, hk, Instr.indexAt, asIntOf, run_underlying ht, h0, h1, run_sizeOf hs, Addr.add_lit, Nat.add_mul]
  · subst g3; omega

theorem y_iada_ref {o : Oper} {t el : TypeId} {x i : Operand} {x' i' : X} {e len : Nat} {n : Int} {s j c : Nat} {vs : List V} (ho : o.op = .indexAddr t x i) (ht : P.underlying t = some (.array len el)) (hs : sizeT P el e = true) (hx : xok x x' = true) (hi : xok i i' = true) (hg : GOk w ok loc a g) (hh : HOk w ok loc h)
    (ex : x'.ev g = some (.one (.ref s c j))) (ei : asI (i'.ev g) = some n) (hq : h s = some (.box vs)) (h0 : 0 ≤ n) (h1 : n < len) : Yld P w ok loc a o (.one (.ref s c (j + n.toNat * e))) := by
  obtain ⟨k, hk⟩ := asI_spec hi hg ei
  rcases (xok_rs hx hg ex : RV w ok loc (.ref s c j) (a.eval x)) with ⟨b, g1, g2, g3⟩ | ⟨b, el', e', cap, g1, g3⟩
  · refine ⟨.pointer (some ⟨b, j + n.toNat * e, none⟩), ?_, .inl ⟨b, g1, g2, rfl⟩⟩
    unfold execOp
    rw [ho]
    simp [g3, hk, Instr.indexAt, asIntOf, run_underlying ht, Instr.sureAddr, h0, h1, run_sizeOf hs, Addr.add_lit]
  · exact (hh _ _ _ g1 hq).elim
theorem y_iada_ptr {o : Oper} {t el : TypeId} {x i : Operand} {x' i' : X} {e len : Nat} {n : Int} {cs : List V} (ho : o.op = .indexAddr t x i) (ht : P.underlying t = some (.array len el)) (hs : sizeT P el e = true) (hx : xok x x' = true) (hi : xok i i' = true) (hg : GOk w ok loc a g)
    (ex : x'.ev g = some (.one (.ptr cs))) (ei : asI (i'.ev g) = some n) (h0 : 0 ≤ n) (h1 : n < len) : Yld P w ok loc a o (.one (.ptr (cs.drop (n.toNat * e)))) := by
  obtain ⟨k, hk⟩ := asI_spec hi hg ei
  have hr : Rep w ok (.ptr cs) (a.eval x) := xok_rs hx hg ex
  generalize hz : a.eval x = z at hr
  cases hr with
  | ptr u ha hr hp =>
    rename_i ad
    refine ⟨_, ?_, Rep.rv (loc := loc) (rep_drop (.ptr u ha hr hp))⟩
    unfold execOp
    rw [ho]
    simp [hz, hk, Instr.indexAt, asIntOf, run_underlying ht, Instr.sureAddr, h0, h1, run_sizeOf hs]

theorem y_idx {o : Oper} {t el : TypeId} {x i : Operand} {x' i' : X} {ag : Bool} {e len : Nat} {n : Int} {vs ws : List V} {s : S} (ho : o.op = .index t x i) (ht : P.underlying t = some (.array len el)) (hs : sizeT P el e = true) (ha : aggT P el ag = true) (hn : (if ag then sizeT P el e else e == 1) = true) (hx : xok x x' = true) (hi : xok i i' = true) (hg : GOk w ok loc a g)
    (ex : x'.ev g = some (.agg vs)) (ei : asI (i'.ev g) = some n) (h0 : 0 ≤ n) (h1 : n < len) (hw : sub vs (n.toNat * e) e = some ws) (hsh : shape ag ws = some s) : Yld P w ok loc a o s := by
  obtain ⟨k, hk⟩ := asI_spec hi hg ei
  obtain ⟨cs, g1, g2⟩ := xok_rs hx hg ex
  obtain ⟨v, hv, hr⟩ := run_part (P := P) ha hn hw hsh g2
  refine ⟨v, ?_, hr⟩
  unfold execOp
  rw [ho]
  simp [g1, hk, Instr.index, asIntOf, run_underlying ht, h0, h1, run_sizeOf hs, hv]

theorem y_ext {o : Oper} {x : Operand} {x' : X} {i : Nat} {xs : List S} {s : S} (ho : o.op = .extract x i) (hx : xok x x' = true) (hg : GOk w ok loc a g) (ex : x'.ev g = some (.tup xs)) (hs : xs[i]? = some s) : Yld P w ok loc a o s := by
  obtain ⟨us, h1, h2, h3⟩ := xok_rs hx hg ex
  have hlt : i < us.size := by rw [h2]; exact (List.getElem?_eq_some_iff.1 hs).1
  have h4 := h3 i s us[i] hs (by simp [hlt])
  refine ⟨us[i], ?_, ?_⟩
  · unfold execOp
    rw [ho]
    simp [h1, Instr.extract, hlt]
  · cases s <;> first | exact h4 | exact h4.elim

theorem y_len {o : Oper} {t el : TypeId} {x : Operand} {x' : X} {ts : Array TypeId} {p : V} {n : Nat} (ho : o.op = .call { callee := .builtin .len, args := #[x], argTypes := #[t] }) (ht : P.underlying t = some (.slice el)) (hx : xok x x' = true) (hg : GOk w ok loc a g) (ex : x'.ev g = some (.one p))
    (hp : (match p with | .row xs => some xs.length | .sl _ _ m => some m | _ => none) = some n) : Yld P w ok loc a o (.one (.int .i64 n)) := by
  have hr : RV w ok loc p (a.eval x) := xok_rs hx hg ex
  have key : ∃ A c, a.eval x = .slice A n c := by
    cases p with
    | row xs =>
      cases hp
      generalize a.eval x = z at hr
      cases (hr : Rep w ok (.row xs) z) with
      | row0 A c => exact ⟨_, _, rfl⟩
      | row u hn _ _ _ _ _ _ => exact ⟨_, _, by rw [hn]⟩
    | sl s off m =>
      cases hp
      rcases hr with ⟨b, el2, e2, cap, g1, g2, g3⟩ | ⟨g1, g2, g3, g4⟩
      · exact ⟨_, _, g3⟩
      · exact ⟨_, _, by rw [g4, g3]⟩
    | _ => cases hp
  obtain ⟨A, c, hz⟩ := key
  refine ⟨_, ?_, to_int⟩
  unfold execOp
  rw [ho]
  simp [resolve, invoke, builtin, hz, Builtin.len_, run_underlying ht, goInt]

theorem y_mx {o : Oper} {x y : Operand} {x' y' : X} {ts : Array TypeId} {k : IntKind} {m n : Int} (ho : o.op = .call { callee := .builtin .max, args := #[x, y], argTypes := ts }) (hx : xok x x' = true) (hy : xok y y' = true) (hg : GOk w ok loc a g)
    (ex : x'.ev g = some (.one (.int k m))) (ey : y'.ev g = some (.one (.int k n))) : Yld P w ok loc a o (.one (.int k (if n > m then n else m))) := by
  have h1 := rs_int (xok_rs hx hg ex)
  have h2 := rs_int (xok_rs hy hg ey)
  refine ⟨_, ?_, to_int⟩
  unfold execOp
  rw [ho]
  simp [resolve, invoke, builtin, h1, h2, Builtin.max_, Builtin.max2, List.foldlM]
theorem y_mn {o : Oper} {x y : Operand} {x' y' : X} {ts : Array TypeId} {k : IntKind} {m n : Int} (ho : o.op = .call { callee := .builtin .min, args := #[x, y], argTypes := ts }) (hx : xok x x' = true) (hy : xok y y' = true) (hg : GOk w ok loc a g)
    (ex : x'.ev g = some (.one (.int k m))) (ey : y'.ev g = some (.one (.int k n))) : Yld P w ok loc a o (.one (.int k (if n < m then n else m))) := by
  have h1 := rs_int (xok_rs hx hg ex)
  have h2 := rs_int (xok_rs hy hg ey)
  refine ⟨_, ?_, to_int⟩
  unfold execOp
  rw [ho]
  simp [resolve, invoke, builtin, h1, h2, Builtin.min_, Builtin.min2, List.foldlM]
end
end Go.Proofs.YtgjacdfiilcaaaaR
