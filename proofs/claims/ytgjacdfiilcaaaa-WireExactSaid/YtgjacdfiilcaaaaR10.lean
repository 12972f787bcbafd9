/- The operations that are left: literals, struct equality, slicing. -/
import Derived.Test.YtgjacdfiilcaaaaR9O
import Derived.Laws.StructEq
import Derived.Lib.SliceRun
set_option linter.unusedVariables false
set_option linter.unusedSimpArgs false
namespace Go.Proofs.YtgjacdfiilcaaaaR
open Go Go.RowKit

section
variable {P : Program} {w : World} {ok : Nat → Prop} {loc : Locs} {a : Act} {g : Nat → Option S} {h : Nat → Option Blk}

def flatF (P : Program) : Nat → List Field → List Bool → Bool
  | _, [], [] => true
  | o, f :: r, k :: q => f.offset == o && !(f.name == "_") && (match P.underlying f.type with | some .bool => !k | some (.int _) => k | _ => false) && flatF P (o + 1) r q
  | _, _, _ => false
theorem run_equalIn_int (d : Nat) {t : TypeId} {k q : IntKind} (m n : Int) (ht : P.underlying t = some (.int q)) : (Op.equalIn (d + 1) t (.int k m) (.int k n)).run P w = .ok (decide (m = n)) w := by
  simp [Op.equalIn, run_underlying ht]
  rfl
theorem eqf_step {d : Nat} {xs ys : Array Value} {f : Field} {fs : List Field} {x y : Value} {r s : Bool} (hn : (f.name == "_") = false) (ha : (part f.type xs f.offset).run P w = .ok x w) (hb : (part f.type ys f.offset).run P w = .ok y w) (he : (Op.equalIn d f.type x y).run P w = .ok r w) (hr : (Op.eqFields d xs ys fs).run P w = .ok s w) : (Op.eqFields d xs ys (f :: fs)).run P w = .ok (r && s) w := by
  have hn' : f.name ≠ "_" := by simpa using hn
  rw [Op.eqFields]
  simp only [if_pos hn', Sem.run_bind, ha, hb, he, Result.andThen_ok]
  cases r
  · simp
  · simpa using hr
theorem run_part0 {t : TypeId} {cs : Array Value} {off : Nat} {v : Value} (ht : (match P.underlying t with | some .bool | some (.int _) => true | _ => false) = true) (hv : cs[off]? = some v) : (part t cs off).run P w = .ok v w := by
  have ha : aggT P t false = true := by
    unfold aggT
    split at ht <;> first | (rename_i q; rw [q]; rfl) | cases ht
  simp [part, run_isAgg ha, hv]
theorem run_eqFields (d : Nat) {xs ys : Array Value} : ∀ (fs : List Field) (ks : List Bool) (o : Nat) (a b : List V) (t : Bool), flatF P o fs ks = true → (∀ (j : Nat) v, a[j]? = some v → ∃ c, xs[o + j]? = some c ∧ RV w ok loc v c) → (∀ (j : Nat) v, b[j]? = some v → ∃ c, ys[o + j]? = some c ∧ RV w ok loc v c) → eqvs ks a b = some t →
    (Op.eqFields (d + 1) xs ys fs).run P w = .ok t w
  | [], [], o, [], [], t, _, _, _, he => by cases he; simp [Op.eqFields]
  | f :: fs, k :: ks, o, [], b, t, _, _, _, he => by cases k <;> cases he
  | f :: fs, k :: ks, o, a0 :: a, [], t, _, _, _, he => by cases k <;> cases a0 <;> cases he
  | f :: fs, k :: ks, o, a0 :: a, b0 :: b, t, hf, ha, hb, he => by
    simp only [flatF, Bool.and_eq_true, beq_iff_eq, Bool.not_eq_true'] at hf
    obtain ⟨⟨⟨h1, h2⟩, h3⟩, h4⟩ := hf
    subst h1
    obtain ⟨c, hc, hcr⟩ := ha 0 a0 rfl
    obtain ⟨c', hc', hcr'⟩ := hb 0 b0 rfl
    have ha' : ∀ (j : Nat) v, a[j]? = some v → ∃ c, xs[f.offset + 1 + j]? = some c ∧ RV w ok loc v c := fun j v hj => by have := ha (j + 1) v (by simpa using hj); rwa [show f.offset + (j + 1) = f.offset + 1 + j by omega] at this
    have hb' : ∀ (j : Nat) v, b[j]? = some v → ∃ c, ys[f.offset + 1 + j]? = some c ∧ RV w ok loc v c := fun j v hj => by have := hb (j + 1) v (by simpa using hj); rwa [show f.offset + (j + 1) = f.offset + 1 + j by omega] at this
    have ht : (match P.underlying f.type with | some .bool | some (.int _) => true | _ => false) = true := by
      split at h3
      · rfl
      · rfl
      · cases h3
    have hp1 := run_part0 (w := w) ht hc
    have hp2 := run_part0 (w := w) ht hc'
    rw [Nat.add_zero] at hp1 hp2
    cases k with
    | true =>
      cases a0 <;> cases b0 <;> simp only [eqvs] at he <;> try cases he
      rename_i k m k' n
      split at he
      · rename_i hk
        subst hk
        split at he
        · rename_i t' ht'
          cases he
          cases (hcr : Rep w ok (.int k m) c)
          cases (hcr' : Rep w ok (.int k n) c')
          split at h3
          · cases h3
          · rename_i q hq
            exact eqf_step (by simpa using h2) hp1 hp2 (run_equalIn_int d m n hq) (run_eqFields d fs ks _ a b t' h4 ha' hb' ht')
          · cases h3
        · cases he
      · cases he
    | false =>
      cases a0 <;> cases b0 <;> simp only [eqvs] at he <;> try cases he
      rename_i m n
      split at he
      · rename_i t' ht'
        cases he
        cases (hcr : Rep w ok (.bool m) c)
        cases (hcr' : Rep w ok (.bool n) c')
        split at h3
        · rename_i hq
          exact eqf_step (by simpa using h2) hp1 hp2 (run_equalIn_bool d m n hq) (run_eqFields d fs ks _ a b t' h4 ha' hb' ht')
        · cases h3
        · cases h3
      · cases he
  | [], _ :: _, _, _, _, _, hf, _, _, _ => by cases hf
  | _ :: _, [], _, _, _, _, hf, _, _, _ => by cases hf
  | [], [], _, _ :: _, _, _, _, _, _, he => by cases he
  | [], [], _, [], _ :: _, _, _, _, _, he => by cases he
def eqsT (P : Program) (t : TypeId) (ks : List Bool) : Bool := match P.underlying t with
  | some (.struct fs) => flatF P 0 fs.toList ks && !P.stoodInHeld t && !P.eqGuardType P.depth t
  | _ => false
theorem y_eqs {o : Oper} {op : BinOp} {t u : TypeId} {x y : Operand} {x' y' : X} {ks : List Bool} {p q : List V} {r : Bool} (neg : Bool) (ho : o.op = .binOp op t x y u) (hop : op = if neg then .neq else .eql) (hT : eqsT P t ks = true) (hx : xok x x' = true) (hy : xok y y' = true) (hg : GOk w ok loc a g)
    (ex : x'.ev g = some (.agg p)) (ey : y'.ev g = some (.agg q)) (he : eqvs ks p q = some r) : Yld P w ok loc a o (.one (.bool (if neg then !r else r))) := by
  unfold eqsT at hT
  split at hT
  · rename_i fs hu
    simp only [Bool.and_eq_true, Bool.not_eq_true'] at hT
    obtain ⟨⟨h1, h2⟩, h3⟩ := hT
    obtain ⟨xs, e1, r1⟩ := xok_rs hx hg ex
    obtain ⟨ys, e2, r2⟩ := xok_rs hy hg ey
    have hcell : ∀ {vs : List V} {cs : Array Value}, RVs w ok loc vs cs.toList → ∀ (j : Nat) v, vs[j]? = some v → ∃ c, cs[0 + j]? = some c ∧ RV w ok loc v c := by
      intro vs cs hr j v hj
      have hlt : j < cs.toList.length := by rw [← hr.1]; exact (List.getElem?_eq_some_iff.1 hj).1
      refine ⟨cs.toList[j], by rw [Nat.zero_add]; simp at hlt ⊢, hr.2 j v _ hj (List.getElem?_eq_getElem hlt)⟩
    have hf := run_eqFields (P := P) 9998 fs.toList ks 0 p q r h1 (hcell r1) (hcell r2) he
    have hpf : P.fieldsOf t = fs := by simp [Program.fieldsOf, hu]
    have heq : (Op.equalIn 10000 t (.agg xs) (.agg ys)).run P w = .ok r w := by
      have := run_equalIn_struct (P := P) w 9999 t xs ys (by rw [hpf]; exact hu) h2
      rw [this, hpf]
      exact hf
    have hgd : (eqGuard op t x y (.agg xs) (.agg ys)).run P w = .ok () w := by
      subst hop
      cases neg <;> simp [eqGuard, h3]
    refine ⟨_, ?_, to_bool⟩
    unfold execOp
    rw [ho]
    simp only [e1, e2, Sem.run_bind, hgd, Result.andThen_ok]
    subst hop
    cases neg
    · simp only [Bool.false_eq_true, if_false, binOp]
      simp [Op.equal, Op.maxDepth, heq]
    · simp only [if_true, binOp]
      simp [Op.equal, Op.maxDepth, heq]
  · cases hT


def xokO : Option Operand → Option X → Bool
  | none, none => true
  | some o, some x => xok o x
  | _, _ => false
theorem run_bound {o : Option Operand} {x : Option X} {dflt v : Int} (hx : xokO o x = true) (hg : GOk w ok loc a g) (hb : bnd g dflt x = some v) : (o = none ∧ v = dflt) ∨ ∃ o' k, o = some o' ∧ a.eval o' = .int k v := by
  cases o with
  | none =>
    cases x with
    | none => cases hb; exact .inl ⟨rfl, rfl⟩
    | some x => cases hx
  | some o' =>
    cases x with
    | none => cases hx
    | some x =>
      obtain ⟨k, hk⟩ := asI_spec (a := a) hx hg hb
      exact .inr ⟨o', k, rfl, hk⟩
theorem run_sliceBound {k : IntKind} {v : Int} {y : Nat} (code : BoundsCode) (h0 : 0 ≤ v) (h1 : v ≤ y) : (Instr.sliceBound (.int k v) y code).run P w = .ok v.toNat w := by
  simp [Instr.sliceBound, asIntOf, h0, h1]
theorem run_slice {t el : TypeId} {e : Nat} {lo hi : Option Operand} {lo' hi' : Option X} {A : Option Addr} {len cap : Nat} {l u : Int} (ht : P.underlying t = some (.slice el)) (hs : sizeT P el e = true) (hlo : xokO lo lo' = true) (hhi : xokO hi hi' = true) (hg : GOk w ok loc a g)
    (el' : bnd g 0 lo' = some l) (eh' : bnd g len hi' = some u) (h0 : 0 ≤ l) (h1 : l ≤ u) (h2 : u ≤ len) (h3 : len ≤ cap) :
    (Instr.sliceAt t (.slice A len cap) (lo.map a.eval) (hi.map a.eval) none).run P w = .ok (.slice (if cap = l.toNat then A else A.map (·.add (l.toNat * e))) (u.toNat - l.toNat) (cap - l.toNat)) w := by
  have hb : (Instr.sliceBounds true len cap (lo.map a.eval) (hi.map a.eval) none).run P w = .ok (l.toNat, u.toNat, cap) w := by
    rcases run_bound hlo hg el' with ⟨e1, e2⟩ | ⟨o1, k1, e1, e2⟩ <;> rcases run_bound hhi hg eh' with ⟨f1, f2⟩ | ⟨o2, k2, f1, f2⟩
    · subst e1; subst f1; subst e2; subst f2
      simp [Instr.sliceBounds]
    · subst e1; subst f1; subst e2
      have := run_sliceBound (P := P) (w := w) (k := k2) (y := cap) .sliceAcap (by omega) (show u ≤ (cap : Int) by omega)
      simp [Instr.sliceBounds, f2, this]
    · subst e1; subst f1; subst f2
      have := run_sliceBound (P := P) (w := w) (k := k1) (y := len) .sliceB h0 h1
      simp [Instr.sliceBounds, e2, this]
    · subst e1; subst f1
      have g1 := run_sliceBound (P := P) (w := w) (k := k2) (y := cap) .sliceAcap (by omega) (show u ≤ (cap : Int) by omega)
      have g2 := run_sliceBound (P := P) (w := w) (k := k1) (y := u.toNat) .sliceB h0 (show l ≤ (u.toNat : Int) by omega)
      simp [Instr.sliceBounds, e2, f2, g1, g2]
  simp only [Instr.sliceAt, Sem.run_bind, run_underlying ht, Result.andThen_ok, Instr.slice, hb, run_sizeOf hs, Sem.run_pure]

theorem y_cut_row {o : Oper} {t el : TypeId} {e : Nat} {x : Operand} {x' : X} {lo hi : Option Operand} {lo' hi' : Option X} {xs : List (List V)} {l u : Int} (ho : o.op = .slice t x lo hi none) (ht : P.underlying t = some (.slice el)) (hs : sizeT P el e = true) (hx : xok x x' = true) (hlo : xokO lo lo' = true) (hhi : xokO hi hi' = true) (hg : GOk w ok loc a g)
    (ex : x'.ev g = some (.one (.row xs))) (el' : bnd g 0 lo' = some l) (eh' : bnd g xs.length hi' = some u) (h0 : 0 ≤ l) (h1 : l ≤ u) (h2 : u ≤ xs.length) (hne : l ≠ u → xs.all (·.length == e) = true) :
    Yld P w ok loc a o (.one (if l = u then .row [] else .row ((xs.take u.toNat).drop l.toNat))) := by
  have hr : Rep w ok (.row xs) (a.eval x) := xok_rs hx hg ex
  have hexec : ∀ {A : Option Addr} {c : Nat}, a.eval x = .slice A xs.length c → xs.length ≤ c → (execOp a.eval o).run P w = .ok (.value (.slice (if c = l.toNat then A else A.map (·.add (l.toNat * e))) (u.toNat - l.toNat) (c - l.toNat))) w := by
    intro A c hz hc
    have := run_slice (P := P) (w := w) (A := A) ht hs hlo hhi hg el' eh' h0 h1 h2 hc
    unfold execOp
    rw [ho]
    simp only [hz, Option.map_none, Sem.run_bind, this, Result.andThen_ok, Sem.run_pure]
  generalize hz : a.eval x = z at hr hexec
  cases hr with
  | row0 A c =>
    have h5 : u ≤ 0 := by simpa using h2
    have : l = 0 := by omega
    have : u = 0 := by omega
    subst l; subst u
    refine ⟨_, hexec rfl (Nat.zero_le _), ?_⟩
    rw [if_pos rfl]
    exact Rep.row0 _ _
  | row f hn hne' hc ha he hr hp =>
    rename_i ad m c e'
    refine ⟨_, hexec (by rw [hn]) (by omega), ?_⟩
    by_cases hlu : l = u
    · rw [if_pos hlu, hlu, Nat.sub_self]
      exact Rep.row0 _ _
    · rw [if_neg hlu, if_neg (by omega)]
      have hee : e' = e := by
        cases xs with
        | nil => simp at hn; omega
        | cons y r =>
          have := List.all_eq_true.1 (hne hlu) y (List.mem_cons_self ..)
          rw [← he y (List.mem_cons_self ..)]
          simpa using this
      subst hee
      have hget : ∀ (i : Nat) x, ((xs.take u.toNat).drop l.toNat)[i]? = some x → xs[l.toNat + i]? = some x := by
        intro i x hx
        rw [List.getElem?_drop, List.getElem?_take] at hx
        split at hx
        · exact hx
        · cases hx
      refine Rep.row (fun i j => f (l.toNat + i) j) (by rw [List.length_drop, List.length_take]; omega) (by omega) (by omega) (by rw [add_block]; exact ha) (fun y hy => he y (List.mem_of_mem_take (List.mem_of_mem_drop hy))) (fun i j y p a1 a2 => ?_) (fun i j y p a1 a2 => hp _ _ _ _ (hget i y a1) a2)
      rw [addr_add, ← Nat.add_assoc, ← Nat.add_mul]
      exact hr _ _ _ _ (hget i y a1) a2

theorem y_cut_sl {o : Oper} {t el : TypeId} {e e0 : Nat} {x : Operand} {x' : X} {lo hi : Option Operand} {lo' hi' : Option X} {s off len el2 : Nat} {xs : List (List V)} {l u : Int} (ho : o.op = .slice t x lo hi none) (ht : P.underlying t = some (.slice el)) (hs : sizeT P el e = true) (hx : xok x x' = true) (hlo : xokO lo lo' = true) (hhi : xokO hi hi' = true) (hg : GOk w ok loc a g) (hh : HOk w ok loc h)
    (ex : x'.ev g = some (.one (.sl s off len))) (hq : h s = some (.rows el2 e0 xs)) (el' : bnd g 0 lo' = some l) (eh' : bnd g len hi' = some u) (h0 : 0 ≤ l) (h1 : l ≤ u) (h2 : u ≤ len) (hne : l ≠ u → e0 = e) :
    Yld P w ok loc a o (.one (if l = u then .row [] else .sl s (off + l.toNat) (u.toNat - l.toNat))) := by
  have hexec : ∀ {A : Option Addr} {c : Nat}, a.eval x = .slice A len c → len ≤ c → (execOp a.eval o).run P w = .ok (.value (.slice (if c = l.toNat then A else A.map (·.add (l.toNat * e))) (u.toNat - l.toNat) (c - l.toNat))) w := by
    intro A c hz hc
    have := run_slice (P := P) (w := w) (A := A) ht hs hlo hhi hg el' eh' h0 h1 h2 hc
    unfold execOp
    rw [ho]
    simp only [hz, Option.map_none, Sem.run_bind, this, Result.andThen_ok, Sem.run_pure]
  rcases (xok_rs hx hg ex : RV w ok loc (.sl s off len) (a.eval x)) with ⟨b, el3, e2, cap, g1, g2, g3⟩ | ⟨g1, g2, g3, g4⟩
  · refine ⟨_, hexec g3 (by omega), ?_⟩
    by_cases hlu : l = u
    · rw [if_pos hlu, hlu, Nat.sub_self]
      exact Rep.row0 _ _
    · obtain ⟨e1, e2', _⟩ := hh _ _ _ g1 hq
      have hee := hne hlu
      subst e2'
      subst hee
      rw [if_neg hlu, if_neg (by omega)]
      refine .inl ⟨b, el3, e0, cap, g1, by omega, ?_⟩
      simp only [Option.map_some, Addr.add_lit, Nat.add_mul, Nat.sub_sub]
  · subst g3
    have h5 : u ≤ 0 := by simpa using h2
    have : l = 0 := by omega
    have : u = 0 := by omega
    subst l; subst u
    refine ⟨_, hexec g4 (Nat.le_refl _), ?_⟩
    rw [if_pos rfl]
    exact Rep.row0 _ _

theorem knil {x : Operand} {x' : X} (hx : xok x x' = true) (hg : GOk w ok loc a g) (ex : x'.ev g = some (.one (.k (.slice none 0 0)))) : a.eval x = .slice none 0 0 := by
  have hr : Rep w ok (.k (.slice none 0 0)) (a.eval x) := xok_rs hx hg ex
  generalize a.eval x = z at hr
  cases hr
  rfl
theorem y_kln {o : Oper} {t el : TypeId} {b : Builtin} {x : Operand} {x' : X} (ho : o.op = .call { callee := .builtin b, args := #[x], argTypes := #[t] }) (hb : b = .len ∨ b = .cap) (ht : P.underlying t = some (.slice el)) (hx : xok x x' = true) (hg : GOk w ok loc a g)
    (ex : x'.ev g = some (.one (.k (.slice none 0 0)))) : Yld P w ok loc a o (.one (.int .i64 0)) := by
  have hz := knil hx hg ex
  refine ⟨_, ?_, to_int⟩
  unfold execOp
  rw [ho]
  rcases hb with rfl | rfl
  · simp [resolve, invoke, builtin, hz, Builtin.len_, run_underlying ht, goInt]
  · simp [resolve, invoke, builtin, hz, Builtin.cap_, run_underlying ht, goInt]
theorem y_kct {o : Oper} {t el : TypeId} {x hi : Operand} {x' hi' : X} {e : Nat} (ho : o.op = .slice t x none (some hi) none) (ht : P.underlying t = some (.slice el)) (hs : sizeT P el e = true) (hx : xok x x' = true) (hh : xok hi hi' = true) (hg : GOk w ok loc a g)
    (ex : x'.ev g = some (.one (.k (.slice none 0 0)))) (eh : asI (hi'.ev g) = some 0) : Yld P w ok loc a o (.one (.k (.slice none 0 0))) := by
  have hz := knil hx hg ex
  have := run_slice (P := P) (w := w) (lo := none) (hi := some hi) (lo' := none) (hi' := some hi') (A := none) (len := 0) (cap := 0) ht hs rfl hh hg rfl eh (Int.le_refl _) (Int.le_refl _) (Int.le_refl _) (Nat.le_refl _)
  refine ⟨.slice none 0 0, ?_, Rep.k rfl⟩
  unfold execOp
  rw [ho]
  simp only [Option.map_none, Option.map_some] at this
  simp only [hz, Option.map_none, Option.map_some, Sem.run_bind, this, Result.andThen_ok, Sem.run_pure]
  rfl
theorem y_cu0 {o : Oper} {t el : TypeId} {e : Nat} {x hi : Operand} {x' hi' : X} {s off len : Nat} {u : Int} (ho : o.op = .slice t x none (some hi) none) (ht : P.underlying t = some (.slice el)) (hs : sizeT P el e = true) (hx : xok x x' = true) (hh : xok hi hi' = true) (hg : GOk w ok loc a g)
    (ex : x'.ev g = some (.one (.sl s off len))) (eh : asI (hi'.ev g) = some u) (h0 : 0 ≤ u) (h1 : u ≤ len) : Yld P w ok loc a o (.one (.sl s off u.toNat)) := by
  have hexec : ∀ {A : Option Addr} {c : Nat}, a.eval x = .slice A len c → len ≤ c → (execOp a.eval o).run P w = .ok (.value (.slice (if c = (0 : Int).toNat then A else A.map (·.add ((0 : Int).toNat * e))) (u.toNat - (0 : Int).toNat) (c - (0 : Int).toNat))) w := by
    intro A c hz hc
    have := run_slice (P := P) (w := w) (lo := none) (hi := some hi) (lo' := none) (hi' := some hi') (A := A) (len := len) (cap := c) ht hs rfl hh hg rfl eh (Int.le_refl _) h0 h1 hc
    unfold execOp
    rw [ho]
    simp only [Option.map_none, Option.map_some] at this
    simp only [hz, Option.map_none, Option.map_some, Sem.run_bind, this, Result.andThen_ok, Sem.run_pure]
  rcases (xok_rs hx hg ex : RV w ok loc (.sl s off len) (a.eval x)) with ⟨b, el3, e2, cap, g1, g2, g3⟩ | ⟨g1, g2, g3, g4⟩
  · refine ⟨_, hexec g3 (by omega), .inl ⟨b, el3, e2, cap, g1, by omega, ?_⟩⟩
    simp only [Int.toNat_zero, Nat.zero_mul, Nat.sub_zero, Option.map_some, Addr.add_lit, Nat.add_zero]
    split <;> rfl
  · subst g3
    obtain rfl : u = 0 := by omega
    exact ⟨_, hexec g4 (Nat.le_refl _), .inr ⟨g1, g2, rfl, rfl⟩⟩

/-- A struct or array literal. -/
theorem run_places (P : Program) (w : World) : ∀ (fs : List Field), (fs.all fun f => (P.info? f.type).isSome) = true → (fs.mapM fun f => do pure (f.offset, ← sizeOf f.type) : Sem (List (Nat × Nat))).run P w = .ok (fs.map fun f => (f.offset, P.cellsOf f.type)) w
  | [], _ => rfl
  | f :: r, h => by
    simp only [List.all_cons, Bool.and_eq_true] at h
    obtain ⟨i, hi⟩ := Option.isSome_iff_exists.1 h.1
    have h1 : (sizeOf f.type).run P w = .ok (P.cellsOf f.type) w := by simp [sizeOf, typeInfo, hi, Program.cellsOf]
    have ih := run_places P w r h.2
    simp only [List.mapM_cons, Sem.run_bind, h1, Result.andThen_ok, Sem.run_pure, ih, List.map_cons]
def buildT (P : Program) (t : TypeId) (zs : List V) (ps : List (Nat × Operand)) (qs : List (Nat × Nat × X)) : Bool := zeroT P t zs && match P.underlying t with
  | some (.struct fs) => (fs.toList.all fun f => (P.info? f.type).isSome) && partOk (fun i : Nat => (fs.toList.map fun f => (f.offset, P.cellsOf f.type))[i]?) ps qs
  | some (.array _ el) => (P.info? el).isSome && partOk (fun i => some (i * P.cellsOf el, P.cellsOf el)) ps qs
  | _ => false
theorem y_build {o : Oper} {t : TypeId} {ps : Array (Nat × Operand)} {qs : List (Nat × Nat × X)} {zs ws : List V} (ho : o.op = .build t ps) (hT : buildT P t zs ps.toList qs = true) (hg : GOk w ok loc a g) (hf : fillV g zs qs = some ws) : Yld P w ok loc a o (.agg ws) := by
  unfold buildT at hT
  simp only [Bool.and_eq_true] at hT
  obtain ⟨hz, hT⟩ := hT
  obtain ⟨i, z, i1, i2, i3⟩ := zeroT_spec hz
  have hzr : RVs w ok loc zs z.cells.toList := voks_rvs i3
  have hzero : (zeroValue t).run P w = .ok z w := by simp [zeroValue, typeInfo, i1, i2]
  split at hT
  · rename_i fs hu
    simp only [Bool.and_eq_true] at hT
    obtain ⟨B, hB, hr⟩ := fill_rvs hg _ ps.toList qs z.cells zs ws hT.2 hzr hf
    refine ⟨.agg B, ?_, ⟨B, rfl, hr⟩⟩
    have hpl := run_places P w fs.toList hT.1
    unfold execOp
    rw [ho]
    have hfun : (fun x : Nat => (List.map (fun f => (f.offset, P.cellsOf f.type)) fs.toList).toArray[x]?) = (fun i : Nat => (fs.toList.map fun f => (f.offset, P.cellsOf f.type))[i]?) := by
      funext q; simp
    simp only [Instr.build, Sem.run_bind, hzero, Result.andThen_ok, run_underlying hu, Array.mapM_eq_mapM_toList, Sem.run_map, hpl, hfun, Array.toList_map, hB, Sem.run_pure]
  · rename_i n el hu
    simp only [Bool.and_eq_true] at hT
    obtain ⟨B, hB, hr⟩ := fill_rvs hg _ ps.toList qs z.cells zs ws hT.2 hzr hf
    refine ⟨.agg B, ?_, ⟨B, rfl, hr⟩⟩
    obtain ⟨i', hi'⟩ := Option.isSome_iff_exists.1 hT.1
    have h1 : (sizeOf el).run P w = .ok (P.cellsOf el) w := by simp [sizeOf, typeInfo, hi', Program.cellsOf]
    unfold execOp
    rw [ho]
    simp only [Instr.build, Sem.run_bind, hzero, Result.andThen_ok, run_underlying hu, h1, Array.toList_map, hB, Sem.run_pure]
  · cases hT

theorem y_mkf {o : Oper} {f : Nat} {cs : Array Operand} {cs' : List X} {ss : List S} {vs : List V} (ho : o.op = .makeFunc (.func f) #[] cs) (hx : xoks cs.toList cs' = true) (hg : GOk w ok loc a g) (es : evs g cs' = some ss) (hs : ones ss = some vs) (hm : (ments vs).isEmpty = true) : Yld P w ok loc a o (.one (.fn f vs)) := by
  have key : ∀ (l : List Operand) (l' : List X) (ss : List S) (vs : List V), xoks l l' = true → evs g l' = some ss → ones ss = some vs → vs.length = l.length ∧ ∀ (j : Nat) v x, vs[j]? = some v → l[j]? = some x → RV w ok loc v (a.eval x) := by
    intro l
    induction l with
    | nil =>
      intro l' ss vs h1 h2 h3
      cases l' with
      | nil => cases h2; cases h3; exact ⟨rfl, fun j v x h => by cases h⟩
      | cons => cases h1
    | cons x r ih =>
      intro l' ss vs h1 h2 h3
      cases l' with
      | nil => cases h1
      | cons x' r' =>
        simp only [xoks, Bool.and_eq_true] at h1
        simp only [evs] at h2
        split at h2
        · rename_i s hs
          split at h2
          · rename_i ss' hss
            cases h2
            cases s with
            | one v =>
              simp only [ones] at h3
              split at h3
              · rename_i vs' hvs
                cases h3
                obtain ⟨g1, g2⟩ := ih r' ss' vs' h1.2 hss hvs
                refine ⟨by simp [g1], fun j v' y a1 a2 => ?_⟩
                cases j with
                | zero => simp at a1 a2; subst a1; subst a2; exact xok_rs h1.1 hg hs
                | succ j => exact g2 j v' y (by simpa using a1) (by simpa using a2)
              · cases h3
            | undef => cases h3
            | agg vs => cases h3
            | tup xs => cases h3
          · cases h2
        · cases h2
  obtain ⟨k1, k2⟩ := key cs.toList cs' ss vs hx es hs
  refine ⟨.func (.func f) #[] (cs.map a.eval), ?_, Rep.rv (loc := loc) (.fn (fun j => a.eval (cs.toList.getD j (.const undef))) (by simp [k1]) (fun j p hj => ?_) (fun j p hj => ?_))⟩
  · unfold execOp
    rw [ho]
    simp [Instr.makeFunc]
  · have hlt : j < cs.toList.length := by rw [← k1]; exact (List.getElem?_eq_some_iff.1 hj).1
    simp at hlt
    simp [hlt]
  · have hlt : j < cs.toList.length := by rw [← k1]; exact (List.getElem?_eq_some_iff.1 hj).1
    refine rv_rep (k2 j p _ hj ?_) (ments_nil hm p (List.mem_of_getElem? hj))
    simp at hlt
    simp [hlt]
end
end Go.Proofs.YtgjacdfiilcaaaaR
