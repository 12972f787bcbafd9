/- The check of an operation against the evaluator's, and what it gives: operations that only compute, and that read. -/
import Derived.Test.YtgjacdfiilcaaaaR2
set_option linter.unusedVariables false
set_option linter.unusedSimpArgs false
namespace Go.Proofs.YtgjacdfiilcaaaaR
open Go Go.RowKit

def vok : Value → V → Bool
  | .int k n, .int k' n' => k == k' && n == n'
  | .bool b, .bool b' => b == b'
  | .slice none 0 0, .row [] => true
  | .slice none 0 0, .k (.slice none 0 0) => true
  | .string s, .k (.string s') => decide (s = s')
  | .pointer none, .k (.pointer none) => true
  | .nilIface, .k .nilIface => true
  | .nilFunc, .k .nilFunc => true
  | _, _ => false
def voks : List Value → List V → Bool
  | [], [] => true
  | v :: r, x :: q => vok v x && voks r q
  | _, _ => false
def xok : Operand → X → Bool
  | .tmp t, .t n => t == n
  | .const (.agg cs), .ca vs => voks cs.toList vs
  | .const v, .c v' => vok v v'
  | .func f, .c (.fn f' []) => f == f'
  | _, _ => false
def xoks : List Operand → List X → Bool
  | [], [] => true
  | v :: r, x :: q => xok v x && xoks r q
  | _, _ => false

section
variable {w : World} {ok : Nat → Prop} {loc : Locs}
theorem vok_rep {v : Value} {x : V} (h : vok v x = true) : Rep w ok x v := by
  unfold vok at h
  split at h <;> first
    | (simp only [Bool.and_eq_true, beq_iff_eq] at h; obtain ⟨rfl, rfl⟩ := h; exact .int)
    | (simp only [beq_iff_eq] at h; subst h; exact .bool)
    | (have h := of_decide_eq_true h; subst h; exact .k rfl)
    | exact .row0 _ _
    | exact .k rfl
    | cases h
theorem voks_rvs : ∀ {cs : List Value} {vs : List V}, voks cs vs = true → RVs w ok loc vs cs
  | [], [], _ => ⟨rfl, fun j v c h => by cases h⟩
  | c :: r, v :: q, h => by
    simp only [voks, Bool.and_eq_true] at h
    obtain ⟨h1, h2⟩ := voks_rvs (cs := r) (vs := q) h.2
    refine ⟨by simp [h1], fun j v' c' g1 g2 => ?_⟩
    cases j with
    | zero => simp at g1 g2; subst g1; subst g2; exact (vok_rep h.1).rv
    | succ j => exact h2 j v' c' (by simpa using g1) (by simpa using g2)
  | [], _ :: _, h => by cases h
  | _ :: _, [], h => by cases h
theorem xok_rs {a : Act} {g : Nat → Option S} {o : Operand} {x : X} {s : S} (h : xok o x = true) (hg : ∀ t s, g t = some s → RS w ok loc s (a.tmps.getD t undef)) (hs : x.ev g = some s) : RS w ok loc s (a.eval o) := by
  unfold xok at h
  split at h
  · simp only [beq_iff_eq] at h; subst h
    exact hg _ _ hs
  · simp only [X.ev, Option.some.injEq] at hs; subst hs
    exact ⟨_, rfl, voks_rvs h⟩
  · simp only [X.ev, Option.some.injEq] at hs; subst hs
    exact (vok_rep h).rv
  · simp only [X.ev, Option.some.injEq] at hs; subst hs
    simp only [beq_iff_eq] at h; subst h
    exact Rep.rv (loc := loc) (.fn (fun _ => undef) rfl (fun j p h => by cases h) (fun j p h => by cases h))
  · cases h
end

/-- A type's cells; whether it is one of several. -/
def aggT (P : Program) (t : TypeId) (ag : Bool) : Bool := match P.underlying t with
  | some (.struct _) | some (.array _ _) => ag
  | some _ => !ag
  | none => false
def sizeT (P : Program) (t : TypeId) (n : Nat) : Bool := match P.info? t with
  | some i => i.size == n
  | none => false
def zeroT (P : Program) (t : TypeId) (zs : List V) : Bool := match P.info? t with
  | some i => match i.zero with
    | some z => voks z.cells.toList zs
    | none => false
  | none => false
def sliceT (P : Program) (t el : TypeId) : Bool := match P.underlying t with
  | some (.slice e) => e == el
  | _ => false
def arrT (P : Program) (t : TypeId) (n : Nat) (e : Nat) : Bool := match P.underlying t with
  | some (.array m el) => m == n && sizeT P el e
  | _ => false
theorem sizeT_spec {P : Program} {t : TypeId} {n : Nat} (h : sizeT P t n = true) : ∃ i, P.info? t = some i ∧ i.size = n := by
  unfold sizeT at h
  split at h
  · exact ⟨_, ‹_›, by simpa using h⟩
  · cases h
theorem run_sizeOf {P : Program} {t : TypeId} {n : Nat} (h : sizeT P t n = true) (w : World) : (sizeOf t).run P w = .ok n w := by
  obtain ⟨i, h1, h2⟩ := sizeT_spec h
  simp [sizeOf, typeInfo, h1, h2]
theorem zeroT_spec {P : Program} {t : TypeId} {zs : List V} (h : zeroT P t zs = true) : ∃ i z, P.info? t = some i ∧ i.zero = some z ∧ voks z.cells.toList zs = true := by
  unfold zeroT at h
  split at h
  · split at h
    · exact ⟨_, _, ‹_›, ‹_›, h⟩
    · cases h
  · cases h
theorem run_isAgg {P : Program} {t : TypeId} {ag : Bool} (h : aggT P t ag = true) (w : World) : (isAgg t).run P w = .ok ag w := by
  unfold aggT at h
  split at h
  · rename_i q; subst h; simp [isAgg, run_underlying q]
  · rename_i q; subst h; simp [isAgg, run_underlying q]
  · rename_i d q1 q2 q
    have : ag = false := by simpa using h
    subst this
    unfold isAgg
    rw [Sem.run_bind, run_underlying q]
    cases d <;> first | rfl | (exact absurd rfl (q1 _)) | (exact absurd rfl (q2 _ _))
  · cases h
theorem sliceT_spec {P : Program} {t el : TypeId} (h : sliceT P t el = true) : P.underlying t = some (.slice el) := by
  unfold sliceT at h
  split at h
  · rename_i q; rw [q]; simp only [beq_iff_eq] at h; subst h; rfl
  · cases h
theorem arrT_spec {P : Program} {t : TypeId} {n e : Nat} (h : arrT P t n e = true) : ∃ el, P.underlying t = some (.array n el) ∧ sizeT P el e = true := by
  unfold arrT at h
  split at h
  · rename_i q
    simp only [Bool.and_eq_true, beq_iff_eq] at h
    obtain ⟨rfl, h⟩ := h
    exact ⟨_, q, h⟩
  · cases h

/-- Cells read from an address. -/
theorem sub_spec {vs ws : List V} {off n : Nat} (h : sub vs off n = some ws) : ws.length = n ∧ off + n ≤ vs.length ∧ ∀ j, j < n → ws[j]? = vs[off + j]? := by
  unfold sub at h
  split at h
  · rename_i hl
    cases h
    refine ⟨by simp; omega, hl, fun j hj => ?_⟩
    rw [List.getElem?_take, if_pos hj, List.getElem?_drop]
  · cases h
theorem run_loadVar {P : Program} {w : World} {ok : Nat → Prop} {loc : Locs} {t : TypeId} {ag : Bool} {n : Nat} {ws : List V} {s : S} {ad : Addr} (ha : aggT P t ag = true) (hn : (if ag then sizeT P t n else n == 1) = true) (hw : ws.length = n) (hs : shape ag ws = some s)
    (hc : ∀ j p, ws[j]? = some p → ∃ u, w.cell? (ad.add j) = some u ∧ RV w ok loc p u) : ∃ v, (loadVar t ad).run P w = .ok v w ∧ RS w ok loc s v := by
  cases ag with
  | true =>
    simp only [if_true] at hn
    simp only [shape, if_true, Option.some.injEq] at hs
    subst hs
    have hc' : ∀ j, j < n → (w.cell? (ad.add j)).isSome = true := fun j hj => by
      obtain ⟨u, hu, _⟩ := hc j ws[j] (by simp)
      rw [hu]; rfl
    have hl := run_loadCells (P := P) w ad n (fun j => (w.cell? (ad.add j)).getD undef) (fun j hj => by
      have := hc' j hj
      cases h : w.cell? (ad.add j) with
      | none => rw [h] at this; cases this
      | some u => rfl)
    refine ⟨.agg (List.map (fun j => (w.cell? (ad.add j)).getD undef) (List.range n)).toArray, by simp only [loadVar, Sem.run_bind, run_isAgg ha, Result.andThen_ok, if_true, run_sizeOf hn, hl, Sem.run_pure], ⟨_, rfl, by simp [hw], fun j v c h1 h2 => ?_⟩⟩
    have hj : j < n := by rw [← hw]; exact (List.getElem?_eq_some_iff.1 h1).1
    obtain ⟨u, hu, hr⟩ := hc j v h1
    simp [List.getElem?_range hj, hu] at h2
    subst h2
    exact hr
  | false =>
    have hn1 : n = 1 := by simpa using hn
    subst hn1
    match ws, hw with
    | [p], _ =>
      simp only [shape, Bool.false_eq_true, if_false, Option.some.injEq] at hs
      subst hs
      obtain ⟨u, hu, hr⟩ := hc 0 p rfl
      rw [show ad.add 0 = ad from rfl] at hu
      refine ⟨u, ?_, hr⟩
      simp only [loadVar, Sem.run_bind, run_isAgg ha, Result.andThen_ok, Bool.false_eq_true, if_false, run_load, hu]
theorem run_part {P : Program} {w : World} {ok : Nat → Prop} {loc : Locs} {t : TypeId} {ag : Bool} {n off : Nat} {vs ws : List V} {cs : Array Value} {s : S} (ha : aggT P t ag = true) (hn : (if ag then sizeT P t n else n == 1) = true) (hw : sub vs off n = some ws) (hs : shape ag ws = some s)
    (hc : RVs w ok loc vs cs.toList) : ∃ v, (part t cs off).run P w = .ok v w ∧ RS w ok loc s v := by
  obtain ⟨h1, h2, h3⟩ := sub_spec hw
  have hlen : vs.length = cs.size := by simpa using hc.1
  cases ag with
  | true =>
    simp only [if_true] at hn
    simp only [shape, if_true, Option.some.injEq] at hs
    subst hs
    refine ⟨.agg (cs.extract off (off + n)), by simp only [part, Sem.run_bind, run_isAgg ha, Result.andThen_ok, if_true, run_sizeOf hn, Sem.run_pure], ⟨_, rfl, by simp [h1]; omega, fun j v c g1 g2 => ?_⟩⟩
    have hj : j < n := by rw [← h1]; exact (List.getElem?_eq_some_iff.1 g1).1
    rw [h3 j hj] at g1
    refine hc.2 (off + j) v c g1 ?_
    simp only [Array.getElem?_toList] at g2 ⊢
    rw [Array.getElem?_extract] at g2
    split at g2
    · exact g2
    · cases g2
  | false =>
    have hn1 : n = 1 := by simpa using hn
    subst hn1
    match ws, h1 with
    | [p], _ =>
      simp only [shape, Bool.false_eq_true, if_false, Option.some.injEq] at hs
      subst hs
      have g1 : vs[off]? = some p := by have := h3 0 (by omega); simpa using this.symm
      have hlt : off < cs.size := by omega
      refine ⟨cs[off], ?_, hc.2 off p cs[off] g1 (by simp [hlt])⟩
      simp only [part, Sem.run_bind, run_isAgg ha, Result.andThen_ok, Bool.false_eq_true, if_false]
      simp [hlt]
end Go.Proofs.YtgjacdfiilcaaaaR
