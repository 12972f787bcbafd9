/- Operations that make blocks, that change blocks, that call. -/
import Derived.Test.YtgjacdfiilcaaaaR4
set_option linter.unusedVariables false
set_option linter.unusedSimpArgs false
namespace Go.Proofs.YtgjacdfiilcaaaaR
open Go Go.RowKit

section
variable {P : Program} {w w' : World} {ok0 : Nat → Prop} {loc locN : Locs} {w0 : World}
theorem or_some {s : Nat} {l : Loc} (h : loc.or locN s = some l) : locN s = some l ∨ (locN s = none ∧ loc s = some l) := by
  change (match locN s with | some l => some l | none => loc s) = some l at h
  cases hq : locN s with
  | some m => rw [hq] at h; exact .inl h
  | none => rw [hq] at h; exact .inr ⟨rfl, h⟩
/-- What could be spoken of can still be spoken of, when blocks are made. -/
theorem okx (hb : Below w.heap.size w w') (hlo : ∀ s l b, locN s = some l → l.blk = some b → w.heap.size ≤ b) (b : Nat) (h : okI w0 ok0 w loc b) : okI w0 ok0 w' (loc.or locN) b ∧ w'.heap[b]? = w.heap[b]? := by
  refine ⟨⟨h.1, by have := h.2.1; have := hb.size; omega, fun s l hl hbk => ?_⟩, hb.block b h.2.1⟩
  rcases or_some hl with h1 | ⟨_, h1⟩
  · have := hlo s l b h1 hbk
    have := h.2.1
    omega
  · exact h.2.2 s l h1 hbk
end

section
variable {P : Program} {n : Nat} {Γ : Ent} {w0 : World} {ok0 : Nat → Prop} {loc : Locs} {st : St} {a : Act} {w : World} {o : Oper} {next : Act → World → Prop} {Q : Exit → Act → World → Prop}

theorem look_one {α : Type} (k : Nat) (v : α) (s : Nat) : look [(k, v)] s = if k = s then some v else none := rfl

/-- A new block, one site. -/
theorem Inv.new1 (I : Inv n Γ w0 ok0 loc st a w) (k : Nat) (B : Blk) (l : Loc) (hk : (look st.hp k).isSome = false) (w' : World) (hb : Below w.heap.size w w') (hlo : ∀ b, l.blk = some b → w.heap.size ≤ b ∧ b < w'.heap.size)
    (hB : HB w' (okI w0 ok0 w' (loc.or fun s => if s = k then some l else none)) (loc.or fun s => if s = k then some l else none) l B) (d : Option Nat) (hd : ∀ t, d = some t → t < n) (s : S) (v : Value)
    (hs : RS w' (okI w0 ok0 w' (loc.or fun s => if s = k then some l else none)) (loc.or fun s => if s = k then some l else none) s v) :
    Inv n Γ w0 ok0 (loc.or fun s => if s = k then some l else none) { sl := (st.put d s).sl, hp := [(k, B)] ++ st.hp } (a.put d v) w' := by
  refine I.ext hb _ _ (fun s => ?_) (fun s h => ?_) (fun s m b h1 h2 => ?_) (fun s s' m m' b h1 h2 _ _ => ?_) (fun s m B' h1 h2 => ?_) d hd s v hs
  · rw [look_one]
    by_cases h : s = k
    · subst h; simp
    · rw [if_neg h, if_neg (fun e => h e.symm)]; rfl
  · rw [look_one] at h
    split at h
    · rename_i e; subst e; exact hk
    · cases h
  · (try dsimp only at h1)
    split at h1
    · cases h1; exact hlo b h2
    · cases h1
  · (try dsimp only at h1); (try dsimp only at h2)
    split at h1
    · split at h2
      · rename_i e1 e2; rw [e1, e2]
      · cases h2
    · cases h1
  · (try dsimp only at h1)
    split at h1
    · rename_i e
      subst e
      cases h1
      rw [look_one, if_pos rfl] at h2
      cases h2
      exact hB
    · cases h1

theorem below_new (w : World) (x : Obj) : Below w.heap.size w (w.alloc x) := (Below.refl _ _).alloc (Nat.le_refl _) _

theorem or_at (l : Loc) (k : Nat) : (loc.or fun s => if s = k then some l else none) k = some l := by
  show (match (if k = k then some l else none : Option Loc) with | some l => some l | none => loc k) = some l
  rw [if_pos rfl]
theorem or_old (I : Inv n Γ w0 ok0 loc st a w) {k : Nat} (hk : (look st.hp k).isSome = false) (l : Loc) {s : Nat} {m : Loc} (h : loc s = some m) : (loc.or fun s => if s = k then some l else none) s = some m := by
  show (match (if s = k then some l else none : Option Loc) with | some l => some l | none => loc s) = some m
  have hne : s ≠ k := by
    intro e
    subst e
    have := I.hp.dom s
    rw [h, hk] at this
    cases this
  rw [if_neg hne]
  exact h

/-- A variable of one's own. -/
theorem Inv.newbox (I : Inv n Γ w0 ok0 loc st a w) (k : Nat) (hk : (look st.hp k).isSome = false) (vs : List V) (cs : Array Value) (el : TypeId) (hr : RVs w (okI w0 ok0 w loc) loc vs cs.toList) (d : Option Nat) (hd : ∀ t, d = some t → t < n) :
    Inv n Γ w0 ok0 (loc.or fun s => if s = k then some (.box w.heap.size) else none) { sl := (st.put d (.one (.ref k 0 0))).sl, hp := [(k, .box vs)] ++ st.hp } (a.put d (.pointer (some ⟨w.heap.size, 0, none⟩))) (w.alloc (.cells cs el)) := by
  have hb := below_new w (.cells cs el)
  have hlo : ∀ b, (Loc.box w.heap.size).blk = some b → w.heap.size ≤ b ∧ b < (w.alloc (.cells cs el)).heap.size := by
    intro b h; cases h; exact ⟨Nat.le_refl _, by simp⟩
  refine I.new1 k (.box vs) (.box w.heap.size) hk _ hb hlo ⟨cs, el, heap_alloc_new w _, hr.mono (fun b h => okx hb (fun s l b h1 h2 => ?_) b h) (fun s m _ h => or_old I hk _ h)⟩ d hd _ _ (.inl ⟨_, or_at _ _, rfl, rfl⟩)
  split at h1
  · cases h1; exact (hlo b h2).1
  · cases h1

/-- The elements of a row, in cells. -/
def Els (w : World) (ok : Nat → Prop) (e : Nat) (xs : List (List V)) (cs : List Value) : Prop :=
  (∀ x ∈ xs, x.length = e) ∧ cs.length = xs.length * e ∧ (∀ i j x p, xs[i]? = some x → x[j]? = some p → ∃ u, cs[i * e + j]? = some u ∧ Rep w ok p u) ∧ ∀ c ∈ cs, c.oneCell' = true
theorem Els.mono {w w' : World} {ok ok' : Nat → Prop} {e : Nat} {xs : List (List V)} {cs : List Value} (h : Els w ok e xs cs) (hok : ∀ b, ok b → ok' b ∧ w'.heap[b]? = w.heap[b]?) : Els w' ok' e xs cs :=
  ⟨h.1, h.2.1, fun i j x p h1 h2 => let ⟨u, hu, hr⟩ := h.2.2.1 i j x p h1 h2; ⟨u, hu, hr.mono hok⟩, h.2.2.2⟩

/-- An array of one's own. -/
theorem Inv.newrows (I : Inv n Γ w0 ok0 loc st a w) (k : Nat) (hk : (look st.hp k).isSome = false) (el e : Nat) (xs : List (List V)) (cs : Array Value) (hr : Els w (okI w0 ok0 w loc) e xs cs.toList) (hm : xs.length ≤ maxLen) (d : Option Nat) (hd : ∀ t, d = some t → t < n) :
    Inv n Γ w0 ok0 (loc.or fun s => if s = k then some (.rows w.heap.size el e xs.length) else none) { sl := (st.put d (.one (.sl k 0 xs.length))).sl, hp := [(k, .rows el e xs)] ++ st.hp } (a.put d (.slice (some ⟨w.heap.size, 0, none⟩) xs.length xs.length)) (w.alloc (.cells cs el)) := by
  have hb := below_new w (.cells cs el)
  have hlo : ∀ b, (Loc.rows w.heap.size el e xs.length).blk = some b → w.heap.size ≤ b ∧ b < (w.alloc (.cells cs el)).heap.size := by
    intro b h; cases h; exact ⟨Nat.le_refl _, by simp⟩
  have hr' := hr.mono (fun b h => okx (w0 := w0) (ok0 := ok0) (loc := loc) (locN := fun s => if s = k then some (.rows w.heap.size el e xs.length) else none) hb (fun s l b h1 h2 => by
    (try dsimp only at h1)
    split at h1
    · cases h1; exact (hlo b h2).1
    · cases h1) b h)
  refine I.new1 k (.rows el e xs) (.rows w.heap.size el e xs.length) hk _ hb hlo ⟨rfl, rfl, hm, Nat.le_refl _, hr'.1, cs, heap_alloc_new w _, by have := hr'.2.1; simpa using this, fun i j x p h1 h2 => ?_⟩ d hd _ _ (.inl ⟨_, el, e, xs.length, or_at _ _, by omega, by rw [Nat.zero_mul, Nat.sub_zero]⟩)
  obtain ⟨u, hu, hq⟩ := hr'.2.2.1 i j x p h1 h2
  exact ⟨u, by simpa using hu, hq⟩

/-- An array of one's own, with more room than elements. -/
theorem Inv.newroom (I : Inv n Γ w0 ok0 loc st a w) (k : Nat) (hk : (look st.hp k).isSome = false) (el e : Nat) (xs : List (List V)) (cs : Array Value) (cap : Nat) {w' : World} (hb : Below w.heap.size w w') (hw' : w'.heap[w.heap.size]? = some (.cells cs el (0, 0))) (hsz : w.heap.size < w'.heap.size)
    (hx : ∀ x ∈ xs, x.length = e) (hcs : cs.size = cap * e) (hr : ∀ i j x p, xs[i]? = some x → x[j]? = some p → ∃ u, cs[i * e + j]? = some u ∧ Rep w (okI w0 ok0 w loc) p u) (hm : xs.length ≤ cap) (hcm : cap ≤ maxLen) (d : Option Nat) (hd : ∀ t, d = some t → t < n) :
    Inv n Γ w0 ok0 (loc.or fun s => if s = k then some (.rows w.heap.size el e cap) else none) { sl := (st.put d (.one (.sl k 0 xs.length))).sl, hp := [(k, .rows el e xs)] ++ st.hp } (a.put d (.slice (some ⟨w.heap.size, 0, none⟩) xs.length cap)) w' := by
  have hlo : ∀ b, (Loc.rows w.heap.size el e cap).blk = some b → w.heap.size ≤ b ∧ b < w'.heap.size := by
    intro b h; cases h; exact ⟨Nat.le_refl _, hsz⟩
  have hok : ∀ b, okI w0 ok0 w loc b → okI w0 ok0 w' (loc.or fun s => if s = k then some (.rows w.heap.size el e cap) else none) b ∧ w'.heap[b]? = w.heap[b]? := fun b h => okx (w0 := w0) (ok0 := ok0) (loc := loc) (locN := fun s => if s = k then some (.rows w.heap.size el e cap) else none) hb (fun s l b h1 h2 => by
    (try dsimp only at h1)
    split at h1
    · cases h1; exact (hlo b h2).1
    · cases h1) b h
  refine I.new1 k (.rows el e xs) (.rows w.heap.size el e cap) hk _ hb hlo ⟨rfl, rfl, hcm, hm, hx, cs, hw', hcs, fun i j x p h1 h2 => ?_⟩ d hd _ _ (.inl ⟨_, el, e, cap, or_at _ _, by omega, by rw [Nat.zero_mul, Nat.sub_zero]⟩)
  obtain ⟨u, hu, hq⟩ := hr i j x p h1 h2
  exact ⟨u, hu, hq.mono hok⟩

/-- A nil slice that will be appended to. -/
theorem Inv.newnil (I : Inv n Γ w0 ok0 loc st a w) (k : Nat) (hk : (look st.hp k).isSome = false) (el e : Nat) (d : Option Nat) (hd : ∀ t, d = some t → t < n) :
    Inv n Γ w0 ok0 (loc.or fun s => if s = k then some .virt else none) { sl := (st.put d (.one (.sl k 0 0))).sl, hp := [(k, .rows el e [])] ++ st.hp } (a.put d (.slice none 0 0)) w :=
  I.new1 k (.rows el e []) .virt hk _ (Below.refl _ _) (fun b h => by cases h) rfl d hd _ _ (.inr ⟨or_at _ _, rfl, rfl, rfl⟩)

theorem Inv.gok (I : Inv n Γ w0 ok0 loc st a w) {g : Nat → Option S} (hg : ∀ t s, g t = some s → look st.sl t = some s) : GOk w (okI w0 ok0 w loc) loc a g := fun t s h => (I.sl t s (hg t s h)).2
theorem Inv.hok (I : Inv n Γ w0 ok0 loc st a w) {h : Nat → Option Blk} (hh : ∀ s B, h s = some B → look st.hp s = some B) : HOk w (okI w0 ok0 w loc) loc h := fun s l B h1 h2 => I.hp.blk s l B h1 (hh s B h2)
end

section
variable {P : Program} {w : World} {ok : Nat → Prop} {loc : Locs} {a : Act} {g : Nat → Option S}
/-- A value's cells. -/
theorem cells_rvs {s : S} {vs : List V} {x : Value} (h : RS w ok loc s x) (hc : s.cells = some vs) : RVs w ok loc vs x.cells.toList ∧ ∀ c ∈ x.cells.toList, c.oneCell' = true := by
  cases s with
  | one v =>
    simp only [S.cells, Option.some.injEq] at hc
    subst hc
    have h1 : x.oneCell' = true := RV.one h
    have hx : x.cells = #[x] := by cases x <;> first | rfl | cases h1
    rw [hx]
    refine ⟨⟨rfl, fun j v' c g1 g2 => ?_⟩, fun c hc => by simp at hc; subst hc; exact h1⟩
    cases j with
    | zero => simp at g1 g2; subst g1; subst g2; exact h
    | succ j => simp at g1
  | agg ws =>
    simp only [S.cells, Option.some.injEq] at hc
    subst hc
    obtain ⟨cs, rfl, h2⟩ := h
    refine ⟨h2, fun c hc => ?_⟩
    obtain ⟨j, hj⟩ := List.getElem?_of_mem hc
    have hlt : j < ws.length := by rw [h2.1]; exact (List.getElem?_eq_some_iff.1 hj).1
    exact RV.one (h2.2 j _ c (List.getElem?_eq_getElem hlt) hj)
  | undef => cases hc
  | tup xs => cases hc
theorem setAt_length : ∀ (ws vs : List V) (off : Nat), (setAt vs off ws).length = vs.length
  | [], _, _ => rfl
  | x :: r, vs, off => by rw [setAt, setAt_length r, List.length_set]
theorem setAt_get : ∀ (ws vs : List V) (off : Nat), off + ws.length ≤ vs.length → ∀ j, (setAt vs off ws)[j]? = if off ≤ j ∧ j < off + ws.length then ws[j - off]? else vs[j]?
  | [], vs, off, _, j => by rw [setAt, if_neg (by simp only [List.length_nil]; omega)]
  | x :: r, vs, off, h, j => by
    simp only [List.length_cons] at h
    rw [setAt, setAt_get r _ _ (by rw [List.length_set]; omega) j]
    by_cases h1 : off + 1 ≤ j ∧ j < off + 1 + r.length
    · rw [if_pos h1, if_pos (by simp only [List.length_cons]; omega), show j - off = (j - (off + 1)) + 1 by omega, List.getElem?_cons_succ]
    · rw [if_neg h1, List.getElem?_set]
      by_cases h2 : off = j
      · subst h2
        rw [if_pos rfl, if_pos (by omega), if_pos (by simp), Nat.sub_self, List.getElem?_cons_zero]
      · rw [if_neg h2, if_neg (by simp only [List.length_cons]; omega)]
/-- The model's own fold that writes a part's cells. -/
theorem fold_set : ∀ (cs : List Value) (k off : Nat) (A : Array Value), (((cs.zipIdx k).foldl (fun (cs : Array Value) (p : Value × Nat) => cs.setIfInBounds (off + p.2) p.1) A).toList) = (cs.zipIdx k).foldl (fun (l : List Value) p => l.set (off + p.2) p.1) A.toList
  | [], _, _, _ => rfl
  | c :: r, k, off, A => by
    simp only [List.zipIdx_cons, List.foldl_cons]
    rw [fold_set r (k + 1) off, Array.toList_setIfInBounds]
def setAtL (vs : List Value) (off : Nat) : List Value → List Value
  | [] => vs
  | x :: r => setAtL (vs.set off x) (off + 1) r
theorem fold_setL : ∀ (cs : List Value) (k off : Nat) (l : List Value), (cs.zipIdx k).foldl (fun (l : List Value) p => l.set (off + p.2) p.1) l = setAtL l (off + k) cs
  | [], _, _, _ => rfl
  | c :: r, k, off, l => by
    simp only [List.zipIdx_cons, List.foldl_cons, setAtL]
    rw [fold_setL r (k + 1) off, Nat.add_assoc]
theorem setAtL_length : ∀ (ws vs : List Value) (off : Nat), (setAtL vs off ws).length = vs.length
  | [], _, _ => rfl
  | x :: r, vs, off => by rw [setAtL, setAtL_length r, List.length_set]
theorem setAtL_get : ∀ (ws vs : List Value) (off : Nat), off + ws.length ≤ vs.length → ∀ j, (setAtL vs off ws)[j]? = if off ≤ j ∧ j < off + ws.length then ws[j - off]? else vs[j]?
  | [], vs, off, _, j => by rw [setAtL, if_neg (by simp only [List.length_nil]; omega)]
  | x :: r, vs, off, h, j => by
    simp only [List.length_cons] at h
    rw [setAtL, setAtL_get r _ _ (by rw [List.length_set]; omega) j]
    by_cases h1 : off + 1 ≤ j ∧ j < off + 1 + r.length
    · rw [if_pos h1, if_pos (by simp only [List.length_cons]; omega), show j - off = (j - (off + 1)) + 1 by omega, List.getElem?_cons_succ]
    · rw [if_neg h1, List.getElem?_set]
      by_cases h2 : off = j
      · subst h2
        rw [if_pos rfl, if_pos (by omega), if_pos (by simp), Nat.sub_self, List.getElem?_cons_zero]
      · rw [if_neg h2, if_neg (by simp only [List.length_cons]; omega)]
theorem setAtL_mem {c : Value} : ∀ (ws vs : List Value) (off : Nat), c ∈ setAtL vs off ws → c ∈ vs ∨ c ∈ ws
  | [], _, _, h => .inl h
  | x :: r, vs, off, h => by
    rcases setAtL_mem r _ _ h with h1 | h1
    · rcases List.mem_or_eq_of_mem_set h1 with h2 | h2
      · exact .inl h2
      · exact .inr (by rw [h2]; exact List.mem_cons_self ..)
    · exact .inr (List.mem_cons_of_mem _ h1)
theorem fold_toList (A : Array Value) (off : Nat) (x : Value) : (x.cells.zipIdx.foldl (fun (cs : Array Value) (p : Value × Nat) => cs.setIfInBounds (off + p.2) p.1) A).toList = setAtL A.toList off x.cells.toList := by
  rw [← Array.foldl_toList, Array.toList_zipIdx]
  have h := fold_set x.cells.toList 0 off A
  rw [fold_setL] at h
  exact h
theorem setAt_rvs {vs ws : List V} {cs ds : List Value} {off : Nat} (h : RVs w ok loc vs cs) (h' : RVs w ok loc ws ds) (hl : off + ws.length ≤ vs.length) : RVs w ok loc (setAt vs off ws) (setAtL cs off ds) := by
  refine ⟨by rw [setAt_length, setAtL_length, h.1], fun j v c h1 h2 => ?_⟩
  rw [setAt_get ws vs off hl] at h1
  rw [setAtL_get ds cs off (by rw [← h.1, ← h'.1]; exact hl), ← h'.1] at h2
  split at h1
  · rename_i hc
    rw [if_pos hc] at h2
    exact h'.2 _ _ _ h1 h2
  · rename_i hc
    rw [if_neg hc] at h2
    exact h.2 _ _ _ h1 h2
/-- A part's place. -/
def partOk (place : Nat → Option (Nat × Nat)) : List (Nat × Operand) → List (Nat × Nat × X) → Bool
  | [], [] => true
  | (i, x) :: r, (off, n, y) :: q => (match place i with | some (o, m) => o == off && m == n | none => false) && xok x y && partOk place r q
  | _, _ => false
theorem fill_rvs (hg : GOk w ok loc a g) (place : Nat → Option (Nat × Nat)) : ∀ (ps : List (Nat × Operand)) (qs : List (Nat × Nat × X)) (A : Array Value) (vs ws : List V), partOk place ps qs = true → RVs w ok loc vs A.toList → fillV g vs qs = some ws →
    ∃ B : Array Value, Instr.fill place A (ps.map fun p => (p.1, a.eval p.2)) = some B ∧ RVs w ok loc ws B.toList
  | [], [], A, vs, ws, _, h, hf => by cases hf; exact ⟨A, rfl, h⟩
  | (i, x) :: r, (off, n, y) :: q, A, vs, ws, hc, h, hf => by
    simp only [partOk, Bool.and_eq_true] at hc
    obtain ⟨⟨hp, hx⟩, hr⟩ := hc
    split at hp
    · rename_i o m hpl
      simp only [Bool.and_eq_true, beq_iff_eq] at hp
      obtain ⟨rfl, rfl⟩ := hp
      simp only [fillV] at hf
      split at hf
      · rename_i us hus
        split at hf
        · rename_i hl
          rw [Option.bind_eq_some_iff] at hus
          obtain ⟨s, hs1, hs2⟩ := hus
          obtain ⟨h1, h2⟩ := cells_rvs (xok_rs hx hg hs1) hs2
          have hsz : (a.eval x).cells.size = m := by have := h1.1; simp at this; omega
          have hlen : A.size = vs.length := by have := h.1; simp at this; omega
          obtain ⟨B, hB, hr'⟩ := fill_rvs hg place r q ((a.eval x).cells.zipIdx.foldl (fun (cs : Array Value) (p : Value × Nat) => cs.setIfInBounds (o + p.2) p.1) A) (setAt vs o us) ws hr (by rw [fold_toList]; exact setAt_rvs h h1 (by omega)) hf
          refine ⟨B, ?_, hr'⟩
          simp only [List.map_cons, Instr.fill, hpl]
          rw [if_neg (by simp [hsz]; omega)]
          exact hB
        · cases hf
      · cases hf
    · cases hp
  | [], _ :: _, _, _, _, hc, _, _ => by cases hc
  | _ :: _, [], _, _, _, hc, _, _ => by cases hc
end
end Go.Proofs.YtgjacdfiilcaaaaR
