/- How a state of plain values stands for a frame and a world: the relation, and what keeps it. -/
import Derived.Test.YtgjacdfiilcaaaaR1
set_option linter.unusedVariables false
set_option linter.unusedSimpArgs false
namespace Go.Proofs.YtgjacdfiilcaaaaR
open Go Go.RowKit

inductive Loc where
  | virt
  | box (b : Nat)
  | rows (b el e cap : Nat)
def Loc.blk : Loc → Option Nat
  | .virt => none
  | .box b => some b
  | .rows b _ _ _ => some b
abbrev Locs := Nat → Option Loc

inductive Rep (w : World) (ok : Nat → Prop) : V → Value → Prop where
  | int {k : IntKind} {n : Int} : Rep w ok (.int k n) (.int k n)
  | bool {b : Bool} : Rep w ok (.bool b) (.bool b)
  | k {v : Value} (h : v.oneCell' = true) : Rep w ok (.k v) v
  | row0 (A : Option Addr) (c : Nat) : Rep w ok (.row []) (.slice A 0 c)
  | row {xs : List (List V)} {a : Addr} {n c e : Nat} (u : Nat → Nat → Value) (hn : xs.length = n) (hne : 0 < n) (hc : n ≤ c) (ha : ok a.block) (he : ∀ x ∈ xs, x.length = e)
      (hr : ∀ i j x p, xs[i]? = some x → x[j]? = some p → w.cell? (a.add (i * e + j)) = some (u i j)) (hp : ∀ i j x p, xs[i]? = some x → x[j]? = some p → Rep w ok p (u i j)) : Rep w ok (.row xs) (.slice (some a) n c)
  | ptr {cs : List V} {a : Addr} (u : Nat → Value) (ha : ok a.block) (hr : ∀ j p, cs[j]? = some p → w.cell? (a.add j) = some (u j)) (hp : ∀ j p, cs[j]? = some p → Rep w ok p (u j)) : Rep w ok (.ptr cs) (.pointer (some a))
  | fn {f : FuncId} {cs : List V} {vs : Array Value} (u : Nat → Value) (hn : vs.size = cs.length) (hr : ∀ j p, cs[j]? = some p → vs[j]? = some (u j)) (hp : ∀ j p, cs[j]? = some p → Rep w ok p (u j)) : Rep w ok (.fn f cs) (.func (.func f) #[] vs)
  | dead {v : Value} (h : v.oneCell' = true) : Rep w ok .dead v
  | ifc {t : Nat} {v : V} {x : Value} (h : Rep w ok v x) : Rep w ok (.ifc t v) (.iface t x)

theorem cell_same {w w' : World} {a : Addr} (h : w'.heap[a.block]? = w.heap[a.block]?) : w'.cell? a = w.cell? a := by simp [World.cell?, h]
theorem add_block (a : Addr) (n : Nat) : (a.add n).block = a.block := by unfold Addr.add; split <;> rfl

theorem Rep.mono {w w' : World} {ok ok' : Nat → Prop} {v : V} {x : Value} (h : Rep w ok v x) (hok : ∀ b, ok b → ok' b ∧ w'.heap[b]? = w.heap[b]?) : Rep w' ok' v x := by
  induction h with
  | int => exact .int
  | bool => exact .bool
  | k h => exact .k h
  | row0 A c => exact .row0 A c
  | row u hn hne hc ha he hr hp ih =>
    refine .row u hn hne hc (hok _ ha).1 he (fun i j x p h1 h2 => ?_) ih
    rw [cell_same (w := w) (w' := w') (by rw [add_block]; exact (hok _ ha).2)]
    exact hr i j x p h1 h2
  | ptr u ha hr hp ih =>
    refine .ptr u (hok _ ha).1 (fun j p h1 => ?_) ih
    rw [cell_same (w := w) (w' := w') (by rw [add_block]; exact (hok _ ha).2)]
    exact hr j p h1
  | fn u hn hr hp ih => exact .fn u hn hr ih
  | dead h => exact .dead h
  | ifc h ih => exact .ifc ih

theorem Rep.one {w : World} {ok : Nat → Prop} {v : V} {x : Value} (h : Rep w ok v x) : x.oneCell' = true := by
  cases h <;> first | rfl | assumption

def RV (w : World) (ok : Nat → Prop) (loc : Locs) : V → Value → Prop
  | .ref s i j, x => (∃ b, loc s = some (.box b) ∧ i = 0 ∧ x = .pointer (some ⟨b, j, none⟩)) ∨ (∃ b el e cap, loc s = some (.rows b el e cap) ∧ x = .pointer (some ⟨b, i * e + j, none⟩))
  | .sl s off len, x => (∃ b el e cap, loc s = some (.rows b el e cap) ∧ off + len ≤ cap ∧ x = .slice (some ⟨b, off * e, none⟩) len (cap - off)) ∨ (loc s = some .virt ∧ off = 0 ∧ len = 0 ∧ x = .slice none 0 0)
  | v, x => Rep w ok v x

theorem Rep.rv {w : World} {ok : Nat → Prop} {loc : Locs} {v : V} {x : Value} (h : Rep w ok v x) : RV w ok loc v x := by
  cases h <;> first | exact .int | exact .bool | exact .row0 _ _ | (exact Rep.ifc ‹_›) | (exact Rep.k ‹_›) | (exact Rep.dead ‹_›) | (exact Rep.row _ ‹_› ‹_› ‹_› ‹_› ‹_› ‹_› ‹_›) | (exact Rep.ptr _ ‹_› ‹_› ‹_›) | (exact Rep.fn _ ‹_› ‹_› ‹_›)

theorem RV.one {w : World} {ok : Nat → Prop} {loc : Locs} {v : V} {x : Value} (h : RV w ok loc v x) : x.oneCell' = true := by
  cases v with
  | ref s i j => rcases h with ⟨b, _, _, rfl⟩ | ⟨b, el, e, cap, _, rfl⟩ <;> rfl
  | sl s off len => rcases h with ⟨b, el, e, cap, _, _, rfl⟩ | ⟨_, _, _, rfl⟩ <;> rfl
  | _ => exact Rep.one h

theorem RV.mono {w w' : World} {ok ok' : Nat → Prop} {loc loc' : Locs} {v : V} {x : Value} (h : RV w ok loc v x) (hok : ∀ b, ok b → ok' b ∧ w'.heap[b]? = w.heap[b]?) (hl : ∀ s l, v.ment = some s → loc s = some l → loc' s = some l) : RV w' ok' loc' v x := by
  cases v with
  | ref s i j =>
    rcases h with ⟨b, h1, h2, h3⟩ | ⟨b, el, e, cap, h1, h3⟩
    · exact .inl ⟨b, hl _ _ rfl h1, h2, h3⟩
    · exact .inr ⟨b, el, e, cap, hl _ _ rfl h1, h3⟩
  | sl s off len =>
    rcases h with ⟨b, el, e, cap, h1, h2, h3⟩ | ⟨h1, h2, h3, h4⟩
    · exact .inl ⟨b, el, e, cap, hl _ _ rfl h1, h2, h3⟩
    · exact .inr ⟨hl _ _ rfl h1, h2, h3, h4⟩
  | _ => exact Rep.mono h hok

/-- Cells, one by one. -/
def RVs (w : World) (ok : Nat → Prop) (loc : Locs) (vs : List V) (cs : List Value) : Prop :=
  vs.length = cs.length ∧ ∀ (j : Nat) v c, vs[j]? = some v → cs[j]? = some c → RV w ok loc v c
def RS0 (w : World) (ok : Nat → Prop) (loc : Locs) : S → Value → Prop
  | .undef, x => x = undef
  | .one v, x => RV w ok loc v x
  | .agg vs, x => ∃ cs, x = .agg cs ∧ RVs w ok loc vs cs.toList
  | .tup _, _ => False
def RS (w : World) (ok : Nat → Prop) (loc : Locs) : S → Value → Prop
  | .tup xs, x => ∃ us, x = .tuple us ∧ us.size = xs.length ∧ ∀ (j : Nat) s u, xs[j]? = some s → us[j]? = some u → RS0 w ok loc s u
  | s, x => RS0 w ok loc s x
/-- Arguments. -/
def RSs (w : World) (ok : Nat → Prop) (loc : Locs) (as : List S) (vs : List Value) : Prop :=
  as.length = vs.length ∧ ∀ (j : Nat) s u, as[j]? = some s → vs[j]? = some u → RS0 w ok loc s u

theorem mem_ments {vs : List V} {v : V} {s : Nat} (h : v ∈ vs) (hm : v.ment = some s) : s ∈ ments vs := by
  induction vs with
  | nil => cases h
  | cons a r ih =>
    unfold ments
    rcases List.mem_cons.1 h with rfl | h
    · rw [hm]; exact List.mem_cons_self ..
    · cases a.ment with
      | none => exact ih h
      | some t => exact List.mem_cons_of_mem _ (ih h)
theorem RVs.mono {w w' : World} {ok ok' : Nat → Prop} {loc loc' : Locs} {vs : List V} {cs : List Value} (h : RVs w ok loc vs cs) (hok : ∀ b, ok b → ok' b ∧ w'.heap[b]? = w.heap[b]?) (hl : ∀ s l, s ∈ ments vs → loc s = some l → loc' s = some l) : RVs w' ok' loc' vs cs :=
  ⟨h.1, fun j v c h1 h2 => (h.2 j v c h1 h2).mono hok fun s l hm hs => hl s l (mem_ments (List.mem_of_getElem? h1) hm) hs⟩
theorem RS0.mono {w w' : World} {ok ok' : Nat → Prop} {loc loc' : Locs} {s : S} {x : Value} (h : RS0 w ok loc s x) (hok : ∀ b, ok b → ok' b ∧ w'.heap[b]? = w.heap[b]?) (hl : ∀ t l, t ∈ s.ment → loc t = some l → loc' t = some l) : RS0 w' ok' loc' s x := by
  cases s with
  | undef => exact h
  | one v => exact RV.mono h hok fun s l hm hs => hl s l (mem_ments (List.mem_singleton.2 rfl) hm) hs
  | agg vs =>
    obtain ⟨cs, h1, h2⟩ := h
    exact ⟨cs, h1, h2.mono hok hl⟩
  | tup xs => exact h
theorem mem_smt {xs : List S} {s : S} {t : Nat} (h : s ∈ xs) (hm : t ∈ s.ment) : t ∈ S.ment.smt xs := by
  induction xs with
  | nil => cases h
  | cons a r ih =>
    unfold S.ment.smt
    rcases List.mem_cons.1 h with rfl | h
    · exact List.mem_append_left _ hm
    · exact List.mem_append_right _ (ih h)
theorem RS.mono {w w' : World} {ok ok' : Nat → Prop} {loc loc' : Locs} {s : S} {x : Value} (h : RS w ok loc s x) (hok : ∀ b, ok b → ok' b ∧ w'.heap[b]? = w.heap[b]?) (hl : ∀ t l, t ∈ s.ment → loc t = some l → loc' t = some l) : RS w' ok' loc' s x := by
  cases s with
  | tup xs =>
    obtain ⟨us, h1, h2, h3⟩ := h
    exact ⟨us, h1, h2, fun j s u h4 h5 => (h3 j s u h4 h5).mono hok fun t l hm hs => hl t l (mem_smt (List.mem_of_getElem? h4) hm) hs⟩
  | undef => exact h
  | one v => exact RS0.mono (s := .one v) (w := w) (ok := ok) (loc := loc) h hok hl
  | agg vs => exact RS0.mono (s := .agg vs) (w := w) (ok := ok) (loc := loc) h hok hl

/-- What a site's block holds. -/
def HB (w : World) (ok : Nat → Prop) (loc : Locs) : Loc → Blk → Prop
  | .box b, .box vs => ∃ cs el, w.heap[b]? = some (.cells cs el (0, 0)) ∧ RVs w ok loc vs cs.toList
  | .rows b el e cap, .rows el' e' xs => el' = el ∧ e' = e ∧ cap ≤ maxLen ∧ xs.length ≤ cap ∧ (∀ x ∈ xs, x.length = e) ∧
      ∃ cs, w.heap[b]? = some (.cells cs el (0, 0)) ∧ cs.size = cap * e ∧ ∀ i j x p, xs[i]? = some x → x[j]? = some p → ∃ u, cs[i * e + j]? = some u ∧ Rep w ok p u
  | .virt, .rows _ _ xs => xs = []
  | _, _ => False
def Blk.ment : Blk → List Nat
  | .box vs => ments vs
  | .rows _ _ _ => []
theorem HB.mono {w w' : World} {ok ok' : Nat → Prop} {loc loc' : Locs} {l : Loc} {B : Blk} (h : HB w ok loc l B) (hok : ∀ b, ok b → ok' b ∧ w'.heap[b]? = w.heap[b]?) (hb : ∀ b, l.blk = some b → w'.heap[b]? = w.heap[b]?)
    (hl : ∀ t m, t ∈ B.ment → loc t = some m → loc' t = some m) : HB w' ok' loc' l B := by
  cases l with
  | virt => cases B with
    | box vs => exact h
    | rows el e xs => exact h
  | box b => cases B with
    | box vs =>
      obtain ⟨cs, el, h1, h2⟩ := h
      exact ⟨cs, el, by rw [hb b rfl]; exact h1, h2.mono hok hl⟩
    | rows el e xs => exact h
  | rows b el e cap => cases B with
    | box vs => exact h
    | rows el' e' xs =>
      obtain ⟨h1, h2, h3, h4, h5, cs, h6, h7, h8⟩ := h
      refine ⟨h1, h2, h3, h4, h5, cs, by rw [hb b rfl]; exact h6, h7, fun i j x p a c => ?_⟩
      obtain ⟨u, hu, hr⟩ := h8 i j x p a c
      exact ⟨u, hu, hr.mono hok⟩

/-- The blocks that may be spoken of without a site. -/
def okI (w0 : World) (ok0 : Nat → Prop) (w : World) (loc : Locs) (b : Nat) : Prop :=
  (ok0 b ∨ w0.heap.size ≤ b) ∧ b < w.heap.size ∧ ∀ s l, loc s = some l → l.blk ≠ some b

/-- What was handed in: blocks that may be changed, variables that stay where they are. -/
structure Ent where
  own : Nat → Prop
  lb : Nat → Option Nat
/-- Nobody else's block is changed. -/
structure Frm (own : Nat → Prop) (w w' : World) : Prop where
  os : w'.os = w.os
  tape : w'.tape = w.tape
  output : w'.output = w.output
  size : w.heap.size ≤ w'.heap.size
  block : ∀ k, k < w.heap.size → ¬ own k → w'.heap[k]? = w.heap[k]?
theorem Frm.refl (own : Nat → Prop) (w : World) : Frm own w w := ⟨rfl, rfl, rfl, Nat.le_refl _, fun _ _ _ => rfl⟩
theorem Frm.below {own : Nat → Prop} {w w' : World} (h : Frm own w w') (ho : ∀ k, ¬ own k) : Below w.heap.size w w' := ⟨h.os, h.tape, h.output, h.size, fun k hk => h.block k hk (ho k)⟩
theorem Frm.then {own : Nat → Prop} {w0 w w' : World} (h : Frm own w0 w) (hb : Below w.heap.size w w') : Frm own w0 w' :=
  ⟨hb.os.trans h.os, hb.tape.trans h.tape, hb.output.trans h.output, Nat.le_trans h.size hb.size, fun k hk ho => (hb.block k (Nat.lt_of_lt_of_le hk h.size)).trans (h.block k hk ho)⟩
structure HpRel (own : Nat → Prop) (base : Nat) (w : World) (ok : Nat → Prop) (loc : Locs) (hp : Hp) : Prop where
  dom : ∀ s, (loc s).isSome = (look hp s).isSome
  blk : ∀ s l B, loc s = some l → look hp s = some B → HB w ok loc l B
  inj : ∀ s s' l l' b, loc s = some l → loc s' = some l' → l.blk = some b → l'.blk = some b → s = s'
  lo : ∀ s l b, loc s = some l → l.blk = some b → (own b ∨ base ≤ b) ∧ b < w.heap.size

/-- The package's variables that are told are as told. -/
def GLW (w : World) : Prop := ∀ p ∈ glob, ∃ t fr, w.heap[p.1]? = some (.cells p.2 t fr)
def GL (own : Nat → Prop) (w : World) : Prop := GLW w ∧ ∀ p ∈ glob, ¬ own p.1
theorem GLW.lt {w : World} (h : GLW w) {p : Nat × Array Value} (hp : p ∈ glob) : p.1 < w.heap.size := by
  obtain ⟨t, fr, h1⟩ := h p hp
  exact (Array.getElem?_eq_some_iff.1 h1).1
theorem GL.now {own : Nat → Prop} {w w' : World} (h : GL own w) (f : Frm own w w') : GLW w' := fun p hp => by
  rw [f.block p.1 (h.1.lt hp) (h.2 p hp)]
  exact h.1 p hp
structure Inv (n : Nat) (Γ : Ent) (w0 : World) (ok0 : Nat → Prop) (loc : Locs) (st : St) (a : Act) (w : World) : Prop where
  below : Frm Γ.own w0 w
  okb : (∀ b, ok0 b → b < w0.heap.size) ∧ GL Γ.own w0
  hp : HpRel Γ.own w0.heap.size w (okI w0 ok0 w loc) loc st.hp
  oko : ∀ b, Γ.own b → ok0 b
  bx : ∀ s b, Γ.lb s = some b → s < 64 ∧ loc s = some (.box b)
  sz : a.tmps.size = n
  sl : ∀ t s, look st.sl t = some s → t < n ∧ RS w (okI w0 ok0 w loc) loc s (a.tmps.getD t undef)
  df : a.defers = []

def Locs.or (loc locN : Locs) : Locs := fun s => match locN s with
  | some l => some l
  | none => loc s
theorem Locs.or_none (loc : Locs) : loc.or (fun _ => none) = loc := rfl

theorem look_append {α : Type} (a b : List (Nat × α)) (n : Nat) : look (a ++ b) n = match look a n with | some v => some v | none => look b n := by
  induction a with
  | nil => rfl
  | cons p r ih =>
    obtain ⟨m, v⟩ := p
    simp only [List.cons_append, look]
    split
    · rfl
    · exact ih

theorem put_size (a : Act) (d : Option Nat) (v : Value) : (a.put d v).tmps.size = a.tmps.size := by
  cases d <;> simp [Act.put]
theorem put_defers (a : Act) (d : Option Nat) (v : Value) : (a.put d v).defers = a.defers := by
  cases d <;> rfl
theorem put_get (a : Act) (d : Nat) (v : Value) (t : Nat) (hd : d < a.tmps.size) : (a.put (some d) v).tmps.getD t undef = if d = t then v else a.tmps.getD t undef := by
  simp only [Act.put]
  rw [Array.getD_eq_getD_getElem?, Array.getElem?_setIfInBounds]
  split
  · rename_i h; subst h; simp [hd]
  · rw [← Array.getD_eq_getD_getElem?]

/-- One more answer, some more blocks. -/
theorem Inv.ext {n : Nat} {Γ : Ent} {w0 : World} {ok0 : Nat → Prop} {loc : Locs} {st : St} {a : Act} {w w' : World} (I : Inv n Γ w0 ok0 loc st a w) (hb : Below w.heap.size w w') (locN : Locs) (news : Hp)
    (hdom : ∀ s, (locN s).isSome = (look news s).isSome) (hfresh : ∀ s, (look news s).isSome = true → (look st.hp s).isSome = false)
    (hlo : ∀ s l b, locN s = some l → l.blk = some b → w.heap.size ≤ b ∧ b < w'.heap.size)
    (hinj : ∀ s s' l l' b, locN s = some l → locN s' = some l' → l.blk = some b → l'.blk = some b → s = s')
    (hblk : ∀ s l B, locN s = some l → look news s = some B → HB w' (okI w0 ok0 w' (loc.or locN)) (loc.or locN) l B)
    (d : Option Nat) (hd : ∀ t, d = some t → t < n) (s : S) (v : Value) (hs : RS w' (okI w0 ok0 w' (loc.or locN)) (loc.or locN) s v) :
    Inv n Γ w0 ok0 (loc.or locN) { sl := (st.put d s).sl, hp := news ++ st.hp } (a.put d v) w' := by
  have hsz : w.heap.size ≤ w'.heap.size := hb.size
  have hno : ∀ s, (loc s).isSome = true → locN s = none := by
    intro s h
    have h1 := hfresh s
    rw [← hdom, ← I.hp.dom] at h1
    cases hq : locN s with
    | none => rfl
    | some l => rw [hq] at h1; rw [h1 rfl] at h; cases h
  have hor : ∀ s l, loc s = some l → loc.or locN s = some l := by
    intro s l h
    show (match locN s with | some l => some l | none => loc s) = some l
    rw [hno s (by rw [h]; rfl)]
    exact h
  have hor' : ∀ s l, loc.or locN s = some l → locN s = some l ∨ (locN s = none ∧ loc s = some l) := by
    intro s l h
    change (match locN s with | some l => some l | none => loc s) = some l at h
    cases hq : locN s with
    | some m => rw [hq] at h; exact .inl h
    | none => rw [hq] at h; exact .inr ⟨rfl, h⟩
  have hok : ∀ b, okI w0 ok0 w loc b → okI w0 ok0 w' (loc.or locN) b ∧ w'.heap[b]? = w.heap[b]? := by
    intro b h
    refine ⟨⟨h.1, by have := h.2.1; omega, fun s l hl hbk => ?_⟩, hb.block b h.2.1⟩
    rcases hor' s l hl with h1 | ⟨_, h1⟩
    · have := (hlo s l b h1 hbk).1
      have := h.2.1
      omega
    · exact h.2.2 s l h1 hbk
  have hbase : w0.heap.size ≤ w.heap.size := I.below.size
  refine ⟨I.below.then hb, I.okb, ⟨fun s => ?_, fun s l B hl hB => ?_, fun s s' l l' b h1 h2 h3 h4 => ?_, fun s l b h1 h2 => ?_⟩, I.oko, fun s b h => ⟨(I.bx s b h).1, hor _ _ (I.bx s b h).2⟩, by rw [put_size]; exact I.sz, ?_, by rw [put_defers]; exact I.df⟩
  · rw [look_append]
    show (match locN s with | some l => some l | none => loc s).isSome = _
    have h1 := hdom s
    have h2 := I.hp.dom s
    cases h3 : locN s with
    | some l =>
      rw [h3] at h1
      cases h4 : look news s with
      | some B => rfl
      | none => rw [h4] at h1; cases h1
    | none =>
      rw [h3] at h1
      cases h4 : look news s with
      | some B => rw [h4] at h1; cases h1
      | none => exact h2
  · rw [look_append] at hB
    rcases hor' s l hl with h1 | ⟨h0, h1⟩
    · have h2 := hdom s
      rw [h1] at h2
      cases h4 : look news s with
      | none => rw [h4] at h2; cases h2
      | some B' =>
        rw [h4] at hB
        cases hB
        exact hblk s l B h1 h4
    · have h2 := hdom s
      rw [h0] at h2
      cases h4 : look news s with
      | some B' => rw [h4] at h2; cases h2
      | none =>
        rw [h4] at hB
        refine (I.hp.blk s l B h1 hB).mono hok (fun b hbk => hb.block b (I.hp.lo s l b h1 hbk).2) (fun t m _ => hor t m)
  · rcases hor' s l h1 with g1 | ⟨_, g1⟩ <;> rcases hor' s' l' h2 with g2 | ⟨_, g2⟩
    · exact hinj s s' l l' b g1 g2 h3 h4
    · have := (hlo s l b g1 h3).1
      have := (I.hp.lo s' l' b g2 h4).2
      omega
    · have := (hlo s' l' b g2 h4).1
      have := (I.hp.lo s l b g1 h3).2
      omega
    · exact I.hp.inj s s' l l' b g1 g2 h3 h4
  · rcases hor' s l h1 with g1 | ⟨_, g1⟩
    · have := hlo s l b g1 h2
      exact ⟨.inr (by omega), this.2⟩
    · have := I.hp.lo s l b g1 h2
      exact ⟨this.1, by have := this.2; omega⟩
  · intro t q hq
    cases d with
    | none =>
      obtain ⟨h1, h2⟩ := I.sl t q hq
      exact ⟨h1, h2.mono hok (fun t m _ => hor t m)⟩
    | some d =>
      have hdn := hd d rfl
      rw [put_get a d v t (by rw [I.sz]; exact hdn)]
      simp only [St.put, look] at hq
      split at hq
      · rename_i h
        subst h
        cases hq
        rw [if_pos rfl]
        exact ⟨hdn, hs⟩
      · rename_i h
        rw [if_neg h]
        obtain ⟨h1, h2⟩ := I.sl t q hq
        exact ⟨h1, h2.mono hok (fun t m _ => hor t m)⟩
/-- The same, no block made, the world as it was. -/
theorem Inv.val {n : Nat} {Γ : Ent} {w0 : World} {ok0 : Nat → Prop} {loc : Locs} {st : St} {a : Act} {w : World} (I : Inv n Γ w0 ok0 loc st a w) (d : Option Nat) (hd : ∀ t, d = some t → t < n) (s : S) (v : Value) (hs : RS w (okI w0 ok0 w loc) loc s v) :
    Inv n Γ w0 ok0 loc (st.put d s) (a.put d v) w := by
  have h := I.ext (Below.refl _ _) (fun _ => none) [] (fun s => rfl) (fun s h => by cases h) (fun s l b h => by cases h) (fun s s' l l' b h => by cases h) (fun s l B h => by cases h) d hd s v (by rw [Locs.or_none]; exact hs)
  rw [Locs.or_none] at h
  cases d <;> exact h

/-- A function that has a body, and is entered. -/
def fnOk (P : Program) (f : FuncId) : Bool := match P.funcs[f]? with
  | some fn => !(fn.name == "runtime.NumGoroutine") && fn.body.isSome
  | none => false
/-- The blocks that were handed in. -/
def ownL (loc0 : Locs) (b : Nat) : Prop := ∃ s l, loc0 s = some l ∧ l.blk = some b
theorem ownL_none {b : Nat} : ¬ ownL (fun _ => none) b := fun ⟨_, _, h, _⟩ => by cases h
/-- A function's contract. -/
def Sound (P : Program) (f : FuncId) (m : Model) : Prop :=
  ∀ args r hp, m args = some (r, hp) → ∀ as h0, splitA args = some (as, h0) → ∀ (w : World) (ok0 : Nat → Prop) (loc0 : Locs) (vs : Array Value), GL (ownL loc0) w → (∀ b, ok0 b → b < w.heap.size ∧ ¬ ownL loc0 b) →
    HpRel (ownL loc0) w.heap.size w ok0 loc0 h0 → RSs w ok0 loc0 as vs.toList →
    fnOk P f = true ∧ Calls P f vs w fun e w' => ∃ v loc, e = .returned v ∧ Frm (ownL loc0) w w' ∧ HpRel (ownL loc0) w.heap.size w' (okI w (fun b => ok0 b ∨ ownL loc0 b) w' loc) loc hp ∧ RS w' (okI w (fun b => ok0 b ∨ ownL loc0 b) w' loc) loc r v ∧
      ∀ s b, loc0 s = some (.box b) → loc s = some (.box b)
/-- A call to which nothing is handed over. -/
theorem Sound.closed {P : Program} {f : FuncId} {m : Model} (h : Sound P f m) {args : List S} {r : S} {hp : Hp} (hm : m args = some (r, hp)) (hs : splitA args = some (args, [])) {w : World} {ok0 : Nat → Prop} {vs : Array Value} (hg : GLW w) (hok : ∀ b, ok0 b → b < w.heap.size) (hr : RSs w ok0 (fun _ => none) args vs.toList) :
    fnOk P f = true ∧ Calls P f vs w fun e w' => ∃ v loc, e = .returned v ∧ Below w.heap.size w w' ∧ HpRel (fun _ => False) w.heap.size w' (okI w ok0 w' loc) loc hp ∧ RS w' (okI w ok0 w' loc) loc r v := by
  obtain ⟨h1, h2⟩ := h args r hp hm args [] hs w ok0 (fun _ => none) vs ⟨hg, fun _ _ => ownL_none⟩ (fun b hb => ⟨hok b hb, ownL_none⟩) ⟨fun s => rfl, fun s l B h => (by cases h), fun s s' l l' b h => (by cases h), fun s l b h => (by cases h)⟩ hr
  have e1 : (fun b => ok0 b ∨ ownL (fun _ => none) b) = ok0 := by funext b; exact propext ⟨fun h => h.resolve_right ownL_none, .inl⟩
  have e2 : ownL (fun _ => none) = fun _ => False := by funext b; exact propext ⟨fun h => (ownL_none h).elim, False.elim⟩
  rw [e1, e2] at h2
  exact ⟨h1, h2.mono fun e w' ⟨v, loc, k1, k2, k3, k4, _⟩ => ⟨v, loc, k1, k2.below (fun _ h => h), k3, k4⟩⟩
theorem Sound.of_le {P : Program} {f : FuncId} {m m' : Model} (h : Sound P f m) (hl : ∀ args r, m' args = some r → m args = some r) : Sound P f m' :=
  fun args r hp hm => h args r hp (hl _ _ hm)
theorem Sound.no {P : Program} {f : FuncId} : Sound P f fun _ => none := fun _ _ _ h => by cases h
theorem Sound.or {P : Program} {f : FuncId} {m m' : Model} (h : Sound P f m) (h' : Sound P f m') : Sound P f fun as => match m as with | some r => some r | none => m' as := by
  intro args r hp hm
  cases hq : m args with
  | some q =>
    simp only [hq] at hm
    cases hm
    exact h args r hp hq
  | none =>
    simp only [hq] at hm
    exact h' args r hp hm
end Go.Proofs.YtgjacdfiilcaaaaR
