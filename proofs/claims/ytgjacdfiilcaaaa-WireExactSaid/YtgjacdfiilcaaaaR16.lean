/- A function: its answer handed over; the evaluator's answer is the function's. -/
import Derived.Test.YtgjacdfiilcaaaaR15
set_option linter.unusedVariables false
set_option linter.unusedSimpArgs false
namespace Go.Proofs.YtgjacdfiilcaaaaR
open Go Go.RowKit

abbrev Al := List (Nat × Nat)
/-- The caller's sites, and the sites that they were here. -/
def aL (m : Nat) (al : Al) (loc : Locs) : Locs := fun k => if k < m then loc k else match look al k with
  | some s => loc s
  | none => none
section
variable {P : Program} {n : Nat} {Γ : Ent} {w0 : World} {ok0 : Nat → Prop} {loc : Locs} {st st' : St} {a : Act} {w : World} {E : Nat → Model} {m : Nat}

/-- More is handed over. -/
def AlLe (al al' : Al) : Prop := ∀ q s, look al q = some s → look al' q = some s
theorem AlLe.refl (al : Al) : AlLe al al := fun _ _ h => h
theorem AlLe.trans {a b c : Al} (h : AlLe a b) (h' : AlLe b c) : AlLe a c := fun q s hq => h' q s (h q s hq)
/-- Cells, as the caller sees them. -/
def Seen (w : World) (ok : Nat → Prop) (loc : Locs) (m : Nat) (al : Al) (vs vs' : List V) : Prop := ∀ cs, RVs w ok loc vs cs → ∀ (alF : Al) (okF : Nat → Prop), AlLe al alF → (∀ b, ok b → okF b) → RVs w okF (aL m alF loc) vs' cs
theorem Seen.mono {w : World} {ok : Nat → Prop} {loc : Locs} {m : Nat} {al al' : Al} {vs vs' : List V} (h : Seen w ok loc m al vs vs') (hl : AlLe al al') : Seen w ok loc m al' vs vs' := fun cs hv alF okF h1 h2 => h cs hv alF okF (hl.trans h1) h2
/-- A block, as the caller sees it. -/
def HandB (w : World) (ok : Nat → Prop) (loc : Locs) (m : Nat) (al : Al) (B0 B : Blk) : Prop :=
  (∃ el e xs len, B0 = .rows el e xs ∧ B = .rows el e (xs.take len)) ∨ (∃ vs vs', B0 = .box vs ∧ B = .box vs' ∧ Seen w ok loc m al vs vs')
theorem HandB.mono {w : World} {ok : Nat → Prop} {loc : Locs} {m : Nat} {al al' : Al} {B0 B : Blk} (h : HandB w ok loc m al B0 B) (hl : AlLe al al') : HandB w ok loc m al' B0 B := by
  rcases h with h | ⟨vs, vs', h1, h2, h3⟩
  · exact .inl h
  · exact .inr ⟨vs, vs', h1, h2, h3.mono hl⟩
/-- What has been handed over so far. -/
structure Own (w : World) (ok : Nat → Prop) (loc : Locs) (m : Nat) (h : Nat → Option Blk) (k : Nat) (al : Al) (hp : Hp) : Prop where
  ge : m ≤ k
  lt : ∀ q s, look al q = some s → m ≤ q ∧ q < k
  ne : ∀ q s, look al q = some s → m ≤ s
  dom : ∀ q, (look al q).isSome = (look hp q).isSome
  blk : ∀ q s B, look al q = some s → look hp q = some B → ∃ B0, h s = some B0 ∧ HandB w ok loc m al B0 B
  inj : ∀ q q' s, look al q = some s → look al q' = some s → q = q'
theorem Own.up {ok : Nat → Prop} {h : Nat → Option Blk} {k k' : Nat} {al : Al} {hp : Hp} (o : Own w ok loc m h k al hp) (hk : k ≤ k') : Own w ok loc m h k' al hp := ⟨Nat.le_trans o.ge hk, fun q s hq => ⟨(o.lt q s hq).1, Nat.lt_of_lt_of_le (o.lt q s hq).2 hk⟩, o.ne, o.dom, o.blk, o.inj⟩
theorem mem_snd {al : Al} {q s : Nat} (h : look al q = some s) : s ∈ al.map (·.2) := List.mem_map.2 ⟨(q, s), look_mem _ _ _ h, rfl⟩
/-- One more block. -/
theorem Own.add {ok : Nat → Prop} {h : Nat → Option Blk} {k : Nat} {al : Al} {hp : Hp} (o : Own w ok loc m h k al hp) {s : Nat} (hs : m ≤ s) (hu : s ∉ al.map (·.2)) {B0 B : Blk} (hB : h s = some B0) (hH : HandB w ok loc m ((k, s) :: al) B0 B) :
    Own w ok loc m h (k + 1) ((k, s) :: al) (hp ++ [(k, B)]) ∧ AlLe al ((k, s) :: al) := by
  have hle : AlLe al ((k, s) :: al) := by
    intro q t hq
    have := (o.lt q t hq).2
    simp only [look]
    rw [if_neg (by omega)]
    exact hq
  have hnk : look al k = none := by
    cases h4 : look al k with
    | none => rfl
    | some t => have := (o.lt k t h4).2; omega
  have hnh : look hp k = none := by
    have h3 := o.dom k
    rw [hnk] at h3
    cases h5 : look hp k with
    | none => rfl
    | some B => rw [h5] at h3; cases h3
  refine ⟨⟨by have := o.ge; omega, fun q t hq => ?_, fun q t hq => ?_, fun q => ?_, fun q t B' h1 h2 => ?_, fun q q' t h1 h2 => ?_⟩, hle⟩
  · simp only [look] at hq
    split at hq
    · have := o.ge; omega
    · have := o.lt q t hq; omega
  · simp only [look] at hq
    split at hq
    · cases hq; exact hs
    · exact o.ne q t hq
  · rw [look_append]
    simp only [look]
    by_cases hkq : k = q
    · subst hkq
      rw [if_pos rfl, hnh]
      simp
    · rw [if_neg hkq, if_neg hkq, o.dom q]
      cases look hp q <;> rfl
  · simp only [look] at h1
    rw [look_append] at h2
    split at h1
    · rename_i hkq
      subst hkq
      cases h1
      rw [hnh] at h2
      simp only [look, if_true] at h2
      cases h2
      exact ⟨B0, hB, hH⟩
    · rename_i hkq
      have h3 := o.dom q
      rw [h1] at h3
      cases h5 : look hp q with
      | some B'' =>
        rw [h5] at h2
        cases h2
        obtain ⟨B1, g1, g2⟩ := o.blk q t _ h1 h5
        exact ⟨B1, g1, g2.mono hle⟩
      | none => rw [h5] at h3; cases h3
  · simp only [look] at h1 h2
    split at h1
    · split at h2
      · omega
      · cases h1; exact absurd (mem_snd h2) hu
    · split at h2
      · cases h2; exact absurd (mem_snd h1) hu
      · exact o.inj q q' t h1 h2

theorem handV_ok {h : Nat → Option Blk} {al : Al} {hpA : Hp} {k : Nat} (o : Own w (okI w0 ok0 w loc) loc m h k al hpA) {v v' : V} {used : List Nat} {hp : Hp} (hh : handV h m (al.map (·.2)) k v = some (v', used, hp)) :
    ∃ al', AlLe al al' ∧ used = al'.map (·.2) ∧ Own w (okI w0 ok0 w loc) loc m h (k + 1) al' (hpA ++ hp) ∧ ∀ x, RV w (okI w0 ok0 w loc) loc v x → ∀ (alF : Al) (okF : Nat → Prop), AlLe al' alF → (∀ b, okI w0 ok0 w loc b → okF b) → RV w okF (aL m alF loc) v' x := by
  have hpure : ∀ {v : V}, v.ment = none → some (v, al.map (·.2), ([] : Hp)) = some (v', used, hp) → ∃ al', AlLe al al' ∧ used = al'.map (·.2) ∧ Own w (okI w0 ok0 w loc) loc m h (k + 1) al' (hpA ++ hp) ∧ ∀ x, RV w (okI w0 ok0 w loc) loc v x → ∀ (alF : Al) (okF : Nat → Prop), AlLe al' alF → (∀ b, okI w0 ok0 w loc b → okF b) → RV w okF (aL m alF loc) v' x := by
    intro v hm he
    cases he
    exact ⟨al, AlLe.refl al, rfl, by rw [List.append_nil]; exact o.up (Nat.le_succ k), fun x hv alF okF _ h2 => ((rv_rep hv hm).mono fun b hb => ⟨h2 b hb, rfl⟩).rv⟩
  have hlow : ∀ {v : V} {s : Nat}, s < m → (∀ t, v.ment = some t → t = s) → some (v, al.map (·.2), ([] : Hp)) = some (v', used, hp) → ∃ al', AlLe al al' ∧ used = al'.map (·.2) ∧ Own w (okI w0 ok0 w loc) loc m h (k + 1) al' (hpA ++ hp) ∧ ∀ x, RV w (okI w0 ok0 w loc) loc v x → ∀ (alF : Al) (okF : Nat → Prop), AlLe al' alF → (∀ b, okI w0 ok0 w loc b → okF b) → RV w okF (aL m alF loc) v' x := by
    intro v s hs hm he
    cases he
    refine ⟨al, AlLe.refl al, rfl, by rw [List.append_nil]; exact o.up (Nat.le_succ k), fun x hv alF okF _ h2 => RV.mono hv (fun b hb => ⟨h2 b hb, rfl⟩) fun t l ht hl => ?_⟩
    rw [hm t ht] at hl ⊢
    unfold aL
    rw [if_pos hs]
    exact hl
  cases v with
  | sl s off len =>
    simp only [handV] at hh
    split at hh
    · exact hlow ‹_› (fun t ht => by cases ht; rfl) hh
    · rename_i hsm
      split at hh
      · rename_i hc
        obtain ⟨rfl, hu⟩ := hc
        split at hh
        · rename_i el e xs hq
          split at hh
          · rename_i hl
            cases hh
            have hnot : s ∉ al.map (·.2) := by simpa using hu
            obtain ⟨h1, h2⟩ := o.add (B := .rows el e (xs.take len)) (by omega) hnot hq (.inl ⟨el, e, xs, len, rfl, rfl⟩)
            refine ⟨(k, s) :: al, h2, rfl, h1, fun x hv alF okF h3 h4 => ?_⟩
            have h5 : look alF k = some s := h3 k s (by simp only [look, if_true])
            have h6 : aL m alF loc k = loc s := by unfold aL; rw [if_neg (by have := o.ge; omega), h5]
            rcases hv with ⟨b, el2, e2, cap, g1, g2, g3⟩ | ⟨g1, g2, g3, g4⟩
            · exact .inl ⟨b, el2, e2, cap, by rw [h6]; exact g1, g2, g3⟩
            · exact .inr ⟨by rw [h6]; exact g1, g2, g3, g4⟩
          · cases hh
        · cases hh
      · cases hh
  | ref s i j =>
    simp only [handV] at hh
    split at hh
    · exact hlow ‹_› (fun t ht => by cases ht; rfl) hh
    · cases hh
  | _ => exact hpure rfl hh

theorem handVs_ok {h : Nat → Option Blk} : ∀ (vs : List V) (vs' : List V) (al : Al) (hpA : Hp) (k k' : Nat) (used : List Nat) (hp : Hp), Own w (okI w0 ok0 w loc) loc m h k al hpA → handVs h m (al.map (·.2)) k vs = some (vs', used, k', hp) →
    ∃ al', AlLe al al' ∧ used = al'.map (·.2) ∧ Own w (okI w0 ok0 w loc) loc m h k' al' (hpA ++ hp) ∧ Seen w (okI w0 ok0 w loc) loc m al' vs vs'
  | [], vs', al, hpA, k, k', used, hp, o, hh => by
    cases hh
    exact ⟨al, AlLe.refl al, rfl, by rw [List.append_nil]; exact o, fun cs hv alF okF _ _ => ⟨hv.1, fun j v c h => by cases h⟩⟩
  | v :: r, vs', al, hpA, k, k', used, hp, o, hh => by
    simp only [handVs] at hh
    split at hh
    · rename_i v1 used1 hp1 h1
      split at hh
      · rename_i r1 used2 k2 hp2 h2
        cases hh
        obtain ⟨al1, a1, a2, a3, a4⟩ := handV_ok o h1
        subst a2
        obtain ⟨al2, b1, b2, b3, b4⟩ := handVs_ok r r1 al1 (hpA ++ hp1) (k + 1) k' used hp2 a3 h2
        refine ⟨al2, a1.trans b1, b2, by rw [← List.append_assoc]; exact b3, fun cs hv alF okF c1 c2 => ?_⟩
        cases cs with
        | nil => cases hv.1
        | cons c q =>
          obtain ⟨d1, d2⟩ := b4 q ⟨by have := hv.1; simpa using this, fun j v c g1 g2 => hv.2 (j + 1) v c (by simpa using g1) (by simpa using g2)⟩ alF okF c1 c2
          refine ⟨by simp [d1], fun j v' c' g1 g2 => ?_⟩
          cases j with
          | zero => simp at g1 g2; subst g1; subst g2; exact a4 _ (hv.2 0 v _ rfl rfl) alF okF (b1.trans c1) c2
          | succ j => exact d2 j v' c' (by simpa using g1) (by simpa using g2)
      · cases hh
    · cases hh
theorem handS_ok {h : Nat → Option Blk} {s s' : S} {al : Al} {hpA : Hp} {k k' : Nat} {used : List Nat} {hp : Hp} (o : Own w (okI w0 ok0 w loc) loc m h k al hpA) (hh : handS h m (al.map (·.2)) k s = some (s', used, k', hp)) :
    ∃ al', AlLe al al' ∧ used = al'.map (·.2) ∧ Own w (okI w0 ok0 w loc) loc m h k' al' (hpA ++ hp) ∧ ∀ x, RS w (okI w0 ok0 w loc) loc s x → ∀ (alF : Al) (okF : Nat → Prop), AlLe al' alF → (∀ b, okI w0 ok0 w loc b → okF b) → RS0 w okF (aL m alF loc) s' x := by
  have hone : ∀ {v : V}, (match handVs h m (al.map (·.2)) k [v] with | some ([v'], used', k', hp) => some (S.one v', used', k', hp) | _ => none) = some (s', used, k', hp) → ∃ al', AlLe al al' ∧ used = al'.map (·.2) ∧ Own w (okI w0 ok0 w loc) loc m h k' al' (hpA ++ hp) ∧ ∀ x, RS w (okI w0 ok0 w loc) loc (.one v) x → ∀ (alF : Al) (okF : Nat → Prop), AlLe al' alF → (∀ b, okI w0 ok0 w loc b → okF b) → RS0 w okF (aL m alF loc) s' x := by
    intro v he
    split at he
    · rename_i v' used' k2 hp' h1
      cases he
      obtain ⟨al', a1, a2, a3, a4⟩ := handVs_ok [v] [v'] al hpA k k' used hp o h1
      refine ⟨al', a1, a2, a3, fun x hv alF okF c1 c2 => (a4 [x] ⟨rfl, fun j v0 c g1 g2 => ?_⟩ alF okF c1 c2).2 0 v' x rfl rfl⟩
      cases j with
      | zero => simp at g1 g2; subst g1; subst g2; exact hv
      | succ j => simp at g1
    · cases he
  cases s with
  | one v =>
    cases v with
    | ref t i j =>
      simp only [handS] at hh
      split at hh
      · rename_i ht
        cases hh
        refine ⟨al, AlLe.refl al, rfl, by rw [List.append_nil]; exact o, fun x hv alF okF _ h2 => RV.mono (w := w) (w' := w) (v := .ref t i j) hv (fun b hb => ⟨h2 b hb, rfl⟩) fun q l hq hl => ?_⟩
        cases hq
        unfold aL
        rw [if_pos ht]
        exact hl
      · rename_i htm
        split at hh
        · rename_i hij
          obtain ⟨rfl, rfl⟩ := hij
          split at hh
          · rename_i vs hvs
            split at hh
            · rename_i vs' used' k2 hp' h1
              split at hh
              · rename_i hu
                cases hh
                obtain ⟨al', a1, a2, a3, a4⟩ := handVs_ok vs vs' al hpA k k2 used' hp' o h1
                have hnot : t ∉ al'.map (·.2) := by rw [← a2]; simpa using hu
                have hle : AlLe al' ((k2, t) :: al') := by
                  intro q s hq
                  have := (a3.lt q s hq).2
                  simp only [look]
                  rw [if_neg (by omega)]
                  exact hq
                obtain ⟨h3, h4⟩ := a3.add (B := .box vs') (by omega) hnot hvs (.inr ⟨vs, vs', rfl, rfl, a4.mono hle⟩)
                refine ⟨(k2, t) :: al', a1.trans h4, by rw [a2]; rfl, by rw [← List.append_assoc]; exact h3, fun x hv alF okF c1 c2 => ?_⟩
                have h5 : look alF k2 = some t := c1 k2 t (by simp only [look, if_true])
                have h6 : aL m alF loc k2 = loc t := by unfold aL; rw [if_neg (by have := a3.ge; omega), h5]
                have hv' : RV w (okI w0 ok0 w loc) loc (.ref t 0 0) x := hv
                rcases hv' with ⟨b, g1, g2, g3⟩ | ⟨b, el, e, cap, g1, g3⟩
                · exact .inl ⟨b, by rw [h6]; exact g1, rfl, g3⟩
                · exact .inr ⟨b, el, e, cap, by rw [h6]; exact g1, g3⟩
              · cases hh
            · cases hh
          · cases hh
        · cases hh
    | _ => exact hone hh
  | agg vs =>
    simp only [handS] at hh
    split at hh
    · rename_i vs' used' k2 hp' h1
      cases hh
      obtain ⟨al', a1, a2, a3, a4⟩ := handVs_ok vs vs' al hpA k k' used hp o h1
      refine ⟨al', a1, a2, a3, fun x hv alF okF c1 c2 => ?_⟩
      obtain ⟨cs, rfl, hr⟩ := hv
      exact ⟨cs, rfl, a4 _ hr alF okF c1 c2⟩
    · cases hh
  | undef => cases hh
  | tup xs => cases hh
theorem handSs_ok {h : Nat → Option Blk} : ∀ (l l' : List S) (al : Al) (hpA : Hp) (k k' : Nat) (used : List Nat) (hp : Hp), Own w (okI w0 ok0 w loc) loc m h k al hpA → handSs h m (al.map (·.2)) k l = some (l', used, k', hp) →
    ∃ al', AlLe al al' ∧ used = al'.map (·.2) ∧ Own w (okI w0 ok0 w loc) loc m h k' al' (hpA ++ hp) ∧ l'.length = l.length ∧ ∀ (xs : List Value), (∀ (j : Nat) s x, l[j]? = some s → xs[j]? = some x → RS w (okI w0 ok0 w loc) loc s x) → ∀ (alF : Al) (okF : Nat → Prop), AlLe al' alF → (∀ b, okI w0 ok0 w loc b → okF b) → ∀ (j : Nat) s x, l'[j]? = some s → xs[j]? = some x → RS0 w okF (aL m alF loc) s x
  | [], l', al, hpA, k, k', used, hp, o, hh => by
    cases hh
    exact ⟨al, AlLe.refl al, rfl, by rw [List.append_nil]; exact o, rfl, fun xs _ alF okF _ _ j s x h => by cases h⟩
  | s :: r, l', al, hpA, k, k', used, hp, o, hh => by
    simp only [handSs] at hh
    split at hh
    · rename_i s1 used1 k1 hp1 h1
      split at hh
      · rename_i r1 used2 k2 hp2 h2
        cases hh
        obtain ⟨al1, a1, a2, a3, a4⟩ := handS_ok o h1
        subst a2
        obtain ⟨al2, b1, b2, b3, b5, b4⟩ := handSs_ok r r1 al1 (hpA ++ hp1) k1 k' used hp2 a3 h2
        refine ⟨al2, a1.trans b1, b2, by rw [← List.append_assoc]; exact b3, by simp [b5], fun xs hv alF okF c1 c2 j s' x' g1 g2 => ?_⟩
        cases xs with
        | nil => simp at g2
        | cons x q =>
          cases j with
          | zero => simp at g1 g2; subst g1; subst g2; exact a4 _ (hv 0 s _ rfl rfl) alF okF (b1.trans c1) c2
          | succ j => exact b4 q (fun j s x g1 g2 => hv (j + 1) s x (by simpa using g1) (by simpa using g2)) alF okF c1 c2 j s' x' (by simpa using g1) (by simpa using g2)
      · cases hh
    · cases hh
/-- What was handed in. -/
theorem handBs_ok {h : Nat → Option Blk} : ∀ (l : List Nat) (al : Al) (hpA : Hp) (k : Nat) (used : List Nat) (hpE hpN : Hp), used = al.map (·.2) → Own w (okI w0 ok0 w loc) loc m h k al hpA → handBs h m used k l = some (hpE, hpN) →
    ∃ al' k', AlLe al al' ∧ Own w (okI w0 ok0 w loc) loc m h k' al' (hpA ++ hpN) ∧ (∀ s, (look hpE s).isSome = true ↔ s ∈ l ∧ (h s).isSome = true) ∧ ∀ s B, look hpE s = some B → ∃ B0, h s = some B0 ∧ ((∃ el e xs, B0 = .rows el e xs ∧ B = .rows el e xs) ∨ ∃ vs vs', B0 = .box vs ∧ B = .box vs' ∧ Seen w (okI w0 ok0 w loc) loc m al' vs vs')
  | [], al, hpA, k, used, hpE, hpN, hu, o, hh => by
    cases hh
    exact ⟨al, k, AlLe.refl al, by rw [List.append_nil]; exact o, fun s => by simp [look], fun s B h => by cases h⟩
  | t :: r, al, hpA, k, used, hpE, hpN, hu, o, hh => by
    simp only [handBs] at hh
    split at hh
    · rename_i vs hvs
      split at hh
      · rename_i vs' used' k' hpN1 h1
        split at hh
        · rename_i hpE2 hpN2 h2
          cases hh
          subst hu
          obtain ⟨al1, a1, a2, a3, a4⟩ := handVs_ok vs vs' al hpA k k' used' hpN1 o h1
          obtain ⟨al2, k2, b1, b2, b3, b4⟩ := handBs_ok r al1 (hpA ++ hpN1) k' used' hpE2 hpN2 a2 a3 h2
          refine ⟨al2, k2, a1.trans b1, by rw [← List.append_assoc]; exact b2, fun s => ?_, fun s B hs => ?_⟩
          · simp only [look]
            by_cases hts : t = s
            · subst hts; rw [if_pos rfl]; simp [hvs]
            · rw [if_neg hts, b3, List.mem_cons]
              simp [show ¬ s = t from fun e => hts e.symm]
          · simp only [look] at hs
            split at hs
            · rename_i e; subst e; cases hs
              exact ⟨_, hvs, .inr ⟨vs, vs', rfl, rfl, a4.mono b1⟩⟩
            · exact b4 s B hs
        · cases hh
      · cases hh
    · rename_i el e xs hxs
      split at hh
      · rename_i hpE2 hpN2 h2
        cases hh
        obtain ⟨al2, k2, b1, b2, b3, b4⟩ := handBs_ok r al hpA k used hpE2 hpN hu o h2
        refine ⟨al2, k2, b1, b2, fun s => ?_, fun s B hs => ?_⟩
        · simp only [look]
          by_cases hts : t = s
          · subst hts; rw [if_pos rfl]; simp [hxs]
          · rw [if_neg hts, b3, List.mem_cons]
            simp [show ¬ s = t from fun e => hts e.symm]
        · simp only [look] at hs
          split at hs
          · rename_i e'; subst e'; cases hs
            exact ⟨_, hxs, .inl ⟨el, e, xs, rfl, rfl⟩⟩
          · exact b4 s B hs
      · cases hh
    · rename_i hn
      obtain ⟨al2, k2, b1, b2, b3, b4⟩ := handBs_ok r al hpA k used hpE hpN hu o hh
      refine ⟨al2, k2, b1, b2, fun s => ?_, b4⟩
      rw [b3, List.mem_cons]
      constructor
      · exact fun h => ⟨.inr h.1, h.2⟩
      · rintro ⟨rfl | h1, h2⟩
        · rw [hn] at h2; cases h2
        · exact ⟨h1, h2⟩

theorem mem_upTo {s : Nat} : ∀ {n k : Nat}, s ∈ upTo k n ↔ k ≤ s ∧ s < k + n
  | 0, k => by simp [upTo]
  | n + 1, k => by
    unfold upTo
    rw [List.mem_cons, mem_upTo]
    omega
/-- The answer, handed over. -/
theorem hand_ok (I : Inv n Γ w0 ok0 loc st a w) (hm : m ≤ 64) {l : List S} {xs : List Value} (hl : l.length = xs.length) (hv : ∀ (j : Nat) s x, l[j]? = some s → xs[j]? = some x → RS w (okI w0 ok0 w loc) loc s x) {r : S} {hp : Hp} (h : hand m (look st.hp) l = some (r, hp)) :
    ∃ loc', HpRel Γ.own w0.heap.size w (okI w0 ok0 w loc') loc' hp ∧ RS w (okI w0 ok0 w loc') loc' r (if h : xs.toArray.size = 1 then xs.toArray[0] else .tuple xs.toArray) ∧ ∀ s, s < m → loc' s = loc s := by
  unfold hand at h
  split at h
  case h_2 => cases h
  rename_i l' used k hpR h1
  split at h
  case h_2 => cases h
  rename_i hpE hpN h2
  cases h
  have hO : Own w (okI w0 ok0 w loc) loc m (look st.hp) (if m = 0 then 0 else 64) [] [] := ⟨by split <;> omega, fun q s h => (by cases h), fun q s h => (by cases h), fun q => rfl, fun q s B h => (by cases h), fun q q' s h => (by cases h)⟩
  obtain ⟨al1, a1, a2, a3, a5, a4⟩ := handSs_ok l l' [] [] _ k used hpR hO h1
  obtain ⟨al, k', b1, b2, b3, b4⟩ := handBs_ok (upTo 0 m) al1 ([] ++ hpR) k used hpE hpN a2 a3 h2
  rw [List.nil_append] at b2
  have hinv : ∀ q l, aL m al loc q = some l → ∃ s, loc s = some l ∧ ((q < m ∧ s = q) ∨ (m ≤ q ∧ m ≤ s ∧ look al q = some s)) := by
    intro q l hq
    unfold aL at hq
    split at hq
    · exact ⟨q, hq, .inl ⟨‹_›, rfl⟩⟩
    · split at hq
      · rename_i s hs
        exact ⟨s, hq, .inr ⟨by omega, b2.ne q s hs, hs⟩⟩
      · cases hq
  have hok : ∀ b, okI w0 ok0 w loc b → okI w0 ok0 w (aL m al loc) b := fun b hb => ⟨hb.1, hb.2.1, fun q l hq => by
    obtain ⟨s, h2, _⟩ := hinv q l hq
    exact hb.2.2 s l h2⟩
  have hbox : ∀ {b : Nat} {vs vs' : List V}, HB w (okI w0 ok0 w loc) loc (.box b) (.box vs) → Seen w (okI w0 ok0 w loc) loc m al vs vs' → HB w (okI w0 ok0 w (aL m al loc)) (aL m al loc) (.box b) (.box vs') := by
    intro b vs vs' hb hs
    obtain ⟨cs, el, g1, g2⟩ := hb
    exact ⟨cs, el, g1, hs _ g2 al _ (AlLe.refl al) hok⟩
  have hnoE : ∀ q, m ≤ q → look hpE q = none := by
    intro q hq
    cases h3 : look hpE q with
    | none => rfl
    | some B =>
      have := (b3 q).1 (by rw [h3]; rfl)
      have := mem_upTo.1 this.1
      omega
  refine ⟨aL m al loc, ⟨fun q => ?_, fun q l B g1 g2 => ?_, fun q q' l l' b g1 g2 g3 g4 => ?_, fun q l b g1 g2 => ?_⟩, ?_, fun s hs => by unfold aL; rw [if_pos hs]⟩
  · rw [look_append]
    unfold aL
    by_cases hq : q < m
    · rw [if_pos hq, I.hp.dom]
      cases h3 : look st.hp q with
      | some B0 =>
        have h4 := (b3 q).2 ⟨mem_upTo.2 ⟨Nat.zero_le _, by omega⟩, by rw [h3]; rfl⟩
        cases h5 : look hpE q with
        | some B => rfl
        | none => rw [h5] at h4; cases h4
      | none =>
        have h4 : look hpE q = none := by
          cases h5 : look hpE q with
          | none => rfl
          | some B => have := (b3 q).1 (by rw [h5]; rfl); rw [h3] at this; cases this.2
        rw [h4]
        have h5 := b2.dom q
        cases h6 : look al q with
        | some s => have := (b2.lt q s h6).1; omega
        | none => rw [h6] at h5; exact h5
    · rw [if_neg hq, hnoE q (by omega)]
      dsimp only
      rw [← b2.dom q]
      cases h3 : look al q with
      | none => rfl
      | some s =>
        have h5 := b2.dom q
        rw [h3] at h5
        cases h6 : look (hpR ++ hpN) q with
        | none => rw [h6] at h5; cases h5
        | some B =>
          obtain ⟨B0, h7, _⟩ := b2.blk q s B h3 h6
          dsimp only
          rw [I.hp.dom, h7]; rfl
  · rw [look_append] at g2
    obtain ⟨s, g3, g4⟩ := hinv q l g1
    rcases g4 with ⟨g4, rfl⟩ | ⟨g4, g5, g6⟩
    · cases h3 : look hpE s with
      | none =>
        exfalso
        rw [h3] at g2
        have h5 := b2.dom s
        rw [show look (hpR ++ hpN) s = some B from g2] at h5
        cases h6 : look al s with
        | none => rw [h6] at h5; cases h5
        | some t => have := (b2.lt s t h6).1; omega
      | some B' =>
        rw [h3] at g2
        cases g2
        obtain ⟨B0, h4, h5⟩ := b4 s B h3
        have hb := I.hp.blk s l B0 g3 h4
        rcases h5 with ⟨el, e, ys, rfl, rfl⟩ | ⟨vs, vs', rfl, rfl, h6⟩
        · exact hb.mono (fun b hb => ⟨hok b hb, rfl⟩) (fun _ _ => rfl) (fun t m' ht => by cases ht)
        · cases l with
          | virt => exact hb.elim
          | rows b el e cap => exact hb.elim
          | box b => exact hbox hb h6
    · rw [hnoE q g4] at g2
      obtain ⟨B0, h4, h5⟩ := b2.blk q s B g6 g2
      have hb := I.hp.blk s l B0 g3 h4
      rcases h5 with ⟨el, e, ys, len, rfl, rfl⟩ | ⟨vs, vs', rfl, rfl, h6⟩
      · cases l with
        | virt =>
          have : ys = [] := hb
          subst this
          show List.take len [] = []
          simp
        | box b => exact hb
        | rows b el' e' cap =>
          obtain ⟨k1, k2, k3, k4, k5, cs, k6, k7, k8⟩ := hb
          refine ⟨k1, k2, k3, by rw [List.length_take]; omega, fun x hx => k5 x (List.mem_of_mem_take hx), cs, k6, k7, fun i j x p a1 a2 => ?_⟩
          rw [List.getElem?_take] at a1
          split at a1
          · obtain ⟨u, hu, hr⟩ := k8 i j x p a1 a2
            exact ⟨u, hu, hr.mono fun b hb => ⟨hok b hb, rfl⟩⟩
          · cases a1
      · cases l with
        | virt => exact hb.elim
        | rows b el e cap => exact hb.elim
        | box b => exact hbox hb h6
  · obtain ⟨s, e1, e2⟩ := hinv q l g1
    obtain ⟨s', e3, e4⟩ := hinv q' l' g2
    have := I.hp.inj s s' l l' b e1 e3 g3 g4
    subst this
    rcases e2 with ⟨e5, e6⟩ | ⟨e5, e6, e7⟩ <;> rcases e4 with ⟨e8, e9⟩ | ⟨e8, e9, e10⟩
    · rw [← e6, ← e9]
    · omega
    · omega
    · exact b2.inj q q' s e7 e10
  · obtain ⟨s, e1, _⟩ := hinv q l g1
    exact I.hp.lo s l b e1 g2
  · have hcell := a4 xs hv al _ b1 hok
    unfold one1
    split
    · rename_i s
      have hx1 : xs.length = 1 := by rw [← hl, ← a5]; rfl
      match xs, hx1, hcell with
      | [x], _, hc => exact (hc 0 s x rfl rfl).rs
    · rename_i hno
      have hx1 : xs.length ≠ 1 := by
        intro hx
        have h2 : l'.length = 1 := by rw [a5, hl, hx]
        match l', h2 with
        | [s], _ => exact hno s rfl
      rw [dif_neg (by simpa using hx1)]
      exact ⟨_, rfl, by simp [a5, hl], fun j s u g1 g2 => hcell j s u g1 (by simpa using g2)⟩

/-! ### Functions -/
def resT (P : Program) : List ResultVar → List R → Bool
  | [], [] => true
  | .tmp t :: r, .t t' :: q => t == t' && resT P r q
  | .cell p ty :: r, .c p' m ag :: q => p == p' && agT P ty ag m && resT P r q
  | _, _ => false
def chkF (P : Program) (fn : Func) (F : F) : Bool := match fn.body with
  | some c => decide (F.np ≤ F.nt) && (fn.ntmps == F.nt) && chkC P F.nt F.body c && resT P fn.results.toList F.res
  | none => false
theorem run_results (I : Inv n Γ w0 ok0 loc st a w) : ∀ (rs : List ResultVar) (q : List R) (l : List S), resT P rs q = true → Rs.ev st q = some l → ∃ xs : List Value, (rs.mapM fun
    | .tmp t => (pure (a.tmps.getD t undef) : Sem Value)
    | .cell p t => do loadVar t (← asAddr (a.tmps.getD p undef)) : Sem (List Value)).run P w = .ok xs w ∧ l.length = xs.length ∧ ∀ (j : Nat) s x, l[j]? = some s → xs[j]? = some x → RS w (okI w0 ok0 w loc) loc s x
  | [], [], l, _, h => by cases h; exact ⟨[], rfl, rfl, fun j s x h => by cases h⟩
  | .tmp t :: r, .t t' :: q, l, hc, h => by
    simp only [resT, Bool.and_eq_true, beq_iff_eq] at hc
    obtain ⟨rfl, hc⟩ := hc
    simp only [Rs.ev] at h
    split at h
    · rename_i v hv
      split at h
      · rename_i q' hq
        cases h
        obtain ⟨xs, g1, g2, g3⟩ := run_results I r q q' hc hq
        refine ⟨a.tmps.getD t undef :: xs, ?_, by simp [g2], fun j s x a1 a2 => ?_⟩
        · rw [List.mapM_cons]
          simp only [Sem.run_bind, Sem.run_pure, Result.andThen_ok, g1]
        · cases j with
          | zero => simp at a1 a2; subst a1; subst a2; exact (by simpa using (I.sl t v hv).2)
          | succ j => exact g3 j s x (by simpa using a1) (by simpa using a2)
      · cases h
    · cases h
  | .cell p ty :: r, .c p' m ag :: q, l, hc, h => by
    simp only [resT, Bool.and_eq_true, beq_iff_eq] at hc
    obtain ⟨⟨rfl, hag⟩, hc⟩ := hc
    obtain ⟨k1, k2⟩ := agT_spec hag
    simp only [Rs.ev] at h
    split at h
    · rename_i v hv
      split at h
      · rename_i q' hq
        cases h
        obtain ⟨xs, g1, g2, g3⟩ := run_results I r q q' hc hq
        simp only [R.ev] at hv
        split at hv
        · rename_i pv hp
          split at hv
          · rename_i vs hvs
            obtain ⟨ad, c1, c2, c3⟩ := rd_spec (w := w) (I.hok fun _ _ h => h) hvs (I.sl p _ hp).2
            obtain ⟨u, hu, hr⟩ := run_loadVar (P := P) (w := w) k1 k2 c2 hv c3
            refine ⟨u :: xs, ?_, by simp [g2], fun j s x a1 a2 => ?_⟩
            · rw [List.mapM_cons]
              have hA : (asAddr (.pointer (some ad))).run P w = .ok ad w := rfl
              simp only [Sem.run_bind, c1, hA, Sem.run_pure, Result.andThen_ok, hu, g1]
            · cases j with
              | zero => simp at a1 a2; subst a1; subst a2; exact hr
              | succ j => exact g3 j s x (by simpa using a1) (by simpa using a2)
          · cases hv
        · cases hv
      · cases h
    · cases h
  | [], _ :: _, _, hc, _ => by cases hc
  | .tmp _ :: _, [], _, hc, _ => by cases hc
  | .cell _ _ :: _, [], _, hc, _ => by cases hc
  | .tmp _ :: _, .c _ _ _ :: _, _, hc, _ => by cases hc
  | .cell _ _ :: _, .t _ :: _, _, hc, _ => by cases hc

theorem params_look : ∀ (args : List S) (k t : Nat) (s : S), look (params k args) t = some s → k ≤ t ∧ t < k + args.length ∧ args[t - k]? = some s
  | [], k, t, s, h => by cases h
  | x :: r, k, t, s, h => by
    simp only [params, look] at h
    split at h
    · rename_i e
      subst e
      cases h
      exact ⟨Nat.le_refl _, by simp, by simp⟩
    · obtain ⟨h1, h2, h3⟩ := params_look r (k + 1) t s h
      refine ⟨by omega, by simp; omega, ?_⟩
      rw [show t - k = (t - (k + 1)) + 1 by omega, List.getElem?_cons_succ]
      exact h3

theorem decH_keys : ∀ {l : List S} {k : Nat} {h : Hp} {s : Nat}, decH k l = some h → (look h s).isSome = true → k ≤ s ∧ s < k + h.length
  | [], k, h, s, hd, hs => by cases hd; cases hs
  | x :: r, k, h, s, hd, hs => by
    simp only [decH] at hd
    split at hd
    · split at hd
      · rename_i B hB q hq
        cases hd
        simp only [look] at hs
        simp only [List.length_cons]
        split at hs
        · omega
        · have := decH_keys hq hs; omega
      · cases hd
    · cases hd
theorem splitA_keys : ∀ {args as : List S} {h : Hp} {s : Nat}, splitA args = some (as, h) → (look h s).isSome = true → s < h.length
  | [], as, h, s, hs, hl => by cases hs; cases hl
  | x :: r, as, h, s, hs, hl => by
    cases x with
    | tup l =>
      simp only [splitA] at hs
      split at hs
      · split at hs
        · rename_i q hq
          cases hs
          have := decH_keys hq hl
          omega
        · cases hs
      · cases hs
    | undef =>
      simp only [splitA] at hs
      split at hs
      · rename_i as' h' hq; cases hs; exact splitA_keys hq hl
      · cases hs
    | one v =>
      simp only [splitA] at hs
      split at hs
      · rename_i as' h' hq; cases hs; exact splitA_keys hq hl
      · cases hs
    | agg v =>
      simp only [splitA] at hs
      split at hs
      · rename_i as' h' hq; cases hs; exact splitA_keys hq hl
      · cases hs
/-- **A function whose text is checked answers as the evaluator tells.** -/
theorem sound_of {f : FuncId} {fn : Func} (fd : F) (hf : P.funcs[f]? = some fn) (hname : (fn.name == "runtime.NumGoroutine") = false) (hc : chkF P fn fd = true) (hE : ∀ f, Sound P f (E f)) {m : Model} (hm : ∀ args r, m args = some r → ∃ N, fd.ev E N args = some r) : Sound P f m := by
  intro args r hp hr as h0 hsp w ok0 loc0 vs hgl hok hHp hargs
  obtain ⟨N, he⟩ := hm args _ hr
  unfold chkF at hc
  split at hc
  · rename_i c hb
    simp only [Bool.and_eq_true, beq_iff_eq, decide_eq_true_eq] at hc
    obtain ⟨⟨⟨h1, h2⟩, h3⟩, h4⟩ := hc
    refine ⟨by unfold fnOk; rw [hf]; simp [hname, hb], ?_⟩
    unfold F.ev at he
    rw [hsp] at he
    dsimp only at he
    split at he
    · rename_i hlen'
      obtain ⟨hlen, h64⟩ := hlen'
      have hvl : vs.size = as.length := by have := hargs.1; simpa using this.symm
      obtain ⟨Γ, hΓ⟩ : ∃ Γ : Ent, Γ = ⟨ownL loc0, fun s => match loc0 s with | some (.box b) => some b | _ => none⟩ := ⟨_, rfl⟩
      have hown : Γ.own = ownL loc0 := by rw [hΓ]
      have hkey : ∀ s l, loc0 s = some l → s < h0.length := fun s l hs => splitA_keys hsp (by rw [← hHp.dom, hs]; rfl)
      have hlb : ∀ s b, Γ.lb s = some b ↔ loc0 s = some (.box b) := by
        intro s b
        rw [hΓ]
        dsimp only
        split
        · rename_i b' hb'
          rw [hb']
          constructor
          · intro h; cases h; rfl
          · intro h; cases h; rfl
        · rename_i hno
          constructor
          · intro h; cases h
          · intro h; exact absurd h (hno b)
      have hoks : ∀ b, ok0 b → okI w (fun b => ok0 b ∨ ownL loc0 b) w loc0 b := fun b hb => ⟨.inl (.inl hb), (hok b hb).1, fun s l hs hl => (hok b hb).2 ⟨s, l, hs, hl⟩⟩
      have I : Inv fd.nt Γ w (fun b => ok0 b ∨ ownL loc0 b) loc0 ⟨params 0 as, h0⟩ { tmps := vs ++ Array.replicate (fn.ntmps - vs.size) undef, defers := [] } w := by
        refine ⟨Frm.refl _ _, ⟨fun b hb => hb.elim (fun h => (hok b h).1) (fun ⟨s, l, h5, h6⟩ => (hHp.lo s l b h5 h6).2), by rw [hown]; exact hgl⟩, ⟨hHp.dom, fun s l B h5 h6 => (hHp.blk s l B h5 h6).mono (fun b hb => ⟨hoks b hb, rfl⟩) (fun _ _ => rfl) (fun _ _ _ h => h), hHp.inj, fun s l b h5 h6 => by rw [hown]; exact hHp.lo s l b h5 h6⟩, fun b hb => .inr (by rw [← hown]; exact hb), fun s b hs => ?_, by simp; omega, fun t s h => ?_, rfl⟩
        · have h5 := (hlb s b).1 hs
          exact ⟨by have := hkey s _ h5; omega, h5⟩
        · obtain ⟨k1, k2, k3⟩ := params_look as 0 t s h
          simp only [Nat.sub_zero, Nat.zero_add] at k2 k3
          have ht : t < vs.size := by omega
          refine ⟨by omega, ?_⟩
          have h5 := hargs.2 t s vs[t] k3 (by simp [ht])
          have h6 : (vs ++ Array.replicate (fn.ntmps - vs.size) undef).getD t undef = vs[t] := by
            rw [Array.getD_eq_getD_getElem?, Array.getElem?_append_left ht]
            simp [ht]
          show RS w _ _ s ((vs ++ Array.replicate (fn.ntmps - vs.size) undef).getD t undef)
          rw [h6]
          exact (h5.rs).mono (fun b hb => ⟨hoks b hb, rfl⟩) (fun t l _ h => h)
      refine calls_of_wp hf hb ?_
      have hpost : ∀ (st : St) (out : Out), (match Rs.ev st fd.res with | some l => hand h0.length (look st.hp) l | none => none) = some (r, hp) → (out = .norm ∨ out = .ret) → ∀ a' w' loc', Inv fd.nt Γ w (fun b => ok0 b ∨ ownL loc0 b) loc' st a' w' →
          bodyPost P fn (fun e w' => ∃ v loc, e = .returned v ∧ Frm (ownL loc0) w w' ∧ HpRel (ownL loc0) w.heap.size w' (okI w (fun b => ok0 b ∨ ownL loc0 b) w' loc) loc hp ∧ RS w' (okI w (fun b => ok0 b ∨ ownL loc0 b) w' loc) loc r v ∧ ∀ s b, loc0 s = some (.box b) → loc s = some (.box b)) out.ex a' w' := by
        intro st out hh ho a' w' loc' I'
        split at hh
        · rename_i l hl
          obtain ⟨xs, g1, g2, g3⟩ := run_results (P := P) I' fn.results.toList fd.res l h4 hl
          obtain ⟨loc2, k1, k2, k3⟩ := hand_ok I' h64 g2 g3 hh
          rw [hown] at k1
          have hres : (results fn a'.tmps).run P w' = .ok (if h : xs.toArray.size = 1 then xs.toArray[0] else .tuple xs.toArray) w' := by
            unfold results
            rw [Array.mapM_eq_mapM_toList, Sem.run_bind, Sem.run_map]
            exact (congrArg (fun r : Result (List Value) => (r.andThen fun a w' => Result.ok a.toArray w').andThen fun a w' => Sem.run P (pure (if h : a.size = 1 then a[0] else Value.tuple a)) w') g1).trans rfl
          have : a'.defers = [] ∧ ∃ v, (results fn a'.tmps).run P w' = .ok v w' ∧ ∃ v_1 loc, Ending.returned v = .returned v_1 ∧ Frm (ownL loc0) w w' ∧ HpRel (ownL loc0) w.heap.size w' (okI w (fun b => ok0 b ∨ ownL loc0 b) w' loc) loc hp ∧ RS w' (okI w (fun b => ok0 b ∨ ownL loc0 b) w' loc) loc r v_1 ∧ ∀ s b, loc0 s = some (.box b) → loc s = some (.box b) :=
            ⟨I'.df, _, hres, _, loc2, rfl, by rw [← hown]; exact I'.below, k1, k2, fun s b hs => by rw [k3 s (hkey s _ hs)]; exact (I'.bx s b ((hlb s b).2 hs)).2⟩
          rcases ho with rfl | rfl <;> exact this
        · cases hh
      split at he
      · rename_i st hev
        exact code_ok hE fd.body c _ st .norm _ _ w _ h3 I hev (hpost st .norm he (.inl rfl))
      · rename_i st hev
        exact code_ok hE fd.body c _ st .ret _ _ w _ h3 I hev (hpost st .ret he (.inr rfl))
      · cases he
    · cases he
  · cases hc
/-- One slice that may be nil, or empty: told for each of them. -/
theorem sound_nil {f : FuncId} {E : Nat → Model} {fd : F} (hs : ∀ m : Model, (∀ args r, m args = some r → ∃ N, fd.ev E N args = some r) → Sound P f m) {r : S × Hp} (h : ∀ A c, ∃ N, fd.ev E N [.one (.k (.slice A 0 c))] = some r) : Sound P f fun
    | [.one (.row [])] => some r
    | _ => none := by
  intro args r' hp hr as h0 hsp w ok0 loc0 vs hgl hok hHp hargs
  dsimp only at hr
  split at hr
  · cases hr
    cases hsp
    obtain ⟨h1, h2⟩ := hargs
    have hv : ∃ x, vs.toList = [x] := by
      match hq : vs.toList, h1 with
      | [x], _ => exact ⟨x, rfl⟩
    obtain ⟨x, hx⟩ := hv
    have h3 := h2 0 _ x rfl (by rw [hx]; rfl)
    cases (h3 : Rep w ok0 (.row []) x) with
    | row0 A c =>
      have := hs (fun args => if args.length = 1 then fd.ev E (h A c).choose args else none) (fun args r hr => by
        split at hr
        · exact ⟨_, hr⟩
        · cases hr) [.one (.k (.slice A 0 c))] r' hp (by dsimp only; rw [if_pos (by rfl)]; exact (h A c).choose_spec) _ [] rfl w ok0 loc0 vs hgl hok hHp ⟨by rw [hx]; rfl, fun j s u a1 a2 => ?_⟩
      · exact this
      · rw [hx] at a2
        cases j with
        | zero => simp at a1 a2; subst a1; subst a2; exact Rep.k rfl
        | succ j => simp at a1
    | row u hn hne => simp at hn; omega
  · cases hr
end
end Go.Proofs.YtgjacdfiilcaaaaR
