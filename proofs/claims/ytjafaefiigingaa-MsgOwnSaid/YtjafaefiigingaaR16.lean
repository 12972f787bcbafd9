/- A function: its answer handed over; the evaluator's answer is the function's. -/
import Derived.Test.YtjafaefiigingaaR15
set_option linter.unusedVariables false
set_option linter.unusedSimpArgs false
namespace Go.Proofs.YtjafaefiigingaaR
open Go Go.RowKit

abbrev Al := List (Nat × Nat)
/-- The caller's sites, and the sites that they were here. -/
def aL (al : Al) (loc : Locs) : Locs := fun k => match look al k with
  | some s => loc s
  | none => none
section
variable {P : Program} {n : Nat} {w0 : World} {ok0 : Nat → Prop} {loc : Locs} {st st' : St} {a : Act} {w : World} {E : Nat → Model}

/-- What has been handed over so far. -/
structure Own (h : Nat → Option Blk) (k : Nat) (al : Al) (hp : Hp) : Prop where
  lt : ∀ q s, look al q = some s → q < k
  dom : ∀ q, (look al q).isSome = (look hp q).isSome
  blk : ∀ q s B, look al q = some s → look hp q = some B → ∃ el e xs len, h s = some (.rows el e xs) ∧ B = .rows el e (xs.take len)
  inj : ∀ q q' s, look al q = some s → look al q' = some s → q = q'
/-- More is handed over. -/
def AlLe (al al' : Al) : Prop := ∀ q s, look al q = some s → look al' q = some s
theorem Own.mono {h : Nat → Option Blk} {k k' : Nat} {al : Al} {hp : Hp} (o : Own h k al hp) (hk : k ≤ k') : Own h k' al hp := ⟨fun q s hq => Nat.lt_of_lt_of_le (o.lt q s hq) hk, o.dom, o.blk, o.inj⟩
theorem mem_snd {al : Al} {q s : Nat} (h : look al q = some s) : s ∈ al.map (·.2) := List.mem_map.2 ⟨(q, s), look_mem _ _ _ h, rfl⟩

theorem handV_ok (hst : HOk w (okI w0 ok0 w loc) loc (look st.hp)) {al : Al} {hpA : Hp} {k : Nat} (o : Own (look st.hp) k al hpA) {v v' : V} {used : List Nat} {hp : Hp} {x : Value} (hv : RV w (okI w0 ok0 w loc) loc v x) (h : handV (look st.hp) (al.map (·.2)) k v = some (v', used, hp)) :
    ∃ al', AlLe al al' ∧ used = al'.map (·.2) ∧ Own (look st.hp) (k + 1) al' (hpA ++ hp) ∧ ∀ (alF : Al) (okF : Nat → Prop), AlLe al' alF → (∀ b, okI w0 ok0 w loc b → okF b) → RV w okF (aL alF loc) v' x := by
  have hpure : ∀ {v : V}, RV w (okI w0 ok0 w loc) loc v x → v.ment = none → some (v, al.map (·.2), ([] : Hp)) = some (v', used, hp) → ∃ al', AlLe al al' ∧ used = al'.map (·.2) ∧ Own (look st.hp) (k + 1) al' (hpA ++ hp) ∧ ∀ (alF : Al) (okF : Nat → Prop), AlLe al' alF → (∀ b, okI w0 ok0 w loc b → okF b) → RV w okF (aL alF loc) v' x := by
    intro v hv hm h
    cases h
    exact ⟨al, fun _ _ h => h, rfl, by rw [List.append_nil]; exact o.mono (Nat.le_succ k), fun alF okF _ h2 => ((rv_rep hv hm).mono fun b hb => ⟨h2 b hb, rfl⟩).rv⟩
  cases v with
  | sl s off len =>
    simp only [handV] at h
    split at h
    · rename_i hc
      obtain ⟨rfl, hu⟩ := hc
      split at h
      · rename_i el e xs hq
        split at h
        · rename_i hl
          cases h
          have hnot : s ∉ al.map (·.2) := by simpa using hu
          refine ⟨(k, s) :: al, fun q t hq => ?_, rfl, ⟨fun q t hq => ?_, fun q => ?_, fun q t B h1 h2 => ?_, fun q q' t h1 h2 => ?_⟩, fun alF okF h1 h2 => ?_⟩
          · have := o.lt q t hq
            simp only [look]
            rw [if_neg (by omega)]
            exact hq
          · simp only [look] at hq
            split at hq
            · omega
            · have := o.lt q t hq; omega
          · rw [look_append]
            simp only [look]
            by_cases hkq : k = q
            · subst hkq
              rw [if_pos rfl]
              have h3 := o.dom k
              cases h4 : look al k with
              | some t => have := o.lt k t h4; omega
              | none =>
                rw [h4] at h3
                cases h5 : look hpA k with
                | some B => rw [h5] at h3; cases h3
                | none => simp
            · rw [if_neg hkq, if_neg hkq, o.dom q]
              cases look hpA q <;> rfl
          · simp only [look] at h1
            rw [look_append] at h2
            split at h1
            · rename_i hkq
              subst hkq
              cases h1
              have h3 := o.dom k
              cases h4 : look al k with
              | some t => have := o.lt k t h4; omega
              | none =>
                rw [h4] at h3
                cases h5 : look hpA k with
                | some B => rw [h5] at h3; cases h3
                | none =>
                  rw [h5] at h2
                  simp only [look, if_true] at h2
                  cases h2
                  exact ⟨el, e, xs, len, hq, rfl⟩
            · rename_i hkq
              have h3 := o.dom q
              rw [h1] at h3
              cases h5 : look hpA q with
              | some B' => rw [h5] at h2; cases h2; exact o.blk q t _ h1 h5
              | none => rw [h5] at h3; cases h3
          · simp only [look] at h1 h2
            split at h1
            · split at h2
              · omega
              · cases h1; exact absurd (mem_snd h2) hnot
            · split at h2
              · cases h2; exact absurd (mem_snd h1) hnot
              · exact o.inj q q' t h1 h2
          · have h3 : look alF k = some s := h1 k s (by simp only [look, if_true])
            have h4 : aL alF loc k = loc s := by unfold aL; rw [h3]
            rcases hv with ⟨b, el2, e2, cap, g1, g2, g3⟩ | ⟨g1, g2, g3, g4⟩
            · exact .inl ⟨b, el2, e2, cap, by rw [h4]; exact g1, g2, g3⟩
            · exact .inr ⟨by rw [h4]; exact g1, g2, g3, g4⟩
        · cases h
      · cases h
    · cases h
  | ref s i j => cases h
  | _ => exact hpure hv rfl h

theorem handVs_ok (hst : HOk w (okI w0 ok0 w loc) loc (look st.hp)) : ∀ (vs : List V) (vs' : List V) (cs : List Value) (al : Al) (hpA : Hp) (k k' : Nat) (used : List Nat) (hp : Hp), Own (look st.hp) k al hpA → RVs w (okI w0 ok0 w loc) loc vs cs → handVs (look st.hp) (al.map (·.2)) k vs = some (vs', used, k', hp) →
    ∃ al', AlLe al al' ∧ used = al'.map (·.2) ∧ Own (look st.hp) k' al' (hpA ++ hp) ∧ ∀ (alF : Al) (okF : Nat → Prop), AlLe al' alF → (∀ b, okI w0 ok0 w loc b → okF b) → RVs w okF (aL alF loc) vs' cs
  | [], vs', cs, al, hpA, k, k', used, hp, o, hv, h => by
    cases h
    exact ⟨al, fun _ _ h => h, rfl, by rw [List.append_nil]; exact o, fun alF okF _ _ => ⟨hv.1, fun j v c h => by cases h⟩⟩
  | v :: r, vs', [], al, hpA, k, k', used, hp, o, hv, h => by cases hv.1
  | v :: r, vs', c :: q, al, hpA, k, k', used, hp, o, hv, h => by
    simp only [handVs] at h
    split at h
    · rename_i v1 used1 hp1 h1
      split at h
      · rename_i r1 used2 k2 hp2 h2
        cases h
        obtain ⟨al1, a1, a2, a3, a4⟩ := handV_ok hst o (hv.2 0 v c rfl rfl) h1
        subst a2
        obtain ⟨al2, b1, b2, b3, b4⟩ := handVs_ok hst r r1 q al1 (hpA ++ hp1) (k + 1) k' used hp2 a3 ⟨by have := hv.1; simpa using this, fun j v c g1 g2 => hv.2 (j + 1) v c (by simpa using g1) (by simpa using g2)⟩ h2
        refine ⟨al2, fun q s hq => b1 q s (a1 q s hq), b2, by rw [← List.append_assoc]; exact b3, fun alF okF c1 c2 => ?_⟩
        obtain ⟨d1, d2⟩ := b4 alF okF c1 c2
        refine ⟨by simp [d1], fun j v' c' g1 g2 => ?_⟩
        cases j with
        | zero => simp at g1 g2; subst g1; subst g2; exact a4 alF okF (fun q s hq => c1 q s (b1 q s hq)) c2
        | succ j => exact d2 j v' c' (by simpa using g1) (by simpa using g2)
      · cases h
    · cases h
theorem handS_ok (hst : HOk w (okI w0 ok0 w loc) loc (look st.hp)) {s s' : S} {x : Value} {al : Al} {hpA : Hp} {k k' : Nat} {used : List Nat} {hp : Hp} (o : Own (look st.hp) k al hpA) (hv : RS w (okI w0 ok0 w loc) loc s x) (h : handS (look st.hp) (al.map (·.2)) k s = some (s', used, k', hp)) :
    ∃ al', AlLe al al' ∧ used = al'.map (·.2) ∧ Own (look st.hp) k' al' (hpA ++ hp) ∧ ∀ (alF : Al) (okF : Nat → Prop), AlLe al' alF → (∀ b, okI w0 ok0 w loc b → okF b) → RS0 w okF (aL alF loc) s' x := by
  cases s with
  | one v =>
    simp only [handS] at h
    split at h
    · rename_i v' used' k2 hp' h1
      cases h
      obtain ⟨al', a1, a2, a3, a4⟩ := handVs_ok hst [v] [v'] [x] al hpA k k' used hp o ⟨rfl, fun j v0 c g1 g2 => by
        cases j with
        | zero => simp at g1 g2; subst g1; subst g2; exact hv
        | succ j => simp at g1⟩ h1
      exact ⟨al', a1, a2, a3, fun alF okF c1 c2 => (a4 alF okF c1 c2).2 0 v' x rfl rfl⟩
    · cases h
  | agg vs =>
    simp only [handS] at h
    split at h
    · rename_i vs' used' k2 hp' h1
      cases h
      obtain ⟨cs, rfl, hr⟩ := hv
      obtain ⟨al', a1, a2, a3, a4⟩ := handVs_ok hst vs vs' cs.toList al hpA k k' used hp o hr h1
      exact ⟨al', a1, a2, a3, fun alF okF c1 c2 => ⟨cs, rfl, a4 alF okF c1 c2⟩⟩
    · cases h
  | undef => cases h
  | tup xs => cases h
theorem handSs_ok (hst : HOk w (okI w0 ok0 w loc) loc (look st.hp)) : ∀ (l l' : List S) (xs : List Value) (al : Al) (hpA : Hp) (k k' : Nat) (used : List Nat) (hp : Hp), Own (look st.hp) k al hpA → l.length = xs.length → (∀ (j : Nat) s x, l[j]? = some s → xs[j]? = some x → RS w (okI w0 ok0 w loc) loc s x) → handSs (look st.hp) (al.map (·.2)) k l = some (l', used, k', hp) →
    ∃ al', AlLe al al' ∧ used = al'.map (·.2) ∧ Own (look st.hp) k' al' (hpA ++ hp) ∧ l'.length = l.length ∧ ∀ (alF : Al) (okF : Nat → Prop), AlLe al' alF → (∀ b, okI w0 ok0 w loc b → okF b) → ∀ (j : Nat) s x, l'[j]? = some s → xs[j]? = some x → RS0 w okF (aL alF loc) s x
  | [], l', xs, al, hpA, k, k', used, hp, o, hl, hv, h => by
    cases h
    exact ⟨al, fun _ _ h => h, rfl, by rw [List.append_nil]; exact o, rfl, fun alF okF _ _ j s x h => by cases h⟩
  | s :: r, l', [], al, hpA, k, k', used, hp, o, hl, hv, h => by cases hl
  | s :: r, l', x :: q, al, hpA, k, k', used, hp, o, hl, hv, h => by
    simp only [handSs] at h
    split at h
    · rename_i s1 used1 k1 hp1 h1
      split at h
      · rename_i r1 used2 k2 hp2 h2
        cases h
        obtain ⟨al1, a1, a2, a3, a4⟩ := handS_ok hst o (hv 0 s x rfl rfl) h1
        subst a2
        obtain ⟨al2, b1, b2, b3, b5, b4⟩ := handSs_ok hst r r1 q al1 (hpA ++ hp1) k1 k' used hp2 a3 (by simpa using hl) (fun j s x g1 g2 => hv (j + 1) s x (by simpa using g1) (by simpa using g2)) h2
        refine ⟨al2, fun q s hq => b1 q s (a1 q s hq), b2, by rw [← List.append_assoc]; exact b3, by simp [b5], fun alF okF c1 c2 j s' x' g1 g2 => ?_⟩
        cases j with
        | zero => simp at g1 g2; subst g1; subst g2; exact a4 alF okF (fun q s hq => c1 q s (b1 q s hq)) c2
        | succ j => exact b4 alF okF c1 c2 j s' x' (by simpa using g1) (by simpa using g2)
      · cases h
    · cases h

/-- The answer, handed over. -/
theorem hand_ok (I : Inv n w0 ok0 loc st a w) {l : List S} {xs : List Value} (hl : l.length = xs.length) (hv : ∀ (j : Nat) s x, l[j]? = some s → xs[j]? = some x → RS w (okI w0 ok0 w loc) loc s x) {r : S} {hp : Hp} (h : hand (look st.hp) l = some (r, hp)) :
    ∃ loc', HpRel w0.heap.size w (okI w0 ok0 w loc') loc' hp ∧ RS w (okI w0 ok0 w loc') loc' r (if h : xs.toArray.size = 1 then xs.toArray[0] else .tuple xs.toArray) := by
  have hst : HOk w (okI w0 ok0 w loc) loc (look st.hp) := I.hok fun _ _ h => h
  have hO : Own (look st.hp) 0 [] [] := ⟨fun q s h => (by cases h), fun q => rfl, fun q s B h => (by cases h), fun q q' s h => (by cases h)⟩
  -- whatever is handed over
  have fin : ∀ (al : Al) (k : Nat) (hp : Hp), Own (look st.hp) k al hp → HpRel w0.heap.size w (okI w0 ok0 w (aL al loc)) (aL al loc) hp ∧ ∀ b, okI w0 ok0 w loc b → okI w0 ok0 w (aL al loc) b := by
    intro al k hp o
    have hinv : ∀ q l, aL al loc q = some l → ∃ s, look al q = some s ∧ loc s = some l := by
      intro q l hq
      unfold aL at hq
      split at hq
      · exact ⟨_, ‹_›, hq⟩
      · cases hq
    have hok : ∀ b, okI w0 ok0 w loc b → okI w0 ok0 w (aL al loc) b := fun b hb => ⟨hb.1, hb.2.1, fun q l hq => by
      obtain ⟨s, _, h2⟩ := hinv q l hq
      exact hb.2.2 s l h2⟩
    refine ⟨⟨fun q => ?_, fun q l B h1 h2 => ?_, fun q q' l l' b h1 h2 h3 h4 => ?_, fun q l b h1 h2 => ?_⟩, hok⟩
    · rw [← o.dom q]
      unfold aL
      cases hq : look al q with
      | none => rfl
      | some s =>
        have h3 := o.dom q
        rw [hq] at h3
        cases h5 : look hp q with
        | none => rw [h5] at h3; cases h3
        | some B =>
          obtain ⟨el, e, xs, len, h6, _⟩ := o.blk q s B hq h5
          show (loc s).isSome = true
          rw [I.hp.dom, h6]; rfl
    · obtain ⟨s, g1, g2⟩ := hinv q l h1
      obtain ⟨el, e, xs, len, g3, rfl⟩ := o.blk q s B g1 h2
      have hb := I.hp.blk s l _ g2 g3
      cases l with
      | virt =>
        have : xs = [] := hb
        subst this
        show List.take len [] = []
        simp
      | box b => exact hb
      | rows b el' e' cap =>
        obtain ⟨k1, k2, k3, k4, k5, cs, k6, k7, k8⟩ := hb
        refine ⟨k1, k2, k3, by rw [List.length_take]; omega, fun x hx => k5 x (List.mem_of_mem_take hx), cs, k6, k7, fun i j x p a1 a2 => ?_⟩
        rw [List.getElem?_take] at a1
        split at a1
        · obtain ⟨u, hu, hr⟩ := k8 i j x p a1 a2
          exact ⟨u, hu, hr.mono fun b hb => ⟨hok b hb, rfl⟩⟩
        · cases a1
    · obtain ⟨s, g1, g2⟩ := hinv q l h1
      obtain ⟨s', g3, g4⟩ := hinv q' l' h2
      have := I.hp.inj s s' l l' b g2 g4 h3 h4
      subst this
      exact o.inj q q' s g1 g3
    · obtain ⟨s, g1, g2⟩ := hinv q l h1
      exact I.hp.lo s l b g2 h2
  unfold hand at h
  split at h
  · rename_i s used k hp' h1
    cases h
    obtain ⟨al, a1, a2, a3, a5, a4⟩ := handSs_ok hst l [r] xs [] [] 0 k used hp hO hl hv h1
    simp only [List.nil_append] at a3
    obtain ⟨f1, f2⟩ := fin al k hp a3
    refine ⟨aL al loc, f1, ?_⟩
    have hx1 : xs.length = 1 := by rw [← hl, ← a5]; rfl
    match xs, hx1 with
    | [x], _ => exact (a4 al _ (fun _ _ h => h) f2 0 r x rfl rfl).rs
  · rename_i l' used k hp' hno h1
    cases h
    obtain ⟨al, a1, a2, a3, a5, a4⟩ := handSs_ok hst l l' xs [] [] 0 k used hp hO hl hv h1
    simp only [List.nil_append] at a3
    obtain ⟨f1, f2⟩ := fin al k hp a3
    refine ⟨aL al loc, f1, ?_⟩
    have hx1 : xs.length ≠ 1 := by
      intro hx
      have h2 : l'.length = 1 := by rw [a5, hl, hx]
      match l', h2 with
      | [s], _ => exact hno s rfl
    rw [dif_neg (by simpa using hx1)]
    exact ⟨_, rfl, by simp [a5, hl], fun j s u g1 g2 => a4 al _ (fun _ _ h => h) f2 j s u g1 (by simpa using g2)⟩
  · cases h

/-! ### Functions -/
def resT (P : Program) : List ResultVar → List R → Bool
  | [], [] => true
  | .tmp t :: r, .t t' :: q => t == t' && resT P r q
  | .cell p ty :: r, .c p' m ag :: q => p == p' && agT P ty ag m && resT P r q
  | _, _ => false
def chkF (P : Program) (fn : Func) (F : F) : Bool := match fn.body with
  | some c => decide (F.np ≤ F.nt) && (fn.ntmps == F.nt) && chkC P F.nt F.body c && resT P fn.results.toList F.res
  | none => false
theorem run_results (I : Inv n w0 ok0 loc st a w) : ∀ (rs : List ResultVar) (q : List R) (l : List S), resT P rs q = true → Rs.ev st q = some l → ∃ xs : List Value, (rs.mapM fun
    | .tmp t => (pure (a.tmps.getD t undef) : Sem Value)
    | .cell p t => do loadVar t (← asAddr (a.tmps.getD p undef)) : Sem (List Value)).run P w = .ok xs w ∧ l.length = xs.length ∧ ∀ (j : Nat) s x, l[j]? = some s → xs[j]? = some x → RS w (okI w0 ok0 w loc) loc s x
  | [], [], l, _, h => by cases h; exact ⟨[], rfl, rfl, fun j s x h => by cases h⟩
  | .tmp t :: r, .t t' :: q, l, hc, h => by
    simp only [resT, Bool.and_eq_true, beq_iff_eq] at hc
    obtain ⟨rfl, hc⟩ := hc
    simp only [Rs.ev] at h
    split at h
    · rename_i v hv
      split at h
      · rename_i q' hq
        cases h
        obtain ⟨xs, g1, g2, g3⟩ := run_results I r q q' hc hq
        refine ⟨a.tmps.getD t undef :: xs, ?_, by simp [g2], fun j s x a1 a2 => ?_⟩
        · rw [List.mapM_cons]
          simp only [Sem.run_bind, Sem.run_pure, Result.andThen_ok, g1]
        · cases j with
          | zero => simp at a1 a2; subst a1; subst a2; exact (by simpa using (I.sl t v hv).2)
          | succ j => exact g3 j s x (by simpa using a1) (by simpa using a2)
      · cases h
    · cases h
  | .cell p ty :: r, .c p' m ag :: q, l, hc, h => by
    simp only [resT, Bool.and_eq_true, beq_iff_eq] at hc
    obtain ⟨⟨rfl, hag⟩, hc⟩ := hc
    obtain ⟨k1, k2⟩ := agT_spec hag
    simp only [Rs.ev] at h
    split at h
    · rename_i v hv
      split at h
      · rename_i q' hq
        cases h
        obtain ⟨xs, g1, g2, g3⟩ := run_results I r q q' hc hq
        simp only [R.ev] at hv
        split at hv
        · rename_i pv hp
          split at hv
          · rename_i vs hvs
            obtain ⟨ad, c1, c2, c3⟩ := rd_spec (w := w) (I.hok fun _ _ h => h) hvs (I.sl p _ hp).2
            obtain ⟨u, hu, hr⟩ := run_loadVar (P := P) (w := w) k1 k2 c2 hv c3
            refine ⟨u :: xs, ?_, by simp [g2], fun j s x a1 a2 => ?_⟩
            · rw [List.mapM_cons]
              have hA : (asAddr (.pointer (some ad))).run P w = .ok ad w := rfl
              simp only [Sem.run_bind, c1, hA, Sem.run_pure, Result.andThen_ok, hu, g1]
            · cases j with
              | zero => simp at a1 a2; subst a1; subst a2; exact hr
              | succ j => exact g3 j s x (by simpa using a1) (by simpa using a2)
          · cases hv
        · cases hv
      · cases h
    · cases h
  | [], _ :: _, _, hc, _ => by cases hc
  | .tmp _ :: _, [], _, hc, _ => by cases hc
  | .cell _ _ :: _, [], _, hc, _ => by cases hc
  | .tmp _ :: _, .c _ _ _ :: _, _, hc, _ => by cases hc
  | .cell _ _ :: _, .t _ :: _, _, hc, _ => by cases hc

theorem params_look : ∀ (args : List S) (k t : Nat) (s : S), look (params k args) t = some s → k ≤ t ∧ t < k + args.length ∧ args[t - k]? = some s
  | [], k, t, s, h => by cases h
  | x :: r, k, t, s, h => by
    simp only [params, look] at h
    split at h
    · rename_i e
      subst e
      cases h
      exact ⟨Nat.le_refl _, by simp, by simp⟩
    · obtain ⟨h1, h2, h3⟩ := params_look r (k + 1) t s h
      refine ⟨by omega, by simp; omega, ?_⟩
      rw [show t - k = (t - (k + 1)) + 1 by omega, List.getElem?_cons_succ]
      exact h3

/-- **A function whose text is checked answers as the evaluator tells.** -/
theorem sound_of {f : FuncId} {fn : Func} (fd : F) (hf : P.funcs[f]? = some fn) (hname : (fn.name == "runtime.NumGoroutine") = false) (hc : chkF P fn fd = true) (hE : ∀ f, Sound P f (E f)) {m : Model} (hm : ∀ args r, m args = some r → ∃ N, fd.ev E N args = some r) : Sound P f m := by
  intro args r hp hr w ok0 vs hok hargs
  obtain ⟨N, he⟩ := hm args _ hr
  unfold chkF at hc
  split at hc
  · rename_i c hb
    simp only [Bool.and_eq_true, beq_iff_eq, decide_eq_true_eq] at hc
    obtain ⟨⟨⟨h1, h2⟩, h3⟩, h4⟩ := hc
    refine ⟨by unfold fnOk; rw [hf]; simp [hname, hb], ?_⟩
    unfold F.ev at he
    split at he
    · rename_i hlen
      have hvl : vs.size = args.length := by have := hargs.1; simpa using this.symm
      have I : Inv fd.nt w ok0 (fun _ => none) ⟨params 0 args, []⟩ { tmps := vs ++ Array.replicate (fn.ntmps - vs.size) undef, defers := [] } w := by
        refine ⟨Below.refl _ _, hok, ⟨fun s => rfl, fun s l B h => (by cases h), fun s s' l l' b h => (by cases h), fun s l b h => (by cases h)⟩, by simp; omega, fun t s h => ?_, rfl⟩
        obtain ⟨k1, k2, k3⟩ := params_look args 0 t s h
        simp only [Nat.sub_zero, Nat.zero_add] at k2 k3
        have ht : t < vs.size := by omega
        refine ⟨by omega, ?_⟩
        have h5 := hargs.2 t s vs[t] k3 (by simp [ht])
        have h6 : (vs ++ Array.replicate (fn.ntmps - vs.size) undef).getD t undef = vs[t] := by
          rw [Array.getD_eq_getD_getElem?, Array.getElem?_append_left ht]
          simp [ht]
        show RS w _ _ s ((vs ++ Array.replicate (fn.ntmps - vs.size) undef).getD t undef)
        rw [h6]
        exact (h5.rs).mono (fun b hb => ⟨⟨.inl hb, hok b hb, fun s l h => by cases h⟩, rfl⟩) (fun t l _ h => h)
      refine calls_of_wp hf hb ?_
      have hpost : ∀ (st : St) (out : Out), (match Rs.ev st fd.res with | some l => hand (look st.hp) l | none => none) = some (r, hp) → (out = .norm ∨ out = .ret) → ∀ a' w' loc', Inv fd.nt w ok0 loc' st a' w' →
          bodyPost P fn (fun e w' => ∃ v loc, e = .returned v ∧ Below w.heap.size w w' ∧ HpRel w.heap.size w' (okI w ok0 w' loc) loc hp ∧ RS w' (okI w ok0 w' loc) loc r v) out.ex a' w' := by
        intro st out hh ho a' w' loc' I'
        split at hh
        · rename_i l hl
          obtain ⟨xs, g1, g2, g3⟩ := run_results (P := P) I' fn.results.toList fd.res l h4 hl
          obtain ⟨loc2, k1, k2⟩ := hand_ok I' g2 g3 hh
          have hres : (results fn a'.tmps).run P w' = .ok (if h : xs.toArray.size = 1 then xs.toArray[0] else .tuple xs.toArray) w' := by
            unfold results
            rw [Array.mapM_eq_mapM_toList, Sem.run_bind, Sem.run_map]
            exact (congrArg (fun r : Result (List Value) => (r.andThen fun a w' => Result.ok a.toArray w').andThen fun a w' => Sem.run P (pure (if h : a.size = 1 then a[0] else Value.tuple a)) w') g1).trans rfl
          have : a'.defers = [] ∧ ∃ v, (results fn a'.tmps).run P w' = .ok v w' ∧ ∃ v_1 loc, Ending.returned v = .returned v_1 ∧ Below w.heap.size w w' ∧ HpRel w.heap.size w' (okI w ok0 w' loc) loc hp ∧ RS w' (okI w ok0 w' loc) loc r v_1 :=
            ⟨I'.df, _, hres, _, loc2, rfl, I'.below, k1, k2⟩
          rcases ho with rfl | rfl <;> exact this
        · cases hh
      split at he
      · rename_i st hev
        exact code_ok hE fd.body c _ st .norm _ _ w _ h3 I hev (hpost st .norm he (.inl rfl))
      · rename_i st hev
        exact code_ok hE fd.body c _ st .ret _ _ w _ h3 I hev (hpost st .ret he (.inr rfl))
      · cases he
    · cases he
  · cases hc
/-- One slice that may be nil, or empty: told for each of them. -/
theorem sound_nil {f : FuncId} {E : Nat → Model} {fd : F} (hs : ∀ m : Model, (∀ args r, m args = some r → ∃ N, fd.ev E N args = some r) → Sound P f m) {r : S × Hp} (h : ∀ A c, ∃ N, fd.ev E N [.one (.k (.slice A 0 c))] = some r) : Sound P f fun
    | [.one (.row [])] => some r
    | _ => none := by
  intro args r' hp hr w ok0 vs hok hargs
  dsimp only at hr
  split at hr
  · cases hr
    obtain ⟨h1, h2⟩ := hargs
    have hv : ∃ x, vs.toList = [x] := by
      match hq : vs.toList, h1 with
      | [x], _ => exact ⟨x, rfl⟩
    obtain ⟨x, hx⟩ := hv
    have h3 := h2 0 _ x rfl (by rw [hx]; rfl)
    cases (h3 : Rep w ok0 (.row []) x) with
    | row0 A c =>
      have := hs (fun args => if args.length = 1 then fd.ev E (h A c).choose args else none) (fun args r hr => by
        split at hr
        · exact ⟨_, hr⟩
        · cases hr) [.one (.k (.slice A 0 c))] r' hp (by dsimp only; rw [if_pos (by rfl)]; exact (h A c).choose_spec) w ok0 vs hok ⟨by rw [hx]; rfl, fun j s u a1 a2 => ?_⟩
      · exact this
      · rw [hx] at a2
        cases j with
        | zero => simp at a1 a2; subst a1; subst a2; exact Rep.k rfl
        | succ j => simp at a1
    | row u hn hne => simp at hn; omega
  · cases hr
end
end Go.Proofs.YtjafaefiigingaaR
