/- Calls; the check of an operation; an operation in its place. -/
import Derived.Test.YtgjacdfiilcaaaaR8
set_option linter.unusedVariables false
set_option linter.unusedSimpArgs false
namespace Go.Proofs.YtgjacdfiilcaaaaR
open Go Go.RowKit

section
variable {P : Program} {n : Nat} {Γ : Ent} {w0 : World} {ok0 : Nat → Prop} {loc : Locs} {st : St} {a : Act} {w : World} {o : Oper}

theorem run_callFunc {f : FuncId} (h : fnOk P f = true) (args : Array Value) (w : World) : (callFunc f args).run P w = .ok (.enter f args) w := by
  unfold fnOk at h
  split at h
  · rename_i fn hf
    simp only [Bool.and_eq_true, Bool.not_eq_true'] at h
    unfold callFunc
    have h1 : (fn.name == "runtime.NumGoroutine") = false := h.1
    have h2 : fn.body.isNone = false := by cases hb : fn.body with
      | none => rw [hb] at h; cases h.2
      | some b => rfl
    simp only [Sem.run_bind, run_program, Result.andThen_ok, hf, h1, h2, Bool.false_eq_true, if_false, Sem.run_pure]
  · cases h

theorem noment_pur {h : Nat → Option Blk} {v v' : V} (hm : v.ment = none) (hp : v.pur h = some v') : v' = v := by
  cases v <;> first | (simp [V.ment] at hm; done) | (cases hp; rfl)
theorem noment_purs {h : Nat → Option Blk} : ∀ {vs vs' : List V}, ments vs = [] → purs h vs = some vs' → vs' = vs
  | [], vs', _, hp => by cases hp; rfl
  | v :: r, vs', hm, hp => by
    unfold ments at hm
    cases hv : v.ment with
    | some s => rw [hv] at hm; cases hm
    | none =>
      rw [hv] at hm
      simp only [purs] at hp
      split at hp
      · rename_i v' hv'
        split at hp
        · rename_i r' hr
          cases hp
          rw [noment_pur hv hv', noment_purs hm hr]
        · cases hp
      · cases hp
theorem noment_spur {h : Nat → Option Blk} {s s' : S} (hm : s.ment = []) (hp : s.pur h = some s') : s' = s := by
  cases s with
  | one v =>
    simp only [S.pur] at hp
    split at hp
    · rename_i v' hv
      cases hp
      rw [noment_pur (v := v) ?_ hv]
      simp only [S.ment, ments] at hm
      cases h : v.ment with
      | some s => rw [h] at hm; cases hm
      | none => rfl
    · cases hp
  | agg vs =>
    simp only [S.pur] at hp
    split at hp
    · rename_i vs' hv
      cases hp
      rw [noment_purs hm hv]
    · cases hp
  | undef => cases hp
  | tup xs => cases hp

/-- Arguments, told as what is only read. -/
theorem args_rs {h : Nat → Option Blk} {ok ok2 : Nat → Prop} (hh : HOk w ok loc h) (h2 : ∀ b, ok b → ok2 b) (h3 : ∀ s l b, loc s = some l → l.blk = some b → ok2 b) : ∀ {as as' : List S} {vs : List Value}, as.length = vs.length → (∀ (j : Nat) s u, as[j]? = some s → vs[j]? = some u → RS w ok loc s u) → purS h as = some as' → RSs w ok2 (fun _ => none) as' vs
  | [], as', [], _, _, hp => by cases hp; exact ⟨rfl, fun j s u h => by cases h⟩
  | x :: r, as', v :: q, hl, hr, hp => by
    simp only [purS] at hp
    split at hp
    · rename_i x' hx
      split at hp
      · rename_i r' hr'
        cases hp
        obtain ⟨g1, g2⟩ := args_rs hh h2 h3 (as := r) (vs := q) (by simpa using hl) (fun j s u a1 a2 => hr (j + 1) s u (by simpa using a1) (by simpa using a2)) hr'
        refine ⟨by simp [g1], fun j s u a1 a2 => ?_⟩
        cases j with
        | zero => simp at a1 a2; subst a1; subst a2; exact spur_rs hh h2 h3 _ (hr 0 x v rfl rfl) hx
        | succ j => exact g2 j s u (by simpa using a1) (by simpa using a2)
      · cases hp
    · cases hp
  | [], _, _ :: _, hl, _, _ => by cases hl
  | _ :: _, _, [], hl, _, _ => by cases hl
theorem args_rs0 {h : Nat → Option Blk} {ok : Nat → Prop} : ∀ {as as' : List S} {vs : List Value}, mentS as = [] → as.length = vs.length → (∀ (j : Nat) s u, as[j]? = some s → vs[j]? = some u → RS w ok loc s u) → purS h as = some as' → RSs w ok (fun _ => none) as' vs
  | [], as', [], _, _, _, hp => by cases hp; exact ⟨rfl, fun j s u h => by cases h⟩
  | x :: r, as', v :: q, hm, hl, hr, hp => by
    simp only [mentS, List.append_eq_nil_iff] at hm
    simp only [purS] at hp
    split at hp
    · rename_i x' hx
      split at hp
      · rename_i r' hr'
        cases hp
        obtain ⟨g1, g2⟩ := args_rs0 (as := r) (vs := q) hm.2 (by simpa using hl) (fun j s u a1 a2 => hr (j + 1) s u (by simpa using a1) (by simpa using a2)) hr'
        refine ⟨by simp [g1], fun j s u a1 a2 => ?_⟩
        cases j with
        | zero =>
          simp at a1 a2; subst a1; subst a2
          have hxx := noment_spur hm.1 hx
          subst hxx
          have h0 := (hr 0 x' v rfl rfl).mono (w' := w) (ok' := ok) (loc' := fun _ => none) (fun b hb => ⟨hb, rfl⟩) (fun t l ht => by rw [hm.1] at ht; cases ht)
          cases x' with
          | tup xs => cases hx
          | undef => cases hx
          | one v => exact h0
          | agg vs => exact h0
        | succ j => exact g2 j s u (by simpa using a1) (by simpa using a2)
      · cases hp
    · cases hp
  | [], _, _ :: _, _, hl, _, _ => by cases hl
  | _ :: _, _, [], _, hl, _, _ => by cases hl

theorem RV.ren {w' : World} {ok ok' : Nat → Prop} {loc' : Locs} {d : Nat} {v : V} {x : Value} (h : RV w ok loc v x) (hok : ∀ b, ok b → ok' b) (hl : ∀ s l, loc s = some l → loc' (64 * d + s) = some l) : RV w ok' loc' (v.ren d) x := by
  cases v with
  | ref s i j =>
    rcases h with ⟨b, h1, h2, h3⟩ | ⟨b, el, e, cap, h1, h3⟩
    · exact .inl ⟨b, hl _ _ h1, h2, h3⟩
    · exact .inr ⟨b, el, e, cap, hl _ _ h1, h3⟩
  | sl s off len =>
    rcases h with ⟨b, el, e, cap, h1, h2, h3⟩ | ⟨h1, h2, h3, h4⟩
    · exact .inl ⟨b, el, e, cap, hl _ _ h1, h2, h3⟩
    · exact .inr ⟨hl _ _ h1, h2, h3, h4⟩
  | _ => exact Rep.mono h fun b hb => ⟨hok b hb, rfl⟩
theorem RS0.ren {ok ok' : Nat → Prop} {loc' : Locs} {d : Nat} {s : S} {x : Value} (h : RS0 w ok loc s x) (hok : ∀ b, ok b → ok' b) (hl : ∀ s l, loc s = some l → loc' (64 * d + s) = some l) : RS0 w ok' loc' (s.ren d) x := by
  cases s with
  | undef => exact h
  | one v => exact RV.ren (w' := w) h hok hl
  | agg vs =>
    obtain ⟨cs, h1, h2⟩ := h
    refine ⟨cs, h1, by rw [List.length_map]; exact h2.1, fun j v c a1 a2 => ?_⟩
    rw [List.getElem?_map, Option.map_eq_some_iff] at a1
    obtain ⟨v', b1, rfl⟩ := a1
    exact RV.ren (w' := w) (h2.2 j v' c b1 a2) hok hl
  | tup xs => exact h.elim
theorem sren_get (d : Nat) : ∀ (xs : List S) (j : Nat) (x : S), (S.ren.sren d xs)[j]? = some x → ∃ y, xs[j]? = some y ∧ x = y.ren d
  | [], j, x, h => by cases h
  | a :: r, j, x, h => by
    cases j with
    | zero => simp [S.ren.sren] at h; exact ⟨a, rfl, h.symm⟩
    | succ j => exact sren_get d r j x (by simpa [S.ren.sren] using h)
theorem sren_length (d : Nat) : ∀ (xs : List S), (S.ren.sren d xs).length = xs.length
  | [] => rfl
  | a :: r => by simp [S.ren.sren, sren_length d r]
theorem RS.ren {ok ok' : Nat → Prop} {loc' : Locs} {d : Nat} {s : S} {x : Value} (h : RS w ok loc s x) (hok : ∀ b, ok b → ok' b) (hl : ∀ s l, loc s = some l → loc' (64 * d + s) = some l) : RS w ok' loc' (s.ren d) x := by
  cases s with
  | tup xs =>
    obtain ⟨us, h1, h2, h3⟩ := h
    refine ⟨us, h1, by rw [h2, sren_length], fun j q u a1 a2 => ?_⟩
    obtain ⟨y, b1, rfl⟩ := sren_get d xs j q a1
    exact (h3 j y u b1 a2).ren hok hl
  | undef => exact h
  | one v => exact RS0.ren (s := .one v) h hok hl
  | agg vs => exact RS0.ren (s := .agg vs) h hok hl

theorem look_ren (d : Nat) : ∀ (hp : Hp) (s : Nat), look (Hp.ren d hp) (64 * d + s) = (look hp s).map (Blk.ren d)
  | [], s => rfl
  | (k, B) :: r, s => by
    show (if 64 * d + k = 64 * d + s then some (B.ren d) else look (Hp.ren d r) (64 * d + s)) = _
    simp only [look]
    by_cases h : k = s
    · rw [if_pos h, if_pos (by omega)]; rfl
    · rw [if_neg h, if_neg (by omega)]; exact look_ren d r s
theorem look_ren_lo (d : Nat) : ∀ (hp : Hp) (s : Nat), s < 64 * d → look (Hp.ren d hp) s = none
  | [], s, _ => rfl
  | (k, B) :: r, s, h => by
    show (if 64 * d + k = s then some (B.ren d) else look (Hp.ren d r) s) = _
    rw [if_neg (by omega)]
    exact look_ren_lo d r s h
theorem look_mem {α : Type} : ∀ (l : List (Nat × α)) (k : Nat) (v : α), look l k = some v → (k, v) ∈ l
  | [], k, v, h => by cases h
  | (m, x) :: r, k, v, h => by
    simp only [look] at h
    split at h
    · rename_i e; subst e; cases h; exact List.mem_cons_self ..
    · exact List.mem_cons_of_mem _ (look_mem r k v h)
theorem look_isSome {α : Type} : ∀ (l : List (Nat × α)) (p : Nat × α), p ∈ l → (look l p.1).isSome = true
  | [], p, h => by cases h
  | (m, x) :: r, p, h => by
    simp only [look]
    split
    · rfl
    · rcases List.mem_cons.1 h with rfl | h
      · rename_i hne; exact absurd rfl hne
      · exact look_isSome r p h
theorem fresh_spec {st : St} {news : Hp} (hf : fresh st news = true) (s : Nat) (h : (look news s).isSome = true) : (look st.hp s).isSome = false := by
  cases hq : look news s with
  | none => rw [hq] at h; cases h
  | some B =>
    have := List.all_eq_true.1 hf _ (look_mem _ _ _ hq)
    cases h : look st.hp s with
    | none => rfl
    | some C => simp [h] at this
theorem hpself_ok {ok ok2 : Nat → Prop} {w : World} {loc : Locs} : ∀ {hp : Hp}, Hp.self hp = true → ∀ k B, (k, B) ∈ hp → ∀ l, HB w ok loc l B → HB w ok2 loc l B
  | [], _, k, B, h => by cases h
  | (k', .rows el' e' xs') :: r, hs, k, B, h => by
    simp only [Hp.self, Bool.and_eq_true] at hs
    rcases List.mem_cons.1 h with h | h
    · cases h; exact fun l hb => hb.self' hs.1
    · exact hpself_ok hs.2 k B h
  | (k', .box vs) :: r, hs, k, B, h => by
    simp only [Hp.self, Bool.and_eq_true] at hs
    rcases List.mem_cons.1 h with h | h
    · cases h; exact fun l hb => hb.selfb hs.1
    · exact hpself_ok hs.2 k B h
theorem ok64_mem {hp : Hp} (h : Hp.ok64 hp = true) {k : Nat} {B : Blk} (hm : (k, B) ∈ hp) : k < 64 := by
  have h1 := List.all_eq_true.1 h _ hm
  simpa using h1
theorem HB.ren {w' : World} {ok ok' : Nat → Prop} {loc loc' : Locs} {d : Nat} {l : Loc} {B : Blk} (h : HB w' ok loc l B) (hok : ∀ b, ok b → ok' b) (hl : ∀ s l, loc s = some l → loc' (64 * d + s) = some l) : HB w' ok' loc' l (B.ren d) := by
  cases B with
  | rows el e xs => exact h.mono (fun b hb => ⟨hok b hb, rfl⟩) (fun _ _ => rfl) (fun t m ht => by cases ht)
  | box vs =>
    cases l with
    | virt => exact h
    | rows b el' e' cap => exact h
    | box b =>
      obtain ⟨cs, el, h1, h2, h3⟩ := h
      refine ⟨cs, el, h1, by rw [List.length_map]; exact h2, fun j v c a1 a2 => ?_⟩
      rw [List.getElem?_map, Option.map_eq_some_iff] at a1
      obtain ⟨v', b1, rfl⟩ := a1
      exact RV.ren (w' := w') (h3 j v' c b1 a2) hok hl
theorem pur_noTup {h : Nat → Option Blk} : ∀ {as as' : List S}, purS h as = some as' → splitA as' = some (as', [])
  | [], as', hp => by cases hp; rfl
  | x :: r, as', hp => by
    simp only [purS] at hp
    split at hp
    · rename_i x' hx
      split at hp
      · rename_i r' hr
        cases hp
        have h1 := pur_noTup hr
        cases x' with
        | tup l =>
          exfalso
          cases x with
          | one v => simp only [S.pur] at hx; split at hx <;> cases hx
          | agg vs => simp only [S.pur] at hx; split at hx <;> cases hx
          | undef => cases hx
          | tup xs => cases hx
        | undef => simp only [splitA, h1]
        | one v => simp only [splitA, h1]
        | agg vs => simp only [splitA, h1]
      · cases hp
    · cases hp

/-- A call. -/
theorem o_call {E : Nat → Model} (hE : ∀ f, Sound P f (E f)) (I : Inv n Γ w0 ok0 loc st a w) {f : Nat} {vs : Array Value} (hrun : fnOk P f = true → (execOp a.eval o).run P w = .ok (.enter f vs) w) {as : List S} (hl : as.length = vs.toList.length)
    (hr : ∀ (j : Nat) s u, as[j]? = some s → vs.toList[j]? = some u → RS w (okI w0 ok0 w loc) loc s u) {h : Nat → Option Blk} (hh : ∀ s B, h s = some B → look st.hp s = some B) {own : Bool} {v : S} {news : Hp} {d : Nat} (he : callI E d h own f as = some (v, news)) (hf : fresh st news = true) (hd : ∀ t, o.dst = some t → t < n)
    {next : Act → World → Prop} {Q : Exit → Act → World → Prop} (hn : ∀ x w' loc', Inv n Γ w0 ok0 loc' { sl := (st.put o.dst v).sl, hp := news ++ st.hp } (a.put o.dst x) w' → next (a.put o.dst x) w') : o.wp P a w next Q := by
  unfold callI at he
  split at he
  · rename_i as' has
    split at he
    · rename_i r hp hEf
      split at he
      · rename_i hcond
        have hok := I.hok hh
        -- what the callee may look at
        have hmain : ∃ okA : Nat → Prop, (∀ b, okA b → b < w.heap.size) ∧ RSs w okA (fun _ => none) as' vs.toList ∧ (mentS as = [] → okA = okI w0 ok0 w loc) := by
          by_cases hm : mentS as = []
          · exact ⟨okI w0 ok0 w loc, fun b hb => hb.2.1, args_rs0 hm hl hr has, fun _ => rfl⟩
          · refine ⟨fun b => b < w.heap.size, fun b hb => hb, args_rs hok (fun b hb => hb.2.1) (fun s l b h1 h2 => (I.hp.lo s l b h1 h2).2) hl hr has, fun h => absurd h hm⟩
        obtain ⟨okA, hA1, hA2, hA3⟩ := hmain
        obtain ⟨hfn, hcall⟩ := (hE f).closed hEf (pur_noTup has) (w := w) (ok0 := okA) (I.okb.2.now I.below) hA1 hA2
        unfold Oper.wp
        rw [hrun hfn, Oper.upon_enter]
        refine hcall.mono fun e w' ⟨x, locR, hex, hb, hhp, hrs⟩ => ?_
        subst hex
        -- the answer, at what may be spoken of here
        have hkey : ∃ okR : Nat → Prop, (∀ b, okR b → (okI w0 ok0 w loc b ∨ w.heap.size ≤ b) ∧ b < w'.heap.size ∧ ∀ s l, locR s = some l → l.blk ≠ some b) ∧ RS w' okR locR r x ∧ (Hp.ok64 hp = true → HOk w' okR locR (look hp)) := by
          by_cases hm : mentS as = []
          · refine ⟨_, fun b hb => ?_, hrs, fun _ s l B h1 h2 => hhp.blk s l B h1 h2⟩
            rw [hA3 hm] at hb
            exact hb
          · have hself := hcond.resolve_left hm
            simp only [Bool.and_eq_true] at hself
            refine ⟨fun b => (okI w0 ok0 w loc b ∨ w.heap.size ≤ b) ∧ b < w'.heap.size ∧ ∀ s l, locR s = some l → l.blk ≠ some b, fun b hb => hb, hrs.self' hself.1, fun h64 s l B h1 h2 => ?_⟩
            exact hpself_ok hself.2 s B (look_mem _ _ _ h2) l (hhp.blk s l _ h1 h2)
        obtain ⟨okR, hR1, hR2, hR3⟩ := hkey
        have hbase : w0.heap.size ≤ w.heap.size := I.below.size
        split at he
        · split at he
          · rename_i h64
            cases he
            have hk64 : ∀ s, (locR s).isSome = true → s < 64 := by
              intro s hs
              rw [hhp.dom] at hs
              cases hq : look hp s with
              | none => rw [hq] at hs; cases hs
              | some B => exact ok64_mem h64 (look_mem _ _ _ hq)
            have hNs : ∀ s l, locR s = some l → (if 64 * d ≤ 64 * d + s then locR (64 * d + s - 64 * d) else none) = some l := by
              intro s l hs
              rw [if_pos (by omega), show 64 * d + s - 64 * d = s by omega]
              exact hs
            have hNinv : ∀ s l, (if 64 * d ≤ s then locR (s - 64 * d) else none) = some l → ∃ k, s = 64 * d + k ∧ locR k = some l := by
              intro s l hs
              split at hs
              · exact ⟨s - 64 * d, by omega, hs⟩
              · cases hs
            have hokR : ∀ b, okR b → okI w0 ok0 w' (loc.or fun s => if 64 * d ≤ s then locR (s - 64 * d) else none) b := by
              intro b hb'
              obtain ⟨h1, h2, h3⟩ := hR1 b hb'
              refine ⟨?_, h2, fun s l hs hlb => ?_⟩
              · rcases h1 with h1 | h1
                · exact h1.1
                · exact .inr (by omega)
              · rcases or_some hs with h4 | ⟨_, h4⟩
                · obtain ⟨k, _, h5⟩ := hNinv s l h4
                  exact h3 k l h5 hlb
                · rcases h1 with h1 | h1
                  · exact h1.2.2 s l h4 hlb
                  · have := (I.hp.lo s l b h4 hlb).2; omega
            have hor : ∀ s l, locR s = some l → (loc.or fun s => if 64 * d ≤ s then locR (s - 64 * d) else none) (64 * d + s) = some l := by
              intro s l hs
              show (match (if 64 * d ≤ 64 * d + s then locR (64 * d + s - 64 * d) else none : Option Loc) with | some l => some l | none => loc (64 * d + s)) = some l
              rw [hNs s l hs]
            refine hn x w' _ (I.ext hb (fun s => if 64 * d ≤ s then locR (s - 64 * d) else none) (Hp.ren d hp) (fun s => ?_) (fresh_spec hf) (fun s l b h1 h2 => ?_) (fun s s' l l' b h1 h2 h3 h4 => ?_) (fun s l B h1 h2 => ?_) o.dst hd (r.ren d) x (hR2.ren hokR hor))
            · show (if 64 * d ≤ s then locR (s - 64 * d) else none : Option Loc).isSome = _
              by_cases hs : 64 * d ≤ s
              · rw [if_pos hs, hhp.dom]
                have := look_ren d hp (s - 64 * d)
                rw [show 64 * d + (s - 64 * d) = s by omega] at this
                rw [this]
                cases look hp (s - 64 * d) <;> rfl
              · rw [if_neg hs, look_ren_lo d hp s (by omega)]; rfl
            · obtain ⟨k, _, h5⟩ := hNinv s l h1
              exact ⟨(hhp.lo k l b h5 h2).1.resolve_left id, (hhp.lo k l b h5 h2).2⟩
            · obtain ⟨k, rfl, h5⟩ := hNinv s l h1
              obtain ⟨k', rfl, h6⟩ := hNinv s' l' h2
              rw [hhp.inj k k' l l' b h5 h6 h3 h4]
            · obtain ⟨k, rfl, h5⟩ := hNinv s l h1
              rw [look_ren, Option.map_eq_some_iff] at h2
              obtain ⟨B', h2, rfl⟩ := h2
              exact (hR3 h64 k l _ h5 h2).ren hokR hor
          · cases he
        · split at he
          · rename_i h64
            split at he
            · rename_i r' hpur
              cases he
              have hok2 : ∀ b, okR b → okI w0 ok0 w' loc b := by
                intro b hb'
                obtain ⟨h1, h2, h3⟩ := hR1 b hb'
                refine ⟨?_, h2, fun s l hs hlb => ?_⟩
                · rcases h1 with h1 | h1
                  · exact h1.1
                  · exact .inr (by omega)
                · rcases h1 with h1 | h1
                  · exact h1.2.2 s l hs hlb
                  · have := (I.hp.lo s l b hs hlb).2; omega
              have hrs' := spurT_rs (loc2 := loc) (hR3 h64) hok2 (fun s l b h1 h2 => ?_) hR2 hpur
              · have h := I.ext hb (fun _ => none) [] (fun s => rfl) (fun s h => by cases h) (fun s l b h => by cases h) (fun s s' l l' b h => by cases h) (fun s l B h => by cases h) o.dst hd _ x (by rw [Locs.or_none]; exact hrs')
                exact hn x w' _ h
              · have h3 : w.heap.size ≤ b ∧ b < w'.heap.size := ⟨(hhp.lo s l b h1 h2).1.resolve_left id, (hhp.lo s l b h1 h2).2⟩
                refine ⟨.inr (by omega), h3.2, fun s' l' hs hlb => ?_⟩
                have := (I.hp.lo s' l' b hs hlb).2
                omega
            · cases he
          · cases he
      · cases he
    · cases he
  · cases he
end
end Go.Proofs.YtgjacdfiilcaaaaR
