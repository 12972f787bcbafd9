/- What is kept of a state; what is one's own becomes what is only read; code. -/
import Derived.Test.YtjafaefiigingaaR14
import Derived.LoopN
set_option linter.unusedVariables false
set_option linter.unusedSimpArgs false
namespace Go.Proofs.YtjafaefiigingaaR
open Go Go.RowKit

section
variable {P : Program} {n : Nat} {w0 : World} {ok0 : Nat → Prop} {loc : Locs} {st st' : St} {a : Act} {w : World} {E : Nat → Model}

theorem look_pickL {α : Type} (l : List (Nat × α)) : ∀ (ns : List Nat) (k : Nat) (v : α), look (pickL l ns) k = some v → look l k = some v
  | [], k, v, h => by cases h
  | m :: r, k, v, h => by
    simp only [pickL] at h
    split at h
    · rename_i x hx
      simp only [look] at h
      split at h
      · rename_i e; subst e; cases h; exact hx
      · exact look_pickL l r k v h
    · exact look_pickL l r k v h
theorem mem_slMent : ∀ {sl : List (Nat × S)} {t : Nat} {v : S} {s : Nat}, (t, v) ∈ sl → s ∈ v.ment → s ∈ slMent sl
  | [], t, v, s, h, _ => by cases h
  | (t', v') :: r, t, v, s, h, hm => by
    simp only [slMent]
    rcases List.mem_cons.1 h with h | h
    · cases h; exact List.mem_append_left _ hm
    · exact List.mem_append_right _ (mem_slMent h hm)
theorem mem_hpMent : ∀ {hp : Hp} {t : Nat} {B : Blk} {s : Nat}, (t, B) ∈ hp → s ∈ B.ment → s ∈ hpMent hp
  | [], t, v, s, h, _ => by cases h
  | (t', .box vs) :: r, t, v, s, h, hm => by
    simp only [hpMent]
    rcases List.mem_cons.1 h with h | h
    · cases h; exact List.mem_append_left _ hm
    · exact List.mem_append_right _ (mem_hpMent h hm)
  | (t', .rows el e xs) :: r, t, v, s, h, hm => by
    simp only [hpMent]
    rcases List.mem_cons.1 h with h | h
    · cases h; cases hm
    · exact mem_hpMent h hm

theorem Inv.keep (I : Inv n w0 ok0 loc st a w) {l : List Nat} (hk : gcK l st = some st') : ∃ loc', Inv n w0 ok0 loc' st' a w := by
  unfold gcK at hk
  dsimp only at hk
  split at hk
  · rename_i hc
    cases hk
    simp only [Bool.and_eq_true, List.all_eq_true] at hc
    obtain ⟨c1, c2⟩ := hc
    generalize hhp : pickL st.hp (slMent (pickL st.sl l) ++ hpMent (pickL st.hp (slMent (pickL st.sl l)))) = hp at c1 c2
    have hsub : ∀ s B, look hp s = some B → look st.hp s = some B := by
      intro s B h
      rw [← hhp] at h
      exact look_pickL _ _ _ _ h
    refine ⟨fun s => if (look hp s).isSome then loc s else none, ?_⟩
    have hloc : ∀ s m, (if (look hp s).isSome then loc s else none) = some m → loc s = some m := by
      intro s m h
      split at h
      · exact h
      · cases h
    have hok : ∀ b, okI w0 ok0 w loc b → okI w0 ok0 w (fun s => if (look hp s).isSome then loc s else none) b ∧ w.heap[b]? = w.heap[b]? := fun b h => ⟨⟨h.1, h.2.1, fun s m hs => h.2.2 s m (hloc s m hs)⟩, rfl⟩
    have hkeep : ∀ s m, (look hp s).isSome = true → loc s = some m → (if (look hp s).isSome then loc s else none) = some m := fun s m h1 h2 => by rw [if_pos h1]; exact h2
    refine ⟨I.below, I.okb, ⟨fun s => ?_, fun s m B h1 h2 => ?_, fun s s' m m' b h1 h2 h3 h4 => I.hp.inj s s' m m' b (hloc s m h1) (hloc s' m' h2) h3 h4, fun s m b h1 h2 => I.hp.lo s m b (hloc s m h1) h2⟩, I.sz, fun t v h => ?_, I.df⟩
    · dsimp only
      cases hq : look hp s with
      | none => simp
      | some B => simp only [Option.isSome_some, if_true]; rw [I.hp.dom, hsub s B hq]; rfl
    · refine (I.hp.blk s m B (hloc s m h1) (hsub s B h2)).mono hok (fun _ _ => rfl) (fun t m' ht hm' => hkeep t m' (c1 t ?_) hm')
      exact mem_hpMent (look_mem _ _ _ h2) ht
    · have h1 := look_pickL _ _ _ _ h
      obtain ⟨g1, g2⟩ := I.sl t v h1
      refine ⟨g1, g2.mono hok fun s m hs hm => hkeep s m (c2 s ?_) hm⟩
      exact mem_slMent (look_mem _ _ _ h) hs
  · cases hk

theorem noment_pur1s {h : Nat → Option Blk} : ∀ {vs : List V}, (ments vs).isEmpty = true → pur1s h vs = some vs
  | [], _ => rfl
  | v :: r, hm => by
    unfold ments at hm
    cases hv : v.ment with
    | some s => rw [hv] at hm; cases hm
    | none =>
      rw [hv] at hm
      have h1 : v.pur1 h = some v := by cases v <;> first | rfl | (simp [V.ment] at hv; done)
      simp only [pur1s, h1, noment_pur1s hm]
/-- A value whose site becomes what is only read. -/
theorem RV.frz {s : Nat} (I : Inv n w0 ok0 loc st a w) {v : V} {x : Value} (h : RV w (okI w0 ok0 w loc) loc v x) (hok : ∀ b, okI w0 ok0 w loc b → okI w0 ok0 w (fun t => if t = s then none else loc t) b)
    (hs : ∀ l b, loc s = some l → l.blk = some b → okI w0 ok0 w (fun t => if t = s then none else loc t) b) : RV w (okI w0 ok0 w (fun t => if t = s then none else loc t)) (fun t => if t = s then none else loc t) (v.frz s (look st.hp s)) x := by
  have h1 := h.one
  have hne : ∀ t l, t ≠ s → loc t = some l → (if t = s then none else loc t) = some l := fun t l h1 h2 => by rw [if_neg h1]; exact h2
  have hok' : ∀ b, okI w0 ok0 w loc b → okI w0 ok0 w (fun t => if t = s then none else loc t) b ∧ w.heap[b]? = w.heap[b]? := fun b hb => ⟨hok b hb, rfl⟩
  have hH : HOk w (okI w0 ok0 w loc) loc (look st.hp) := I.hok fun _ _ h => h
  cases v with
  | sl s' off len =>
    simp only [V.frz]
    split
    · rename_i e
      subst e
      split
      · rename_i el e xs hq
        split
        · rename_i hl
          refine Rep.rv (pur1_rep hH hok (fun s l b hm hl' hb => hs l b (by cases hm; exact hl') hb) h ?_)
          simp only [V.pur1, hq, if_pos hl]
        · exact Rep.dead h1
      · exact Rep.dead h1
    · rename_i hn
      exact h.mono hok' fun t l ht => hne t l (by cases ht; exact hn)
  | ref s' i j =>
    simp only [V.frz]
    split
    · rename_i e
      subst e
      split
      · rename_i vs hq
        split
        · rename_i hc
          rcases h with ⟨b, g1, _, rfl⟩ | ⟨b, el, e, cap, g1, rfl⟩
          · obtain ⟨cs, el, hb, hr⟩ := hH _ _ _ g1 hq
            have hcs : vs.length = cs.size := by rw [hr.1]; simp
            refine Rep.rv (.ptr (fun m => (cs[j + m]?).getD Go.undef) (hs _ _ g1 rfl) (fun m p a1 => ?_) (fun m p a1 => ?_))
            · rw [List.getElem?_drop] at a1
              have hlt : j + m < cs.size := by rw [← hcs]; exact (List.getElem?_eq_some_iff.1 a1).1
              rw [Addr.add_lit, cell_of_row w b _ cs _ (0, 0) hb]
              simp [hlt]
            · rw [List.getElem?_drop] at a1
              have hlt : j + m < cs.size := by rw [← hcs]; exact (List.getElem?_eq_some_iff.1 a1).1
              refine (rv_rep (hr.2 (j + m) p _ a1 ?_) (ments_nil hc.2 p (List.mem_of_getElem? a1))).mono hok'
              simp [hlt]
          · exact (hH _ _ _ g1 hq).elim
        · exact Rep.dead h1
      · rename_i el e xs hq
        split
        · rename_i y hy
          rcases h with ⟨b, g1, _, rfl⟩ | ⟨b, el', e', cap, g1, rfl⟩
          · exact (hH _ _ _ g1 hq).elim
          · obtain ⟨e1, e2', hm, hxc, hlen, cs, hb, hcs, hr⟩ := hH _ _ _ g1 hq
            subst e2'
            refine Rep.rv (.ptr (fun m => (cs[i * e + (j + m)]?).getD Go.undef) (hs _ _ g1 rfl) (fun m p a1 => ?_) (fun m p a1 => ?_))
            · rw [List.getElem?_drop] at a1
              obtain ⟨u, hu, _⟩ := hr _ _ _ _ hy a1
              rw [Addr.add_lit, cell_of_row w b _ cs _ (0, 0) hb, Nat.add_assoc, hu]
              rfl
            · rw [List.getElem?_drop] at a1
              obtain ⟨u, hu, hq'⟩ := hr _ _ _ _ hy a1
              rw [hu]
              exact hq'.mono hok'
        · exact Rep.dead h1
      · exact Rep.dead h1
    · rename_i hn
      exact h.mono hok' fun t l ht => hne t l (by cases ht; exact hn)
  | _ => exact RV.mono h hok' fun t l ht => by cases ht

theorem drop1_look (s : Nat) : ∀ (hp : List (Nat × Blk)) (t : Nat), look (drop1 s hp) t = if t = s then none else look hp t
  | [], t => by simp [drop1, look]
  | (k, B) :: r, t => by
    simp only [drop1]
    split
    · rename_i e
      rw [drop1_look s r t]
      simp only [look]
      by_cases h : t = s
      · rw [if_pos h, if_pos h]
      · rw [if_neg h, if_neg h, if_neg (fun e' => h (by rw [← e', e]))]
    · rename_i e
      simp only [look]
      rw [drop1_look s r t]
      by_cases h : k = t
      · subst h; rw [if_pos rfl, if_neg e, if_pos rfl]
      · rw [if_neg h]
        by_cases h2 : t = s
        · rw [if_pos h2, if_pos h2]
        · rw [if_neg h2, if_neg h2, if_neg h]
theorem sf_get (s : Nat) (b : Option Blk) : ∀ (xs : List S) (j : Nat) (x : S), (S.frz.sf s b xs)[j]? = some x → ∃ y, xs[j]? = some y ∧ x = y.frz s b
  | [], j, x, h => by cases h
  | a :: r, j, x, h => by
    cases j with
    | zero => simp [S.frz.sf] at h; exact ⟨a, rfl, h.symm⟩
    | succ j => exact sf_get s b r j x (by simpa [S.frz.sf] using h)
theorem sf_length (s : Nat) (b : Option Blk) : ∀ (xs : List S), (S.frz.sf s b xs).length = xs.length
  | [] => rfl
  | a :: r => by simp [S.frz.sf, sf_length s b r]
theorem Inv.freeze (I : Inv n w0 ok0 loc st a w) (s : Nat) : ∃ loc', Inv n w0 ok0 loc' (freeze s st) a w := by
  refine ⟨fun t => if t = s then none else loc t, ?_⟩
  have hloc : ∀ t l, (if t = s then none else loc t) = some l → t ≠ s ∧ loc t = some l := by
    intro t l h
    split at h
    · cases h
    · exact ⟨‹_›, h⟩
  have hok : ∀ b, okI w0 ok0 w loc b → okI w0 ok0 w (fun t => if t = s then none else loc t) b := fun b h => ⟨h.1, h.2.1, fun t l ht => h.2.2 t l (hloc t l ht).2⟩
  have hs : ∀ l b, loc s = some l → l.blk = some b → okI w0 ok0 w (fun t => if t = s then none else loc t) b := by
    intro l b h1 h2
    have h3 := I.hp.lo s l b h1 h2
    exact ⟨.inr h3.1, h3.2, fun t m ht hm => (hloc t m ht).1 (I.hp.inj t s m l b (hloc t m ht).2 h1 hm h2)⟩
  have hV : ∀ {v x}, RV w (okI w0 ok0 w loc) loc v x → RV w (okI w0 ok0 w (fun t => if t = s then none else loc t)) (fun t => if t = s then none else loc t) (v.frz s (look st.hp s)) x := fun h => h.frz I hok hs
  have hVs : ∀ {vs cs}, RVs w (okI w0 ok0 w loc) loc vs cs → RVs w (okI w0 ok0 w (fun t => if t = s then none else loc t)) (fun t => if t = s then none else loc t) (vs.map (V.frz s (look st.hp s))) cs := by
    intro vs cs h
    refine ⟨by rw [List.length_map]; exact h.1, fun j v c h1 h2 => ?_⟩
    rw [List.getElem?_map, Option.map_eq_some_iff] at h1
    obtain ⟨v', h3, rfl⟩ := h1
    exact hV (h.2 j v' c h3 h2)
  have hS0 : ∀ {v x}, RS0 w (okI w0 ok0 w loc) loc v x → RS0 w (okI w0 ok0 w (fun t => if t = s then none else loc t)) (fun t => if t = s then none else loc t) (v.frz s (look st.hp s)) x := by
    intro v x h
    cases v with
    | undef => exact h
    | one v => exact hV h
    | agg vs =>
      obtain ⟨cs, h1, h2⟩ := h
      exact ⟨cs, h1, hVs h2⟩
    | tup xs => exact h.elim
  have hS : ∀ {v x}, RS w (okI w0 ok0 w loc) loc v x → RS w (okI w0 ok0 w (fun t => if t = s then none else loc t)) (fun t => if t = s then none else loc t) (v.frz s (look st.hp s)) x := by
    intro v x h
    cases v with
    | tup xs =>
      obtain ⟨us, h1, h2, h3⟩ := h
      refine ⟨us, h1, by rw [h2, sf_length], fun j q u a1 a2 => ?_⟩
      obtain ⟨y, b1, rfl⟩ := sf_get s _ xs j q a1
      exact hS0 (h3 j y u b1 a2)
    | undef => exact h
    | one v => exact hS0 (v := .one v) h
    | agg vs => exact hS0 (v := .agg vs) h
  refine ⟨I.below, I.okb, ⟨fun t => ?_, fun t l B h1 h2 => ?_, fun t t' l l' b h1 h2 h3 h4 => I.hp.inj t t' l l' b (hloc t l h1).2 (hloc t' l' h2).2 h3 h4, fun t l b h1 h2 => I.hp.lo t l b (hloc t l h1).2 h2⟩, I.sz, fun t v h => ?_, I.df⟩
  · show _ = (look ((drop1 s st.hp).map fun p => (p.1, p.2.frz s (look st.hp s))) t).isSome
    rw [look_map, drop1_look]
    (try dsimp only)
    by_cases h : t = s
    · rw [if_pos h, if_pos h]; rfl
    · rw [if_neg h, if_neg h, I.hp.dom]
      cases look st.hp t <;> rfl
  · obtain ⟨g1, g2⟩ := hloc t l h1
    have h2' : look ((drop1 s st.hp).map fun p => (p.1, p.2.frz s (look st.hp s))) t = some B := h2
    rw [look_map, drop1_look, if_neg g1, Option.map_eq_some_iff] at h2'
    obtain ⟨B', h3, rfl⟩ := h2'
    have hb := I.hp.blk t l B' g2 h3
    cases l with
    | virt => cases B' <;> exact hb
    | box b => cases B' with
      | box vs =>
        obtain ⟨cs, el, k1, k2⟩ := hb
        exact ⟨cs, el, k1, hVs k2⟩
      | rows el e xs => exact hb
    | rows b el e cap => cases B' with
      | box vs => exact hb
      | rows el' e' xs =>
        obtain ⟨k1, k2, k3, k4, k5, cs, k6, k7, k8⟩ := hb
        exact ⟨k1, k2, k3, k4, k5, cs, k6, k7, fun i j x p a1 a2 => let ⟨u, hu, hr⟩ := k8 i j x p a1 a2; ⟨u, hu, hr.mono fun b hb => ⟨hok b hb, rfl⟩⟩⟩
  · have h' : look (st.sl.map fun p => (p.1, p.2.frz s (look st.hp s))) t = some v := h
    rw [look_map, Option.map_eq_some_iff] at h'
    obtain ⟨v', h1, rfl⟩ := h'
    obtain ⟨g1, g2⟩ := I.sl t v' h1
    exact ⟨g1, hS g2⟩
theorem Inv.freezes : ∀ (l : List Nat) {loc : Locs} {st : St}, Inv n w0 ok0 loc st a w → ∃ loc', Inv n w0 ok0 loc' (freezes l st) a w
  | [], loc, st, I => ⟨loc, I⟩
  | s :: r, loc, st, I => by
    obtain ⟨loc', I'⟩ := I.freeze s
    exact Inv.freezes r I'

/-! ### Code -/
def chkC (P : Program) (n : Nat) : C → Code → Bool
  | .keep _ c, d => chkC P n c d
  | .frz _ c, d => chkC P n c d
  | .skip, d => match d with
    | .skip => true
    | .label _ => true
    | _ => false
  | .region q draw, d => match d with
    | .region _ ops dr => (draw == dr) && chkR P n ops.toList q draw
    | _ => false
  | .seq x y, d => match d with
    | .seq x' y' => chkC P n x x' && chkC P n y y'
    | _ => false
  | .cond c x y, d => match d with
    | .cond c' x' y' => xok c' c && chkC P n x x' && chkC P n y y'
    | _ => false
  | .block id x, d => match d with
    | .block id' x' => (id == id') && chkC P n x x'
    | _ => false
  | .loop x, d => match d with
    | .loop x' => chkC P n x x'
    | _ => false
  | .exit id, d => match d with
    | .exit id' => id == id'
    | _ => false
  | .ret, d => match d with
    | .ret => true
    | _ => false
def Out.ex : Out → Exit
  | .norm => .normal
  | .exit id => .exit id
  | .ret => .ret

/-- **Code.** -/
theorem code_ok (hE : ∀ f, Sound P f (E f)) {N : Nat} : ∀ (c : C) (d : Code) (st st' : St) (out : Out) (loc : Locs) (a : Act) (w : World) (Q : Exit → Act → World → Prop), chkC P n c d = true → Inv n w0 ok0 loc st a w → c.ev E N st = some (out, st') →
    (∀ a' w' loc', Inv n w0 ok0 loc' st' a' w' → Q out.ex a' w') → d.wp P Q a w
  | .skip, d, st, st', out, loc, a, w, Q, hc, I, he, hn => by
    simp only [C.ev] at he
    cases he
    simp only [chkC] at hc
    split at hc
    · exact wp_skip (hn _ _ _ I)
    · exact wp_label (hn _ _ _ I)
    · cases hc
  | .region q draw, d, st, st', out, loc, a, w, Q, hc, I, he, hn => by
    simp only [C.ev] at he
    split at he
    · rename_i s1 hs
      cases he
      simp only [chkC] at hc
      split at hc
      · simp only [Bool.and_eq_true, beq_iff_eq] at hc
        obtain ⟨rfl, hc⟩ := hc
        exact regionR_ok hE hc I hs hn
      · cases hc
    · cases he
  | .seq x y, d, st, st', out, loc, a, w, Q, hc, I, he, hn => by
    simp only [C.ev] at he
    simp only [chkC] at hc
    split at hc
    · rename_i x' y'
      simp only [Bool.and_eq_true] at hc
      refine wp_seq ?_
      split at he
      · rename_i s1 h1
        exact code_ok hE x x' st s1 .norm loc a w _ hc.1 I h1 fun a' w' loc' I' => code_ok hE y y' s1 st' out loc' a' w' Q hc.2 I' he hn
      · rename_i hno
        cases out with
        | norm => exact absurd he (hno st')
        | exit id => exact code_ok hE x x' st st' (.exit id) loc a w _ hc.1 I he hn
        | ret => exact code_ok hE x x' st st' .ret loc a w _ hc.1 I he hn
    · cases hc
  | .cond c x y, d, st, st', out, loc, a, w, Q, hc, I, he, hn => by
    simp only [C.ev] at he
    simp only [chkC] at hc
    split at hc
    · simp only [Bool.and_eq_true] at hc
      split at he
      · rename_i t ht
        have hb := rs_bool (xok_rs hc.1.1 (I.gok fun _ _ h => h) ht)
        refine wp_cond hb ?_
        cases t with
        | true => exact code_ok hE x _ st st' out loc a w Q hc.1.2 I he hn
        | false => exact code_ok hE y _ st st' out loc a w Q hc.2 I he hn
      · cases he
    · cases hc
  | .block id x, d, st, st', out, loc, a, w, Q, hc, I, he, hn => by
    simp only [C.ev] at he
    simp only [chkC] at hc
    split at hc
    · simp only [Bool.and_eq_true, beq_iff_eq] at hc
      obtain ⟨rfl, hc⟩ := hc
      refine wp_block ?_
      split at he
      · rename_i i s1 h1
        refine code_ok hE x _ st s1 (.exit i) loc a w _ hc I h1 fun a' w' loc' I' => ?_
        show if i = id then Q .normal a' w' else Q (.exit i) a' w'
        split at he
        · rename_i hi; cases he; rw [if_pos hi]; exact hn _ _ _ I'
        · rename_i hi; cases he; rw [if_neg hi]; exact hn _ _ _ I'
      · rename_i hno
        cases out with
        | norm => exact code_ok hE x _ st st' .norm loc a w _ hc I he hn
        | exit i => exact absurd he (hno i st')
        | ret => exact code_ok hE x _ st st' .ret loc a w _ hc I he hn
    · cases hc
  | .loop x, d, st, st', out, loc, a, w, Q, hc, I, he, hn => by
    simp only [C.ev] at he
    simp only [chkC] at hc
    split at hc
    · rename_i x'
      have key : ∀ (m : Nat) (st : St) (loc : Locs) (a : Act) (w : World), Inv n w0 ok0 loc st a w → iter m (x.ev E N) st = some (out, st') → Code.rounds P x' Q m a w := by
        intro m
        induction m with
        | zero => intro st loc a w I he; cases he
        | succ m ih =>
          intro st loc a w I he
          rw [rounds_succ]
          simp only [iter] at he
          split at he
          · rename_i s1 h1
            exact code_ok hE x x' st s1 .norm loc a w _ hc I h1 fun a' w' loc' I' => ih s1 loc' a' w' I' he
          · rename_i hno
            cases out with
            | norm => exact absurd he (hno st')
            | exit id => exact code_ok hE x x' st st' (.exit id) loc a w _ hc I he hn
            | ret => exact code_ok hE x x' st st' .ret loc a w _ hc I he hn
      exact wp_loop_rounds N (key N st loc a w I he)
    · cases hc
  | .exit id, d, st, st', out, loc, a, w, Q, hc, I, he, hn => by
    simp only [C.ev] at he
    cases he
    simp only [chkC] at hc
    split at hc
    · simp only [beq_iff_eq] at hc
      subst hc
      exact wp_exit (hn _ _ _ I)
    · cases hc
  | .ret, d, st, st', out, loc, a, w, Q, hc, I, he, hn => by
    simp only [C.ev] at he
    cases he
    simp only [chkC] at hc
    split at hc
    · exact wp_ret (hn _ _ _ I)
    · cases hc
  | .keep l x, d, st, st', out, loc, a, w, Q, hc, I, he, hn => by
    simp only [C.ev] at he
    split at he
    · rename_i s1 h1
      obtain ⟨loc', I'⟩ := I.keep h1
      exact code_ok hE x d s1 st' out loc' a w Q hc I' he hn
    · cases he
  | .frz l x, d, st, st', out, loc, a, w, Q, hc, I, he, hn => by
    simp only [C.ev] at he
    obtain ⟨loc', I'⟩ := Inv.freezes _ I
    exact code_ok hE x d _ st' out loc' a w Q hc I' he hn
end
end Go.Proofs.YtjafaefiigingaaR
