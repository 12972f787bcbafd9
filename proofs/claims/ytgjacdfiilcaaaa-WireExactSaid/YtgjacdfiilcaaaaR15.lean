/- What is kept of a state; what is one's own becomes what is only read; code. -/
import Derived.Test.YtgjacdfiilcaaaaR14
import Derived.LoopN
set_option linter.unusedVariables false
set_option linter.unusedSimpArgs false
namespace Go.Proofs.YtgjacdfiilcaaaaR
open Go Go.RowKit

section
variable {P : Program} {n : Nat} {Γ : Ent} {w0 : World} {ok0 : Nat → Prop} {loc : Locs} {st st' : St} {a : Act} {w : World} {E : Nat → Model}

theorem look_pickL {α : Type} (l : List (Nat × α)) : ∀ (ns : List Nat) (k : Nat) (v : α), look (pickL l ns) k = some v → look l k = some v
  | [], k, v, h => by cases h
  | m :: r, k, v, h => by
    simp only [pickL] at h
    split at h
    · rename_i x hx
      simp only [look] at h
      split at h
      · rename_i e; subst e; cases h; exact hx
      · exact look_pickL l r k v h
    · exact look_pickL l r k v h
theorem mem_slMent : ∀ {sl : List (Nat × S)} {t : Nat} {v : S} {s : Nat}, (t, v) ∈ sl → s ∈ v.ment → s ∈ slMent sl
  | [], t, v, s, h, _ => by cases h
  | (t', v') :: r, t, v, s, h, hm => by
    simp only [slMent]
    rcases List.mem_cons.1 h with h | h
    · cases h; exact List.mem_append_left _ hm
    · exact List.mem_append_right _ (mem_slMent h hm)
theorem mem_hpMent : ∀ {hp : Hp} {t : Nat} {B : Blk} {s : Nat}, (t, B) ∈ hp → s ∈ B.ment → s ∈ hpMent hp
  | [], t, v, s, h, _ => by cases h
  | (t', .box vs) :: r, t, v, s, h, hm => by
    simp only [hpMent]
    rcases List.mem_cons.1 h with h | h
    · cases h; exact List.mem_append_left _ hm
    · exact List.mem_append_right _ (mem_hpMent h hm)
  | (t', .rows el e xs) :: r, t, v, s, h, hm => by
    simp only [hpMent]
    rcases List.mem_cons.1 h with h | h
    · cases h; cases hm
    · exact mem_hpMent h hm

theorem pickL_is {α : Type} {l : List (Nat × α)} : ∀ {ns : List Nat} {s : Nat}, s ∈ ns → (look l s).isSome = true → (look (pickL l ns) s).isSome = true
  | [], s, h, _ => by cases h
  | k :: r, s, h, hs => by
    unfold pickL
    by_cases hk : k = s
    · subst hk
      cases hq : look l k with
      | none => rw [hq] at hs; cases hs
      | some v => simp [look]
    · have h' : s ∈ r := (List.mem_cons.1 h).resolve_left fun e => hk e.symm
      split
      · simp only [look]
        rw [if_neg hk]
        exact pickL_is h' hs
      · exact pickL_is h' hs
theorem mem_lowB' {s : Nat} (hs : s < 64) {vs : List V} : ∀ {hp : Hp} {seen : List Nat}, s ∉ seen → look hp s = some (.box vs) → s ∈ lowB seen hp
  | [], seen, _, h => by cases h
  | (k, B) :: r, seen, hn, h => by
    simp only [look] at h
    unfold lowB
    by_cases hk : k = s
    · subst hk
      rw [if_pos rfl] at h
      cases h
      rw [if_neg (by omega), if_neg (fun hc => hn (List.contains_iff_mem.1 hc))]
      exact List.mem_cons_self ..
    · rw [if_neg hk] at h
      have hn' : s ∉ k :: seen := by rw [List.mem_cons, not_or]; exact ⟨fun e => hk e.symm, hn⟩
      split
      · exact mem_lowB' hs hn h
      · split
        · exact mem_lowB' hs hn h
        · split
          · exact List.mem_cons_of_mem _ (mem_lowB' hs hn' h)
          · exact mem_lowB' hs hn' h
theorem mem_lowB {s : Nat} (hs : s < 64) {vs : List V} {hp : Hp} (h : look hp s = some (.box vs)) : s ∈ lowB [] hp := mem_lowB' hs (by simp) h
theorem Inv.keep (I : Inv n Γ w0 ok0 loc st a w) {l : List Nat} (hk : gcK l st = some st') : ∃ loc', Inv n Γ w0 ok0 loc' st' a w := by
  unfold gcK at hk
  dsimp only at hk
  split at hk
  · rename_i hc
    cases hk
    simp only [Bool.and_eq_true, List.all_eq_true] at hc
    obtain ⟨c1, c2⟩ := hc
    generalize hhp : pickL st.hp (slMent (pickL st.sl l) ++ lowB [] st.hp ++ hpMent (pickL st.hp (slMent (pickL st.sl l) ++ lowB [] st.hp))) = hp at c1 c2
    have hsub : ∀ s B, look hp s = some B → look st.hp s = some B := by
      intro s B h
      rw [← hhp] at h
      exact look_pickL _ _ _ _ h
    refine ⟨fun s => if (look hp s).isSome then loc s else none, ?_⟩
    have hloc : ∀ s m, (if (look hp s).isSome then loc s else none) = some m → loc s = some m := by
      intro s m h
      split at h
      · exact h
      · cases h
    have hok : ∀ b, okI w0 ok0 w loc b → okI w0 ok0 w (fun s => if (look hp s).isSome then loc s else none) b ∧ w.heap[b]? = w.heap[b]? := fun b h => ⟨⟨h.1, h.2.1, fun s m hs => h.2.2 s m (hloc s m hs)⟩, rfl⟩
    have hkeep : ∀ s m, (look hp s).isSome = true → loc s = some m → (if (look hp s).isSome then loc s else none) = some m := fun s m h1 h2 => by rw [if_pos h1]; exact h2
    refine ⟨I.below, I.okb, ⟨fun s => ?_, fun s m B h1 h2 => ?_, fun s s' m m' b h1 h2 h3 h4 => I.hp.inj s s' m m' b (hloc s m h1) (hloc s' m' h2) h3 h4, fun s m b h1 h2 => I.hp.lo s m b (hloc s m h1) h2⟩, I.oko, fun s b h => ⟨(I.bx s b h).1, hkeep s _ ?_ (I.bx s b h).2⟩, I.sz, fun t v h => ?_, I.df⟩
    · dsimp only
      cases hq : look hp s with
      | none => simp
      | some B => simp only [Option.isSome_some, if_true]; rw [I.hp.dom, hsub s B hq]; rfl
    · refine (I.hp.blk s m B (hloc s m h1) (hsub s B h2)).mono hok (fun _ _ => rfl) (fun t m' ht hm' => hkeep t m' (c1 t ?_) hm')
      exact mem_hpMent (look_mem _ _ _ h2) ht
    · obtain ⟨b1, b2⟩ := I.bx s b h
      have h3 := I.hp.dom s
      rw [b2] at h3
      cases h4 : look st.hp s with
      | none => rw [h4] at h3; cases h3
      | some B =>
        have h5 := I.hp.blk s _ B b2 h4
        cases B with
        | rows el e xs => exact h5.elim
        | box vs =>
          rw [← hhp]
          exact pickL_is (List.mem_append_left _ (List.mem_append_right _ (mem_lowB b1 h4))) (by rw [h4]; rfl)
    · have h1 := look_pickL _ _ _ _ h
      obtain ⟨g1, g2⟩ := I.sl t v h1
      refine ⟨g1, g2.mono hok fun s m hs hm => hkeep s m (c2 s ?_) hm⟩
      exact mem_slMent (look_mem _ _ _ h) hs
  · cases hk

/-! ### Code -/
def chkC (P : Program) (n : Nat) : C → Code → Bool
  | .keep _ c, d => chkC P n c d
  | .frz _ c, d => chkC P n c d
  | .skip, d => match d with
    | .skip => true
    | .label _ => true
    | _ => false
  | .region q draw, d => match d with
    | .region _ ops dr => (draw == dr) && chkR P n ops.toList q draw
    | _ => false
  | .seq x y, d => match d with
    | .seq x' y' => chkC P n x x' && chkC P n y y'
    | _ => false
  | .cond c x y, d => match d with
    | .cond c' x' y' => xok c' c && chkC P n x x' && chkC P n y y'
    | _ => false
  | .block id x, d => match d with
    | .block id' x' => (id == id') && chkC P n x x'
    | _ => false
  | .loop x, d => match d with
    | .loop x' => chkC P n x x'
    | _ => false
  | .exit id, d => match d with
    | .exit id' => id == id'
    | _ => false
  | .ret, d => match d with
    | .ret => true
    | _ => false
def Out.ex : Out → Exit
  | .norm => .normal
  | .exit id => .exit id
  | .ret => .ret

/-- **Code.** -/
theorem code_ok (hE : ∀ f, Sound P f (E f)) {N : Nat} : ∀ (c : C) (d : Code) (st st' : St) (out : Out) (loc : Locs) (a : Act) (w : World) (Q : Exit → Act → World → Prop), chkC P n c d = true → Inv n Γ w0 ok0 loc st a w → c.ev E N st = some (out, st') →
    (∀ a' w' loc', Inv n Γ w0 ok0 loc' st' a' w' → Q out.ex a' w') → d.wp P Q a w
  | .skip, d, st, st', out, loc, a, w, Q, hc, I, he, hn => by
    simp only [C.ev] at he
    cases he
    simp only [chkC] at hc
    split at hc
    · exact wp_skip (hn _ _ _ I)
    · exact wp_label (hn _ _ _ I)
    · cases hc
  | .region q draw, d, st, st', out, loc, a, w, Q, hc, I, he, hn => by
    simp only [C.ev] at he
    split at he
    · rename_i s1 hs
      cases he
      simp only [chkC] at hc
      split at hc
      · simp only [Bool.and_eq_true, beq_iff_eq] at hc
        obtain ⟨rfl, hc⟩ := hc
        exact regionR_ok hE hc I hs hn
      · cases hc
    · cases he
  | .seq x y, d, st, st', out, loc, a, w, Q, hc, I, he, hn => by
    simp only [C.ev] at he
    simp only [chkC] at hc
    split at hc
    · rename_i x' y'
      simp only [Bool.and_eq_true] at hc
      refine wp_seq ?_
      split at he
      · rename_i s1 h1
        exact code_ok hE x x' st s1 .norm loc a w _ hc.1 I h1 fun a' w' loc' I' => code_ok hE y y' s1 st' out loc' a' w' Q hc.2 I' he hn
      · rename_i hno
        cases out with
        | norm => exact absurd he (hno st')
        | exit id => exact code_ok hE x x' st st' (.exit id) loc a w _ hc.1 I he hn
        | ret => exact code_ok hE x x' st st' .ret loc a w _ hc.1 I he hn
    · cases hc
  | .cond c x y, d, st, st', out, loc, a, w, Q, hc, I, he, hn => by
    simp only [C.ev] at he
    simp only [chkC] at hc
    split at hc
    · simp only [Bool.and_eq_true] at hc
      split at he
      · rename_i t ht
        have hb := rs_bool (xok_rs hc.1.1 (I.gok fun _ _ h => h) ht)
        refine wp_cond hb ?_
        cases t with
        | true => exact code_ok hE x _ st st' out loc a w Q hc.1.2 I he hn
        | false => exact code_ok hE y _ st st' out loc a w Q hc.2 I he hn
      · cases he
    · cases hc
  | .block id x, d, st, st', out, loc, a, w, Q, hc, I, he, hn => by
    simp only [C.ev] at he
    simp only [chkC] at hc
    split at hc
    · simp only [Bool.and_eq_true, beq_iff_eq] at hc
      obtain ⟨rfl, hc⟩ := hc
      refine wp_block ?_
      split at he
      · rename_i i s1 h1
        refine code_ok hE x _ st s1 (.exit i) loc a w _ hc I h1 fun a' w' loc' I' => ?_
        show if i = id then Q .normal a' w' else Q (.exit i) a' w'
        split at he
        · rename_i hi; cases he; rw [if_pos hi]; exact hn _ _ _ I'
        · rename_i hi; cases he; rw [if_neg hi]; exact hn _ _ _ I'
      · rename_i hno
        cases out with
        | norm => exact code_ok hE x _ st st' .norm loc a w _ hc I he hn
        | exit i => exact absurd he (hno i st')
        | ret => exact code_ok hE x _ st st' .ret loc a w _ hc I he hn
    · cases hc
  | .loop x, d, st, st', out, loc, a, w, Q, hc, I, he, hn => by
    simp only [C.ev] at he
    simp only [chkC] at hc
    split at hc
    · rename_i x'
      have key : ∀ (m : Nat) (st : St) (loc : Locs) (a : Act) (w : World), Inv n Γ w0 ok0 loc st a w → iter m (x.ev E N) st = some (out, st') → Code.rounds P x' Q m a w := by
        intro m
        induction m with
        | zero => intro st loc a w I he; cases he
        | succ m ih =>
          intro st loc a w I he
          rw [rounds_succ]
          simp only [iter] at he
          split at he
          · rename_i s1 h1
            exact code_ok hE x x' st s1 .norm loc a w _ hc I h1 fun a' w' loc' I' => ih s1 loc' a' w' I' he
          · rename_i hno
            cases out with
            | norm => exact absurd he (hno st')
            | exit id => exact code_ok hE x x' st st' (.exit id) loc a w _ hc I he hn
            | ret => exact code_ok hE x x' st st' .ret loc a w _ hc I he hn
      exact wp_loop_rounds N (key N st loc a w I he)
    · cases hc
  | .exit id, d, st, st', out, loc, a, w, Q, hc, I, he, hn => by
    simp only [C.ev] at he
    cases he
    simp only [chkC] at hc
    split at hc
    · simp only [beq_iff_eq] at hc
      subst hc
      exact wp_exit (hn _ _ _ I)
    · cases hc
  | .ret, d, st, st', out, loc, a, w, Q, hc, I, he, hn => by
    simp only [C.ev] at he
    cases he
    simp only [chkC] at hc
    split at hc
    · exact wp_ret (hn _ _ _ I)
    · cases hc
  | .keep l x, d, st, st', out, loc, a, w, Q, hc, I, he, hn => by
    simp only [C.ev] at he
    split at he
    · rename_i s1 h1
      obtain ⟨loc', I'⟩ := I.keep h1
      exact code_ok hE x d s1 st' out loc' a w Q hc I' he hn
    · cases he
  | .frz l x, d, st, st', out, loc, a, w, Q, hc, I, he, hn => by
    simp only [C.ev] at he
    obtain ⟨loc', I'⟩ := Inv.freezes _ I
    exact code_ok hE x d _ st' out loc' a w Q hc I' he hn
end
end Go.Proofs.YtgjacdfiilcaaaaR
