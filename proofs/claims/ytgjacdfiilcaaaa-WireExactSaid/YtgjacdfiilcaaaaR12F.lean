/- Blocks that are only read from now on; an append whose first part is kept. -/
import Derived.Test.YtgjacdfiilcaaaaR12
set_option linter.unusedVariables false
set_option linter.unusedSimpArgs false
namespace Go.Proofs.YtgjacdfiilcaaaaR
open Go Go.RowKit

section
variable {P : Program} {n : Nat} {Γ : Ent} {w0 : World} {ok0 : Nat → Prop} {loc : Locs} {st st' : St} {a : Act} {w : World} {E : Nat → Model} {o : Oper}

theorem noment_pur1s {h : Nat → Option Blk} : ∀ {vs : List V}, (ments vs).isEmpty = true → pur1s h vs = some vs
  | [], _ => rfl
  | v :: r, hm => by
    unfold ments at hm
    cases hv : v.ment with
    | some s => rw [hv] at hm; cases hm
    | none =>
      rw [hv] at hm
      have h1 : v.pur1 h = some v := by cases v <;> first | rfl | (simp [V.ment] at hv; done)
      simp only [pur1s, h1, noment_pur1s hm]
/-- A value whose site becomes what is only read. -/
theorem RV.frz {s : Nat} (I : Inv n Γ w0 ok0 loc st a w) {v : V} {x : Value} (h : RV w (okI w0 ok0 w loc) loc v x) (hok : ∀ b, okI w0 ok0 w loc b → okI w0 ok0 w (fun t => if t = s then none else loc t) b)
    (hs : ∀ l b, loc s = some l → l.blk = some b → okI w0 ok0 w (fun t => if t = s then none else loc t) b) : RV w (okI w0 ok0 w (fun t => if t = s then none else loc t)) (fun t => if t = s then none else loc t) (v.frz s (look st.hp s)) x := by
  have h1 := h.one
  have hne : ∀ t l, t ≠ s → loc t = some l → (if t = s then none else loc t) = some l := fun t l h1 h2 => by rw [if_neg h1]; exact h2
  have hok' : ∀ b, okI w0 ok0 w loc b → okI w0 ok0 w (fun t => if t = s then none else loc t) b ∧ w.heap[b]? = w.heap[b]? := fun b hb => ⟨hok b hb, rfl⟩
  have hH : HOk w (okI w0 ok0 w loc) loc (look st.hp) := I.hok fun _ _ h => h
  cases v with
  | sl s' off len =>
    simp only [V.frz]
    split
    · rename_i e
      subst e
      split
      · rename_i el e xs hq
        split
        · rename_i hl
          refine Rep.rv (pur1_rep hH hok (fun s l b hm hl' hb => hs l b (by cases hm; exact hl') hb) h ?_)
          simp only [V.pur1, hq, if_pos hl]
        · exact Rep.dead h1
      · exact Rep.dead h1
    · rename_i hn
      exact h.mono hok' fun t l ht => hne t l (by cases ht; exact hn)
  | ref s' i j =>
    simp only [V.frz]
    split
    · rename_i e
      subst e
      split
      · rename_i vs hq
        split
        · rename_i hc
          rcases h with ⟨b, g1, _, rfl⟩ | ⟨b, el, e, cap, g1, rfl⟩
          · obtain ⟨cs, el, hb, hr⟩ := hH _ _ _ g1 hq
            have hcs : vs.length = cs.size := by rw [hr.1]; simp
            refine Rep.rv (.ptr (fun m => (cs[j + m]?).getD Go.undef) (hs _ _ g1 rfl) (fun m p a1 => ?_) (fun m p a1 => ?_))
            · rw [List.getElem?_drop] at a1
              have hlt : j + m < cs.size := by rw [← hcs]; exact (List.getElem?_eq_some_iff.1 a1).1
              rw [Addr.add_lit, cell_of_row w b _ cs _ (0, 0) hb]
              simp [hlt]
            · rw [List.getElem?_drop] at a1
              have hlt : j + m < cs.size := by rw [← hcs]; exact (List.getElem?_eq_some_iff.1 a1).1
              refine (rv_rep (hr.2 (j + m) p _ a1 ?_) (ments_nil hc.2 p (List.mem_of_getElem? a1))).mono hok'
              simp [hlt]
          · exact (hH _ _ _ g1 hq).elim
        · exact Rep.dead h1
      · rename_i el e xs hq
        split
        · rename_i y hy
          rcases h with ⟨b, g1, _, rfl⟩ | ⟨b, el', e', cap, g1, rfl⟩
          · exact (hH _ _ _ g1 hq).elim
          · obtain ⟨e1, e2', hm, hxc, hlen, cs, hb, hcs, hr⟩ := hH _ _ _ g1 hq
            subst e2'
            refine Rep.rv (.ptr (fun m => (cs[i * e + (j + m)]?).getD Go.undef) (hs _ _ g1 rfl) (fun m p a1 => ?_) (fun m p a1 => ?_))
            · rw [List.getElem?_drop] at a1
              obtain ⟨u, hu, _⟩ := hr _ _ _ _ hy a1
              rw [Addr.add_lit, cell_of_row w b _ cs _ (0, 0) hb, Nat.add_assoc, hu]
              rfl
            · rw [List.getElem?_drop] at a1
              obtain ⟨u, hu, hq'⟩ := hr _ _ _ _ hy a1
              rw [hu]
              exact hq'.mono hok'
        · exact Rep.dead h1
      · exact Rep.dead h1
    · rename_i hn
      exact h.mono hok' fun t l ht => hne t l (by cases ht; exact hn)
  | _ => exact RV.mono h hok' fun t l ht => by cases ht

theorem drop1_look (s : Nat) : ∀ (hp : List (Nat × Blk)) (t : Nat), look (drop1 s hp) t = if t = s then none else look hp t
  | [], t => by simp [drop1, look]
  | (k, B) :: r, t => by
    simp only [drop1]
    split
    · rename_i e
      rw [drop1_look s r t]
      simp only [look]
      by_cases h : t = s
      · rw [if_pos h, if_pos h]
      · rw [if_neg h, if_neg h, if_neg (fun e' => h (by rw [← e', e]))]
    · rename_i e
      simp only [look]
      rw [drop1_look s r t]
      by_cases h : k = t
      · subst h; rw [if_pos rfl, if_neg e, if_pos rfl]
      · rw [if_neg h]
        by_cases h2 : t = s
        · rw [if_pos h2, if_pos h2]
        · rw [if_neg h2, if_neg h2, if_neg h]
theorem sf_get (s : Nat) (b : Option Blk) : ∀ (xs : List S) (j : Nat) (x : S), (S.frz.sf s b xs)[j]? = some x → ∃ y, xs[j]? = some y ∧ x = y.frz s b
  | [], j, x, h => by cases h
  | a :: r, j, x, h => by
    cases j with
    | zero => simp [S.frz.sf] at h; exact ⟨a, rfl, h.symm⟩
    | succ j => exact sf_get s b r j x (by simpa [S.frz.sf] using h)
theorem sf_length (s : Nat) (b : Option Blk) : ∀ (xs : List S), (S.frz.sf s b xs).length = xs.length
  | [] => rfl
  | a :: r => by simp [S.frz.sf, sf_length s b r]
theorem Inv.freeze1 (I : Inv n Γ w0 ok0 loc st a w) (s : Nat) (hs64 : ¬ s < 64) : Inv n Γ w0 ok0 (fun t => if t = s then none else loc t) (freeze s st) a w := by
  have hloc : ∀ t l, (if t = s then none else loc t) = some l → t ≠ s ∧ loc t = some l := by
    intro t l h
    split at h
    · cases h
    · exact ⟨‹_›, h⟩
  have hok : ∀ b, okI w0 ok0 w loc b → okI w0 ok0 w (fun t => if t = s then none else loc t) b := fun b h => ⟨h.1, h.2.1, fun t l ht => h.2.2 t l (hloc t l ht).2⟩
  have hs : ∀ l b, loc s = some l → l.blk = some b → okI w0 ok0 w (fun t => if t = s then none else loc t) b := by
    intro l b h1 h2
    have h3 := I.hp.lo s l b h1 h2
    exact ⟨h3.1.elim (fun h => .inl (I.oko b h)) .inr, h3.2, fun t m ht hm => (hloc t m ht).1 (I.hp.inj t s m l b (hloc t m ht).2 h1 hm h2)⟩
  have hV : ∀ {v x}, RV w (okI w0 ok0 w loc) loc v x → RV w (okI w0 ok0 w (fun t => if t = s then none else loc t)) (fun t => if t = s then none else loc t) (v.frz s (look st.hp s)) x := fun h => h.frz I hok hs
  have hVs : ∀ {vs cs}, RVs w (okI w0 ok0 w loc) loc vs cs → RVs w (okI w0 ok0 w (fun t => if t = s then none else loc t)) (fun t => if t = s then none else loc t) (vs.map (V.frz s (look st.hp s))) cs := by
    intro vs cs h
    refine ⟨by rw [List.length_map]; exact h.1, fun j v c h1 h2 => ?_⟩
    rw [List.getElem?_map, Option.map_eq_some_iff] at h1
    obtain ⟨v', h3, rfl⟩ := h1
    exact hV (h.2 j v' c h3 h2)
  have hS0 : ∀ {v x}, RS0 w (okI w0 ok0 w loc) loc v x → RS0 w (okI w0 ok0 w (fun t => if t = s then none else loc t)) (fun t => if t = s then none else loc t) (v.frz s (look st.hp s)) x := by
    intro v x h
    cases v with
    | undef => exact h
    | one v => exact hV h
    | agg vs =>
      obtain ⟨cs, h1, h2⟩ := h
      exact ⟨cs, h1, hVs h2⟩
    | tup xs => exact h.elim
  have hS : ∀ {v x}, RS w (okI w0 ok0 w loc) loc v x → RS w (okI w0 ok0 w (fun t => if t = s then none else loc t)) (fun t => if t = s then none else loc t) (v.frz s (look st.hp s)) x := by
    intro v x h
    cases v with
    | tup xs =>
      obtain ⟨us, h1, h2, h3⟩ := h
      refine ⟨us, h1, by rw [h2, sf_length], fun j q u a1 a2 => ?_⟩
      obtain ⟨y, b1, rfl⟩ := sf_get s _ xs j q a1
      exact hS0 (h3 j y u b1 a2)
    | undef => exact h
    | one v => exact hS0 (v := .one v) h
    | agg vs => exact hS0 (v := .agg vs) h
  refine ⟨I.below, I.okb, ⟨fun t => ?_, fun t l B h1 h2 => ?_, fun t t' l l' b h1 h2 h3 h4 => I.hp.inj t t' l l' b (hloc t l h1).2 (hloc t' l' h2).2 h3 h4, fun t l b h1 h2 => I.hp.lo t l b (hloc t l h1).2 h2⟩, I.oko, fun t b h => ⟨(I.bx t b h).1, by rw [if_neg (fun e => hs64 (by rw [← e]; exact (I.bx t b h).1))]; exact (I.bx t b h).2⟩, I.sz, fun t v h => ?_, I.df⟩
  · show _ = (look ((drop1 s st.hp).map fun p => (p.1, p.2.frz s (look st.hp s))) t).isSome
    rw [look_map, drop1_look]
    (try dsimp only)
    by_cases h : t = s
    · rw [if_pos h, if_pos h]; rfl
    · rw [if_neg h, if_neg h, I.hp.dom]
      cases look st.hp t <;> rfl
  · obtain ⟨g1, g2⟩ := hloc t l h1
    have h2' : look ((drop1 s st.hp).map fun p => (p.1, p.2.frz s (look st.hp s))) t = some B := h2
    rw [look_map, drop1_look, if_neg g1, Option.map_eq_some_iff] at h2'
    obtain ⟨B', h3, rfl⟩ := h2'
    have hb := I.hp.blk t l B' g2 h3
    cases l with
    | virt => cases B' <;> exact hb
    | box b => cases B' with
      | box vs =>
        obtain ⟨cs, el, k1, k2⟩ := hb
        exact ⟨cs, el, k1, hVs k2⟩
      | rows el e xs => exact hb
    | rows b el e cap => cases B' with
      | box vs => exact hb
      | rows el' e' xs =>
        obtain ⟨k1, k2, k3, k4, k5, cs, k6, k7, k8⟩ := hb
        exact ⟨k1, k2, k3, k4, k5, cs, k6, k7, fun i j x p a1 a2 => let ⟨u, hu, hr⟩ := k8 i j x p a1 a2; ⟨u, hu, hr.mono fun b hb => ⟨hok b hb, rfl⟩⟩⟩
  · have h' : look (st.sl.map fun p => (p.1, p.2.frz s (look st.hp s))) t = some v := h
    rw [look_map, Option.map_eq_some_iff] at h'
    obtain ⟨v', h1, rfl⟩ := h'
    obtain ⟨g1, g2⟩ := I.sl t v' h1
    exact ⟨g1, hS g2⟩
theorem Inv.freeze (I : Inv n Γ w0 ok0 loc st a w) (s : Nat) (hs64 : ¬ s < 64) : ∃ loc', Inv n Γ w0 ok0 loc' (freeze s st) a w := ⟨_, I.freeze1 s hs64⟩

theorem Inv.freezes : ∀ (l : List Nat) {loc : Locs} {st : St}, Inv n Γ w0 ok0 loc st a w → ∃ loc', Inv n Γ w0 ok0 loc' (freezes l st) a w
  | [], loc, st, I => ⟨loc, I⟩
  | s :: r, loc, st, I => by
    unfold Go.Proofs.YtgjacdfiilcaaaaR.freezes
    split
    · exact Inv.freezes r I
    · rename_i hs
      obtain ⟨loc', I'⟩ := I.freeze s hs
      exact Inv.freezes r I'

theorem Inv.congr0 (I : Inv n Γ w0 ok0 loc st a w) {hp : Hp} (h : look hp = look st.hp) : Inv n Γ w0 ok0 loc { st with hp := hp } a w :=
  ⟨I.below, I.okb, ⟨fun s => by show _ = (look hp s).isSome; rw [h]; exact I.hp.dom s, fun s l B h1 h2 => I.hp.blk s l B h1 (by rw [← h]; exact h2), I.hp.inj, I.hp.lo⟩, I.oko, I.bx, I.sz, fun t s h1 => I.sl t s h1, I.df⟩
/-- What has been appended to, and what came of it, are only read from now on. -/
theorem Inv.kept (I : Inv n Γ w0 ok0 loc st a w) {s : Nat} (hs64 : 64 ≤ s) {b el e cap : Nat} {cs : Array Value} {zs : List (List V)} (hb : w.heap[b]? = some (.cells cs el (0, 0))) (hbok : okI w0 ok0 w (fun t => if t = s then none else loc t) b) (hz : ∀ x ∈ zs, x.length = e) (hcap : zs.length ≤ cap)
    (hr : ∀ i j x p, zs[i]? = some x → x[j]? = some p → ∃ u, cs[i * e + j]? = some u ∧ Rep w (okI w0 ok0 w loc) p u) :
    ∃ loc', Inv n Γ w0 ok0 loc' (Go.Proofs.YtgjacdfiilcaaaaR.freeze s st) a w ∧ RS w (okI w0 ok0 w loc') loc' (.one (.row zs)) (.slice (some ⟨b, 0, none⟩) zs.length cap) := by
  refine ⟨_, I.freeze1 s (by omega), ?_⟩
  have hok : ∀ c, okI w0 ok0 w loc c → okI w0 ok0 w (fun t => if t = s then none else loc t) c ∧ w.heap[c]? = w.heap[c]? := fun c h => ⟨⟨h.1, h.2.1, fun t l ht => h.2.2 t l (by (try dsimp only at ht); split at ht; cases ht; exact ht)⟩, rfl⟩
  show Rep w _ (.row zs) _
  cases zs with
  | nil => exact .row0 _ _
  | cons z zs =>
    refine .row (fun i j => (cs[i * e + j]?).getD Go.undef) rfl (by simp) hcap hbok hz (fun i j x p h1 h2 => ?_) (fun i j x p h1 h2 => ?_)
    · obtain ⟨u, hu, _⟩ := hr i j x p h1 h2
      rw [Addr.add_lit, Nat.zero_add, cell_of_row w b _ cs _ (0, 0) hb, hu]
      rfl
    · obtain ⟨u, hu, hq⟩ := hr i j x p h1 h2
      rw [hu]
      exact hq.mono hok
theorem o_apk (I : Inv n Γ w0 ok0 loc st a w) {t : TypeId} {x y : Operand} {x' y' : X} {el e by_ : Nat} (ho : o.op = .call { callee := .builtin .append, args := #[x, y], argTypes := #[t, t] }) (ht : P.underlying t = some (.slice el)) (hT : appT P el e by_ = true) (hx : xok x x' = true) (hy : xok y y' = true)
    {d : Nat} {s' : S} {st' : St} (he : evE E d st (.apk el e by_ x' y') = some (s', st')) :
    ∃ v w' loc', (execOp a.eval o).run P w = .ok (.value v) w' ∧ Inv n Γ w0 ok0 loc' st' a w' ∧ RS w' (okI w0 ok0 w' loc') loc' s' v := by
  unfold appT at hT
  split at hT
  · rename_i ti hti
    simp only [Bool.and_eq_true, beq_iff_eq, decide_eq_true_eq] at hT
    obtain ⟨⟨⟨⟨t1, t2⟩, t3⟩, t4⟩, t5⟩ := hT
    split at t3
    · rename_i z hz
      simp only [beq_iff_eq] at t3
      simp only [evE] at he
      split at he
      · rename_i s m y0 ex ey
        split at he
        · rename_i el' e' xs ys hq hpur
          split at he
          · rename_i hc
            obtain ⟨rfl, rfl, hm, hall, hbytes, hs64⟩ := hc
            cases he
            have hg : GOk w (okI w0 ok0 w loc) loc a (look st.sl) := I.gok fun _ _ h => h
            have hh : HOk w (okI w0 ok0 w loc) loc (look st.hp) := I.hok fun _ _ h => h
            have hlen : ∀ y ∈ ys, y.length = e' := fun y hy => by have := List.all_eq_true.1 hall y hy; simpa using this
            have hxv : RV w (okI w0 ok0 w loc) loc (.sl s 0 m) (a.eval x) := xok_rs hx hg ex
            have hyv : RV w (okI w0 ok0 w loc) loc y0 (a.eval y) := xok_rs hy hg ey
            obtain ⟨A, c, hya, hsrc⟩ := row_src hh hyv hpur hlen
            have hmod : m + ys.length ≤ 140737488355328 := Nat.le_trans (Nat.le_mul_of_pos_right _ t5) hbytes
            have hexec : ∀ v w', (Builtin.append_ #[t, t] o.type #[a.eval x, a.eval y]).run P w = .ok v w' → (execOp a.eval o).run P w = .ok (.value v) w' := by
              intro v w' h
              unfold execOp
              rw [ho]
              simp [resolve, invoke, builtin, h]
            have hgrow : ∀ {w' : World}, Below w.heap.size w w' → Inv n Γ w0 ok0 loc st a w' := by
              intro w' hb
              have h := I.ext hb (fun _ => none) [] (fun s => rfl) (fun s h => by cases h) (fun s l b h => by cases h) (fun s s' l l' b h => by cases h) (fun s l B h => by cases h) none (fun t h => by cases h) .undef Go.undef rfl
              rw [Locs.or_none] at h
              exact h
            have hnewok : ∀ {w' : World}, w.heap.size < w'.heap.size → okI w0 ok0 w' (fun t => if t = s then none else loc t) w.heap.size := by
              intro w' hlt
              refine ⟨.inr I.below.size, hlt, fun q l hq hl => ?_⟩
              (try dsimp only at hq)
              split at hq
              · cases hq
              · have := (I.hp.lo q l _ hq hl).2
                omega
            rcases hxv with ⟨b, el2, e2, cap, g1, g2, g3⟩ | ⟨g1, _, hm0, g3⟩
            · obtain ⟨e1, e2', k1, k2, k3, cs, hb, hcs, hr⟩ := I.hp.blk _ _ _ g1 hq
              subst e1; subst e2'
              rw [Nat.zero_mul, Nat.sub_zero] at g3
              have hmcs : m * e' ≤ cs.toList.length := by
                have h1 : m * e' ≤ cap * e' := Nat.mul_le_mul_right e' (by omega)
                simp [hcs]; omega
              have hold : ∀ i j x p, i < m → xs[i]? = some x → x[j]? = some p → ∃ u, (cs.toList.take (m * e'))[i * e' + j]? = some u ∧ Rep w (okI w0 ok0 w loc) p u := by
                intro i j x p hi h1 h2
                obtain ⟨u, hu, hr'⟩ := hr i j x p h1 h2
                have hj : j < e' := by rw [← k3 x (List.mem_of_getElem? h1)]; exact (List.getElem?_eq_some_iff.1 h2).1
                exact ⟨u, by rw [List.getElem?_take, if_pos (idx_lt hi hj)]; simpa using hu, hr'⟩
              have htl : (cs.toList.take (m * e')).length = m * e' := by rw [List.length_take]; omega
              have htx : xs.take m = xs := List.take_of_length_le (by omega)
              have hbok : ∀ {w' : World}, w'.heap.size = w.heap.size → okI w0 ok0 w' (fun t => if t = s then none else loc t) b := by
                intro w' hsz
                have h3 := I.hp.lo s _ b g1 rfl
                refine ⟨h3.1.elim (fun h => .inl (I.oko b h)) .inr, by rw [hsz]; exact h3.2, fun q l hq hl => ?_⟩
                (try dsimp only at hq)
                split at hq
                · cases hq
                · rename_i hne
                  exact hne (I.hp.inj q s l _ b hq g1 hl rfl)
              by_cases h0 : ys = []
              · subst h0
                have hrun := run_append_none (P := P) (w := w) (i := ti) o.type ht hti (some ⟨b, 0, none⟩) A m cap c (by omega)
                obtain ⟨loc', j1, j2⟩ := I.kept (s := s) hs64 (zs := xs ++ []) hb (hbok rfl) (fun x hx => k3 x (by simpa using hx)) (by simpa using k2) (fun i j x p h1 h2 => hr i j x p (by simpa using h1) h2)
                refine ⟨_, w, loc', hexec _ _ (by rw [g3, hya]; exact hrun), j1, ?_⟩
                simpa [hm] using j2
              · obtain ⟨ad, news, hA, hnl, hnews, hone, hnr⟩ := hsrc.resolve_left h0
                subst hA
                by_cases hroom : m + ys.length ≤ cap
                · have hfit : m * ti.size + news.length ≤ cs.size := by
                    rw [hnl, hcs, t1, ← Nat.add_mul]
                    exact Nat.mul_le_mul_right _ hroom
                  have hrun := run_append_room (P := P) w t o.type el' ti ht hti b m cap cs hb ad ys.length c news (by rw [hnl, t1]) hnews hone hroom hfit
                  rw [t1] at hrun
                  generalize hcc : (cs.toList.take (m * e') ++ news ++ cs.toList.drop (m * e' + news.length)).toArray = cc at hrun
                  have hsz : (w.setRow b cc).heap.size = w.heap.size := by simp [World.setRow]
                  have hmono : ∀ {p : V} {u : Value}, Rep w (okI w0 ok0 w loc) p u → Rep (w.setRow b cc) (okI w0 ok0 (w.setRow b cc) loc) p u := by
                    intro p u h
                    refine h.mono fun b' hb' => ⟨⟨hb'.1, by rw [hsz]; exact hb'.2.1, hb'.2.2⟩, setRow_other w b b' _ fun e => hb'.2.2 _ _ g1 (by rw [e]; rfl)⟩
                  have hokeq : okI w0 ok0 (w.setRow b cc) loc = okI w0 ok0 w loc := by funext b'; simp only [okI, hsz]
                  have hheap : (w.setRow b cc).heap[b]? = some (.cells cc el' (0, 0)) := setRow_heap w b cs _ _ _ hb
                  have hccs : cc.size = cap * e' := by
                    rw [← hcc]
                    simp only [List.size_toArray, List.length_append, htl, List.length_drop, hnl, Array.length_toList, hcs]
                    rw [t1, hnl, hcs] at hfit
                    omega
                  have hrows : ∀ i j x p, (xs ++ ys)[i]? = some x → x[j]? = some p → ∃ u, cc[i * e' + j]? = some u ∧ Rep (w.setRow b cc) (okI w0 ok0 (w.setRow b cc) loc) p u := by
                    intro i j x p h1 h2
                    obtain ⟨u, hu, hr'⟩ := rows_app (w := w) k3 (by omega) htl hold hnr (cs.toList.drop (m * e' + news.length)) i j x p (by rw [htx]; exact h1) h2
                    exact ⟨u, by rw [← hcc]; simpa using hu, hmono hr'⟩
                  have I1 : Inv n Γ w0 ok0 loc st a (w.setRow b cc) := by
                    have h := I.upd g1 rfl (w.setRow b cc) rfl rfl rfl hsz (fun b' h => setRow_other w b b' _ h) (.rows el' e' xs) ⟨rfl, rfl, k1, k2, k3, cc, hheap, hccs, fun i j x p h1 h2 => by
                      obtain ⟨u, hu, hr'⟩ := hrows i j x p (by rw [List.getElem?_append_left (List.getElem?_eq_some_iff.1 h1).1]; exact h1) h2
                      rw [hokeq] at hr'
                      exact ⟨u, hu, hr'⟩⟩
                    have hl : look st.hp = look ((s, Blk.rows el' e' xs) :: st.hp) := by
                      funext q
                      simp only [look]
                      split
                      · rename_i e; rw [← e]; exact hq
                      · rfl
                    exact h.congr0 (hp := st.hp) hl
                  obtain ⟨loc', j1, j2⟩ := I1.kept (s := s) hs64 (zs := xs ++ ys) (cap := cap) hheap (hbok hsz) (fun x hx => by
                    rcases List.mem_append.1 hx with h | h
                    · exact k3 x h
                    · exact hlen x h) (by rw [List.length_append]; omega) hrows
                  refine ⟨_, _, loc', hexec _ _ (by rw [g3, hya]; exact hrun), j1, ?_⟩
                  rw [List.length_append, ← hm] at j2
                  exact j2
                · have hholds : ∀ (j : Nat) u, (cs.toList.take (m * e'))[j]? = some u → w.cell? ((⟨b, 0, none⟩ : Addr).add j) = some u := by
                    intro j u hu
                    rw [Addr.add_lit, Nat.zero_add, cell_of_row w b j cs _ (0, 0) hb]
                    rw [List.getElem?_take] at hu
                    split at hu
                    · simpa using hu
                    · cases hu
                  have hrun := run_append_grow (P := P) w t o.type el' ti z ht hti hz ⟨b, 0, none⟩ m cap (cs.toList.take (m * e')) (by rw [htl, t1]) hholds ad ys.length c news (by rw [hnl, t1]) hnews (by omega) (by omega) (by rw [t2]; exact growslice_fits (by omega) hbytes)
                  have hge := grownCap_ge w (m + ys.length) cap el'
                  generalize grownCap w (m + ys.length) cap el' = cap' at hrun hge
                  generalize hcells : ((cs.toList.take (m * e')).toArray ++ news.toArray ++ Builtin.zeroCells z.cells (cap' - (m + ys.length))) = cells at hrun
                  have hcl : cells.toList = cs.toList.take (m * e') ++ news ++ (Builtin.zeroCells z.cells (cap' - (m + ys.length))).toList := by rw [← hcells]; simp
                  have hB : Below w.heap.size w (w.drew.alloc (.cells cells el')) := (Below.refl _ w).drew.alloc (Nat.le_refl _) _
                  have hlt : w.heap.size < (w.drew.alloc (.cells cells el')).heap.size := by show _ < (w.heap.push _).size; simp
                  have hmono : ∀ {p : V} {u : Value}, Rep w (okI w0 ok0 w loc) p u → Rep (w.drew.alloc (.cells cells el')) (okI w0 ok0 (w.drew.alloc (.cells cells el')) loc) p u := by
                    intro p u h
                    exact h.mono fun b' hb' => ⟨⟨hb'.1, by have := hb'.2.1; omega, hb'.2.2⟩, heap_alloc_old w.drew _ b' hb'.2.1⟩
                  obtain ⟨loc', j1, j2⟩ := (hgrow hB).kept (s := s) hs64 (zs := xs ++ ys) (cap := cap') (heap_alloc_new w.drew _) (hnewok hlt) (fun x hx => by
                    rcases List.mem_append.1 hx with h | h
                    · exact k3 x h
                    · exact hlen x h) (by rw [List.length_append]; omega) (fun i j x p h1 h2 => by
                    obtain ⟨u, hu, hr'⟩ := rows_app (w := w) k3 (by omega) htl hold hnr (Builtin.zeroCells z.cells (cap' - (m + ys.length))).toList i j x p (by rw [htx]; exact h1) h2
                    rw [← hcl] at hu
                    exact ⟨u, by simpa using hu, hmono hr'⟩)
                  refine ⟨_, _, loc', hexec _ _ (by rw [g3, hya]; exact hrun), j1, ?_⟩
                  rw [List.length_append, ← hm] at j2
                  exact j2
            · have hxs : xs = [] := I.hp.blk _ _ _ g1 hq
              subst hm0
              subst hxs
              by_cases h0 : ys = []
              · subst h0
                have hrun := run_append_none (P := P) (w := w) (i := ti) o.type ht hti none A 0 0 c (Nat.le_refl _)
                exact ⟨_, w, _, hexec _ _ (by rw [g3, hya]; exact hrun), I.freeze1 s (by omega), Rep.row0 none 0⟩
              · obtain ⟨ad, news, hA, hnl, hnews, hone, hnr⟩ := hsrc.resolve_left h0
                subst hA
                have hys : 0 < ys.length := List.length_pos_iff.2 h0
                rw [Nat.zero_add] at hbytes
                have hrun := run_append_nil (P := P) w t o.type el' ti z ht hti hz ad ys.length c news (by rw [hnl, t1]) hnews hys (by omega) (by rw [t2]; omega)
                have hge := grownCap_ge w ys.length 0 el'
                generalize grownCap w ys.length 0 el' = cap' at hrun hge
                generalize hcells : (news.toArray ++ Builtin.zeroCells z.cells (cap' - ys.length)) = cells at hrun
                have hcl : cells.toList = [] ++ news ++ (Builtin.zeroCells z.cells (cap' - ys.length)).toList := by rw [← hcells]; simp
                have hB : Below w.heap.size w (w.drew.alloc (.cells cells el')) := (Below.refl _ w).drew.alloc (Nat.le_refl _) _
                have hlt : w.heap.size < (w.drew.alloc (.cells cells el')).heap.size := by show _ < (w.heap.push _).size; simp
                have hmono : ∀ {p : V} {u : Value}, Rep w (okI w0 ok0 w loc) p u → Rep (w.drew.alloc (.cells cells el')) (okI w0 ok0 (w.drew.alloc (.cells cells el')) loc) p u := by
                  intro p u h
                  exact h.mono fun b' hb' => ⟨⟨hb'.1, by have := hb'.2.1; omega, hb'.2.2⟩, heap_alloc_old w.drew _ b' hb'.2.1⟩
                obtain ⟨loc', j1, j2⟩ := (hgrow hB).kept (s := s) hs64 (zs := [] ++ ys) (cap := cap') (heap_alloc_new w.drew _) (hnewok hlt) (fun x hx => hlen x (by simpa using hx)) (by simpa using hge) (fun i j x p h1 h2 => by
                  obtain ⟨u, hu, hr'⟩ := rows_app (w := w) (n := 0) (xs := []) (ys := ys) (cs1 := []) (cs2 := news) (e := e') (fun x hx => by cases hx) (Nat.le_refl _) (by simp) (fun i j x p hi => absurd hi (Nat.not_lt_zero _)) hnr (Builtin.zeroCells z.cells (cap' - ys.length)).toList i j x p h1 h2
                  rw [← hcl] at hu
                  exact ⟨u, by simpa using hu, hmono hr'⟩)
                exact ⟨_, _, loc', hexec _ _ (by rw [g3, hya]; exact hrun), j1, j2⟩
          · cases he
        · cases he
      · cases he
    · cases t3
  · cases hT
/-- An append of so many noughts: where there is room, where it grows. -/
theorem run_apl_room {m : Nat} {t tn e : TypeId} (ty : TypeId) {i : TypeInfo} {z : Value} {k kn : IntKind} (ht : P.underlying t = some (.slice e)) (htn : P.underlying tn = some (.int kn)) (hi : P.info? e = some i) (hz : i.zero = some z)
    (hzs : z.cells.size = i.size) (h1 : ∀ u ∈ (Builtin.zeroCells z.cells m).toList, u.oneCell' = true) (g sLen sCap : Nat) (cur : Array Value) (hg : w.heap[g]? = some (.cells cur e (0, 0))) (h0 : 0 < m) (hs : 0 < i.size) (h48 : m * i.bytes ≤ 281474976710656) (h63 : m ≤ 9223372036854775807)
    (hroom : sLen + m ≤ sCap) (hfit : sLen * i.size + (Builtin.zeroCells z.cells m).toList.length ≤ cur.size) :
    (Builtin.append_ #[t, tn] ty #[.slice (some ⟨g, 0, none⟩) sLen sCap, .int k m]).run P w =
      .ok (.slice (some ⟨g, 0, none⟩) (sLen + m) sCap) (w.setRow g (cur.toList.take (sLen * i.size) ++ (Builtin.zeroCells z.cells m).toList ++ cur.toList.drop (sLen * i.size + (Builtin.zeroCells z.cells m).toList.length)).toArray) := by
  have hst := run_storeCells_at P g (sLen * i.size) e (Builtin.zeroCells z.cells m).toList 0 cur w hg (by simpa using hfit) h1
  simp only [Nat.add_zero] at hst
  have hw : IntKind.i64.wrap (m : Int) = m := by rw [IntKind.wrap_i64]; omega
  have h48i : ¬ (281474976710656 < (m : Int) * (i.bytes : Int)) := by
    rw [← Int.natCast_mul]
    omega
  have hneg : ¬ ((m : Int) < 0) := by omega
  have hns : ¬ (m * i.size = 0) := Nat.mul_ne_zero (by omega) (by omega)
  have hm0 : m ≠ 0 := by omega
  have hs0 : i.size ≠ 0 := by omega
  simp [Builtin.append_, run_underlying ht, run_underlying htn, sizeOf, typeInfo, zeroValue, hi, hz, asInt, asIntOf, hw, hneg, hns, hm0, hs0, h48i, hroom, Addr.add_lit, hst]
theorem run_apl_grow {m : Nat} {t tn e : TypeId} (ty : TypeId) {i : TypeInfo} {z : Value} {k kn : IntKind} (ht : P.underlying t = some (.slice e)) (htn : P.underlying tn = some (.int kn)) (hi : P.info? e = some i) (hz : i.zero = some z)
    (b : Addr) (sLen sCap : Nat) (olds : List Value) (hlo : olds.length = sLen * i.size) (holds : ∀ j v, olds[j]? = some v → w.cell? (b.add j) = some v) (h0 : 0 < m) (hs : 0 < i.size) (h48 : m * i.bytes ≤ 281474976710656)
    (hg : sCap < sLen + m) (h63 : ((sLen + m : Nat) : Int) ≤ 9223372036854775807) (hfit : Builtin.nextslicecap (sLen + m) sCap * i.bytes ≤ 281474976710656) :
    (Builtin.append_ #[t, tn] ty #[.slice (some b) sLen sCap, .int k m]).run P w =
      .ok (.slice (some ⟨w.heap.size, 0, none⟩) (sLen + m) (grownCap w (sLen + m) sCap e))
        (w.drew.alloc (.cells (olds.toArray ++ (Builtin.zeroCells z.cells m).toList.toArray ++ Builtin.zeroCells z.cells (grownCap w (sLen + m) sCap e - (sLen + m))) e)) := by
  have hn : ¬ (sLen + m ≤ sCap) := by omega
  have h63' : ¬ (9223372036854775807 < ((sLen : Int) + (m : Int))) := by omega
  have h48' : ¬ (281474976710656 < Builtin.nextslicecap (sLen + m) sCap * i.bytes) := by omega
  have hfo := run_firstCells_some (P := P) w.drew i.size sLen b sLen sCap olds hlo (by simpa using holds)
  have hw : IntKind.i64.wrap (m : Int) = m := by rw [IntKind.wrap_i64]; omega
  have h48i : ¬ (281474976710656 < (m : Int) * (i.bytes : Int)) := by
    rw [← Int.natCast_mul]
    omega
  have hneg : ¬ ((m : Int) < 0) := by omega
  have hns : ¬ (m * i.size = 0) := Nat.mul_ne_zero (by omega) (by omega)
  have hm0 : m ≠ 0 := by omega
  have hs0 : i.size ≠ 0 := by omega
  simp [Builtin.append_, run_underlying ht, run_underlying htn, sizeOf, typeInfo, zeroValue, hi, hz, asInt, asIntOf, hw, hneg, hns, hm0, hs0, h48i, hn, h63', h48', Question.forced, hfo, newRow, grownCap]
  try (congr 2; apply Array.ext'; simp [List.append_assoc])
theorem o_apl (I : Inv n Γ w0 ok0 loc st a w) {t tn : TypeId} {x y : Operand} {x' y' : X} {el e by_ : Nat} {zs : List V} {kn : IntKind} (ho : o.op = .call { callee := .builtin .append, args := #[x, y], argTypes := #[t, tn] }) (ht : P.underlying t = some (.slice el)) (htn : P.underlying tn = some (.int kn)) (hT : mksT P el e by_ zs = true) (hpos : 0 < e) (hx : xok x x' = true) (hy : xok y y' = true)
    {d : Nat} {s' : S} {st' : St} (he : evE E d st (.apl el e by_ zs x' y') = some (s', st')) :
    ∃ v w' loc', (execOp a.eval o).run P w = .ok (.value v) w' ∧ Inv n Γ w0 ok0 loc' st' a w' ∧ RS w' (okI w0 ok0 w' loc') loc' s' v := by
  have hT0 := hT
  unfold mksT at hT
  simp only [Bool.and_eq_true, beq_iff_eq, decide_eq_true_eq] at hT
  obtain ⟨⟨⟨⟨hz0, hs0⟩, hl0⟩, hp0⟩, hby0⟩ := hT
  obtain ⟨ti, z, hti, hz, hvok⟩ := zeroT_spec hz0
  rw [hti] at hby0
  simp only [beq_iff_eq] at hby0
  have t1 : ti.size = e := by
    unfold sizeT at hs0
    rw [hti] at hs0
    simpa using hs0
  have t2 : ti.bytes = by_ := hby0
  simp only [evE] at he
  split at he
  · rename_i s m l ex em
    split at he
    · rename_i el' e' xs hq
      split at he
      · rename_i hc
        obtain ⟨rfl, rfl, hm, hlpos, hbytes0, hs64⟩ := hc
        cases he
        obtain ⟨q, rfl⟩ : ∃ q : Nat, l = (q : Int) := ⟨l.toNat, by omega⟩
        have hqn : ((q : Int)).toNat = q := rfl
        rw [hqn]
        have hq0 : 0 < q := by omega
        have hg : GOk w (okI w0 ok0 w loc) loc a (look st.sl) := I.gok fun _ _ h => h
        have hh : HOk w (okI w0 ok0 w loc) loc (look st.hp) := I.hok fun _ _ h => h
        have hcz : z.cells.size = e' := by
          have := (voks_rvs (w := w) (ok := okI w0 ok0 w loc) (loc := loc) hvok).1
          simp at this
          omega
        obtain ⟨ys, hys⟩ : ∃ ys, ys = List.replicate q zs := ⟨_, rfl⟩
        have hyl : ys.length = q := by rw [hys]; simp
        rw [← hys]
        have hels := els_zero (w := w) (ok := okI w0 ok0 w loc) (n := q) hvok hl0
        rw [← hys] at hels
        obtain ⟨news, hnews0⟩ : ∃ news, news = (Builtin.zeroCells z.cells q).toList := ⟨_, rfl⟩
        have hnz : ((Array.range (q * e')).map fun i => z.cells[i % z.cells.size]!).toList = news := by
          rw [hnews0]; unfold Builtin.zeroCells; rw [hcz]
        rw [hnz] at hels
        obtain ⟨hlen, hnl, hnr, hone⟩ := hels
        rw [hyl] at hnl
        have hbytes : (m + q) * by_ ≤ 140737488355328 := by
          have : (((m + q : Nat) : Int)) * (by_ : Int) ≤ 140737488355328 := by simpa using hbytes0
          rw [← Int.natCast_mul] at this
          omega
        have hxv : RV w (okI w0 ok0 w loc) loc (.sl s 0 m) (a.eval x) := xok_rs hx hg ex
        obtain ⟨k, hyv⟩ := asI_spec (a := a) hy hg em
        have t5 := hp0
        have hmod : m + q ≤ 140737488355328 := Nat.le_trans (Nat.le_mul_of_pos_right _ t5) hbytes
        have hq48 : q * ti.bytes ≤ 281474976710656 := by
          have h1 : q * by_ ≤ (m + q) * by_ := Nat.mul_le_mul_right by_ (by omega)
          rw [t2]
          omega
        have hexec : ∀ v w', (Builtin.append_ #[t, tn] o.type #[a.eval x, a.eval y]).run P w = .ok v w' → (execOp a.eval o).run P w = .ok (.value v) w' := by
          intro v w' h
          unfold execOp
          rw [ho]
          simp [resolve, invoke, builtin, h]
        have hgrow : ∀ {w' : World}, Below w.heap.size w w' → Inv n Γ w0 ok0 loc st a w' := by
          intro w' hb
          have h := I.ext hb (fun _ => none) [] (fun s => rfl) (fun s h => by cases h) (fun s l b h => by cases h) (fun s s' l l' b h => by cases h) (fun s l B h => by cases h) none (fun t h => by cases h) .undef Go.undef rfl
          rw [Locs.or_none] at h
          exact h
        have hnewok : ∀ {w' : World}, w.heap.size < w'.heap.size → okI w0 ok0 w' (fun t => if t = s then none else loc t) w.heap.size := by
          intro w' hlt
          refine ⟨.inr I.below.size, hlt, fun q l hq hl => ?_⟩
          (try dsimp only at hq)
          split at hq
          · cases hq
          · have := (I.hp.lo q l _ hq hl).2
            omega
        rcases hxv with ⟨b, el2, e2, cap, g1, g2, g3⟩ | ⟨g1, _, hm0, g3⟩
        · obtain ⟨e1, e2', k1, k2, k3, cs, hb, hcs, hr⟩ := I.hp.blk _ _ _ g1 hq
          subst e1; subst e2'
          rw [Nat.zero_mul, Nat.sub_zero] at g3
          have hmcs : m * e' ≤ cs.toList.length := by
            have h1 : m * e' ≤ cap * e' := Nat.mul_le_mul_right e' (by omega)
            simp [hcs]; omega
          have hold : ∀ i j x p, i < m → xs[i]? = some x → x[j]? = some p → ∃ u, (cs.toList.take (m * e'))[i * e' + j]? = some u ∧ Rep w (okI w0 ok0 w loc) p u := by
            intro i j x p hi h1 h2
            obtain ⟨u, hu, hr'⟩ := hr i j x p h1 h2
            have hj : j < e' := by rw [← k3 x (List.mem_of_getElem? h1)]; exact (List.getElem?_eq_some_iff.1 h2).1
            exact ⟨u, by rw [List.getElem?_take, if_pos (idx_lt hi hj)]; simpa using hu, hr'⟩
          have htl : (cs.toList.take (m * e')).length = m * e' := by rw [List.length_take]; omega
          have htx : xs.take m = xs := List.take_of_length_le (by omega)
          have hbok : ∀ {w' : World}, w'.heap.size = w.heap.size → okI w0 ok0 w' (fun t => if t = s then none else loc t) b := by
            intro w' hsz
            have h3 := I.hp.lo s _ b g1 rfl
            refine ⟨h3.1.elim (fun h => .inl (I.oko b h)) .inr, by rw [hsz]; exact h3.2, fun q l hq hl => ?_⟩
            (try dsimp only at hq)
            split at hq
            · cases hq
            · rename_i hne
              exact hne (I.hp.inj q s l _ b hq g1 hl rfl)
          by_cases h0 : ys = []
          · exfalso; rw [h0] at hyl; simp at hyl; omega
          · skip
            by_cases hroom : m + q ≤ cap
            · have hfit : m * ti.size + news.length ≤ cs.size := by
                rw [hnl, hcs, t1, ← Nat.add_mul]
                exact Nat.mul_le_mul_right _ hroom
              have hrun := run_apl_room (P := P) (w := w) (m := q) (k := k) o.type ht htn hti hz (by rw [hcz, t1]) (by rw [← hnews0]; exact hone) b m cap cs hb hq0 (by omega) hq48 (by omega) hroom (by rw [← hnews0]; exact hfit)
              rw [← hnews0] at hrun
              rw [t1] at hrun
              generalize hcc : (cs.toList.take (m * e') ++ news ++ cs.toList.drop (m * e' + news.length)).toArray = cc at hrun
              have hsz : (w.setRow b cc).heap.size = w.heap.size := by simp [World.setRow]
              have hmono : ∀ {p : V} {u : Value}, Rep w (okI w0 ok0 w loc) p u → Rep (w.setRow b cc) (okI w0 ok0 (w.setRow b cc) loc) p u := by
                intro p u h
                refine h.mono fun b' hb' => ⟨⟨hb'.1, by rw [hsz]; exact hb'.2.1, hb'.2.2⟩, setRow_other w b b' _ fun e => hb'.2.2 _ _ g1 (by rw [e]; rfl)⟩
              have hokeq : okI w0 ok0 (w.setRow b cc) loc = okI w0 ok0 w loc := by funext b'; simp only [okI, hsz]
              have hheap : (w.setRow b cc).heap[b]? = some (.cells cc el' (0, 0)) := setRow_heap w b cs _ _ _ hb
              have hccs : cc.size = cap * e' := by
                rw [← hcc]
                simp only [List.size_toArray, List.length_append, htl, List.length_drop, hnl, Array.length_toList, hcs]
                rw [t1, hnl, hcs] at hfit
                omega
              have hrows : ∀ i j x p, (xs ++ ys)[i]? = some x → x[j]? = some p → ∃ u, cc[i * e' + j]? = some u ∧ Rep (w.setRow b cc) (okI w0 ok0 (w.setRow b cc) loc) p u := by
                intro i j x p h1 h2
                obtain ⟨u, hu, hr'⟩ := rows_app (w := w) k3 (by omega) htl hold hnr (cs.toList.drop (m * e' + news.length)) i j x p (by rw [htx]; exact h1) h2
                exact ⟨u, by rw [← hcc]; simpa using hu, hmono hr'⟩
              have I1 : Inv n Γ w0 ok0 loc st a (w.setRow b cc) := by
                have h := I.upd g1 rfl (w.setRow b cc) rfl rfl rfl hsz (fun b' h => setRow_other w b b' _ h) (.rows el' e' xs) ⟨rfl, rfl, k1, k2, k3, cc, hheap, hccs, fun i j x p h1 h2 => by
                  obtain ⟨u, hu, hr'⟩ := hrows i j x p (by rw [List.getElem?_append_left (List.getElem?_eq_some_iff.1 h1).1]; exact h1) h2
                  rw [hokeq] at hr'
                  exact ⟨u, hu, hr'⟩⟩
                have hl : look st.hp = look ((s, Blk.rows el' e' xs) :: st.hp) := by
                  funext q
                  simp only [look]
                  split
                  · rename_i e; rw [← e]; exact hq
                  · rfl
                exact h.congr0 (hp := st.hp) hl
              obtain ⟨loc', j1, j2⟩ := I1.kept (s := s) hs64 (zs := xs ++ ys) (cap := cap) hheap (hbok hsz) (fun x hx => by
                rcases List.mem_append.1 hx with h | h
                · exact k3 x h
                · exact hlen x h) (by rw [List.length_append]; omega) hrows
              refine ⟨_, _, loc', hexec _ _ (by rw [g3, hyv]; exact hrun), j1, ?_⟩
              rw [List.length_append, ← hm, hyl] at j2
              exact j2
            · have hholds : ∀ (j : Nat) u, (cs.toList.take (m * e'))[j]? = some u → w.cell? ((⟨b, 0, none⟩ : Addr).add j) = some u := by
                intro j u hu
                rw [Addr.add_lit, Nat.zero_add, cell_of_row w b j cs _ (0, 0) hb]
                rw [List.getElem?_take] at hu
                split at hu
                · simpa using hu
                · cases hu
              have hrun := run_apl_grow (P := P) (w := w) (m := q) (k := k) o.type ht htn hti hz ⟨b, 0, none⟩ m cap (cs.toList.take (m * e')) (by rw [htl, t1]) hholds hq0 (by omega) hq48 (by omega) (by omega) (by rw [t2]; exact growslice_fits (by omega) hbytes)
              rw [← hnews0] at hrun
              have hge := grownCap_ge w (m + q) cap el'
              generalize grownCap w (m + q) cap el' = cap' at hrun hge
              generalize hcells : ((cs.toList.take (m * e')).toArray ++ news.toArray ++ Builtin.zeroCells z.cells (cap' - (m + q))) = cells at hrun
              have hcl : cells.toList = cs.toList.take (m * e') ++ news ++ (Builtin.zeroCells z.cells (cap' - (m + q))).toList := by rw [← hcells]; simp
              have hB : Below w.heap.size w (w.drew.alloc (.cells cells el')) := (Below.refl _ w).drew.alloc (Nat.le_refl _) _
              have hlt : w.heap.size < (w.drew.alloc (.cells cells el')).heap.size := by show _ < (w.heap.push _).size; simp
              have hmono : ∀ {p : V} {u : Value}, Rep w (okI w0 ok0 w loc) p u → Rep (w.drew.alloc (.cells cells el')) (okI w0 ok0 (w.drew.alloc (.cells cells el')) loc) p u := by
                intro p u h
                exact h.mono fun b' hb' => ⟨⟨hb'.1, by have := hb'.2.1; omega, hb'.2.2⟩, heap_alloc_old w.drew _ b' hb'.2.1⟩
              obtain ⟨loc', j1, j2⟩ := (hgrow hB).kept (s := s) hs64 (zs := xs ++ ys) (cap := cap') (heap_alloc_new w.drew _) (hnewok hlt) (fun x hx => by
                rcases List.mem_append.1 hx with h | h
                · exact k3 x h
                · exact hlen x h) (by rw [List.length_append]; omega) (fun i j x p h1 h2 => by
                obtain ⟨u, hu, hr'⟩ := rows_app (w := w) k3 (by omega) htl hold hnr (Builtin.zeroCells z.cells (cap' - (m + q))).toList i j x p (by rw [htx]; exact h1) h2
                rw [← hcl] at hu
                exact ⟨u, by simpa using hu, hmono hr'⟩)
              refine ⟨_, _, loc', hexec _ _ (by rw [g3, hyv]; exact hrun), j1, ?_⟩
              rw [List.length_append, ← hm, hyl] at j2
              exact j2
        · have hxs : xs = [] := I.hp.blk _ _ _ g1 hq
          subst hm0
          subst hxs
          by_cases h0 : ys = []
          · exfalso; rw [h0] at hyl; simp at hyl; omega
          · skip
            have hys : 0 < q := hq0
            rw [Nat.zero_add] at hbytes
            have hrun := Lib.run_append_nil_zeros w t tn o.type el' ti z k kn ht htn hti hz q hq0 (by omega) (by omega) hq48
            rw [show Builtin.zeroCells z.cells q = news.toArray by rw [hnews0]] at hrun
            have hge := grownCap_ge w q 0 el'
            generalize grownCap w q 0 el' = cap' at hrun hge
            generalize hcells : (news.toArray ++ Builtin.zeroCells z.cells (cap' - q)) = cells at hrun
            have hcl : cells.toList = [] ++ news ++ (Builtin.zeroCells z.cells (cap' - q)).toList := by rw [← hcells]; simp
            have hB : Below w.heap.size w (w.drew.alloc (.cells cells el')) := (Below.refl _ w).drew.alloc (Nat.le_refl _) _
            have hlt : w.heap.size < (w.drew.alloc (.cells cells el')).heap.size := by show _ < (w.heap.push _).size; simp
            have hmono : ∀ {p : V} {u : Value}, Rep w (okI w0 ok0 w loc) p u → Rep (w.drew.alloc (.cells cells el')) (okI w0 ok0 (w.drew.alloc (.cells cells el')) loc) p u := by
              intro p u h
              exact h.mono fun b' hb' => ⟨⟨hb'.1, by have := hb'.2.1; omega, hb'.2.2⟩, heap_alloc_old w.drew _ b' hb'.2.1⟩
            obtain ⟨loc', j1, j2⟩ := (hgrow hB).kept (s := s) hs64 (zs := [] ++ ys) (cap := cap') (heap_alloc_new w.drew _) (hnewok hlt) (fun x hx => hlen x (by simpa using hx)) (by rw [List.nil_append, hyl]; exact hge) (fun i j x p h1 h2 => by
              obtain ⟨u, hu, hr'⟩ := rows_app (w := w) (n := 0) (xs := []) (ys := ys) (cs1 := []) (cs2 := news) (e := e') (fun x hx => by cases hx) (Nat.le_refl _) (by simp) (fun i j x p hi => absurd hi (Nat.not_lt_zero _)) hnr (Builtin.zeroCells z.cells (cap' - q)).toList i j x p h1 h2
              rw [← hcl] at hu
              exact ⟨u, by simpa using hu, hmono hr'⟩)
            rw [show ([] ++ ys : List (List V)).length = q by rw [List.nil_append, hyl]] at j2
            exact ⟨_, _, loc', hexec _ _ (by rw [g3, hyv]; exact hrun), j1, j2⟩
      · cases he
    · cases he
  · cases he
/-- An interface value of a variable of one's own: only read from then on. -/
theorem o_mkp (I : Inv n Γ w0 ok0 loc st a w) {t : TypeId} {x : Operand} {x' : X} (ho : o.op = .makeInterface t x) (ht : ifT P t false = true) (hx : xok x x' = true)
    {d : Nat} {s' : S} {st' : St} (he : evE E d st (.mkp t x') = some (s', st')) :
    ∃ v w' loc', (execOp a.eval o).run P w = .ok (.value v) w' ∧ Inv n Γ w0 ok0 loc' st' a w' ∧ RS w' (okI w0 ok0 w' loc') loc' s' v := by
  simp only [evE] at he
  split at he
  · rename_i s0 i0 j0 ex0
    obtain ⟨loc1, I1⟩ := Inv.freezes (blkMents (look st.hp) [s0]) I
    generalize freezes (blkMents (look st.hp) [s0]) st = st1 at he I1
    split at he
    · rename_i s ex
      split at he
      · rename_i vs hq
        split at he
        · rename_i hc
          obtain ⟨hs64, hm⟩ := hc
          cases he
          have hg : GOk w (okI w0 ok0 w loc1) loc1 a (look st1.sl) := I1.gok fun _ _ h => h
          have hxv : RV w (okI w0 ok0 w loc1) loc1 (.ref s 0 0) (a.eval x) := xok_rs hx hg ex
          have hloc : ∀ t l, (if t = s then none else loc1 t) = some l → t ≠ s ∧ loc1 t = some l := by
            intro t l h
            split at h
            · cases h
            · exact ⟨‹_›, h⟩
          have hok : ∀ b, okI w0 ok0 w loc1 b → okI w0 ok0 w (fun t => if t = s then none else loc1 t) b := fun b h => ⟨h.1, h.2.1, fun t l ht => h.2.2 t l (hloc t l ht).2⟩
          have hs : ∀ l b, loc1 s = some l → l.blk = some b → okI w0 ok0 w (fun t => if t = s then none else loc1 t) b := by
            intro l b h1 h2
            have h3 := I1.hp.lo s l b h1 h2
            exact ⟨h3.1.elim (fun h => .inl (I1.oko b h)) .inr, h3.2, fun t m ht hm => (hloc t m ht).1 (I1.hp.inj t s m l b (hloc t m ht).2 h1 hm h2)⟩
          have hfz := hxv.frz I1 hok hs
          rw [hq] at hfz
          have hvf : V.frz s (some (.box vs)) (.ref s 0 0) = .ptr vs := by
            simp only [V.frz, if_true]
            rw [if_pos ⟨trivial, hm⟩, List.drop_zero]
          rw [hvf] at hfz
          refine ⟨.iface t (a.eval x), w, _, ?_, I1.freeze1 s (by omega), ?_⟩
          · unfold execOp
            rw [ho]
            simp [run_mki ht]
          · show Rep _ _ (.ifc t (.ptr vs)) _
            exact .ifc hfz
        · cases he
      · cases he
    · cases he
  · cases he
theorem freeze_heap (w : World) (b m : Nat) (cs : Array Value) (el : TypeId) (h : w.heap[b]? = some (.cells cs el (0, 0))) : (w.freeze ⟨b, m, none⟩ 1).heap[b]? = some (.cells cs el (m, m + 1)) := by
  unfold World.freeze
  rw [if_neg (by decide)]
  show (w.heap.modify b _)[b]? = _
  rw [Array.getElem?_modify, if_pos rfl, h]
  rfl
theorem freeze_other (w : World) (b m k : Nat) (h : k ≠ b) : (w.freeze ⟨b, m, none⟩ 1).heap[k]? = w.heap[k]? := by
  unfold World.freeze
  rw [if_neg (by decide)]
  show (w.heap.modify b _)[k]? = _
  rw [Array.getElem?_modify, if_neg (fun e => h e.symm)]
theorem freeze_size (w : World) (b m : Nat) : (w.freeze ⟨b, m, none⟩ 1).heap.size = w.heap.size := by
  unfold World.freeze
  rw [if_neg (by decide)]
  show (w.heap.modify b _).size = _
  rw [Array.size_modify]
/-- Bytes out of bytes of one's own: only read from then on. -/
theorem o_cvb (I : Inv n Γ w0 ok0 loc st a w) {t el : TypeId} {x : Operand} {x' : X} (ho : o.op = .convert t t x) (ht : P.underlying t = some (.slice el)) (hu : P.underlying el = some (.int .u8)) (hx : xok x x' = true)
    {d : Nat} {s' : S} {st' : St} (he : evE E d st (.cvb x') = some (s', st')) :
    ∃ v w' loc', (execOp a.eval o).run P w = .ok (.value v) w' ∧ Inv n Γ w0 ok0 loc' st' a w' ∧ RS w' (okI w0 ok0 w' loc') loc' s' v := by
  simp only [evE] at he
  split at he
  · rename_i s m ex
    split at he
    · rename_i el' e' xs hq
      split at he
      · rename_i hc
        obtain ⟨hm, hpos⟩ := hc
        cases he
        have hg : GOk w (okI w0 ok0 w loc) loc a (look st.sl) := I.gok fun _ _ h => h
        have hxv : RV w (okI w0 ok0 w loc) loc (.sl s 0 m) (a.eval x) := xok_rs hx hg ex
        rcases hxv with ⟨b, el2, e2, cap, g1, g2, g3⟩ | ⟨g1, _, hm0, g3⟩
        · obtain ⟨e1, e2', k1, k2, k3, cs, hb, hcs, hr⟩ := I.hp.blk _ _ _ g1 hq
          subst e1; subst e2'
          rw [Nat.zero_mul, Nat.sub_zero] at g3
          have hsh : w.shape? b = some (el', cs.size) := by simp [World.shape?, hb]
          have hrun : (execOp a.eval o).run P w = .ok (.value (.slice (some ⟨b, 0, none⟩) m cap)) (w.freeze ⟨b, cs.size, none⟩ 1) := by
            unfold execOp
            rw [ho]
            simp [convert, run_underlying ht, run_underlying hu, g3, markStringish, hsh, Result.andThen]
          have hsz := freeze_size w b cs.size
          have I1 := I.appd (l' := .virt) g1 (fun _ h => by cases h) (w.freeze ⟨b, cs.size, none⟩ 1) rfl rfl rfl (by rw [hsz]; exact Nat.le_refl _) (fun b' h => by cases h) (fun k _ hk => freeze_other w b cs.size k fun e => hk (by rw [e]; rfl)) (.rows el' e' []) rfl
          refine ⟨_, _, _, hrun, I1, ?_⟩
          have hlo := I.hp.lo s _ b g1 rfl
          have hbok : okI w0 ok0 (w.freeze ⟨b, cs.size, none⟩ 1) (loc.set s .virt) b := by
            refine ⟨hlo.1.elim (fun h => .inl (I.oko b h)) .inr, by rw [hsz]; exact hlo.2, fun q l hq' hl => ?_⟩
            by_cases hqs : q = s
            · subst hqs; rw [set_same] at hq'; cases hq'; cases hl
            · rw [set_other _ _ hqs] at hq'
              exact hqs (I.hp.inj q s l _ b hq' g1 hl rfl)
          have hok : ∀ c, okI w0 ok0 w loc c → okI w0 ok0 (w.freeze ⟨b, cs.size, none⟩ 1) (loc.set s .virt) c ∧ (w.freeze ⟨b, cs.size, none⟩ 1).heap[c]? = w.heap[c]? := by
            intro c h
            refine ⟨⟨h.1, by rw [hsz]; exact h.2.1, fun q l hq' hl => ?_⟩, freeze_other w b cs.size c fun e => h.2.2 _ _ g1 (by rw [e]; rfl)⟩
            by_cases hqs : q = s
            · subst hqs; rw [set_same] at hq'; cases hq'; cases hl
            · rw [set_other _ _ hqs] at hq'
              exact h.2.2 q l hq' hl
          show Rep _ _ (.row xs) _
          refine .row (fun i j => (cs[i * e' + j]?).getD Go.undef) hm.symm hpos (by omega) hbok k3 (fun i j x p h1 h2 => ?_) (fun i j x p h1 h2 => ?_)
          · obtain ⟨u, hu', _⟩ := hr i j x p h1 h2
            rw [Addr.add_lit, Nat.zero_add, cell_of_row _ b _ cs _ _ (freeze_heap w b cs.size cs _ hb), hu']
            rfl
          · obtain ⟨u, hu', hq'⟩ := hr i j x p h1 h2
            rw [hu']
            exact hq'.mono hok
        · omega
      · cases he
    · cases he
  · cases he
end
end Go.Proofs.YtgjacdfiilcaaaaR
