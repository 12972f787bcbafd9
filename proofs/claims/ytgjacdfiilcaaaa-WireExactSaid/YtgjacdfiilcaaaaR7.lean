/- Operations that change a block, and calls. -/
import Derived.Test.YtgjacdfiilcaaaaR6
set_option linter.unusedVariables false
set_option linter.unusedSimpArgs false
namespace Go.Proofs.YtgjacdfiilcaaaaR
open Go Go.RowKit

section
variable {P : Program} {n : Nat} {Γ : Ent} {w0 : World} {ok0 : Nat → Prop} {loc : Locs} {st : St} {a : Act} {w : World} {o : Oper}

def Locs.set (loc : Locs) (s : Nat) (l : Loc) : Locs := fun t => if t = s then some l else loc t

theorem RV.kill {ok ok' : Nat → Prop} {w w' : World} {loc loc' : Locs} {s : Nat} {v : V} {x : Value} (h : RV w ok loc v x) (hok : ∀ b, ok b → ok' b ∧ w'.heap[b]? = w.heap[b]?) (hl : ∀ t l, t ≠ s → loc t = some l → loc' t = some l) : RV w' ok' loc' (v.kill s) x := by
  have h1 := h.one
  cases v with
  | ref s' i j =>
    simp only [V.kill]
    split
    · exact Rep.dead h1
    · rename_i hne
      refine h.mono hok fun t l ht hs => hl t l ?_ hs
      cases ht; exact hne
  | sl s' off len =>
    simp only [V.kill]
    split
    · exact Rep.dead h1
    · rename_i hne
      refine h.mono hok fun t l ht hs => hl t l ?_ hs
      cases ht; exact hne
  | _ => exact RV.mono h hok fun t l ht hs => by cases ht
theorem RVs.kill {ok ok' : Nat → Prop} {w w' : World} {loc loc' : Locs} {s : Nat} {vs : List V} {cs : List Value} (h : RVs w ok loc vs cs) (hok : ∀ b, ok b → ok' b ∧ w'.heap[b]? = w.heap[b]?) (hl : ∀ t l, t ≠ s → loc t = some l → loc' t = some l) : RVs w' ok' loc' (vs.map (V.kill s)) cs := by
  refine ⟨by rw [List.length_map]; exact h.1, fun j v c h1 h2 => ?_⟩
  rw [List.getElem?_map, Option.map_eq_some_iff] at h1
  obtain ⟨v', h3, rfl⟩ := h1
  exact (h.2 j v' c h3 h2).kill hok hl
theorem RS0.kill {ok ok' : Nat → Prop} {w w' : World} {loc loc' : Locs} {s : Nat} {v : S} {x : Value} (h : RS0 w ok loc v x) (hok : ∀ b, ok b → ok' b ∧ w'.heap[b]? = w.heap[b]?) (hl : ∀ t l, t ≠ s → loc t = some l → loc' t = some l) : RS0 w' ok' loc' (v.kill s) x := by
  cases v with
  | undef => exact h
  | one v => exact RV.kill h hok hl
  | agg vs =>
    obtain ⟨cs, h1, h2⟩ := h
    exact ⟨cs, h1, h2.kill hok hl⟩
  | tup xs => exact h.elim
theorem sk_get (s : Nat) : ∀ (xs : List S) (j : Nat) (x : S), (S.kill.sk s xs)[j]? = some x → ∃ y, xs[j]? = some y ∧ x = y.kill s
  | [], j, x, h => by cases h
  | a :: r, j, x, h => by
    cases j with
    | zero => simp [S.kill.sk] at h; exact ⟨a, rfl, h.symm⟩
    | succ j => exact sk_get s r j x (by simpa [S.kill.sk] using h)
theorem sk_length (s : Nat) : ∀ (xs : List S), (S.kill.sk s xs).length = xs.length
  | [] => rfl
  | a :: r => by simp [S.kill.sk, sk_length s r]
theorem RS.kill {ok ok' : Nat → Prop} {w w' : World} {loc loc' : Locs} {s : Nat} {v : S} {x : Value} (h : RS w ok loc v x) (hok : ∀ b, ok b → ok' b ∧ w'.heap[b]? = w.heap[b]?) (hl : ∀ t l, t ≠ s → loc t = some l → loc' t = some l) : RS w' ok' loc' (v.kill s) x := by
  cases v with
  | tup xs =>
    obtain ⟨us, h1, h2, h3⟩ := h
    refine ⟨us, h1, by rw [h2, sk_length], fun j q u a1 a2 => ?_⟩
    obtain ⟨y, b1, rfl⟩ := sk_get s xs j q a1
    exact (h3 j y u b1 a2).kill hok hl
  | undef => exact h
  | one v => exact RS0.kill (v := .one v) h hok hl
  | agg vs => exact RS0.kill (v := .agg vs) h hok hl
theorem look_map {α β : Type} (f : α → β) : ∀ (l : List (Nat × α)) (k : Nat), look (l.map fun p => (p.1, f p.2)) k = (look l k).map f
  | [], _ => rfl
  | (m, v) :: r, k => by
    simp only [List.map_cons, look]
    split
    · rfl
    · exact look_map f r k

theorem RVs.kill' {ok ok' : Nat → Prop} {w w' : World} {loc loc' : Locs} {s : Nat} {l : Loc} {B : Blk} (h : HB w ok loc l B) (hok : ∀ b, ok b → ok' b ∧ w'.heap[b]? = w.heap[b]?) (hb : ∀ b, l.blk = some b → w'.heap[b]? = w.heap[b]?) (hl : ∀ t l, t ≠ s → loc t = some l → loc' t = some l) : HB w' ok' loc' l (B.kill s) := by
  cases l with
  | virt => cases B with
    | box vs => exact h
    | rows el e xs => exact h
  | box b => cases B with
    | box vs =>
      obtain ⟨cs, el, h1, h2⟩ := h
      exact ⟨cs, el, by rw [hb b rfl]; exact h1, h2.kill hok hl⟩
    | rows el e xs => exact h
  | rows b el e cap => cases B with
    | box vs => exact h
    | rows el' e' xs =>
      obtain ⟨h1, h2, h3, h4, h5, cs, h6, h7, h8⟩ := h
      refine ⟨h1, h2, h3, h4, h5, cs, by rw [hb b rfl]; exact h6, h7, fun i j x p a c => ?_⟩
      obtain ⟨u, hu, hr⟩ := h8 i j x p a c
      exact ⟨u, hu, hr.mono hok⟩

/-- A site's block, changed where it stands. -/
theorem Inv.upd (I : Inv n Γ w0 ok0 loc st a w) {s : Nat} {l : Loc} {b : Nat} (hl : loc s = some l) (hlb : l.blk = some b) (w' : World) (hos : w'.os = w.os) (htp : w'.tape = w.tape) (hout : w'.output = w.output) (hsz : w'.heap.size = w.heap.size) (hoth : ∀ b', b' ≠ b → w'.heap[b']? = w.heap[b']?)
    (B : Blk) (hB : HB w' (okI w0 ok0 w loc) loc l B) : Inv n Γ w0 ok0 loc { st with hp := (s, B) :: st.hp } a w' := by
  have hlo := I.hp.lo s l b hl hlb
  have hokeq : okI w0 ok0 w' loc = okI w0 ok0 w loc := by funext b'; simp only [okI, hsz]
  have hok : ∀ b', okI w0 ok0 w loc b' → okI w0 ok0 w loc b' ∧ w'.heap[b']? = w.heap[b']? := fun b' h => ⟨h, hoth b' fun e => h.2.2 s l hl (by rw [e]; exact hlb)⟩
  refine ⟨⟨by rw [hos]; exact I.below.os, by rw [htp]; exact I.below.tape, by rw [hout]; exact I.below.output, by rw [hsz]; exact I.below.size, fun k hk ho => by rw [hoth k (fun e => by subst e; rcases hlo.1 with h | h; exact ho h; omega)]; exact I.below.block k hk ho⟩, I.okb, ⟨fun t => ?_, fun t m C h1 h2 => ?_, I.hp.inj, fun t m c h1 h2 => by rw [hsz]; exact I.hp.lo t m c h1 h2⟩, I.oko, I.bx, I.sz, fun t q h => ?_, I.df⟩
  · simp only [look]
    split
    · rename_i e; subst e; rw [hl]; rfl
    · exact I.hp.dom t
  · simp only [look] at h2
    rw [hokeq]
    split at h2
    · rename_i e
      subst e
      cases h2
      rw [hl] at h1
      cases h1
      exact hB
    · rename_i hne
      refine (I.hp.blk t m C h1 h2).mono hok (fun c hc => hoth c fun e => hne ?_) (fun _ _ _ h => h)
      subst e
      exact I.hp.inj s t l m c hl h1 hlb hc
  · obtain ⟨h1, h2⟩ := I.sl t q h
    rw [hokeq]
    exact ⟨h1, h2.mono hok fun _ _ _ h => h⟩

theorem set_one (I : Inv n Γ w0 ok0 loc st a w) {s : Nat} {l : Loc} {b : Nat} (hl : loc s = some l) (hlb : l.blk = some b) (cs : Array Value) (el : TypeId) (hb : w.heap[b]? = some (.cells cs el (0, 0))) (cs' : Array Value) (B : Blk)
    (hB : HB (w.setRow b cs') (okI w0 ok0 w loc) loc l B) : Inv n Γ w0 ok0 loc { st with hp := (s, B) :: st.hp } a (w.setRow b cs') :=
  I.upd hl hlb (w.setRow b cs') rfl rfl rfl (by simp [World.setRow]) (fun b' hne => setRow_other w b b' cs' hne) B hB

theorem setAtL_eq (vs ws : List Value) (off : Nat) (h : off + ws.length ≤ vs.length) : setAtL vs off ws = vs.take off ++ ws ++ vs.drop (off + ws.length) := by
  apply List.ext_getElem?
  intro j
  rw [setAtL_get ws vs off h j]
  by_cases h1 : j < off
  · rw [if_neg (by omega), List.append_assoc, List.getElem?_append_left (by simp; omega), List.getElem?_take, if_pos h1]
  · by_cases h2 : j < off + ws.length
    · rw [if_pos (by omega), List.getElem?_append_left (by simp; omega), List.getElem?_append_right (by simp; omega)]
      congr 1
      simp
      omega
    · rw [if_neg (by omega), List.getElem?_append_right (by simp; omega), List.getElem?_drop]
      congr 1
      simp
      omega

theorem run_store {t : TypeId} {m : Nat} {x : Value} (hs : sizeT P t m = true) (hx : x.cells.size = m) (h1 : ∀ c ∈ x.cells.toList, c.oneCell' = true) {b off : Nat} {cs : Array Value} {el : TypeId} (hb : w.heap[b]? = some (.cells cs el (0, 0))) (hfit : off + m ≤ cs.size) :
    (storeVar t ⟨b, off, none⟩ x).run P w = .ok () (w.setRow b (setAtL cs.toList off x.cells.toList).toArray) := by
  have h := run_storeCells_at P b off el x.cells.toList 0 cs w hb (by simp; omega) h1
  rw [setAtL_eq _ _ _ (by simp; omega)]
  simp only [Nat.add_zero] at h
  simp only [storeVar, Sem.run_bind, run_sizeOf hs, Result.andThen_ok]
  rw [if_neg (by simp [hx])]
  simp [h]

/-- A store. -/
theorem o_store (I : Inv n Γ w0 ok0 loc st a w) {t : TypeId} {ad v : Operand} {ad' v' : X} {key : Option Nat} {m : Nat} (ho : o.op = .store t ad v) (hs : sizeT P t m = true) (hx : xok ad ad' = true) (hv : xok v v' = true) {E : Nat → Model} {d : Nat} {s : S} {news : Hp} {g : Nat → Option S} {h : Nat → Option Blk} (hgl : ∀ t s, g t = some s → look st.sl t = some s) (hhl : ∀ s B, h s = some B → look st.hp s = some B) (he : ev E d g h (.store key m ad' v') = some (s, news)) :
    ∃ w', (execOp a.eval o).run P w = .ok .skip w' ∧ s = .undef ∧ Inv n Γ w0 ok0 loc { sl := st.sl, hp := news ++ st.hp } a w' := by
  simp only [ev] at he
  split at he
  · rename_i st0 i j vs hp hvs
    split at he
    · rename_i hm
      rw [Option.bind_eq_some_iff] at hvs
      obtain ⟨sv, hsv, hcv⟩ := hvs
      have hg : GOk w (okI w0 ok0 w loc) loc a g := I.gok hgl
      have hm' := hm.1
      obtain ⟨r1, r2⟩ := cells_rvs (xok_rs hv hg hsv) hcv
      have hsz : (a.eval v).cells.size = m := by have := r1.1; simp at this; omega
      have hpv : RV w (okI w0 ok0 w loc) loc (.ref st0 i j) (a.eval ad) := xok_rs hx hg hp
      split at he
      · rename_i ws hq0
        have hq := hhl _ _ hq0
        split at he
        · rename_i hc
          cases he
          rcases hpv with ⟨b, g1, g2, g3⟩ | ⟨b, el, e, cap, g1, g3⟩
          · obtain ⟨cs, el, hb, hr⟩ := I.hp.blk _ _ _ g1 hq
            have hlen : ws.length = cs.size := by have := hr.1; simpa using this
            have hrun := run_store (P := P) hs hsz r2 hb (off := j) (by omega)
            refine ⟨w.setRow b (setAtL cs.toList j (a.eval v).cells.toList).toArray, ?_, rfl, set_one I g1 rfl cs el hb (setAtL cs.toList j (a.eval v).cells.toList).toArray (.box (setAt ws j vs)) ⟨(setAtL cs.toList j (a.eval v).cells.toList).toArray, el, setRow_heap w b cs _ el _ hb, ?_⟩⟩
            · unfold execOp
              rw [ho]
              simp [g3, Instr.storeAt, Instr.sureAddr, hrun]
            · have hst := setAt_rvs hr r1 (off := j) (by omega)
              exact hst.mono (fun b' hb' => ⟨hb', setRow_other w b b' _ fun e => hb'.2.2 _ _ g1 (by rw [e]; rfl)⟩) (fun _ _ _ h => h)
          · exact (I.hp.blk _ _ _ g1 hq).elim
        · cases he
      · rename_i el e xs hq0
        have hq := hhl _ _ hq0
        split at he
        · rename_i x hx'
          split at he
          · rename_i hc
            cases he
            rcases hpv with ⟨b, g1, g2, g3⟩ | ⟨b, el2, e2, cap, g1, g3⟩
            · exact (I.hp.blk _ _ _ g1 hq).elim
            · obtain ⟨e1, e2', k1, k2, k3, cs, hb, hcs, hr⟩ := I.hp.blk _ _ _ g1 hq
              subst e1; subst e2'
              have hi : i < xs.length := (List.getElem?_eq_some_iff.1 hx').1
              have hxl : x.length = e := k3 x (List.mem_of_getElem? hx')
              have hfit : i * e + j + m ≤ cs.size := by
                rw [hcs]
                have h1 : (i + 1) * e ≤ cap * e := Nat.mul_le_mul_right e (by omega)
                rw [Nat.add_mul, Nat.one_mul] at h1
                omega
              have hrun := run_store (P := P) hs hsz r2 hb (off := i * e + j) hfit
              refine ⟨w.setRow b (setAtL cs.toList (i * e + j) (a.eval v).cells.toList).toArray, ?_, rfl, set_one I g1 rfl cs _ hb (setAtL cs.toList (i * e + j) (a.eval v).cells.toList).toArray (.rows el e (xs.set i (setAt x j vs))) ⟨rfl, rfl, k1, by rw [List.length_set]; exact k2, fun y hy => ?_, (setAtL cs.toList (i * e + j) (a.eval v).cells.toList).toArray, setRow_heap w b cs _ _ _ hb, by simp [setAtL_length, hcs], fun i' j' y p h1 h2 => ?_⟩⟩
              · unfold execOp
                rw [ho]
                simp [g3, Instr.storeAt, Instr.sureAddr, hrun]
              · rcases List.mem_or_eq_of_mem_set hy with h1 | h1
                · exact k3 y h1
                · rw [h1, setAt_length]; exact hxl
              · have hds : (a.eval v).cells.toList.length = m := by simpa using hsz
                have hup : ∀ {p : V} {u : Value}, Rep w (okI w0 ok0 w loc) p u → Rep (w.setRow b (setAtL cs.toList (i * e + j) (a.eval v).cells.toList).toArray) (okI w0 ok0 w loc) p u := fun h => h.mono fun b' hb' => ⟨hb', setRow_other w b b' _ fun e => hb'.2.2 _ _ g1 (by rw [e]; rfl)⟩
                rw [List.getElem?_set] at h1
                simp only [List.getElem?_toArray]
                rw [setAtL_get _ _ _ (by rw [hds]; simpa using hfit), hds]
                by_cases hii : i = i'
                · subst hii
                  rw [if_pos rfl, if_pos hi] at h1
                  cases h1
                  rw [setAt_get _ _ _ (by omega)] at h2
                  by_cases hin : j ≤ j' ∧ j' < j + m
                  · rw [if_pos (by omega)] at h2
                    rw [if_pos (by omega), show i * e + j' - (i * e + j) = j' - j by omega]
                    have hlt : j' - j < (a.eval v).cells.toList.length := by omega
                    refine ⟨_, List.getElem?_eq_getElem hlt, hup (rv_rep (r1.2 _ _ _ h2 (List.getElem?_eq_getElem hlt)) (ments_nil hc.1 p (List.mem_of_getElem? h2)))⟩
                  · rw [if_neg (by omega)] at h2
                    rw [if_neg (by omega)]
                    obtain ⟨u, hu, hru⟩ := hr i j' x p hx' h2
                    exact ⟨u, by simpa using hu, hup hru⟩
                · rw [if_neg hii] at h1
                  have hj' : j' < e := by rw [← k3 y (List.mem_of_getElem? h1)]; exact (List.getElem?_eq_some_iff.1 h2).1
                  have := idx_apart hii hj'
                  rw [if_neg (by omega)]
                  obtain ⟨u, hu, hru⟩ := hr i' j' y p h1 h2
                  exact ⟨u, by simpa using hu, hup hru⟩
          · cases he
        · cases he
      · cases he
    · cases he
  · cases he

/-- A row's cells, read. -/
theorem row_cells {ok2 : Nat → Prop} {ys : List (List V)} {x : Value} {e : Nat} (h : Rep w ok2 (.row ys) x) (he : ∀ y ∈ ys, y.length = e) :
    ∃ A c, x = .slice A ys.length c ∧ (ys = [] ∨ ∃ (ad : Addr) (news : List Value), A = some ad ∧ news.length = ys.length * e ∧ (∀ (j : Nat) u, news[j]? = some u → w.cell? (ad.add j) = some u) ∧ (∀ u ∈ news, u.oneCell' = true) ∧
      ∀ i j y p, ys[i]? = some y → y[j]? = some p → ∃ u, news[i * e + j]? = some u ∧ Rep w ok2 p u) := by
  cases h with
  | row0 A c => exact ⟨A, c, rfl, .inl rfl⟩
  | row u hn hne hc ha he' hr hp =>
    rename_i ad m c e'
    have hee : e' = e := by
      cases ys with
      | nil => simp at hn; omega
      | cons y r => rw [← he' y (List.mem_cons_self ..), he y (List.mem_cons_self ..)]
    subst hee
    refine ⟨some ad, c, by rw [hn], .inr ⟨ad, (List.range (ys.length * e')).map fun q => u (q / e') (q % e'), rfl, by simp, fun j v hj => ?_, fun v hv => ?_, fun i j y p h1 h2 => ?_⟩⟩
    · rw [List.getElem?_map, Option.map_eq_some_iff] at hj
      obtain ⟨q, hq, rfl⟩ := hj
      have hlt : j < ys.length * e' := by have := (List.getElem?_eq_some_iff.1 hq).1; simpa using this
      rw [List.getElem?_range hlt] at hq
      cases hq
      have hpos : 0 < e' := by
        rcases Nat.eq_zero_or_pos e' with h | h
        · subst h; simp at hlt
        · exact h
      have hi : j / e' < ys.length := by rw [Nat.div_lt_iff_lt_mul hpos]; exact hlt
      have hy := he' ys[j / e'] (List.getElem_mem hi)
      have hjm : j % e' < (ys[j / e']).length := by rw [hy]; exact Nat.mod_lt _ hpos
      have := hr (j / e') (j % e') ys[j / e'] (ys[j / e'])[j % e'] (List.getElem?_eq_getElem hi) (List.getElem?_eq_getElem hjm)
      rwa [Nat.div_add_mod' j e'] at this
    · rw [List.mem_map] at hv
      obtain ⟨j, hj, rfl⟩ := hv
      have hlt : j < ys.length * e' := by simpa using hj
      have hpos : 0 < e' := by
        rcases Nat.eq_zero_or_pos e' with h | h
        · subst h; simp at hlt
        · exact h
      have hi : j / e' < ys.length := by rw [Nat.div_lt_iff_lt_mul hpos]; exact hlt
      have hy := he' ys[j / e'] (List.getElem_mem hi)
      have hjm : j % e' < (ys[j / e']).length := by rw [hy]; exact Nat.mod_lt _ hpos
      exact (hp (j / e') (j % e') ys[j / e'] (ys[j / e'])[j % e'] (List.getElem?_eq_getElem hi) (List.getElem?_eq_getElem hjm)).one
    · have hi : i < ys.length := (List.getElem?_eq_some_iff.1 h1).1
      have hj : j < e' := by rw [← he' y (List.mem_of_getElem? h1)]; exact (List.getElem?_eq_some_iff.1 h2).1
      have hq := idx_lt hi hj
      refine ⟨u i j, ?_, hp i j y p h1 h2⟩
      rw [List.getElem?_map, List.getElem?_range hq]
      have h3 : (i * e' + j) / e' = i := by rw [Nat.add_comm, Nat.add_mul_div_right _ _ (by omega), Nat.div_eq_of_lt hj, Nat.zero_add]
      have h4 : (i * e' + j) % e' = j := by rw [Nat.add_comm, Nat.add_mul_mod_self_right, Nat.mod_eq_of_lt hj]
      simp [h3, h4]
end
end Go.Proofs.YtgjacdfiilcaaaaR
