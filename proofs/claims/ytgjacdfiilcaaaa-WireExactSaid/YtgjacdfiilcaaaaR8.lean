/- Append, and calls. -/
import Derived.Test.YtgjacdfiilcaaaaR7
set_option linter.unusedVariables false
set_option linter.unusedSimpArgs false
namespace Go.Proofs.YtgjacdfiilcaaaaR
open Go Go.RowKit

section
variable {P : Program} {n : Nat} {Γ : Ent} {w0 : World} {ok0 : Nat → Prop} {loc : Locs} {st : St} {a : Act} {w : World} {o : Oper}

theorem set_same (loc : Locs) (s : Nat) (l : Loc) : loc.set s l s = some l := by unfold Locs.set; rw [if_pos rfl]
theorem set_other (loc : Locs) {s t : Nat} (l : Loc) (h : t ≠ s) : loc.set s l t = loc t := by unfold Locs.set; rw [if_neg h]

/-- A row that has been appended to, in place or elsewhere. -/
theorem Inv.appd (I : Inv n Γ w0 ok0 loc st a w) {s : Nat} {l l' : Loc} (hl : loc s = some l) (hnb : ∀ b, l ≠ .box b) (w' : World) (hos : w'.os = w.os) (htp : w'.tape = w.tape) (hout : w'.output = w.output) (hsz : w.heap.size ≤ w'.heap.size)
    (hl' : ∀ b, l'.blk = some b → l.blk = some b ∨ (w.heap.size ≤ b ∧ b < w'.heap.size)) (hoth : ∀ k, k < w.heap.size → l.blk ≠ some k → w'.heap[k]? = w.heap[k]?) (B : Blk)
    (hB : HB w' (okI w0 ok0 w' (loc.set s l')) (loc.set s l') l' B) : Inv n Γ w0 ok0 (loc.set s l') { sl := st.sl.map (fun p => (p.1, p.2.kill s)), hp := (s, B) :: st.hp.map (fun p => (p.1, p.2.kill s)) } a w' := by
  have hbase : w0.heap.size ≤ w.heap.size := I.below.size
  have hnew : ∀ b, l'.blk = some b → (Γ.own b ∨ w0.heap.size ≤ b) ∧ b < w'.heap.size := by
    intro b hb
    rcases hl' b hb with h | h
    · have := I.hp.lo s l b hl h; exact ⟨this.1, by have := this.2; omega⟩
    · exact ⟨.inr (by omega), h.2⟩
  have hok : ∀ b, okI w0 ok0 w loc b → okI w0 ok0 w' (loc.set s l') b ∧ w'.heap[b]? = w.heap[b]? := by
    intro b h
    refine ⟨⟨h.1, by have := h.2.1; omega, fun t m ht hm => ?_⟩, hoth b h.2.1 (h.2.2 s l hl)⟩
    by_cases hts : t = s
    · subst hts
      rw [set_same] at ht
      cases ht
      rcases hl' b hm with h1 | h1
      · exact h.2.2 _ l hl h1
      · have := h.2.1; omega
    · rw [set_other _ _ hts] at ht
      exact h.2.2 t m ht hm
  have hk : ∀ t m, t ≠ s → loc t = some m → loc.set s l' t = some m := fun t m h1 h2 => by rw [set_other _ _ h1]; exact h2
  refine ⟨⟨by rw [hos]; exact I.below.os, by rw [htp]; exact I.below.tape, by rw [hout]; exact I.below.output, by omega, fun k hk' ho => ?_⟩, I.okb, ⟨fun t => ?_, fun t m C h1 h2 => ?_, fun t t' m m' b h1 h2 h3 h4 => ?_, fun t m b h1 h2 => ?_⟩, I.oko, fun t b h => ⟨(I.bx t b h).1, ?_⟩, I.sz, fun t q h => ?_, I.df⟩
  · rw [hoth k (by omega) fun e => ?_]
    · exact I.below.block k hk' ho
    · rcases (I.hp.lo s l k hl e).1 with h | h
      · exact ho h
      · omega
  · simp only [look]
    by_cases hts : t = s
    · subst hts; rw [set_same, if_pos rfl]; rfl
    · rw [set_other _ _ hts, if_neg (fun e => hts e.symm), look_map, I.hp.dom t]
      cases look st.hp t <;> rfl
  · simp only [look] at h2
    by_cases hts : t = s
    · subst hts
      rw [set_same] at h1
      rw [if_pos rfl] at h2
      cases h1; cases h2
      exact hB
    · rw [set_other _ _ hts] at h1
      rw [if_neg (fun e => hts e.symm), look_map, Option.map_eq_some_iff] at h2
      obtain ⟨C', h2, rfl⟩ := h2
      refine RVs.kill' (I.hp.blk t m C' h1 h2) hok (fun b hb => hoth b (I.hp.lo t m b h1 hb).2 fun e => hts ?_) hk
      exact I.hp.inj t s m l b h1 hl hb e
  · by_cases hts : t = s
    · by_cases hts' : t' = s
      · rw [hts, hts']
      · subst hts
        rw [set_same] at h1
        cases h1
        rw [set_other _ _ hts'] at h2
        rcases hl' b h3 with h5 | h5
        · exact I.hp.inj _ _ _ _ b hl h2 h5 h4
        · have := I.hp.lo t' m' b h2 h4; omega
    · rw [set_other _ _ hts] at h1
      by_cases hts' : t' = s
      · subst hts'
        rw [set_same] at h2
        cases h2
        rcases hl' b h4 with h5 | h5
        · exact I.hp.inj _ _ _ _ b h1 hl h3 h5
        · have := I.hp.lo t m b h1 h3; omega
      · rw [set_other _ _ hts'] at h2
        exact I.hp.inj _ _ _ _ b h1 h2 h3 h4
  · by_cases hts : t = s
    · subst hts
      rw [set_same] at h1
      cases h1
      exact hnew b h2
    · rw [set_other _ _ hts] at h1
      have := I.hp.lo t m b h1 h2
      exact ⟨this.1, by have := this.2; omega⟩
  · have h1 := (I.bx t b h).2
    rw [set_other _ _ (fun e => by subst e; rw [hl] at h1; cases h1; exact hnb _ rfl)]
    exact h1
  · rw [look_map, Option.map_eq_some_iff] at h
    obtain ⟨q', h, rfl⟩ := h
    obtain ⟨h1, h2⟩ := I.sl t q' h
    exact ⟨h1, h2.kill hok hk⟩

/-- What is appended, in cells. -/
theorem row_src {ok : Nat → Prop} {h : Nat → Option Blk} {v : V} {ys : List (List V)} {x : Value} {e : Nat} (hh : HOk w ok loc h) (hv : RV w ok loc v x) (hp : (v.pur1 h).bind asRow = some ys) (he : ∀ y ∈ ys, y.length = e) :
    ∃ A c, x = .slice A ys.length c ∧ (ys = [] ∨ ∃ (ad : Addr) (news : List Value), A = some ad ∧ news.length = ys.length * e ∧ (∀ (j : Nat) u, news[j]? = some u → w.cell? (ad.add j) = some u) ∧ (∀ u ∈ news, u.oneCell' = true) ∧
      ∀ i j y p, ys[i]? = some y → y[j]? = some p → ∃ u, news[i * e + j]? = some u ∧ Rep w ok p u) := by
  cases v with
  | row zs => cases hp; exact row_cells hv he
  | k z =>
    cases (hv : Rep w ok (.k z) x) with
    | k h1 =>
      simp only [V.pur1, Option.bind_some] at hp
      cases x with
      | slice A n c =>
        cases n with
        | zero => cases hp; exact ⟨A, c, rfl, .inl rfl⟩
        | succ n => cases hp
      | _ => cases hp
  | sl s off len =>
    simp only [V.pur1] at hp
    split at hp
    · rename_i el e' xs hq
      split at hp
      · rename_i hl
        cases hp
        rcases hv with ⟨b, el2, e2, cap, g1, g2, rfl⟩ | ⟨g1, rfl, rfl, rfl⟩
        · obtain ⟨e1, e2', hm, hxc, hlen, cs, hb, hcs, hr⟩ := hh _ _ _ g1 hq
          subst e2'
          have hylen : ((xs.drop off).take len).length = len := by rw [List.length_take, List.length_drop]; omega
          refine ⟨_, _, by rw [hylen], ?_⟩
          rcases Nat.eq_zero_or_pos len with h0 | h0
          · subst h0; exact .inl (List.take_zero ..)
          · have hget : ∀ (i : Nat) x, ((xs.drop off).take len)[i]? = some x → xs[off + i]? = some x := by
              intro i x hx
              rw [List.getElem?_take] at hx
              split at hx
              · rwa [List.getElem?_drop] at hx
              · cases hx
            have hee : e' = e := by
              have h1 : 0 < ((xs.drop off).take len).length := by omega
              have h2 := he _ (List.getElem_mem h1)
              rw [← h2]
              exact (hlen _ (List.mem_of_mem_drop (List.mem_of_mem_take (List.getElem_mem h1)))).symm
            subst hee
            have hsize : off * e' + len * e' ≤ cs.toList.length := by
              have h1 : (off + len) * e' ≤ cap * e' := Nat.mul_le_mul_right e' g2
              rw [Nat.add_mul] at h1
              simp [hcs]; omega
            have hnl : ((cs.toList.drop (off * e')).take (len * e')).length = len * e' := by rw [List.length_take, List.length_drop]; omega
            have hng : ∀ (j : Nat) u, ((cs.toList.drop (off * e')).take (len * e'))[j]? = some u → j < len * e' ∧ cs[off * e' + j]? = some u := by
              intro j u hu
              rw [List.getElem?_take] at hu
              split at hu
              · rw [List.getElem?_drop] at hu; exact ⟨‹_›, by simpa using hu⟩
              · cases hu
            refine .inr ⟨_, _, rfl, by rw [hnl, hylen], fun j u hu => ?_, fun u hu => ?_, fun i j y p h1 h2 => ?_⟩
            · rw [Addr.add_lit, cell_of_row w b _ cs _ (0, 0) hb]
              exact (hng j u hu).2
            · obtain ⟨j, hj⟩ := List.getElem?_of_mem hu
              obtain ⟨hj1, hj2⟩ := hng j u hj
              have hpos : 0 < e' := by
                rcases Nat.eq_zero_or_pos e' with h | h
                · subst h; simp at hj1
                · exact h
              have hi : j / e' < ((xs.drop off).take len).length := by rw [hylen, Nat.div_lt_iff_lt_mul hpos]; exact hj1
              have hx := hget _ _ (List.getElem?_eq_getElem hi)
              have hxl := hlen _ (List.mem_of_getElem? hx)
              have hjm : j % e' < (((xs.drop off).take len)[j / e']).length := by rw [hxl]; exact Nat.mod_lt _ hpos
              obtain ⟨u', hu', hr'⟩ := hr _ _ _ _ hx (List.getElem?_eq_getElem hjm)
              rw [show (off + j / e') * e' + j % e' = off * e' + j by rw [Nat.add_mul, Nat.add_assoc, Nat.div_add_mod']] at hu'
              rw [hj2] at hu'
              cases hu'
              exact hr'.one
            · have hx := hget i y h1
              obtain ⟨u, hu, hr'⟩ := hr _ _ _ _ hx h2
              have hi : i < len := by rw [← hylen]; exact (List.getElem?_eq_some_iff.1 h1).1
              have hj : j < e' := by rw [← hlen y (List.mem_of_getElem? hx)]; exact (List.getElem?_eq_some_iff.1 h2).1
              refine ⟨u, ?_, hr'⟩
              rw [List.getElem?_take, if_pos (idx_lt hi hj), List.getElem?_drop]
              rw [Nat.add_mul, Nat.add_assoc] at hu
              simpa using hu
        · exact ⟨none, 0, by rw [List.take_zero]; rfl, .inl (List.take_zero ..)⟩
      · cases hp
    · cases hp
  | _ => cases hp

def appT (P : Program) (el e by_ : Nat) : Bool := match P.info? el with
  | some i => i.size == e && i.bytes == by_ && (match i.zero with | some z => z.cells.size == e | none => false) && decide (0 < e) && decide (0 < by_)
  | none => false

theorem rows_app {ok : Nat → Prop} {e n : Nat} {xs ys : List (List V)} {cs1 cs2 : List Value} (hx : ∀ x ∈ xs, x.length = e) (hn : n ≤ xs.length) (hc1 : cs1.length = n * e) (h1 : ∀ i j x p, i < n → xs[i]? = some x → x[j]? = some p → ∃ u, cs1[i * e + j]? = some u ∧ Rep w ok p u)
    (h2 : ∀ i j y p, ys[i]? = some y → y[j]? = some p → ∃ u, cs2[i * e + j]? = some u ∧ Rep w ok p u) (rest : List Value) (i j : Nat) (x : List V) (p : V) (a1 : (xs.take n ++ ys)[i]? = some x) (a2 : x[j]? = some p) : ∃ u, (cs1 ++ cs2 ++ rest)[i * e + j]? = some u ∧ Rep w ok p u := by
  by_cases hi : i < n
  · rw [List.getElem?_append_left (by rw [List.length_take]; omega), List.getElem?_take, if_pos hi] at a1
    have hj : j < e := by rw [← hx x (List.mem_of_getElem? a1)]; exact (List.getElem?_eq_some_iff.1 a2).1
    have hlt := idx_lt hi hj
    obtain ⟨u, hu, hr⟩ := h1 i j x p hi a1 a2
    refine ⟨u, ?_, hr⟩
    rw [List.append_assoc, List.getElem?_append_left (by rw [hc1]; exact hlt)]
    exact hu
  · rw [List.getElem?_append_right (by rw [List.length_take]; omega), List.length_take, Nat.min_eq_left hn] at a1
    obtain ⟨u, hu, hr⟩ := h2 (i - n) j x p a1 a2
    refine ⟨u, ?_, hr⟩
    have hge : n * e ≤ i * e := Nat.mul_le_mul_right e (by omega)
    have hsub : i * e + j - n * e = (i - n) * e + j := by rw [Nat.sub_mul]; omega
    rw [List.append_assoc, List.getElem?_append_right (by rw [hc1]; omega), hc1, hsub, List.getElem?_append_left (List.getElem?_eq_some_iff.1 hu).1]
    exact hu

theorem run_append_none {t e : TypeId} {i : TypeInfo} (ty : TypeId) (ht : P.underlying t = some (.slice e)) (hi : P.info? e = some i) (base A : Option Addr) (m cap c : Nat) (h : m ≤ cap) :
    (Builtin.append_ #[t, t] ty #[.slice base m cap, .slice A 0 c]).run P w = .ok (.slice base m cap) w := by
  cases A <;> cases base <;> simp [Builtin.append_, run_underlying ht, sizeOf, typeInfo, hi, Builtin.lenOf, Builtin.firstCells, loadCells, loadCellsFrom, storeCells, h]

theorem o_app (I : Inv n Γ w0 ok0 loc st a w) {t : TypeId} {x y : Operand} {x' y' : X} {el e by_ : Nat} (ho : o.op = .call { callee := .builtin .append, args := #[x, y], argTypes := #[t, t] }) (ht : P.underlying t = some (.slice el)) (hT : appT P el e by_ = true) (hx : xok x x' = true) (hy : xok y y' = true)
    {E : Nat → Model} {d : Nat} {s' : S} {st' : St} (he : evE E d st (.app el e by_ x' y') = some (s', st')) :
    ∃ v w' loc', (execOp a.eval o).run P w = .ok (.value v) w' ∧ Inv n Γ w0 ok0 loc' st' a w' ∧ RS w' (okI w0 ok0 w' loc') loc' s' v := by
  unfold appT at hT
  split at hT
  · rename_i ti hti
    simp only [Bool.and_eq_true, beq_iff_eq, decide_eq_true_eq] at hT
    obtain ⟨⟨⟨⟨t1, t2⟩, t3⟩, t4⟩, t5⟩ := hT
    split at t3
    · rename_i z hz
      simp only [beq_iff_eq] at t3
      simp only [evE] at he
      split at he
      · rename_i s m y0 ex ey
        split at he
        · rename_i el' e' xs ys hq hpur
          split at he
          · rename_i hc
            obtain ⟨rfl, rfl, hm, hall, hbytes⟩ := hc
            cases he
            have hg : GOk w (okI w0 ok0 w loc) loc a (look st.sl) := I.gok fun _ _ h => h
            have hh : HOk w (okI w0 ok0 w loc) loc (look st.hp) := I.hok fun _ _ h => h
            have hlen : ∀ y ∈ ys, y.length = e' := fun y hy => by have := List.all_eq_true.1 hall y hy; simpa using this
            have hxv : RV w (okI w0 ok0 w loc) loc (.sl s 0 m) (a.eval x) := xok_rs hx hg ex
            have hyv : RV w (okI w0 ok0 w loc) loc y0 (a.eval y) := xok_rs hy hg ey
            obtain ⟨A, c, hya, hsrc⟩ := row_src hh hyv hpur hlen
            have hmod : m + ys.length ≤ 140737488355328 := Nat.le_trans (Nat.le_mul_of_pos_right _ t5) hbytes
            have hexec : ∀ v w', (Builtin.append_ #[t, t] o.type #[a.eval x, a.eval y]).run P w = .ok v w' → (execOp a.eval o).run P w = .ok (.value v) w' := by
              intro v w' h
              unfold execOp
              rw [ho]
              simp [resolve, invoke, builtin, h]
            rcases hxv with ⟨b, el2, e2, cap, g1, g2, g3⟩ | ⟨g1, _, hm0, g3⟩
            · obtain ⟨e1, e2', k1, k2, k3, cs, hb, hcs, hr⟩ := I.hp.blk _ _ _ g1 hq
              subst e1; subst e2'
              rw [Nat.zero_mul, Nat.sub_zero] at g3
              have hmcs : m * e' ≤ cs.toList.length := by
                have h1 : m * e' ≤ cap * e' := Nat.mul_le_mul_right e' (by omega)
                simp [hcs]; omega
              have hold : ∀ i j x p, i < m → xs[i]? = some x → x[j]? = some p → ∃ u, (cs.toList.take (m * e'))[i * e' + j]? = some u ∧ Rep w (okI w0 ok0 w loc) p u := by
                intro i j x p hi h1 h2
                obtain ⟨u, hu, hr'⟩ := hr i j x p h1 h2
                have hj : j < e' := by rw [← k3 x (List.mem_of_getElem? h1)]; exact (List.getElem?_eq_some_iff.1 h2).1
                exact ⟨u, by rw [List.getElem?_take, if_pos (idx_lt hi hj)]; simpa using hu, hr'⟩
              have htl : (cs.toList.take (m * e')).length = m * e' := by rw [List.length_take]; omega
              by_cases h0 : ys = []
              · subst h0
                have hrun := run_append_none (P := P) (w := w) (i := ti) o.type ht hti (some ⟨b, 0, none⟩) A m cap c (by omega)
                refine ⟨_, w, loc.set s (.rows b _ e' cap), hexec _ _ (by rw [g3, hya]; exact hrun), I.appd g1 (fun _ h => by cases h) w rfl rfl rfl (Nat.le_refl _) (fun b' h => .inl h) (fun _ _ _ => rfl) _ ?_, .inl ⟨b, _, e', cap, set_same _ _ _, by simp; omega, by rw [Nat.zero_mul, Nat.sub_zero]; simp⟩⟩
                have hse : loc.set s (.rows b el' e' cap) = loc := by
                  funext q
                  unfold Locs.set
                  split
                  · rename_i h; rw [h]; exact g1.symm
                  · rfl
                rw [hse, List.append_nil]
                refine ⟨rfl, rfl, k1, by rw [List.length_take]; omega, fun x hx => k3 x (List.mem_of_mem_take hx), cs, hb, hcs, fun i j x p h1 h2 => ?_⟩
                rw [List.getElem?_take] at h1
                split at h1
                · exact hr i j x p h1 h2
                · cases h1
              · obtain ⟨ad, news, hA, hnl, hnews, hone, hnr⟩ := hsrc.resolve_left h0
                subst hA
                by_cases hroom : m + ys.length ≤ cap
                · have hfit : m * ti.size + news.length ≤ cs.size := by
                    rw [hnl, hcs, t1, ← Nat.add_mul]
                    exact Nat.mul_le_mul_right _ hroom
                  have hrun := run_append_room (P := P) w t o.type el' ti ht hti b m cap cs hb ad ys.length c news (by rw [hnl, t1]) hnews hone hroom hfit
                  rw [t1] at hrun
                  have hlt : b < w.heap.size := (I.hp.lo _ _ _ g1 rfl).2
                  have hse : loc.set s (.rows b el' e' cap) = loc := by
                    funext q
                    unfold Locs.set
                    split
                    · rename_i h; rw [h]; exact g1.symm
                    · rfl
                  have hsz : (w.setRow b (cs.toList.take (m * e') ++ news ++ cs.toList.drop (m * e' + news.length)).toArray).heap.size = w.heap.size := by simp [World.setRow]
                  refine ⟨_, _, loc.set s (.rows b el' e' cap), hexec _ _ (by rw [g3, hya]; exact hrun), I.appd g1 (fun _ h => by cases h) (w.setRow b (cs.toList.take (m * e') ++ news ++ cs.toList.drop (m * e' + news.length)).toArray) rfl rfl rfl (by rw [hsz]; exact Nat.le_refl _) (fun b' h => .inl h) (fun k _ hk => setRow_other w b k (cs.toList.take (m * e') ++ news ++ cs.toList.drop (m * e' + news.length)).toArray fun e => hk (by rw [e]; rfl)) _ ?_, .inl ⟨b, el', e', cap, set_same _ _ _, by omega, by rw [Nat.zero_mul, Nat.sub_zero]⟩⟩
                  have hmono : ∀ {p : V} {u : Value}, Rep w (okI w0 ok0 w loc) p u → Rep (w.setRow b (cs.toList.take (m * e') ++ news ++ cs.toList.drop (m * e' + news.length)).toArray) (okI w0 ok0 (w.setRow b (cs.toList.take (m * e') ++ news ++ cs.toList.drop (m * e' + news.length)).toArray) (loc.set s (.rows b el' e' cap))) p u := by
                    intro p u h
                    rw [hse]
                    refine h.mono fun b' hb' => ⟨⟨hb'.1, by rw [hsz]; exact hb'.2.1, hb'.2.2⟩, setRow_other w b b' _ fun e => hb'.2.2 _ _ g1 (by rw [e]; rfl)⟩
                  refine ⟨rfl, rfl, k1, by rw [List.length_append, List.length_take]; omega, fun x hx => ?_, _, setRow_heap w b cs _ _ _ hb, ?_, fun i j x p h1 h2 => ?_⟩
                  · rcases List.mem_append.1 hx with h | h
                    · exact k3 x (List.mem_of_mem_take h)
                    · exact hlen x h
                  · simp only [List.size_toArray, List.length_append, htl, List.length_drop, hnl, Array.length_toList, hcs]
                    rw [t1, hnl, hcs] at hfit
                    omega
                  · obtain ⟨u, hu, hr'⟩ := rows_app (w := w) k3 hm htl hold hnr (cs.toList.drop (m * e' + news.length)) i j x p h1 h2
                    exact ⟨u, by simpa using hu, hmono hr'⟩
                · have hholds : ∀ (j : Nat) u, (cs.toList.take (m * e'))[j]? = some u → w.cell? ((⟨b, 0, none⟩ : Addr).add j) = some u := by
                    intro j u hu
                    rw [Addr.add_lit, Nat.zero_add, cell_of_row w b j cs _ (0, 0) hb]
                    rw [List.getElem?_take] at hu
                    split at hu
                    · simpa using hu
                    · cases hu
                  have hrun := run_append_grow (P := P) w t o.type el' ti z ht hti hz ⟨b, 0, none⟩ m cap (cs.toList.take (m * e')) (by rw [htl, t1]) hholds ad ys.length c news (by rw [hnl, t1]) hnews (by omega) (by omega) (by rw [t2]; exact growslice_fits (by omega) hbytes)
                  have hge := grownCap_ge w (m + ys.length) cap el'
                  have hcm := grownCap_le_maxLen w (m + ys.length) cap el' (by unfold maxLen; omega)
                  generalize grownCap w (m + ys.length) cap el' = cap' at hrun hge hcm
                  have hlo' : ∀ b', (Loc.rows w.heap.size el' e' cap').blk = some b' → w.heap.size ≤ b' := fun b' h => by cases h; exact Nat.le_refl _
                  generalize hcells : ((cs.toList.take (m * e')).toArray ++ news.toArray ++ Builtin.zeroCells z.cells (cap' - (m + ys.length))) = cells at hrun
                  have hcl : cells.toList = cs.toList.take (m * e') ++ news ++ (Builtin.zeroCells z.cells (cap' - (m + ys.length))).toList := by rw [← hcells]; simp
                  have hsize : cells.size = cap' * e' := by
                    rw [← hcells]
                    simp only [Array.size_append, List.size_toArray, htl, hnl, size_zeroCells, t3, ← Nat.add_mul]
                    congr 1
                    omega
                  have hmono : ∀ {p : V} {u : Value}, Rep w (okI w0 ok0 w loc) p u → Rep (w.drew.alloc (.cells cells el')) (okI w0 ok0 (w.drew.alloc (.cells cells el')) (loc.set s (.rows w.heap.size el' e' cap'))) p u := by
                    intro p u h
                    refine h.mono fun b' hb' => ⟨⟨hb'.1, by have := hb'.2.1; show b' < (w.heap.push _).size; simp; omega, fun q l hq hl => ?_⟩, heap_alloc_old w.drew _ b' hb'.2.1⟩
                    by_cases hqs : q = s
                    · subst hqs
                      rw [set_same] at hq
                      cases hq
                      cases hl
                      have := hb'.2.1
                      omega
                    · rw [set_other _ _ hqs] at hq
                      exact hb'.2.2 q l hq hl
                  refine ⟨_, _, loc.set s (.rows w.heap.size el' e' cap'), hexec _ _ (by rw [g3, hya]; exact hrun), I.appd g1 (fun _ h => by cases h) (w.drew.alloc (.cells cells el')) rfl rfl rfl (by show _ ≤ (w.heap.push _).size; simp) (fun b' h => .inr (by cases h; exact ⟨Nat.le_refl _, by show _ < (w.heap.push _).size; simp⟩)) (fun k hk _ => heap_alloc_old w.drew _ k hk) _ ?_, .inl ⟨w.heap.size, el', e', cap', set_same _ _ _, by omega, by rw [Nat.zero_mul, Nat.sub_zero]⟩⟩
                  refine ⟨rfl, rfl, hcm, by rw [List.length_append, List.length_take]; omega, fun x hx => ?_, cells, heap_alloc_new w.drew _, hsize, fun i j x p h1 h2 => ?_⟩
                  · rcases List.mem_append.1 hx with h | h
                    · exact k3 x (List.mem_of_mem_take h)
                    · exact hlen x h
                  · obtain ⟨u, hu, hr'⟩ := rows_app (w := w) k3 hm htl hold hnr (Builtin.zeroCells z.cells (cap' - (m + ys.length))).toList i j x p h1 h2
                    rw [← hcl] at hu
                    exact ⟨u, by simpa using hu, hmono hr'⟩
            · have hxs : xs = [] := I.hp.blk _ _ _ g1 hq
              subst hm0
              subst hxs
              by_cases h0 : ys = []
              · subst h0
                have hrun := run_append_none (P := P) (w := w) (i := ti) o.type ht hti none A 0 0 c (Nat.le_refl _)
                exact ⟨_, w, loc.set s .virt, hexec _ _ (by rw [g3, hya]; exact hrun), I.appd g1 (fun _ h => by cases h) w rfl rfl rfl (Nat.le_refl _) (fun b' h => by cases h) (fun _ _ _ => rfl) _ rfl, .inr ⟨set_same _ _ _, rfl, rfl, rfl⟩⟩
              · obtain ⟨ad, news, hA, hnl, hnews, hone, hnr⟩ := hsrc.resolve_left h0
                subst hA
                have hys : 0 < ys.length := List.length_pos_iff.2 h0
                rw [Nat.zero_add] at hbytes
                have hrun := run_append_nil (P := P) w t o.type el' ti z ht hti hz ad ys.length c news (by rw [hnl, t1]) hnews hys (by omega) (by rw [t2]; omega)
                have hge := grownCap_ge w ys.length 0 el'
                have hcm := grownCap_le_maxLen w ys.length 0 el' (by unfold maxLen; omega)
                generalize grownCap w ys.length 0 el' = cap' at hrun hge hcm
                generalize hcells : (news.toArray ++ Builtin.zeroCells z.cells (cap' - ys.length)) = cells at hrun
                have hcl : cells.toList = [] ++ news ++ (Builtin.zeroCells z.cells (cap' - ys.length)).toList := by rw [← hcells]; simp
                have hsize : cells.size = cap' * e' := by
                  rw [← hcells]
                  simp only [Array.size_append, List.size_toArray, hnl, size_zeroCells, t3, ← Nat.add_mul]
                  congr 1
                  omega
                have hmono : ∀ {p : V} {u : Value}, Rep w (okI w0 ok0 w loc) p u → Rep (w.drew.alloc (.cells cells el')) (okI w0 ok0 (w.drew.alloc (.cells cells el')) (loc.set s (.rows w.heap.size el' e' cap'))) p u := by
                  intro p u h
                  refine h.mono fun b' hb' => ⟨⟨hb'.1, by have := hb'.2.1; show b' < (w.heap.push _).size; simp; omega, fun q l hq hl => ?_⟩, heap_alloc_old w.drew _ b' hb'.2.1⟩
                  by_cases hqs : q = s
                  · subst hqs
                    rw [set_same] at hq
                    cases hq
                    cases hl
                    have := hb'.2.1
                    omega
                  · rw [set_other _ _ hqs] at hq
                    exact hb'.2.2 q l hq hl
                refine ⟨_, _, loc.set s (.rows w.heap.size el' e' cap'), hexec _ _ (by rw [g3, hya]; exact hrun), I.appd g1 (fun _ h => by cases h) (w.drew.alloc (.cells cells el')) rfl rfl rfl (by show _ ≤ (w.heap.push _).size; simp) (fun b' h => .inr (by cases h; exact ⟨Nat.le_refl _, by show _ < (w.heap.push _).size; simp⟩)) (fun k hk _ => heap_alloc_old w.drew _ k hk) _ ?_, .inl ⟨w.heap.size, el', e', cap', set_same _ _ _, by omega, by rw [Nat.zero_mul, Nat.sub_zero, Nat.zero_add]⟩⟩
                refine ⟨rfl, rfl, hcm, by simpa using hge, fun x hx => hlen x (by simpa using hx), cells, heap_alloc_new w.drew _, hsize, fun i j x p h1 h2 => ?_⟩
                obtain ⟨u, hu, hr'⟩ := rows_app (w := w) (n := 0) (xs := []) (ys := ys) (cs1 := []) (cs2 := news) (e := e') (fun x hx => by cases hx) (Nat.le_refl _) (by simp) (fun i j x p hi => absurd hi (Nat.not_lt_zero _)) hnr (Builtin.zeroCells z.cells (cap' - ys.length)).toList i j x p h1 h2
                rw [← hcl] at hu
                exact ⟨u, by simpa using hu, hmono hr'⟩
          · cases he
        · cases he
      · cases he
    · cases t3
  · cases hT
/-- What is appended to nil. -/
theorem append_nil (I : Inv n Γ w0 ok0 loc st a w) {t : TypeId} {el e by_ : Nat} (ht : P.underlying t = some (.slice el)) (hT : appT P el e by_ = true) {h : Nat → Option Blk} (hh : HOk w (okI w0 ok0 w loc) loc h) {y0 : V} {Y : Value} (hyv : RV w (okI w0 ok0 w loc) loc y0 Y) {ys : List (List V)} (hpur : (y0.pur1 h).bind asRow = some ys)
    (hall : ys.all (·.length == e) = true) (hbytes : ys.length * by_ ≤ 140737488355328) {k : Nat} (hk : (look st.hp k).isSome = false) (ty : TypeId) (d : Option Nat) (hd : ∀ t, d = some t → t < n) :
    ∃ v w' loc', (Builtin.append_ #[t, t] ty #[.slice none 0 0, Y]).run P w = .ok v w' ∧ Inv n Γ w0 ok0 loc' { sl := (st.put d (.one (.sl k 0 ys.length))).sl, hp := [(k, .rows el e ys)] ++ st.hp } (a.put d v) w' := by
  unfold appT at hT
  split at hT
  · rename_i ti hti
    simp only [Bool.and_eq_true, beq_iff_eq, decide_eq_true_eq] at hT
    obtain ⟨⟨⟨⟨t1, t2⟩, t3⟩, t4⟩, t5⟩ := hT
    split at t3
    · rename_i z hz
      simp only [beq_iff_eq] at t3
      have hlen : ∀ y ∈ ys, y.length = e := fun y hy => by have := List.all_eq_true.1 hall y hy; simpa using this
      obtain ⟨A, c, hya, hsrc⟩ := row_src hh hyv hpur hlen
      have hmod : ys.length ≤ 140737488355328 := Nat.le_trans (Nat.le_mul_of_pos_right _ t5) hbytes
      by_cases h0 : ys = []
      · subst h0
        have hrun := run_append_none (P := P) (w := w) (i := ti) ty ht hti none A 0 0 c (Nat.le_refl _)
        exact ⟨_, w, _, by rw [hya]; exact hrun, I.newnil k hk el e d hd⟩
      · obtain ⟨ad, news, hA, hnl, hnews, hone, hnr⟩ := hsrc.resolve_left h0
        subst hA
        have hys : 0 < ys.length := List.length_pos_iff.2 h0
        have hrun := run_append_nil (P := P) w t ty el ti z ht hti hz ad ys.length c news (by rw [hnl, t1]) hnews hys (by omega) (by rw [t2]; omega)
        have hge := grownCap_ge w ys.length 0 el
        have hcm := grownCap_le_maxLen w ys.length 0 el (by unfold maxLen; omega)
        generalize grownCap w ys.length 0 el = cap' at hrun hge hcm
        generalize hcells : (news.toArray ++ Builtin.zeroCells z.cells (cap' - ys.length)) = cells at hrun
        have hcl : cells.toList = news ++ (Builtin.zeroCells z.cells (cap' - ys.length)).toList := by rw [← hcells]; simp
        have hsize : cells.size = cap' * e := by
          rw [← hcells]
          simp only [Array.size_append, List.size_toArray, hnl, size_zeroCells, t3, ← Nat.add_mul]
          congr 1
          omega
        refine ⟨_, w.drew.alloc (.cells cells el), _, by rw [hya]; exact hrun, I.newroom k hk el e ys cells cap' ((Below.refl _ w).drew.alloc (Nat.le_refl _) _) (heap_alloc_new w.drew _) (by show _ < (w.heap.push _).size; simp) hlen hsize (fun i j x p h1 h2 => ?_) hge hcm d hd⟩
        obtain ⟨u, hu, hr⟩ := hnr i j x p h1 h2
        refine ⟨u, ?_, hr⟩
        have : cells.toList[i * e + j]? = some u := by rw [hcl, List.getElem?_append_left (List.getElem?_eq_some_iff.1 hu).1]; exact hu
        simpa using this
    · cases t3
  · cases hT
end
end Go.Proofs.YtgjacdfiilcaaaaR
