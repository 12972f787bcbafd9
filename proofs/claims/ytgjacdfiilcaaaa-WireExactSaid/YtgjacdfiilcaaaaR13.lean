/- Operations in a row, in whatever order the model draws. -/
import Derived.Test.YtgjacdfiilcaaaaR12F
import Derived.Orders
set_option linter.unusedVariables false
set_option linter.unusedSimpArgs false
namespace Go.Proofs.YtgjacdfiilcaaaaR
open Go Go.RowKit

def dstOk (n : Nat) : Option Tmp → Option Nat → Bool
  | none, none => true
  | some d, some d' => d == d' && decide (d < n)
  | _, _ => false
def guardOk (ops : List Oper) : Option (Nat × Bool) → Option (Nat × Bool) → Bool
  | none, none => true
  | some (j, want), some (t, want') => want == want' && (match ops[j]? with | some o => (match o.dst with | some d => d == t | none => false) | none => false)
  | _, _ => false
/-- An operation in its place, checked. -/
def chkO (P : Program) (n : Nat) (ops : List Oper) (o : Oper) (io : IO) : Bool := chk P o.op io.i && dstOk n o.dst io.dst && guardOk ops o.guard io.guard
def chkL (P : Program) (n : Nat) (ops : List Oper) : List Oper → List IO → Bool
  | [], [] => true
  | o :: r, io :: q => chkO P n ops o io && chkL P n ops r q
  | _, _ => false

section
variable {P : Program} {n : Nat} {Γ : Ent} {w0 : World} {ok0 : Nat → Prop} {loc : Locs} {st st' : St} {a : Act} {w : World} {o : Oper} {io : IO} {E : Nat → Model}

theorem dstOk_spec (h : dstOk n o.dst io.dst = true) : io.dst = o.dst ∧ ∀ t, o.dst = some t → t < n := by
  unfold dstOk at h
  split at h
  · rename_i h1 h2; exact ⟨by rw [h1, h2], fun t ht => by rw [h1] at ht; cases ht⟩
  · rename_i d d' h1 h2
    simp only [Bool.and_eq_true, beq_iff_eq, decide_eq_true_eq] at h
    obtain ⟨rfl, h3⟩ := h
    exact ⟨by rw [h1, h2], fun t ht => by rw [h1] at ht; cases ht; exact h3⟩
  · cases h

theorem Inv.undef (I : Inv n Γ w0 ok0 loc st a w) (d : Option Nat) (hd : ∀ t, d = some t → t < n) : Inv n Γ w0 ok0 loc (st.put d .undef) (a.put d Go.undef) w := I.val d hd .undef Go.undef rfl

/-- An operation that changes a block. -/
theorem eff_ok (hE : ∀ f, Sound P f (E f)) (I : Inv n Γ w0 ok0 loc st a w) (hc : chk P o.op io.i = true) (heff : io.i.eff = true) (hdst : io.dst = o.dst) (hd : ∀ t, o.dst = some t → t < n) {r : S × St} (he : evE E (io.dst.getD 0) st io.i = some r) {next : Act → World → Prop} {Q : Exit → Act → World → Prop}
    (hn : ∀ a' w' loc', Inv n Γ w0 ok0 loc' (r.2.put io.dst r.1) a' w' → next a' w') : o.wp P a w next Q := by
  obtain ⟨v, st1⟩ := r
  rw [hdst] at hn
  generalize io.i = i at hc heff he
  cases i with
  | app el e by_ x y =>
    simp only [chk] at hc
    split at hc
    · rename_i c hop
      split at hc
      · rename_i x0 y0 t t' q1 q2 q3
        simp only [Bool.and_eq_true, beq_iff_eq] at hc
        obtain ⟨⟨⟨⟨rfl, h1⟩, h2⟩, h3⟩, h4⟩ := hc
        have hce : c = { callee := .builtin .append, args := #[x0, y0], argTypes := #[t, t] } := by
          obtain ⟨c1, c2, c3⟩ := c
          simp only at q1 q2 q3
          subst q1
          congr 1
          · exact Array.toList_inj.1 (by simpa using q2)
          · exact Array.toList_inj.1 (by simpa using q3)
        subst hce
        obtain ⟨u, w', loc', g1, g2, g3⟩ := o_app I hop (sliceT_spec h1) h2 h3 h4 he
        unfold Oper.wp
        rw [g1, Oper.upon_value]
        exact hn _ _ _ (g2.val o.dst hd v u g3)
      · cases hc
    · cases hc
  | apk el e by_ x y =>
    simp only [chk] at hc
    split at hc
    · rename_i c hop
      split at hc
      · rename_i x0 y0 t t' q1 q2 q3
        simp only [Bool.and_eq_true, beq_iff_eq] at hc
        obtain ⟨⟨⟨⟨rfl, h1⟩, h2⟩, h3⟩, h4⟩ := hc
        have hce : c = { callee := .builtin .append, args := #[x0, y0], argTypes := #[t, t] } := by
          obtain ⟨c1, c2, c3⟩ := c
          simp only at q1 q2 q3
          subst q1
          congr 1
          · exact Array.toList_inj.1 (by simpa using q2)
          · exact Array.toList_inj.1 (by simpa using q3)
        subst hce
        obtain ⟨u, w', loc', g1, g2, g3⟩ := o_apk I hop (sliceT_spec h1) h2 h3 h4 he
        unfold Oper.wp
        rw [g1, Oper.upon_value]
        exact hn _ _ _ (g2.val o.dst hd v u g3)
      · cases hc
    · cases hc
  | apl el e by_ zs x m =>
    simp only [chk] at hc
    split at hc
    · rename_i c hop
      split at hc
      · rename_i x0 y0 t t' q1 q2 q3
        simp only [Bool.and_eq_true, decide_eq_true_eq] at hc
        obtain ⟨⟨⟨⟨⟨h1, h2⟩, h3⟩, h4⟩, h5⟩, h6⟩ := hc
        have hce : c = { callee := .builtin .append, args := #[x0, y0], argTypes := #[t, t'] } := by
          obtain ⟨c1, c2, c3⟩ := c
          simp only at q1 q2 q3
          subst q1
          congr 1
          · exact Array.toList_inj.1 (by simpa using q2)
          · exact Array.toList_inj.1 (by simpa using q3)
        subst hce
        split at h1
        · rename_i kn ht'
          obtain ⟨u, w', loc', g1, g2, g3⟩ := o_apl I hop (sliceT_spec h2) ht' h3 h4 h5 h6 he
          unfold Oper.wp
          rw [g1, Oper.upon_value]
          exact hn _ _ _ (g2.val o.dst hd v u g3)
        · cases h1
      · cases hc
    · cases hc
  | mkp t x =>
    simp only [chk] at hc
    split at hc
    · rename_i t0 x0 hop
      simp only [Bool.and_eq_true, beq_iff_eq] at hc
      obtain ⟨⟨rfl, h1⟩, h2⟩ := hc
      obtain ⟨u, w', loc', g1, g2, g3⟩ := o_mkp I hop h1 h2 he
      unfold Oper.wp
      rw [g1, Oper.upon_value]
      exact hn _ _ _ (g2.val o.dst hd v u g3)
    · cases hc
  | cvb x =>
    simp only [chk] at hc
    split at hc
    · rename_i t t' x0 hop
      simp only [Bool.and_eq_true, beq_iff_eq] at hc
      obtain ⟨⟨rfl, h1⟩, h2⟩ := hc
      split at h1
      · rename_i el ht
        split at h1
        · rename_i hu
          obtain ⟨u, w', loc', g1, g2, g3⟩ := o_cvb I hop ht hu h2 he
          unfold Oper.wp
          rw [g1, Oper.upon_value]
          exact hn _ _ _ (g2.val o.dst hd v u g3)
        · cases h1
      · cases h1
    · cases hc
  | clr el e x =>
    simp only [chk] at hc
    split at hc
    · rename_i c hop
      split at hc
      · rename_i x0 t q1 q2 q3
        simp only [Bool.and_eq_true] at hc
        obtain ⟨⟨h1, h2⟩, h3⟩ := hc
        have hce : c = { callee := .builtin .clear, args := #[x0], argTypes := #[t] } := by
          obtain ⟨c1, c2, c3⟩ := c
          simp only at q1 q2 q3
          subst q1
          congr 1
          · exact Array.toList_inj.1 (by simpa using q2)
          · exact Array.toList_inj.1 (by simpa using q3)
        subst hce
        have ht := sliceT_spec h1
        have hexec : ∀ v w', (Builtin.clear_ #[t] o.type #[a.eval x0]).run P w = .ok v w' → (execOp a.eval o).run P w = .ok (.value v) w' := by
          intro v w' h
          unfold execOp
          rw [hop]
          simp [resolve, invoke, builtin, h]
        have hG : GOk w (okI w0 ok0 w loc) loc a (look st.sl) := I.gok fun _ _ h => h
        have htup : ∀ {w' : World} {ok : Nat → Prop} {loc' : Locs}, RS w' ok loc' (.tup []) (.tuple #[]) := ⟨#[], rfl, rfl, fun j s u g1 => by simp at g1⟩
        have hnil : ∀ A cc, a.eval x0 = .slice A 0 cc → (Builtin.clear_ #[t] o.type #[a.eval x0]).run P w = .ok (.tuple #[]) w := by
          intro A cc hx
          rw [hx]
          cases A <;> simp [Builtin.clear_, run_underlying ht]
        simp only [evE] at he
        split at he
        · rename_i hx
          cases he
          have hr : Rep w (okI w0 ok0 w loc) (.row []) (a.eval x0) := xok_rs h3 hG hx
          generalize hz : a.eval x0 = z at hr
          cases hr with
          | row0 A cc =>
            unfold Oper.wp
            rw [hexec _ _ (hnil A cc hz), Oper.upon_value]
            exact hn _ _ _ (I.val o.dst hd _ _ htup)
          | row u hn0 hne => simp at hn0; omega
        · rename_i s off len hx
          split at he
          · rename_i el' e' xs hq
            split at he
            · rename_i hcond
              obtain ⟨rfl, rfl, hlen⟩ := hcond
              cases he
              have hxv : RV w (okI w0 ok0 w loc) loc (.sl s off len) (a.eval x0) := xok_rs h3 hG hx
              rcases hxv with ⟨b, el2, e2, cap, g1, g2, g3⟩ | ⟨g1, rfl, rfl, g4⟩
              · obtain ⟨e1, e2', k1, k2, k3, cs, hb, hcs, hr⟩ := I.hp.blk _ _ _ g1 hq
                subst e1; subst e2'
                have hroom : off * e' + len * e' ≤ cs.size := by
                  rw [hcs, ← Nat.add_mul]
                  exact Nat.mul_le_mul_right e' g2
                by_cases h0 : len = 0
                · subst h0
                  unfold Oper.wp
                  rw [hexec _ _ (hnil _ _ g3), Oper.upon_value]
                  have hI := I.upd g1 rfl w rfl rfl rfl rfl (fun _ _ => rfl) (.rows el' e' (xs.take off)) ⟨rfl, rfl, k1, by rw [List.length_take]; omega, fun x hx => k3 x (List.mem_of_mem_take hx), cs, hb, hcs, fun i j x p a1 a2 => by
                    rw [List.getElem?_take] at a1
                    split at a1
                    · exact hr i j x p a1 a2
                    · cases a1⟩
                  exact hn _ _ _ (hI.val o.dst hd _ _ htup)
                · unfold clrT at h2
                  split at h2
                  case h_2 => cases h2
                  rename_i ti hti
                  simp only [Bool.and_eq_true, beq_iff_eq] at h2
                  obtain ⟨h4, h5⟩ := h2
                  split at h5
                  case h_2 => cases h5
                  rename_i z hz
                  simp only [Bool.and_eq_true, beq_iff_eq, List.all_eq_true] at h5
                  obtain ⟨h6, h7⟩ := h5
                  have hzv : (zeroValue el').run P w = .ok z w := by simp [zeroValue, typeInfo, hti, hz]
                  have hsz : (Builtin.zeroCells z.cells len).toList.length = len * e' := by rw [Array.length_toList, size_zeroCells, h6]
                  have hone : ∀ c ∈ (Builtin.zeroCells z.cells len).toList, c.oneCell' = true := by
                    intro c hc
                    unfold Builtin.zeroCells at hc
                    rw [Array.toList_map, List.mem_map] at hc
                    obtain ⟨q, hq, rfl⟩ := hc
                    have hpos : 0 < z.cells.size := by
                      rcases Nat.eq_zero_or_pos z.cells.size with h | h
                      · rw [h] at hq; simp at hq
                      · exact h
                    have hlt : q % z.cells.size < z.cells.size := Nat.mod_lt _ hpos
                    rw [getElem!_pos z.cells _ hlt]
                    exact h7 _ (by simp)
                  have hst := run_storeCells_at P b (off * e') el' (Builtin.zeroCells z.cells len).toList 0 cs w hb (by rw [hsz]; omega) hone
                  rw [Nat.add_zero] at hst
                  have hrun : (Builtin.clear_ #[t] o.type #[a.eval x0]).run P w = .ok (.tuple #[]) (w.setRow b (cs.toList.take (off * e') ++ (Builtin.zeroCells z.cells len).toList ++ cs.toList.drop (off * e' + (Builtin.zeroCells z.cells len).toList.length)).toArray) := by
                    rw [g3]
                    obtain ⟨m, rfl⟩ : ∃ m, len = m + 1 := ⟨len - 1, by omega⟩
                    simp [Builtin.clear_, run_underlying ht, hzv, hst]
                  unfold Oper.wp
                  rw [hexec _ _ hrun, Oper.upon_value]
                  have hlo := I.hp.lo _ _ b g1 rfl
                  have hI := set_one I g1 rfl cs el' hb (cs.toList.take (off * e') ++ (Builtin.zeroCells z.cells len).toList ++ cs.toList.drop (off * e' + (Builtin.zeroCells z.cells len).toList.length)).toArray (.rows el' e' (xs.take off)) ⟨rfl, rfl, k1, by rw [List.length_take]; omega, fun x hx => k3 x (List.mem_of_mem_take hx), _, setRow_heap w b cs _ el' _ hb, by
                    have hcl : cs.toList.length = cap * e' := by simp [hcs]
                    rw [hcs] at hroom
                    rw [List.size_toArray, List.length_append, List.length_append, List.length_take, List.length_drop, hsz, hcl]
                    omega, fun i j x p a1 a2 => by
                    rw [List.getElem?_take] at a1
                    split at a1
                    · rename_i hi
                      obtain ⟨u, hu, hr'⟩ := hr i j x p a1 a2
                      have hj : j < e' := by rw [← k3 x (List.mem_of_getElem? a1)]; exact (List.getElem?_eq_some_iff.1 a2).1
                      have hlt := idx_lt hi hj
                      refine ⟨u, ?_, hr'.mono fun b' hb' => ⟨hb', setRow_other w b b' _ fun e => hb'.2.2 _ _ g1 (by rw [e]; rfl)⟩⟩
                      rw [List.getElem?_toArray, List.append_assoc, List.getElem?_append_left (by rw [List.length_take, Array.length_toList]; omega), List.getElem?_take, if_pos hlt]
                      simpa using hu
                    · cases a1⟩
                  exact hn _ _ _ (hI.val o.dst hd _ _ htup)
              · unfold Oper.wp
                rw [hexec _ _ (hnil none 0 g4), Oper.upon_value]
                have hB := I.hp.blk _ _ _ g1 hq
                have hxs : xs = [] := hB
                subst hxs
                have hI : Inv n Γ w0 ok0 loc { st with hp := (s, .rows el' e' ([] : List (List V))) :: st.hp } a w := by
                  refine I.congr0 ?_
                  funext q
                  simp only [look]
                  split
                  · rename_i e; subst e; exact hq.symm
                  · rfl
                exact hn _ _ _ (hI.val o.dst hd _ _ htup)
            · cases he
          · cases he
        · cases he
      · cases hc
    · cases hc
  | callo f as =>
    simp only [chk] at hc
    split at hc
    · rename_i c hop
      split at hc
      · rename_i f0 hcal
        simp only [Bool.and_eq_true, beq_iff_eq] at hc
        obtain ⟨rfl, h1⟩ := hc
        simp only [evE] at he
        split at he
        · rename_i ss hss
          have hG : GOk w (okI w0 ok0 w loc) loc a (look st.sl) := I.gok fun _ _ h => h
          obtain ⟨k1, k2⟩ := evs_rs hG h1 hss
          refine o_callo hE I (vs := (c.args.map a.eval)) (fun hfn => ?_) (by simp [k1]) (fun j s u b1 b2 => k2 j s u b1 (by simpa using b2)) he hd (fun x w' loc' hI => hn _ _ _ hI)
          unfold execOp
          rw [hop]
          simp only [resolve, hcal, Act.eval, Deferred.ofValue, Sem.run_bind, Sem.run_pure, Result.andThen_ok, invoke]
          have := run_callFunc hfn (c.args.map a.eval) w
          simpa using this
        · cases he
      · cases hc
    · cases hc
  | _ => cases heff

theorem vG_le (fb : List Nat) (st : St) (t : Nat) (s : S) (h : vG fb st t = some s) : look st.sl t = some s := by
  unfold vG at h
  split at h
  · cases h
  · exact h
theorem vH_le (fb : List Nat) (st : St) (t : Nat) (s : Blk) (h : vH fb st t = some s) : look st.hp t = some s := by
  unfold vH at h
  split at h
  · cases h
  · exact h

/-- A guard, asked. -/
theorem guard_ok (I : Inv n Γ w0 ok0 loc st a w) {ops : Array Oper} {t : Nat} {want : Bool} (hg : guardOk ops.toList o.guard (some (t, want)) = true) {s : S} (hs : look st.sl t = some s) :
    (∀ b, s = .one (.bool b) → Region.wanted o (yielded ops a.tmps) = (b == want)) ∧ (s = .undef → Region.wanted o (yielded ops a.tmps) = false) := by
  unfold guardOk at hg
  split at hg
  · rename_i h1 h2; cases h2
  · rename_i j want' t' want'' h1 h2
    cases h2
    simp only [Bool.and_eq_true, beq_iff_eq] at hg
    obtain ⟨rfl, hg⟩ := hg
    split at hg
    · rename_i q hq
      split at hg
      · rename_i d hd
        simp only [beq_iff_eq] at hg
        subst hg
        obtain ⟨hlt, hr⟩ := I.sl d s hs
        have hlt' : d < a.tmps.size := by rw [I.sz]; exact hlt
        have hq' : ops[j]? = some q := by simpa using hq
        have hv : a.tmps[d]? = some (a.tmps.getD d undef) := by simp [hlt']
        refine ⟨fun b hb => ?_, fun hb => ?_⟩
        · subst hb
          have hbv := rs_bool hr
          rw [hbv] at hv
          simp [Region.wanted, h1, yielded, hq', hd, hv]
        · subst hb
          have hbv : a.tmps.getD d undef = undef := hr
          rw [hbv] at hv
          simp [Region.wanted, h1, yielded, hq', hd, hv, undef]
      · cases hg
    · cases hg
  · cases hg

/-- **An operation in its place.** -/
theorem step_ok (hE : ∀ f, Sound P f (E f)) (I : Inv n Γ w0 ok0 loc st a w) {ops : Array Oper} (hc : chkO P n ops.toList o io = true) (hs : step E io st = some st') {next : Act → World → Prop} {Q : Exit → Act → World → Prop} (hn : ∀ a' w' loc', Inv n Γ w0 ok0 loc' st' a' w' → next a' w') :
    if Region.wanted o (yielded ops a.tmps) = true then o.wp P a w next Q ∨ (o.asks P a w ∧ LetsOut Q) else next (a.put o.dst undef) w := by
  unfold chkO at hc
  simp only [Bool.and_eq_true] at hc
  obtain ⟨⟨h1, h2⟩, h3⟩ := hc
  obtain ⟨hdst, hd⟩ := dstOk_spec h2
  have hskip : ∀ {s}, some (st.put io.dst .undef) = some s → s = st' → next (a.put o.dst undef) w := by
    intro s hs' he
    cases hs'
    subst he
    rw [hdst] at hn
    exact hn _ _ _ (I.undef o.dst hd)
  unfold step at hs
  split at hs
  · rename_i heff
    have hgo : (evE E (io.dst.getD 0) st io.i).map (fun r => r.2.put io.dst r.1) = some st' → o.wp P a w next Q := by
      intro he
      rw [Option.map_eq_some_iff] at he
      obtain ⟨r, he, rfl⟩ := he
      exact eff_ok hE I h1 heff hdst hd he hn
    split at hs
    · rename_i hg
      rw [hg] at h3
      have hw : Region.wanted o (yielded ops a.tmps) = true := by
        unfold guardOk at h3
        split at h3
        · simp [Region.wanted, ‹o.guard = none›]
        · rename_i q2; cases q2
        · cases h3
      rw [if_pos hw]
      exact .inl (hgo hs)
    · rename_i t want hg
      rw [hg] at h3
      split at hs
      · rename_i b hb
        have hw := (guard_ok (o := o) I h3 hb).1 b rfl
        by_cases hbw : b = want
        · rw [if_pos hbw] at hs
          rw [hw, if_pos (by simp [hbw])]
          exact .inl (hgo hs)
        · rw [if_neg hbw] at hs
          rw [hw, if_neg (by simp [hbw])]
          exact hskip hs rfl
      · rename_i hb
        have hw := (guard_ok (o := o) I h3 hb).2 rfl
        rw [hw, if_neg (by simp)]
        exact hskip hs rfl
      · cases hs
  · rename_i heff
    split at hs
    · rename_i v news hcore
      split at hs
      · rename_i hf
        cases hs
        have hgo : ev E (io.dst.getD 0) (vG io.fb st) (vH io.fb st) io.i = some (v, news) → o.wp P a w next Q := by
          intro he
          rw [hdst] at hn
          cases hst : io.i.stk with
          | none =>
            rw [hst] at hf
            exact ev_ok hE I h1 hst (vG_le io.fb st) (vH_le io.fb st) he (by simpa using hf) hd fun x w' loc' hI => hn _ _ _ hI
          | some key =>
            generalize hii : io.i = i at h1 he hst
            cases i with
            | store key' m x y =>
              simp only [chk] at h1
              split at h1
              · simp only [Bool.and_eq_true] at h1
                obtain ⟨w', g1, g2, g3⟩ := o_store I ‹_› h1.1.1 h1.1.2 h1.2 (vG_le io.fb st) (vH_le io.fb st) he
                unfold Oper.wp
                rw [g1, Oper.upon_skip]
                subst g2
                have := g3.undef o.dst hd
                refine hn _ _ loc ?_
                cases hq : o.dst with
                | none => rw [hq] at this; exact this
                | some d => rw [hq] at this; exact this
              · cases h1
            | _ => cases hst
        have hsk : (v, news) = (S.undef, []) → next (a.put o.dst undef) w := by
          intro he
          cases he
          rw [hdst] at hn
          have := I.undef o.dst hd
          refine hn _ _ loc ?_
          cases hq : o.dst with
          | none => rw [hq] at this; exact this
          | some d => rw [hq] at this; exact this
        unfold core at hcore
        split at hcore
        · rename_i hg
          rw [hg] at h3
          have hw : Region.wanted o (yielded ops a.tmps) = true := by
            unfold guardOk at h3
            split at h3
            · simp [Region.wanted, ‹o.guard = none›]
            · rename_i q2; cases q2
            · cases h3
          rw [if_pos hw]
          exact .inl (hgo hcore)
        · rename_i t want hg
          rw [hg] at h3
          split at hcore
          · rename_i b hb
            have hw := (guard_ok (o := o) I h3 (vG_le _ _ _ _ hb)).1 b rfl
            by_cases hbw : b = want
            · rw [if_pos hbw] at hcore
              rw [hw, if_pos (by simp [hbw])]
              exact .inl (hgo hcore)
            · rw [if_neg hbw] at hcore
              rw [hw, if_neg (by simp [hbw])]
              exact hsk (by cases hcore; rfl)
          · rename_i hb
            have hw := (guard_ok (o := o) I h3 (vG_le _ _ _ _ hb)).2 rfl
            rw [hw, if_neg (by simp)]
            exact hsk (by cases hcore; rfl)
          · cases hcore
      · cases hs
    · cases hs

/-- Operations in the order of the text. -/
theorem steps_ok (hE : ∀ f, Sound P f (E f)) {ops : Array Oper} {Q : Exit → Act → World → Prop} : ∀ (l : List Oper) (q : List IO) (k : Nat) (st st' : St) (loc : Locs) (a : Act) (w : World), (∀ j, l[j]? = ops[k + j]?) → chkL P n ops.toList l q = true → Inv n Γ w0 ok0 loc st a w → steps E q st = some st' →
    (∀ a' w' loc', Inv n Γ w0 ok0 loc' st' a' w' → Q .normal a' w') → wpOps P ops Q (List.range' k l.length) a w
  | [], [], k, st, st', loc, a, w, hl, hc, I, hs, hn => by cases hs; exact hn _ _ _ I
  | o :: l, io :: q, k, st, st', loc, a, w, hl, hc, I, hs, hn => by
    simp only [chkL, Bool.and_eq_true] at hc
    simp only [steps] at hs
    split at hs
    · rename_i st1 h1
      have h0 : ops[k]? = some o := by have := hl 0; simpa using this.symm
      rw [List.length_cons, List.range'_succ, wpOps_cons]
      unfold wpOp
      rw [h0]
      exact step_ok hE I hc.1 h1 fun a' w' loc' I' => steps_ok hE l q (k + 1) st1 st' loc' a' w' (fun j => by have := hl (j + 1); simpa [Nat.add_assoc, Nat.add_comm 1 j] using this) hc.2 I' hs hn
    · cases hs
  | [], _ :: _, _, _, _, _, _, _, _, hc, _, _, _ => by cases hc
  | _ :: _, [], _, _, _, _, _, _, _, hc, _, _, _ => by cases hc
theorem region_ok (hE : ∀ f, Sound P f (E f)) {id : Nat} {ops : Array Oper} {q : List IO} {Q : Exit → Act → World → Prop} (hc : chkL P n ops.toList ops.toList q = true) (I : Inv n Γ w0 ok0 loc st a w) (hs : steps E q st = some st') (hn : ∀ a' w' loc', Inv n Γ w0 ok0 loc' st' a' w' → Q .normal a' w') :
    (Code.region id ops false).wp P Q a w := by
  refine wp_region ?_
  have h := steps_ok (ops := ops) (Q := Q) hE ops.toList q 0 st st' loc a w (fun j => by simp) hc I hs hn
  rw [List.range_eq_range', ← Array.length_toList]
  exact h
end
end Go.Proofs.YtgjacdfiilcaaaaR
