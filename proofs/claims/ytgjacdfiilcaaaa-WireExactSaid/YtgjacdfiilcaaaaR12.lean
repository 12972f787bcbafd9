/- An operation in its place: the model's run of it is what the evaluator tells. -/
import Derived.Test.YtgjacdfiilcaaaaR11
set_option linter.unusedVariables false
set_option linter.unusedSimpArgs false
namespace Go.Proofs.YtgjacdfiilcaaaaR
open Go Go.RowKit

section
variable {P : Program} {n : Nat} {Γ : Ent} {w0 : World} {ok0 : Nat → Prop} {loc : Locs} {st : St} {a : Act} {w : World} {o : Oper}

theorem fresh1 {st : St} {k : Nat} {B : Blk} (h : fresh st [(k, B)] = true) : (look st.hp k).isSome = false := fresh_spec h k (by rw [look_one, if_pos rfl]; rfl)

theorem aloB_some {d : Nat} : ∀ {ps : List (Nat × Nat × Nat)} {k s : Nat} {B : Blk}, look (aloB d k ps) s = some B → (64 * d + k ≤ s ∧ s < 64 * d + k + ps.length) ∧ ∃ el e, B = .rows el e []
  | [], k, s, B, h => by cases h
  | (off, el, e) :: r, k, s, B, h => by
    simp only [aloB, look] at h
    split at h
    · cases h
      exact ⟨by simp only [List.length_cons]; omega, el, e, rfl⟩
    · obtain ⟨h1, h2⟩ := aloB_some h
      exact ⟨by simp only [List.length_cons]; omega, h2⟩
theorem aloB_is {d : Nat} : ∀ {ps : List (Nat × Nat × Nat)} {k s : Nat}, 64 * d + k ≤ s ∧ s < 64 * d + k + ps.length → (look (aloB d k ps) s).isSome = true
  | [], k, s, h => by simp only [List.length_nil] at h; omega
  | (off, el, e) :: r, k, s, h => by
    simp only [aloB, look]
    split
    · rfl
    · simp only [List.length_cons] at h
      exact aloB_is (by omega)
theorem aloV_rvs {ok : Nat → Prop} {d : Nat} {cs : List Value} : ∀ {ps : List (Nat × Nat × Nat)} {k : Nat} {zo zv : List V}, aloOk zo ps = true → (∀ q, k ≤ q → q < k + ps.length → loc (64 * d + q) = some .virt) → (∀ j : Nat, zo[j]? = some (V.row []) → cs[j]? = some (Value.slice none 0 0)) → RVs w ok loc zv cs → RVs w ok loc (aloV d k zv ps) cs
  | [], k, zo, zv, _, _, _, h => h
  | (off, el, e) :: r, k, zo, zv, hok, hl, hz, h => by
    simp only [aloOk] at hok
    split at hok
    · rename_i hoff
      have hc := hz off hoff
      simp only [aloV]
      refine aloV_rvs hok (fun q h1 h2 => hl q (by omega) (by simp only [List.length_cons]; omega)) (fun j hj => ?_) ⟨by rw [List.length_set]; exact h.1, fun j v c h1 h2 => ?_⟩
      · rw [List.getElem?_set] at hj
        split at hj
        · split at hj <;> cases hj
        · exact hz j hj
      · rw [List.getElem?_set] at h1
        split at h1
        · rename_i e1
          subst e1
          split at h1
          · cases h1
            rw [hc] at h2
            cases h2
            exact .inr ⟨hl k (Nat.le_refl k) (by simp only [List.length_cons]; omega), rfl, rfl, rfl⟩
          · cases h1
        · exact h.2 j v c h1 h2
    · cases hok
theorem voks_nil : ∀ {cs : List Value} {zs : List V}, voks cs zs = true → ∀ j : Nat, zs[j]? = some (V.row []) → cs[j]? = some (Value.slice none 0 0)
  | [], [], _, j, h => by simp at h
  | c :: r, v :: q, hv, j, h => by
    simp only [voks, Bool.and_eq_true] at hv
    cases j with
    | zero =>
      simp at h
      subst h
      have h1 := hv.1
      unfold vok at h1
      split at h1 <;> first | rfl | (rename_i e; cases e) | cases h1
    | succ j => simpa using voks_nil hv.2 j (by simpa using h)
  | [], _ :: _, hv, _, _ => by cases hv
  | _ :: _, [], hv, _, _ => by cases hv
theorem ev_ok {E : Nat → Model} {i : I} (hE : ∀ f, Sound P f (E f)) (I : Inv n Γ w0 ok0 loc st a w) (hc : chk P o.op i = true) (hns : i.stk = none) {g : Nat → Option S} {h : Nat → Option Blk} (hg : ∀ t s, g t = some s → look st.sl t = some s) (hh : ∀ s B, h s = some B → look st.hp s = some B)
    {d : Nat} {v : S} {news : Hp} (he : ev E d g h i = some (v, news)) (hf : fresh st news = true) (hd : ∀ t, o.dst = some t → t < n) {next : Act → World → Prop} {Q : Exit → Act → World → Prop}
    (hn : ∀ x w' loc', Inv n Γ w0 ok0 loc' { sl := (st.put o.dst v).sl, hp := news ++ st.hp } (a.put o.dst x) w' → next (a.put o.dst x) w') : o.wp P a w next Q := by
  have hG := I.gok hg
  have hH := I.hok hh
  cases i with
  | mov y =>
    simp only [ev, Option.map_eq_some_iff] at he
    obtain ⟨s, hs, he⟩ := he
    cases he
    simp only [chk] at hc
    split at hc
    · exact yld_wp I hd (y_mov (.inl ‹_›) hc hG hs) hn
    · exact yld_wp I hd (y_mov (.inr ‹_›) hc hG hs) hn
    · cases hc
  | nilsl el e k =>
    simp only [ev] at he
    split at he
    case isFalse => cases he
    cases he
    have hrun : (execOp a.eval o).run P w = .ok (.value (.slice none 0 0)) w := by
      simp only [chk] at hc
      unfold execOp
      split at hc
      · rename_i q; rw [q]; rfl
      · rename_i q; rw [q]; rfl
      · cases hc
    unfold Oper.wp
    rw [hrun, Oper.upon_value]
    exact hn _ _ _ (I.newnil (64 * d + k) (fresh1 hf) el e o.dst hd)
  | pick c x y =>
    simp only [ev] at he
    split at he
    · rename_i t ht
      split at he
      · rename_i s1 s2 h1 h2
        cases he
        simp only [chk] at hc
        split at hc
        · simp only [Bool.and_eq_true] at hc
          exact yld_wp I hd (y_pick ‹_› hc.1.1 hc.1.2 hc.2 hG ht h1 h2) hn
        · cases hc
      · cases he
    · cases he
  | bin op x y =>
    simp only [ev] at he
    split at he
    · rename_i p q h1 h2
      rw [Option.map_eq_some_iff] at he
      obtain ⟨v', hb, he⟩ := he
      cases he
      simp only [chk] at hc
      split at hc
      · simp only [Bool.and_eq_true, decide_eq_true_eq] at hc
        obtain ⟨⟨rfl, h3⟩, h4⟩ := hc
        exact yld_wp I hd (y_bin ‹_› h3 h4 hG h1 h2 hb) hn
      · cases hc
    · cases he
  | eqb neg x y =>
    simp only [ev] at he
    split at he
    · rename_i p q h1 h2
      cases he
      simp only [chk] at hc
      split at hc
      · simp only [Bool.and_eq_true, decide_eq_true_eq] at hc
        obtain ⟨⟨⟨h3, h4⟩, h5⟩, h6⟩ := hc
        split at h4
        · exact yld_wp I hd (y_eqb neg ‹_› h3 ‹_› h5 h6 hG h1 h2) hn
        · cases h4
      · cases hc
    · cases he
  | eqs neg ks x y =>
    simp only [ev] at he
    split at he
    · rename_i p q h1 h2
      rw [Option.map_eq_some_iff] at he
      obtain ⟨v', hb, he⟩ := he
      cases he
      simp only [chk] at hc
      split at hc
      · simp only [Bool.and_eq_true, decide_eq_true_eq] at hc
        obtain ⟨⟨⟨h3, h4⟩, h5⟩, h6⟩ := hc
        exact yld_wp I hd (y_eqs neg ‹_› h3 h4 h5 h6 hG h1 h2 hb) hn
      · cases hc
    · cases he
  | isnil neg x =>
    simp only [chk] at hc
    split at hc
    · simp only [Bool.and_eq_true, decide_eq_true_eq] at hc
      obtain ⟨⟨h1, h2⟩, h3⟩ := hc
      split at h2
      · rename_i el ht
        simp only [ev] at he
        split at he
        · rename_i y ys hx
          cases he
          have hr : Rep w (okI w0 ok0 w loc) (.row (y :: ys)) _ := xok_rs h3 hG hx
          generalize hz : a.eval _ = z at hr
          cases hr with
          | row u hn0 hne hc ha he hr hp =>
            have := y_isnil (w := w) (ok := okI w0 ok0 w loc) (loc := loc) neg ‹_› h1 ht hz
            simp only [Option.isNone_some, Bool.not_false] at this
            cases neg <;> exact yld_wp I hd this hn
        · rename_i A n' c hx
          cases he
          have hr : Rep w (okI w0 ok0 w loc) (.k _) _ := xok_rs h3 hG hx
          generalize hz : a.eval _ = z at hr
          cases hr with
          | k h =>
            have := y_isnil (w := w) (ok := okI w0 ok0 w loc) (loc := loc) neg ‹_› h1 ht hz
            simp only [Option.isNone_some, Bool.not_false] at this
            cases neg <;> exact yld_wp I hd this hn
        · rename_i n' c hx
          cases he
          have hr : Rep w (okI w0 ok0 w loc) (.k _) _ := xok_rs h3 hG hx
          generalize hz : a.eval _ = z at hr
          cases hr with
          | k h =>
            have := y_isnil (w := w) (ok := okI w0 ok0 w loc) (loc := loc) neg ‹_› h1 ht hz
            simp only [Option.isNone_none, Bool.not_true] at this
            cases neg <;> exact yld_wp I hd this hn
        · cases he
      · cases h2
    · cases hc
  | un op x =>
    simp only [ev] at he
    simp only [chk] at hc
    split at hc
    · simp only [Bool.and_eq_true, decide_eq_true_eq] at hc
      obtain ⟨rfl, h3⟩ := hc
      split at he
      · rename_i b hb
        split at he
        · cases he; exact yld_wp I hd (y_not ‹_› h3 hG hb) hn
        · cases he
      · rename_i k m hm
        split at he
        · cases he; exact yld_wp I hd (y_neg ‹_› h3 hG hm) hn
        · cases he; exact yld_wp I hd (y_xor ‹_› h3 hG hm) hn
        · cases he
      · cases he
    · cases hc
  | conv k x =>
    simp only [ev] at he
    split at he
    · rename_i k' m hm
      cases he
      simp only [chk] at hc
      split at hc
      · simp only [Bool.and_eq_true] at hc
        obtain ⟨⟨h3, h4⟩, h5⟩ := hc
        split at h4
        · have h4 := of_decide_eq_true h4
          subst h4
          exact yld_wp I hd (y_conv ‹_› h3 ‹_› h5 hG hm) hn
        · cases h4
      · cases hc
    · cases he
  | alloc zs =>
    simp only [ev] at he
    cases he
    simp only [chk] at hc
    split at hc
    · rename_i el hop
      obtain ⟨i, z, i1, i2, i3⟩ := zeroT_spec hc
      have hrun : (execOp a.eval o).run P w = .ok (.value (.pointer (some ⟨w.heap.size, 0, none⟩))) (w.alloc (.cells z.cells el)) := by
        unfold execOp
        rw [hop]
        simp [Instr.alloc, zeroValue, typeInfo, i1, i2, newVar, newRow]
      unfold Oper.wp
      rw [hrun, Oper.upon_value]
      exact hn _ _ _ (I.newbox (64 * d) (fresh1 hf) zs z.cells el (voks_rvs i3) o.dst hd)
    · cases hc
  | box x =>
    simp only [ev] at he
    split at he
    · rename_i vs hvs
      cases he
      rw [Option.bind_eq_some_iff] at hvs
      obtain ⟨s, hs1, hs2⟩ := hvs
      simp only [chk] at hc
      split at hc
      · rename_i el x0 hop
        obtain ⟨r1, r2⟩ := cells_rvs (xok_rs hc hG hs1) hs2
        have hrun : (execOp a.eval o).run P w = .ok (.value (.pointer (some ⟨w.heap.size, 0, none⟩))) (w.alloc (.cells (a.eval x0).cells el)) := by
          unfold execOp
          rw [hop]
          simp [Instr.box, newVar, newRow]
        unfold Oper.wp
        rw [hrun, Oper.upon_value]
        exact hn _ _ _ (I.newbox (64 * d) (fresh1 hf) vs _ el r1 o.dst hd)
      · cases hc
    · cases he
  | build zs qs =>
    simp only [ev, Option.map_eq_some_iff] at he
    obtain ⟨ws, hw, he⟩ := he
    cases he
    simp only [chk] at hc
    split at hc
    · exact yld_wp I hd (y_build ‹_› hc hG hw) hn
    · cases hc
  | bsl el e m zs qs =>
    simp only [ev] at he
    split at he
    · rename_i xs hxs
      cases he
      simp only [chk] at hc
      split at hc
      · rename_i t k ps hop
        simp only [Bool.and_eq_true, beq_iff_eq, decide_eq_true_eq] at hc
        obtain ⟨⟨⟨⟨⟨⟨⟨rfl, h1⟩, h2⟩, h3⟩, h4⟩, h5⟩, hk⟩, h6⟩ := hc
        obtain ⟨i, z, i1, i2, i3⟩ := zeroT_spec h3
        have ht := sliceT_spec h1
        have hz : Els w (okI w0 ok0 w loc) e (List.replicate k zs) (((Array.range (k * e)).map fun q => z.cells[q % z.cells.size]!).toList) := els_zero i3 h4
        obtain ⟨B, hB, hr⟩ := fill_els hG ps.toList qs _ _ xs h6 hz hxs
        have hlen : ∀ (qs : List (Nat × X)) (xs ys : List (List V)), fillR g e xs qs = some ys → ys.length = xs.length := by
          intro qs
          induction qs with
          | nil => intro xs ys h; cases h; rfl
          | cons q r ih =>
            intro xs ys h
            obtain ⟨q1, q2⟩ := q
            simp only [fillR] at h
            split at h
            · split at h
              · rw [ih _ _ h, List.length_set]
              · cases h
            · cases h
        have hxl : xs.length = k := by rw [hlen qs _ _ hxs]; simp
        have hrun : (execOp a.eval o).run P w = .ok (.value (.slice (some ⟨w.heap.size, 0, none⟩) k k)) (w.alloc (.cells B el)) := by
          have h5' : ¬ (k * e > 2 ^ 24) := by omega
          by_cases h0 : k * e = 0
          · have hsame : ((Array.range (k * e)).map fun q => (#[] : Array Value)[q % (#[] : Array Value).size]!) = ((Array.range (k * e)).map fun q => z.cells[q % z.cells.size]!) := by rw [h0, show Array.range 0 = #[] from rfl, Array.map_empty, Array.map_empty]
            unfold execOp
            rw [hop]
            simp only [Instr.buildSlice, Sem.run_bind, run_underlying ht, Result.andThen_ok, run_sizeOf h2, if_neg h5', if_pos h0, Sem.run_pure, hsame, Array.toList_map, hB, newRow, run_newObj]
            rfl
          · unfold execOp
            rw [hop]
            have hzero : (zeroValue el).run P w = .ok z w := by simp [zeroValue, typeInfo, i1, i2]
            simp only [Instr.buildSlice, Sem.run_bind, run_underlying ht, Result.andThen_ok, run_sizeOf h2, if_neg h5', if_neg h0, hzero, Sem.run_pure, Array.toList_map, hB, newRow, run_newObj]
            rfl
        unfold Oper.wp
        rw [hrun, Oper.upon_value]
        have hnew := I.newrows (64 * d) (fresh1 hf) el e xs B hr (by rw [hxl]; unfold maxLen; omega) o.dst hd
        rw [hxl] at hnew
        exact hn _ _ _ hnew
      · cases hc
    · cases he
  | load ag m x =>
    simp only [ev] at he
    split at he
    · rename_i p hp
      split at he
      · rename_i ws hw
        rw [Option.map_eq_some_iff] at he
        obtain ⟨s, hs, he⟩ := he
        cases he
        simp only [chk] at hc
        split at hc
        · simp only [Bool.and_eq_true] at hc
          obtain ⟨h1, h2⟩ := agT_spec hc.1
          exact yld_wp I hd (y_load ‹_› h1 h2 hc.2 hG hH hp hw hs) hn
        · cases hc
      · cases he
    · cases he
  | nck x =>
    simp only [ev] at he
    simp only [chk] at hc
    split at hc
    · split at he
      · cases he; exact yld_wp I hd (y_nck ‹_› hc hG ‹_› rfl) hn
      · cases he; exact yld_wp I hd (y_nck ‹_› hc hG ‹_› rfl) hn
      · cases he; exact yld_wp I hd (y_nck ‹_› hc hG ‹_› rfl) hn
      · cases he
    · cases hc
  | mks el e by_ zs l c =>
    simp only [ev] at he
    split at he
    · rename_i l' c' hl hcp
      split at he
      · rename_i hb
        obtain ⟨hb1, hb2, hb3⟩ := hb
        subst hb2
        cases he
        simp only [chk] at hc
        split at hc
        · rename_i t l0 c0 hop
          simp only [Bool.and_eq_true] at hc
          obtain ⟨⟨⟨h1, h2⟩, h3⟩, h4⟩ := hc
          have ht := sliceT_spec h1
          obtain ⟨k, hk⟩ := asI_spec (a := a) h3 hG hl
          obtain ⟨k', hk'⟩ := asI_spec (a := a) h4 hG hcp
          obtain ⟨z, z1, z2, z3⟩ := run_makeSlice (P := P) (w := w) (k := k) (k' := k') ht h2 hb1 hb3
          have hrun : (execOp a.eval o).run P w = .ok (.value (.slice (some ⟨w.heap.size, 0, none⟩) l'.toNat l'.toNat)) (w.alloc (.cells ((Array.range (l'.toNat * e)).map fun i => z.cells[i % z.cells.size]!) el)) := by
            unfold execOp
            rw [hop]
            simp only [hk, hk', Sem.run_bind, z3, Result.andThen_ok, Sem.run_pure]
          unfold Oper.wp
          rw [hrun, Oper.upon_value]
          have hlm : l'.toNat ≤ 140737488355328 := by
            unfold mksT at h2
            simp only [Bool.and_eq_true, decide_eq_true_eq] at h2
            have h1 : l' * 1 ≤ l' * by_ := Int.mul_le_mul_of_nonneg_left (by omega) hb1
            omega
          have hnew := I.newrows (64 * d) (fresh1 hf) el e (List.replicate l'.toNat zs) _ (els_zero z1 z2) (by simp; unfold maxLen; omega) o.dst hd
          rw [List.length_replicate] at hnew
          exact hn _ _ _ hnew
        · cases hc
      · cases he
    · cases he
  | stop =>
    simp only [ev] at he
    cases he
  | kow el e x =>
    simp only [ev] at he
    have hop : ∃ x0, (o.op = .move x0 ∨ o.op = .assign x0) ∧ xok x0 x = true := by
      simp only [chk] at hc
      split at hc
      · exact ⟨_, .inl ‹_›, hc⟩
      · exact ⟨_, .inr ‹_›, hc⟩
      · cases hc
    obtain ⟨x0, hop, hx⟩ := hop
    split at he
    · rename_i ex
      cases he
      have hz := knil hx hG ex
      have hrun : (execOp a.eval o).run P w = .ok (.value (.slice none 0 0)) w := by
        unfold execOp
        rcases hop with q | q
        · rw [q]; simp [hz]
        · rw [q]; simp [hz]
      unfold Oper.wp
      rw [hrun, Oper.upon_value]
      exact hn _ _ _ (I.newnil (64 * d) (fresh1 hf) el e o.dst hd)
    · rename_i s hs _
      cases he
      exact yld_wp I hd (y_mov hop hx hG ‹_›) hn
    · cases he
  | kln x =>
    simp only [ev] at he
    split at he
    · rename_i ex
      cases he
      simp only [chk] at hc
      split at hc
      · rename_i c hop
        split at hc
        · rename_i x0 t q1 q2 q3
          simp only [Bool.and_eq_true] at hc
          have hce : c = { callee := .builtin .len, args := #[x0], argTypes := #[t] } := by
            obtain ⟨c1, c2, c3⟩ := c
            simp only at q1 q2 q3
            subst q1
            congr 1
            · exact Array.toList_inj.1 (by simpa using q2)
            · exact Array.toList_inj.1 (by simpa using q3)
          subst hce
          split at hc
          · rename_i el ht
            exact yld_wp I hd (y_kln hop (.inl rfl) ht hc.2 hG ex) hn
          · cases hc.1
        · rename_i x0 t q1 q2 q3
          simp only [Bool.and_eq_true] at hc
          have hce : c = { callee := .builtin .cap, args := #[x0], argTypes := #[t] } := by
            obtain ⟨c1, c2, c3⟩ := c
            simp only at q1 q2 q3
            subst q1
            congr 1
            · exact Array.toList_inj.1 (by simpa using q2)
            · exact Array.toList_inj.1 (by simpa using q3)
          subst hce
          split at hc
          · rename_i el ht
            exact yld_wp I hd (y_kln hop (.inr rfl) ht hc.2 hG ex) hn
          · cases hc.1
        · cases hc
      · cases hc
    · cases he
  | kct x hi =>
    simp only [ev] at he
    split at he
    · rename_i u ex eh
      split at he
      · rename_i hu
        subst hu
        cases he
        simp only [chk] at hc
        split at hc
        · rename_i t x0 hi0 hop
          simp only [Bool.and_eq_true] at hc
          obtain ⟨el, ht, hs⟩ := slT_spec hc.1.1
          exact yld_wp I hd (y_kct hop ht hs hc.1.2 hc.2 hG ex eh) hn
        · cases hc
      · cases he
    · cases he
  | apz el e by_ zs x m =>
    simp only [ev] at he
    split at he
    · rename_i l ex em
      split at he
      · rename_i hb
        cases he
        simp only [chk] at hc
        split at hc
        · rename_i c hop
          split at hc
          · rename_i x0 m0 t t' q1 q2 q3
            simp only [Bool.and_eq_true, decide_eq_true_eq] at hc
            obtain ⟨⟨⟨⟨⟨h1, h2⟩, h3⟩, h4⟩, h5⟩, h6⟩ := hc
            have hce : c = { callee := .builtin .append, args := #[x0, m0], argTypes := #[t, t'] } := by
              obtain ⟨c1, c2, c3⟩ := c
              simp only at q1 q2 q3
              subst q1
              congr 1
              · exact Array.toList_inj.1 (by simpa using q2)
              · exact Array.toList_inj.1 (by simpa using q3)
            subst hce
            split at h1
            · rename_i kn ht'
              have ht := sliceT_spec h2
              have hz := knil h5 hG ex
              obtain ⟨k, hk⟩ := asI_spec (a := a) h6 hG em
              obtain ⟨z, z1, z2, cap, c1, c2, c3⟩ := run_appz (P := P) (w := w) (k := k) o.type ht ht' h3 h4 hb.1 hb.2
              refine Lib.wp_append_run w x0 m0 t t' hop _ _ hz hk _ _ c3 ?_
              have hcz : z.cells.size = e := by
                have := (voks_rvs (w := w) (ok := okI w0 ok0 w loc) (loc := loc) z1).1
                simp at this
                omega
              have hels := els_zero (w := w) (ok := okI w0 ok0 w loc) (n := l.toNat) z1 z2
              have hcell : ∀ i j x p, (List.replicate l.toNat zs)[i]? = some x → x[j]? = some p → ∃ u, ((Builtin.zeroCells z.cells l.toNat ++ Builtin.zeroCells z.cells (cap - l.toNat)) : Array Value)[i * e + j]? = some u ∧ Rep w (okI w0 ok0 w loc) p u := by
                intro i j x p g1 g2
                obtain ⟨u, hu, hr⟩ := hels.2.2.1 i j x p g1 g2
                refine ⟨u, ?_, hr⟩
                rw [← hcz] at hu
                have hlt : i * e + j < (Builtin.zeroCells z.cells l.toNat).size := by
                  have := (List.getElem?_eq_some_iff.1 hu).1
                  simp only [Array.length_toList, Array.size_map, Array.size_range] at this
                  rw [size_zeroCells]
                  rw [hcz] at this ⊢
                  exact this
                rw [Array.getElem?_append_left hlt, ← Array.getElem?_toList]
                rw [hcz] at hu
                unfold Builtin.zeroCells
                rw [hcz]
                exact hu
              have hnew := I.newroom (64 * d) (fresh1 hf) el e (List.replicate l.toNat zs) _ cap (w' := w.drew.alloc (.cells (Builtin.zeroCells z.cells l.toNat ++ Builtin.zeroCells z.cells (cap - l.toNat)) el)) ((Below.refl _ w).drew.alloc (Nat.le_refl _) _) (heap_alloc_new w.drew _) (by simp) hels.1 (by rw [Array.size_append, size_zeroCells, size_zeroCells, hcz, ← Nat.add_mul]; congr 1; omega) hcell (by simpa using c1) c2 o.dst hd
              rw [List.length_replicate] at hnew
              exact hn _ _ _ hnew
            · cases h1
          · cases hc
        · cases hc
      · cases he
    · cases he
  | cu0 e x hi =>
    simp only [ev] at he
    split at he
    · rename_i s off len u ex eh
      split at he
      · rename_i hb
        cases he
        simp only [chk] at hc
        split at hc
        · rename_i t x0 hi0 hop
          simp only [Bool.and_eq_true] at hc
          obtain ⟨el, ht, hs⟩ := slT_spec hc.1.1
          exact yld_wp I hd (y_cu0 hop ht hs hc.1.2 hc.2 hG ex eh hb.1 hb.2) hn
        · cases hc
      · cases he
    · cases he
  | cut e x lo hi =>
    simp only [ev] at he
    simp only [chk] at hc
    split at hc
    · simp only [Bool.and_eq_true] at hc
      obtain ⟨⟨⟨h1, h2⟩, h3⟩, h4⟩ := hc
      obtain ⟨el, ht, hs⟩ := slT_spec h1
      split at he
      · rename_i xs hx
        split at he
        · rename_i l u hl hu
          split at he
          · rename_i hb
            by_cases hlu : l = u
            · rw [if_pos hlu] at he
              cases he
              have := y_cut_row (P := P) (w := w) (o := o) ‹_› ht hs h2 h3 h4 hG hx hl hu hb.1 hb.2.1 hb.2.2 (fun h => absurd hlu h)
              rw [if_pos hlu] at this
              exact yld_wp I hd this hn
            · rw [if_neg hlu] at he
              split at he
              · rename_i hall
                cases he
                have := y_cut_row (P := P) (w := w) (o := o) ‹_› ht hs h2 h3 h4 hG hx hl hu hb.1 hb.2.1 hb.2.2 (fun _ => hall)
                rw [if_neg hlu] at this
                exact yld_wp I hd this hn
              · cases he
          · cases he
        · cases he
      · rename_i s off len hx
        split at he
        · rename_i el2 e0 xs hq
          split at he
          · rename_i l u hl hu
            split at he
            · rename_i hb
              by_cases hlu : l = u
              · rw [if_pos hlu] at he
                cases he
                have := y_cut_sl (P := P) (w := w) (o := o) ‹_› ht hs h2 h3 h4 hG hH hx hq hl hu hb.1 hb.2.1 hb.2.2 (fun h => absurd hlu h)
                rw [if_pos hlu] at this
                exact yld_wp I hd this hn
              · rw [if_neg hlu] at he
                split at he
                · rename_i hee
                  cases he
                  have := y_cut_sl (P := P) (w := w) (o := o) ‹_› ht hs h2 h3 h4 hG hH hx hq hl hu hb.1 hb.2.1 hb.2.2 (fun _ => hee)
                  rw [if_neg hlu] at this
                  exact yld_wp I hd this hn
                · cases he
            · cases he
          · cases he
        · cases he
      · cases he
    · cases hc
  | fad off x =>
    simp only [ev] at he
    simp only [chk] at hc
    split at hc
    · simp only [Bool.and_eq_true] at hc
      obtain ⟨fs, fd, f1, f2, f3⟩ := fdT_spec hc.1
      simp only [Bool.and_eq_true, beq_iff_eq] at f3
      obtain ⟨m, hm⟩ := posT_spec f3.2
      split at he
      · cases he; exact yld_wp I hd (y_fad ‹_› f1 f2 f3.1 hm hc.2 hG ‹_› rfl) hn
      · cases he; exact yld_wp I hd (y_fad ‹_› f1 f2 f3.1 hm hc.2 hG ‹_› rfl) hn
      · cases he
    · cases hc
  | fld ag off m x =>
    simp only [ev] at he
    simp only [chk] at hc
    split at hc
    · simp only [Bool.and_eq_true] at hc
      obtain ⟨fs, fd, f1, f2, f3⟩ := fdT_spec hc.1
      simp only [Bool.and_eq_true, beq_iff_eq] at f3
      obtain ⟨h1, h2⟩ := agT_spec f3.2
      split at he
      · rename_i vs hx
        split at he
        · rename_i ws hw
          rw [Option.map_eq_some_iff] at he
          obtain ⟨s, hs, he⟩ := he
          cases he
          exact yld_wp I hd (y_fld ‹_› f1 f2 f3.1 h1 h2 hc.2 hG hx hw hs) hn
        · cases he
      · cases he
    · cases hc
  | iad e x i =>
    simp only [ev] at he
    simp only [chk] at hc
    split at hc
    · simp only [Bool.and_eq_true] at hc
      obtain ⟨el, ht, hs⟩ := slT_spec hc.1.1
      split at he
      · rename_i xs m hx hi
        split at he
        · rename_i hb
          split at he
          · rename_i y hy
            split at he
            · rename_i hl
              cases he
              exact yld_wp I hd (y_iad_row ‹_› ht hs hc.1.2 hc.2 hG hx hi hb.1 hb.2 hy hl) hn
            · cases he
          · cases he
        · cases he
      · rename_i s off len m hx hi
        split at he
        · rename_i el2 e0 xs hq
          split at he
          · rename_i hb
            cases he
            obtain ⟨rfl, hb1, hb2⟩ := hb
            exact yld_wp I hd (y_iad_sl ‹_› ht hs hc.1.2 hc.2 hG hH hx hi hq hb1 hb2) hn
          · cases he
        · cases he
      · cases he
    · cases hc
  | iada e len x i =>
    simp only [ev] at he
    simp only [chk] at hc
    split at hc
    · simp only [Bool.and_eq_true] at hc
      obtain ⟨el, ht, hs⟩ := arrT_spec hc.1.1
      split at he
      · rename_i s c j m hx hi
        split at he
        · rename_i vs hq
          split at he
          · rename_i hb
            cases he
            exact yld_wp I hd (y_iada_ref ‹_› ht hs hc.1.2 hc.2 hG hH hx hi hq hb.1 hb.2) hn
          · cases he
        · cases he
      · rename_i cs m hx hi
        split at he
        · rename_i hb
          cases he
          exact yld_wp I hd (y_iada_ptr ‹_› ht hs hc.1.2 hc.2 hG hx hi hb.1 hb.2) hn
        · cases he
      · cases he
    · cases hc
  | idx ag e len x i =>
    simp only [ev] at he
    simp only [chk] at hc
    split at hc
    · simp only [Bool.and_eq_true] at hc
      obtain ⟨⟨h1, h2⟩, h3⟩ := hc
      split at h1
      · rename_i m el ht
        simp only [Bool.and_eq_true, beq_iff_eq] at h1
        obtain ⟨⟨rfl, hs⟩, hag⟩ := h1
        obtain ⟨g1, g2⟩ := agT_spec hag
        split at he
        · rename_i vs k hx hi
          split at he
          · rename_i hb
            split at he
            · rename_i ws hw
              rw [Option.map_eq_some_iff] at he
              obtain ⟨s, hsh, he⟩ := he
              cases he
              exact yld_wp I hd (y_idx ‹_› ht hs g1 g2 h2 h3 hG hx hi hb.1 hb.2 hw hsh) hn
            · cases he
          · cases he
        · cases he
      · cases h1
    · cases hc
  | ext x i =>
    simp only [ev] at he
    simp only [chk] at hc
    split at hc
    · simp only [Bool.and_eq_true, beq_iff_eq] at hc
      obtain ⟨rfl, h1⟩ := hc
      split at he
      · rename_i xs hx
        rw [Option.map_eq_some_iff] at he
        obtain ⟨s, hs, he⟩ := he
        cases he
        exact yld_wp I hd (y_ext ‹_› h1 hG hx hs) hn
      · cases he
    · cases hc
  | call own f as =>
    simp only [ev] at he
    simp only [chk] at hc
    split at hc
    · rename_i c hop
      split at hc
      · rename_i f0 hcal
        simp only [Bool.and_eq_true, beq_iff_eq] at hc
        obtain ⟨rfl, h1⟩ := hc
        split at he
        · rename_i ss hss
          obtain ⟨k1, k2⟩ := evs_rs hG h1 hss
          refine o_call hE I (vs := (c.args.map a.eval)) (fun hfn => ?_) (by simp [k1]) (fun j s u b1 b2 => k2 j s u b1 (by simpa using b2)) hh he hf hd hn
          unfold execOp
          rw [hop]
          simp only [resolve, hcal, Act.eval, Deferred.ofValue, Sem.run_bind, Sem.run_pure, Result.andThen_ok, invoke]
          have := run_callFunc hfn (c.args.map a.eval) w
          simpa using this
        · cases he
      · cases hc
    · cases hc
  | callv own x as =>
    simp only [ev] at he
    simp only [chk] at hc
    split at hc
    · rename_i c hop
      split at hc
      · rename_i x0 hcal
        simp only [Bool.and_eq_true] at hc
        split at he
        · rename_i f cs hx
          split at he
          · rename_i ss hss
            obtain ⟨k1, k2⟩ := evs_rs hG hc.2 hss
            have hfv : Rep w (okI w0 ok0 w loc) (.fn f cs) (a.eval x0) := xok_rs hc.1 hG hx
            generalize hz : a.eval x0 = z at hfv
            cases hfv with
            | fn u hlen hr hp =>
              rename_i vs
              refine o_call hE I (vs := (c.args.map a.eval) ++ vs) (fun hfn => ?_) (by simp [k1, hlen]) (fun j s x b1 b2 => ?_) hh he hf hd hn
              · unfold execOp
                rw [hop]
                simp only [resolve, hcal, hz, Deferred.ofValue, Sem.run_bind, Sem.run_pure, Result.andThen_ok, invoke]
                have := run_callFunc hfn (c.args.map a.eval ++ vs) w
                simpa using this
              · by_cases hj : j < ss.length
                · rw [List.getElem?_append_left hj] at b1
                  rw [Array.toList_append, List.getElem?_append_left (by simp [← k1, hj])] at b2
                  exact k2 j s x b1 (by simpa using b2)
                · rw [List.getElem?_append_right (by omega), List.getElem?_map, Option.map_eq_some_iff] at b1
                  obtain ⟨p, b1, rfl⟩ := b1
                  rw [Array.toList_append, List.getElem?_append_right (by simp [← k1]; omega)] at b2
                  have hlen2 : (c.args.map a.eval).toList.length = ss.length := by simp [k1]
                  rw [hlen2] at b2
                  have h3 := hr _ _ b1
                  have h4 : vs[j - ss.length]? = some x := by simpa using b2
                  rw [h4] at h3
                  cases h3
                  exact (hp _ _ b1).rv
          · cases he
        · cases he
      · cases hc
    · cases hc
  | len x =>
    simp only [ev] at he
    simp only [chk] at hc
    split at hc
    · rename_i c hop
      split at hc
      · rename_i x0 t q1 q2 q3
        simp only [Bool.and_eq_true] at hc
        have hce : c = { callee := .builtin .len, args := #[x0], argTypes := #[t] } := by
          obtain ⟨c1, c2, c3⟩ := c
          simp only at q1 q2 q3
          subst q1
          congr 1
          · exact Array.toList_inj.1 (by simpa using q2)
          · exact Array.toList_inj.1 (by simpa using q3)
        subst hce
        split at hc
        · rename_i el ht
          split at he
          · cases he; exact yld_wp I hd (y_len (ts := #[]) hop ht hc.2 hG ‹_› rfl) hn
          · cases he; exact yld_wp I hd (y_len (ts := #[]) hop ht hc.2 hG ‹_› rfl) hn
          · cases he
        · cases hc.1
      · cases hc
    · cases hc
  | mx x y =>
    simp only [ev] at he
    simp only [chk] at hc
    split at hc
    · rename_i c hop
      split at hc
      · rename_i x0 y0 q1 q2
        simp only [Bool.and_eq_true] at hc
        have hce : c = { callee := .builtin .max, args := #[x0, y0], argTypes := c.argTypes } := by
          obtain ⟨c1, c2, c3⟩ := c
          simp only at q1 q2
          subst q1
          congr 1
          exact Array.toList_inj.1 (by simpa using q2)
        rw [hce] at hop
        split at he
        · rename_i k m k' m' h1 h2
          split at he
          · rename_i hk
            subst hk
            cases he
            exact yld_wp I hd (y_mx hop hc.1 hc.2 hG h1 h2) hn
          · cases he
        · cases he
      · cases hc
    · cases hc
  | mn x y =>
    simp only [ev] at he
    simp only [chk] at hc
    split at hc
    · rename_i c hop
      split at hc
      · rename_i x0 y0 q1 q2
        simp only [Bool.and_eq_true] at hc
        have hce : c = { callee := .builtin .min, args := #[x0, y0], argTypes := c.argTypes } := by
          obtain ⟨c1, c2, c3⟩ := c
          simp only at q1 q2
          subst q1
          congr 1
          exact Array.toList_inj.1 (by simpa using q2)
        rw [hce] at hop
        split at he
        · rename_i k m k' m' h1 h2
          split at he
          · rename_i hk
            subst hk
            cases he
            exact yld_wp I hd (y_mn hop hc.1 hc.2 hG h1 h2) hn
          · cases he
        · cases he
      · cases hc
    · cases hc
  | mkf f cs =>
    simp only [ev] at he
    simp only [chk] at hc
    split at hc
    · rename_i f0 fi cs0 hop
      simp only [Bool.and_eq_true, beq_iff_eq] at hc
      obtain ⟨⟨rfl, h1⟩, h2⟩ := hc
      have hfi : fi = #[] := Array.toList_inj.1 (by simpa using h1)
      subst hfi
      split at he
      · rename_i ss hss
        split at he
        · rename_i vs hvs
          split at he
          · rename_i hm
            cases he
            exact yld_wp I hd (y_mkf hop h2 hG hss hvs hm) hn
          · cases he
        · cases he
      · cases he
    · cases hc
  | store key m x y => cases hns
  | app el e by_ x y => cases he
  | clr el e x => cases he
  | apk el e by_ x y => cases he
  | apl el e by_ zs x m => cases he
  | cvb x => cases he
  | mkp t x => cases he
  | mki t x =>
    simp only [ev] at he
    simp only [chk] at hc
    split at hc
    · rename_i t0 x0 hop
      simp only [Bool.and_eq_true, beq_iff_eq] at hc
      obtain ⟨⟨rfl, h1⟩, h2⟩ := hc
      split at he
      · rename_i v ex
        split at he
        · rename_i hm
          cases he
          exact yld_wp I hd (y_mki hop h1 h2 hG ex hm) hn
        · cases he
      · cases he
    · cases hc
  | ifn neg x =>
    simp only [ev] at he
    simp only [chk] at hc
    split at hc
    · rename_i op t0 x0 u0 hop
      simp only [Bool.and_eq_true, decide_eq_true_eq] at hc
      obtain ⟨⟨h0, h1⟩, h2⟩ := hc
      split at he
      · rename_i s v ex
        cases he
        exact yld_wp I hd (y_ifn_i neg hop h0 h1 h2 hG ex) hn
      · rename_i ex
        cases he
        exact yld_wp I hd (y_ifn_n neg hop h0 h1 h2 hG ex) hn
      · cases he
    · cases hc
  | ieq tbl x y =>
    simp only [ev] at he
    simp only [chk] at hc
    split at hc
    · rename_i t0 x0 y0 u0 hop
      simp only [Bool.and_eq_true] at hc
      obtain ⟨⟨⟨h1, h2⟩, h3⟩, h4⟩ := hc
      split at he
      · rename_i t v t' v' ex ey
        split at he
        · rename_i e
          subst e
          split at he
          · split at he
            · rename_i htb
              cases he
              exact yld_wp I hd (y_ieq_i hop h1 h2 htb h3 h4 hG ex ey) hn
            · cases he
          · cases he
        · rename_i hne
          cases he
          exact yld_wp I hd (y_ieq_t hop h1 h3 h4 hG ex ey hne) hn
      · cases he
    · cases hc
  | tas T tbl x =>
    simp only [ev] at he
    simp only [chk] at hc
    split at hc
    · rename_i x0 t0 T0 hop
      simp only [Bool.and_eq_true, beq_iff_eq] at hc
      obtain ⟨⟨rfl, h1⟩, h2⟩ := hc
      split at he
      · rename_i t v ex
        split at he
        · rename_i hb
          cases he
          exact yld_wp I hd (y_tas hop h1 hb h2 hG ex) hn
        · rename_i hb
          cases he
          exact yld_wp I hd (y_tas hop h1 hb h2 hG ex) hn
        · cases he
      · cases he
    · cases hc
  | inv own tbl x as =>
    simp only [ev] at he
    simp only [chk] at hc
    split at hc
    · rename_i c hop
      split at hc
      · rename_i x0 name hcal
        simp only [Bool.and_eq_true] at hc
        obtain ⟨⟨h0, h1⟩, h2⟩ := hc
        split at he
        · rename_i t v ex
          split at he
          · rename_i f hf0
            split at he
            · rename_i ss hss
              obtain ⟨k1, k2⟩ := evs_rs hG h2 hss
              have hm := List.all_eq_true.1 h0 (t, f) (look_mem _ _ _ hf0)
              have hv : Rep w (okI w0 ok0 w loc) (.ifc t v) (a.eval x0) := xok_rs h1 hG ex
              generalize hz : a.eval x0 = z at hv
              cases hv with
              | ifc hv =>
                rename_i u
                refine o_call hE I (vs := #[u] ++ c.args.map a.eval) (fun hfn => ?_) (by simp [k1]) (fun j s x b1 b2 => ?_) hh he hf hd hn
                · unfold execOp
                  rw [hop]
                  have hd0 : 0 < Made.depth := by decide
                  have hk : ∃ k, P.types.size + Made.depth = k + 1 := ⟨P.types.size + Made.depth - 1, by omega⟩
                  obtain ⟨k, hk⟩ := hk
                  have h3 := run_callFunc hfn (#[u] ++ c.args.map a.eval) w
                  have h4 := run_method hm k u w
                  simp only [resolve, hcal, hz, Sem.run_bind, Sem.run_pure, Result.andThen_ok, invoke]
                  have h5 : (#[Value.iface t u] ++ c.args.map a.eval)[0]? = some (.iface t u) := by rw [Array.getElem?_append_left (by simp)]; rfl
                  have h6 : (#[Value.iface t u] ++ c.args.map a.eval).extract 1 (#[Value.iface t u] ++ c.args.map a.eval).size = c.args.map a.eval := by
                    apply Array.toList_inj.1
                    simp
                    exact List.take_of_length_le (by simp)
                  rw [h5]
                  simp only [h6]
                  simp only [callMethod, Sem.run_bind, run_program, Result.andThen_ok, hk, h4, h3, Sem.run_pure]
                  try simpa using h3
                · cases j with
                  | zero => simp at b1 b2; subst b1; subst b2; exact hv.rv
                  | succ j => exact k2 j s x (by simpa using b1) (by simpa using b2)
            · cases he
          · cases he
        · cases he
      · cases hc
    · cases hc
  | bsr el e m zs qs =>
    simp only [ev] at he
    split at he
    · rename_i xs hxs
      cases he
      simp only [chk] at hc
      split at hc
      · rename_i t k ps hop
        simp only [Bool.and_eq_true, beq_iff_eq, decide_eq_true_eq] at hc
        obtain ⟨⟨⟨⟨⟨⟨⟨rfl, h1⟩, h2⟩, h3⟩, h4⟩, h5⟩, hk⟩, h6⟩ := hc
        obtain ⟨i, z, i1, i2, i3⟩ := zeroT_spec h3
        have ht := sliceT_spec h1
        have hz : Els w (okI w0 ok0 w loc) e (List.replicate k zs) (((Array.range (k * e)).map fun q => z.cells[q % z.cells.size]!).toList) := els_zero i3 h4
        obtain ⟨B, hB, hr⟩ := fill_els hG ps.toList qs _ _ xs h6 hz hxs
        have hlen : ∀ (qs : List (Nat × X)) (xs ys : List (List V)), fillR g e xs qs = some ys → ys.length = xs.length := by
          intro qs
          induction qs with
          | nil => intro xs ys h; cases h; rfl
          | cons q r ih =>
            intro xs ys h
            obtain ⟨q1, q2⟩ := q
            simp only [fillR] at h
            split at h
            · split at h
              · rw [ih _ _ h, List.length_set]
              · cases h
            · cases h
        have hxl : xs.length = k := by rw [hlen qs _ _ hxs]; simp
        have hrun : (execOp a.eval o).run P w = .ok (.value (.slice (some ⟨w.heap.size, 0, none⟩) k k)) (w.alloc (.cells B el)) := by
          have h5' : ¬ (k * e > 2 ^ 24) := by omega
          by_cases h0 : k * e = 0
          · have hsame : ((Array.range (k * e)).map fun q => (#[] : Array Value)[q % (#[] : Array Value).size]!) = ((Array.range (k * e)).map fun q => z.cells[q % z.cells.size]!) := by rw [h0, show Array.range 0 = #[] from rfl, Array.map_empty, Array.map_empty]
            unfold execOp
            rw [hop]
            simp only [Instr.buildSlice, Sem.run_bind, run_underlying ht, Result.andThen_ok, run_sizeOf h2, if_neg h5', if_pos h0, Sem.run_pure, hsame, Array.toList_map, hB, newRow, run_newObj]
            rfl
          · unfold execOp
            rw [hop]
            have hzero : (zeroValue el).run P w = .ok z w := by simp [zeroValue, typeInfo, i1, i2]
            simp only [Instr.buildSlice, Sem.run_bind, run_underlying ht, Result.andThen_ok, run_sizeOf h2, if_neg h5', if_neg h0, hzero, Sem.run_pure, Array.toList_map, hB, newRow, run_newObj]
            rfl
        unfold Oper.wp
        rw [hrun, Oper.upon_value]
        have hB' : Below w.heap.size w (w.alloc (.cells B el)) := (Below.refl _ w).alloc (Nat.le_refl _) _
        have hlt : w.heap.size < (w.alloc (.cells B el)).heap.size := by show _ < (w.heap.push _).size; simp
        have hnok : okI w0 ok0 (w.alloc (.cells B el)) loc w.heap.size := ⟨.inr I.below.size, hlt, fun s l h1 h2 => by have := (I.hp.lo s l _ h1 h2).2; omega⟩
        have hokm : ∀ c, okI w0 ok0 w loc c → okI w0 ok0 (w.alloc (.cells B el)) loc c ∧ (w.alloc (.cells B el)).heap[c]? = w.heap[c]? := fun c h => ⟨⟨h.1, by have := h.2.1; omega, h.2.2⟩, hB'.block c h.2.1⟩
        have hrow : Rep (w.alloc (.cells B el)) (okI w0 ok0 (w.alloc (.cells B el)) loc) (.row xs) (.slice (some ⟨w.heap.size, 0, none⟩) k k) := by
          by_cases h0 : k = 0
          · obtain rfl : xs = [] := List.eq_nil_of_length_eq_zero (by omega)
            subst h0
            exact .row0 _ _
          · refine .row (fun i j => (B[i * e + j]?).getD Go.undef) hxl (by omega) (Nat.le_refl _) hnok hr.1 (fun i j x p h1 h2 => ?_) (fun i j x p h1 h2 => ?_)
            · obtain ⟨u, hu, _⟩ := hr.2.2.1 i j x p h1 h2
              rw [Addr.add_lit, Nat.zero_add, cell_of_row _ _ _ B _ (0, 0) (heap_alloc_new w _)]
              have hu' : B[i * e + j]? = some u := by simpa using hu
              rw [hu']
              rfl
            · obtain ⟨u, hu, hq⟩ := hr.2.2.1 i j x p h1 h2
              have hu' : B[i * e + j]? = some u := by simpa using hu
              rw [hu']
              exact hq.mono hokm
        have hnew := I.ext hB' (fun _ => none) [] (fun s => rfl) (fun s h => by cases h) (fun s l b h => by cases h) (fun s s' l l' b h => by cases h) (fun s l B h => by cases h) o.dst hd (.one (.row xs)) (.slice (some ⟨w.heap.size, 0, none⟩) k k) (by rw [Locs.or_none]; exact hrow)
        rw [Locs.or_none] at hnew
        exact hn _ _ _ hnew
      · cases hc
    · cases he
  | mkz el e by_ zs c =>
    simp only [ev] at he
    split at he
    · rename_i c' hcp
      split at he
      · rename_i hb
        obtain ⟨hb1, hb3⟩ := hb
        cases he
        simp only [chk] at hc
        split at hc
        · rename_i t kk c0 hop
          simp only [Bool.and_eq_true] at hc
          obtain ⟨⟨h1, h2⟩, h4⟩ := hc
          have ht := sliceT_spec h1
          obtain ⟨k', hk'⟩ := asI_spec (a := a) h4 hG hcp
          obtain ⟨z, z1, z2, z3⟩ := run_makeSlice0 (P := P) (w := w) (k := kk) (k' := k') ht h2 hb1 hb3
          have hrun : (execOp a.eval o).run P w = .ok (.value (.slice (some ⟨w.heap.size, 0, none⟩) 0 c'.toNat)) (w.alloc (.cells ((Array.range (c'.toNat * e)).map fun i => z.cells[i % z.cells.size]!) el)) := by
            unfold execOp
            rw [hop]
            have hcon : a.eval (.const (.int kk 0)) = .int kk 0 := rfl
            simp only [hcon, hk', Sem.run_bind, z3, Result.andThen_ok, Sem.run_pure]
          unfold Oper.wp
          rw [hrun, Oper.upon_value]
          have hlm : c'.toNat ≤ 140737488355328 := by
            unfold mksT at h2
            simp only [Bool.and_eq_true, decide_eq_true_eq] at h2
            have h1 : c' * 1 ≤ c' * by_ := Int.mul_le_mul_of_nonneg_left (by omega) hb1
            omega
          have hB : Below w.heap.size w (w.alloc (.cells ((Array.range (c'.toNat * e)).map fun i => z.cells[i % z.cells.size]!) el)) := (Below.refl _ w).alloc (Nat.le_refl _) _
          have hnew := I.newroom (64 * d) (fresh1 hf) el e [] _ c'.toNat hB (heap_alloc_new w _) (by show _ < (w.heap.push _).size; simp) (fun x hx => by cases hx) (by simp) (fun i j x p h1 _ => by simp at h1) (by simp) (by unfold maxLen; omega) o.dst hd
          exact hn _ _ _ hnew
        · cases hc
      · cases he
    · cases he
  | apn el e by_ x y =>
    simp only [ev] at he
    simp only [chk] at hc
    split at hc
    · rename_i c hop
      split at hc
      · rename_i x0 y0 t t' q1 q2 q3
        simp only [Bool.and_eq_true, beq_iff_eq] at hc
        obtain ⟨⟨⟨⟨rfl, h1⟩, h2⟩, h3⟩, h4⟩ := hc
        have hce : c = { callee := .builtin .append, args := #[x0, y0], argTypes := #[t, t] } := by
          obtain ⟨c1, c2, c3⟩ := c
          simp only at q1 q2 q3
          subst q1
          congr 1
          · exact Array.toList_inj.1 (by simpa using q2)
          · exact Array.toList_inj.1 (by simpa using q3)
        subst hce
        split at he
        · rename_i yv ex ey
          split at he
          · rename_i ys hpur
            split at he
            · rename_i hb
              cases he
              have hx0 := knil h3 hG ex
              have hyv : RV w (okI w0 ok0 w loc) loc yv (a.eval y0) := xok_rs h4 hG ey
              obtain ⟨u, w', loc', g1, g2⟩ := append_nil I (sliceT_spec h1) h2 hH hyv hpur hb.1 hb.2 (fresh1 hf) o.type o.dst hd
              have hrun : (execOp a.eval o).run P w = .ok (.value u) w' := by
                unfold execOp
                rw [hop]
                simp [resolve, invoke, builtin, hx0, g1]
              unfold Oper.wp
              rw [hrun, Oper.upon_value]
              exact hn _ _ _ g2
            · cases he
          · cases he
        · cases he
      · cases hc
    · cases hc
  | callo f as => cases he
  | alo zs ps =>
    simp only [ev] at he
    split at he
    case isFalse => cases he
    rename_i hok
    cases he
    simp only [chk] at hc
    split at hc
    · rename_i el hop
      simp only [Bool.and_eq_true, decide_eq_true_eq] at hc
      obtain ⟨hz, hps⟩ := hc
      obtain ⟨i, z, i1, i2, i3⟩ := zeroT_spec hz
      have hrun : (execOp a.eval o).run P w = .ok (.value (.pointer (some ⟨w.heap.size, 0, none⟩))) (w.alloc (.cells z.cells el)) := by
        unfold execOp
        rw [hop]
        simp [Instr.alloc, zeroValue, typeInfo, i1, i2, newVar, newRow]
      unfold Oper.wp
      rw [hrun, Oper.upon_value]
      obtain ⟨locN, hlocN⟩ : ∃ locN : Locs, ∀ s, locN s = if s = 64 * d then some (.box w.heap.size) else if 64 * d + 1 ≤ s ∧ s < 64 * d + 1 + ps.length then some .virt else none := ⟨_, fun _ => rfl⟩
      have hN0 : (loc.or locN) (64 * d) = some (.box w.heap.size) := by
        show (match locN (64 * d) with | some l => some l | none => loc (64 * d)) = _
        rw [hlocN, if_pos rfl]
      have hNv : ∀ q, 1 ≤ q → q < 1 + ps.length → (loc.or locN) (64 * d + q) = some .virt := by
        intro q h1 h2
        show (match locN (64 * d + q) with | some l => some l | none => loc (64 * d + q)) = _
        rw [hlocN, if_neg (by omega), if_pos (by omega)]
      have hcs : ∀ s l, locN s = some l → (s = 64 * d ∧ l = .box w.heap.size) ∨ ((64 * d + 1 ≤ s ∧ s < 64 * d + 1 + ps.length) ∧ l = .virt) := by
        intro s l h
        rw [hlocN] at h
        split at h
        · cases h; exact .inl ⟨‹_›, rfl⟩
        · split at h
          · cases h; exact .inr ⟨‹_›, rfl⟩
          · cases h
      refine hn _ _ _ (I.ext (below_new w _) locN _ (fun s => ?_) (fresh_spec hf) (fun s l b h1 h2 => ?_) (fun s s' l l' b h1 h2 h3 h4 => ?_) (fun s l B h1 h2 => ?_) o.dst hd _ _ (.inl ⟨_, hN0, rfl, rfl⟩))
      · rw [hlocN]
        simp only [look]
        by_cases h : s = 64 * d
        · rw [if_pos h, if_pos (Eq.symm h)]; rfl
        · rw [if_neg h, if_neg (fun e : 64 * d = s => h (Eq.symm e))]
          by_cases h1 : 64 * d + 1 ≤ s ∧ s < 64 * d + 1 + ps.length
          · rw [if_pos h1, aloB_is h1]; rfl
          · rw [if_neg h1]
            cases h2 : look (aloB d 1 ps) s with
            | none => rfl
            | some B => exact absurd (aloB_some h2).1 h1
      · rcases hcs s l h1 with ⟨_, rfl⟩ | ⟨_, rfl⟩
        · cases h2; exact ⟨Nat.le_refl _, by simp⟩
        · cases h2
      · rcases hcs s l h1 with ⟨e1, rfl⟩ | ⟨_, rfl⟩
        · rcases hcs s' l' h2 with ⟨e2, rfl⟩ | ⟨_, rfl⟩
          · rw [e1, e2]
          · cases h4
        · cases h3
      · rcases hcs s l h1 with ⟨e1, rfl⟩ | ⟨e1, rfl⟩
        · simp only [look] at h2
          rw [if_pos e1.symm] at h2
          cases h2
          exact ⟨z.cells, el, heap_alloc_new w _, aloV_rvs (zo := zs) hok (fun q h1 h2 => hNv q h1 h2) (voks_nil i3) (voks_rvs i3)⟩
        · simp only [look] at h2
          rw [if_neg (by omega)] at h2
          obtain ⟨_, el', e', rfl⟩ := aloB_some h2
          rfl
    · cases hc
end
end Go.Proofs.YtgjacdfiilcaaaaR
