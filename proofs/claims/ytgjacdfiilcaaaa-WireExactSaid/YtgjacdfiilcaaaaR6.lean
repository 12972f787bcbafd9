/- Rows in cells; what is one's own told as what is only read; blocks that change. -/
import Derived.Test.YtgjacdfiilcaaaaR5
set_option linter.unusedVariables false
set_option linter.unusedSimpArgs false
namespace Go.Proofs.YtgjacdfiilcaaaaR
open Go Go.RowKit

section
variable {w : World} {ok : Nat → Prop} {loc : Locs}
theorem rv_rep {v : V} {x : Value} (h : RV w ok loc v x) (hm : v.ment = none) : Rep w ok v x := by
  cases v <;> first | exact h | (simp [V.ment] at hm)
theorem ments_nil : ∀ {vs : List V}, (ments vs).isEmpty = true → ∀ v ∈ vs, v.ment = none
  | [], _, v, h => by cases h
  | a :: r, hm, v, h => by
    unfold ments at hm
    cases ha : a.ment with
    | some s => rw [ha] at hm; cases hm
    | none =>
      rw [ha] at hm
      rcases List.mem_cons.1 h with rfl | h
      · exact ha
      · exact ments_nil hm v h

theorem idx_lt {i j e m : Nat} (hi : i < m) (hj : j < e) : i * e + j < m * e := by
  have h1 : (i + 1) * e ≤ m * e := Nat.mul_le_mul_right e hi
  rw [Nat.add_mul, Nat.one_mul] at h1
  omega
theorem idx_apart {i i' j e : Nat} (hne : i ≠ i') (hj : j < e) : i' * e + j < i * e ∨ i * e + e ≤ i' * e + j := by
  rcases Nat.lt_or_gt_of_ne hne with h | h
  · have h1 : (i + 1) * e ≤ i' * e := Nat.mul_le_mul_right e h
    rw [Nat.add_mul, Nat.one_mul] at h1
    omega
  · have h1 : (i' + 1) * e ≤ i * e := Nat.mul_le_mul_right e h
    rw [Nat.add_mul, Nat.one_mul] at h1
    omega

theorem els_set {e i : Nat} {xs : List (List V)} {vs : List V} {cs ds : List Value} (h : Els w ok e xs cs) (hv : RVs w ok loc vs ds) (hd : ∀ c ∈ ds, c.oneCell' = true) (hm : (ments vs).isEmpty = true) (hl : vs.length = e) (hi : i < xs.length) : Els w ok e (xs.set i vs) (setAtL cs (i * e) ds) := by
  have hfit : i * e + ds.length ≤ cs.length := by
    rw [h.2.1, ← hv.1, hl]
    have : (i + 1) * e ≤ xs.length * e := Nat.mul_le_mul_right e hi
    rwa [Nat.add_mul, Nat.one_mul] at this
  refine ⟨fun x hx => ?_, by rw [setAtL_length, List.length_set]; exact h.2.1, fun i' j x p h1 h2 => ?_, fun c hc => ?_⟩
  · rcases List.mem_or_eq_of_mem_set hx with h1 | h1
    · exact h.1 x h1
    · rw [h1]; exact hl
  · rw [setAtL_get ds cs _ hfit, ← hv.1, hl]
    rw [List.getElem?_set] at h1
    by_cases hii : i = i'
    · subst hii
      rw [if_pos rfl, if_pos hi] at h1
      cases h1
      have hj : j < e := by rw [← hl]; exact (List.getElem?_eq_some_iff.1 h2).1
      rw [if_pos (by omega), show i * e + j - i * e = j by omega]
      have hj' : j < ds.length := by rw [← hv.1, hl]; exact hj
      exact ⟨ds[j], List.getElem?_eq_getElem hj', rv_rep (hv.2 j p _ h2 (List.getElem?_eq_getElem hj')) (ments_nil hm p (List.mem_of_getElem? h2))⟩
    · rw [if_neg hii] at h1
      have hj : j < e := by rw [← h.1 x (List.mem_of_getElem? h1)]; exact (List.getElem?_eq_some_iff.1 h2).1
      have := idx_apart hii hj
      rw [if_neg (by omega)]
      exact h.2.2.1 i' j x p h1 h2
  · rcases setAtL_mem ds cs _ hc with h1 | h1
    · exact h.2.2.2 c h1
    · exact hd c h1

theorem els_zero {e n : Nat} {zs : List V} {z : Array Value} (hz : voks z.toList zs = true) (hl : zs.length = e) : Els w ok e (List.replicate n zs) (((Array.range (n * e)).map fun i => z[i % z.size]!).toList) := by
  have hr : RVs w ok (fun _ => none) zs z.toList := voks_rvs hz
  have hsz : z.size = e := by have := hr.1; simp at this; omega
  have hv : ∀ v ∈ zs, v.ment = none := by
    clear hr hsz hl
    generalize z.toList = cs at hz
    induction zs generalizing cs with
    | nil => intro v h; cases h
    | cons a r ih =>
      cases cs with
      | nil => cases hz
      | cons c q =>
        simp only [voks, Bool.and_eq_true] at hz
        intro v h
        rcases List.mem_cons.1 h with rfl | h
        · have := hz.1
          unfold vok at this
          split at this <;> first | rfl | cases this
        · exact ih q hz.2 v h
  have hone : ∀ q, q < n * e → ∃ p, zs[q % e]? = some p ∧ Rep w ok p (z[q % e]!) := by
    intro q hq
    have he : 0 < e := by
      rcases Nat.eq_zero_or_pos e with h | h
      · subst h; simp at hq
      · exact h
    have hlt : q % e < zs.length := by rw [hl]; exact Nat.mod_lt _ he
    refine ⟨zs[q % e], List.getElem?_eq_getElem hlt, rv_rep (hr.2 (q % e) _ _ (List.getElem?_eq_getElem hlt) ?_) (hv _ (List.getElem_mem hlt))⟩
    have : q % e < z.size := Nat.lt_of_lt_of_eq hlt (hl.trans hsz.symm)
    simp [this]
  refine ⟨fun x hx => by rw [List.eq_of_mem_replicate hx]; exact hl, by simp, fun i j x p h1 h2 => ?_, fun c hc => ?_⟩
  · have hi : i < n := by have := (List.getElem?_eq_some_iff.1 h1).1; simpa using this
    rw [List.getElem?_replicate, if_pos hi] at h1
    cases h1
    have hj : j < e := by rw [← hl]; exact (List.getElem?_eq_some_iff.1 h2).1
    have hq := idx_lt hi hj
    obtain ⟨p', h3, h4⟩ := hone _ hq
    have hmod : (i * e + j) % e = j := by rw [Nat.add_comm, Nat.add_mul_mod_self_right, Nat.mod_eq_of_lt hj]
    rw [hmod] at h3 h4
    rw [h2] at h3
    cases h3
    refine ⟨z[j]!, ?_, h4⟩
    simp [hq, hsz, hmod]
  · simp only [Array.toList_map, List.mem_map] at hc
    obtain ⟨q, hq, rfl⟩ := hc
    have hq' : q < n * e := by simpa using hq
    obtain ⟨p, _, h4⟩ := hone q hq'
    rw [hsz]
    exact h4.one

def partsR : List (Nat × Operand) → List (Nat × X) → Bool
  | [], [] => true
  | (i, x) :: r, (i', y) :: q => i == i' && xok x y && partsR r q
  | _, _ => false
theorem fill_els {a : Act} {g : Nat → Option S} (hg : GOk w ok loc a g) {e : Nat} : ∀ (ps : List (Nat × Operand)) (qs : List (Nat × X)) (A : Array Value) (xs ys : List (List V)), partsR ps qs = true → Els w ok e xs A.toList → fillR g e xs qs = some ys →
    ∃ B : Array Value, Instr.fill (fun i => some (i * e, e)) A (ps.map fun p => (p.1, a.eval p.2)) = some B ∧ Els w ok e ys B.toList
  | [], [], A, xs, ys, _, h, hf => by cases hf; exact ⟨A, rfl, h⟩
  | (i, x) :: r, (i', y) :: q, A, xs, ys, hc, h, hf => by
    simp only [partsR, Bool.and_eq_true, beq_iff_eq] at hc
    obtain ⟨⟨rfl, hx⟩, hr⟩ := hc
    simp only [fillR] at hf
    split at hf
    · rename_i us hus
      split at hf
      · rename_i hl
        rw [Option.bind_eq_some_iff] at hus
        obtain ⟨s, hs1, hs2⟩ := hus
        obtain ⟨h1, h2⟩ := cells_rvs (xok_rs hx hg hs1) hs2
        have hsz : (a.eval x).cells.size = e := by have := h1.1; simp at this; omega
        have hfit : i * e + e ≤ A.size := by
          have h3 := h.2.1
          simp at h3
          rw [h3]
          have : (i + 1) * e ≤ xs.length * e := Nat.mul_le_mul_right e hl.2.2.1
          rwa [Nat.add_mul, Nat.one_mul] at this
        obtain ⟨B, hB, hr'⟩ := fill_els hg r q ((a.eval x).cells.zipIdx.foldl (fun (cs : Array Value) (p : Value × Nat) => cs.setIfInBounds (i * e + p.2) p.1) A) (xs.set i us) ys hr (by rw [fold_toList]; exact els_set h h1 h2 hl.1 hl.2.1 hl.2.2.1) hf
        refine ⟨B, ?_, hr'⟩
        simp only [List.map_cons, Instr.fill]
        rw [if_neg (by simp [hsz]; omega)]
        exact hB
      · cases hf
    · cases hf
  | [], _ :: _, _, _, _, hc, _, _ => by cases hc
  | _ :: _, [], _, _, _, hc, _, _ => by cases hc

/-- What is one's own, told as what is only read. -/
theorem pur1_rep {h : Nat → Option Blk} {ok2 : Nat → Prop} {v v' : V} {x : Value} (hh : HOk w ok loc h) (h2 : ∀ b, ok b → ok2 b) (h3 : ∀ s l b, v.ment = some s → loc s = some l → l.blk = some b → ok2 b) (hv : RV w ok loc v x) (hp : v.pur1 h = some v') : Rep w ok2 v' x := by
  cases v with
  | sl s off len =>
    simp only [V.pur1] at hp
    split at hp
    · rename_i el e xs hq
      split at hp
      · rename_i hl
        cases hp
        rcases hv with ⟨b, el2, e2, cap, g1, g2, rfl⟩ | ⟨g1, rfl, rfl, rfl⟩
        · obtain ⟨e1, e2', hm, hxc, hlen, cs, hb, hcs, hr⟩ := hh _ _ _ g1 hq
          subst e2'
          cases len with
          | zero => rw [List.take_zero]; exact .row0 _ _
          | succ len =>
            have hget : ∀ (i : Nat) x, ((xs.drop off).take (len + 1))[i]? = some x → xs[off + i]? = some x := by
              intro i x hx
              rw [List.getElem?_take] at hx
              split at hx
              · rwa [List.getElem?_drop] at hx
              · cases hx
            refine .row (fun i j => (cs[(off + i) * e + j]?).getD undef) (by rw [List.length_take, List.length_drop]; omega) (by omega) (by omega) (h3 _ _ _ rfl g1 rfl) (fun x hx => hlen x (List.mem_of_mem_drop (List.mem_of_mem_take hx))) (fun i j x p a1 a2 => ?_) (fun i j x p a1 a2 => ?_)
            · obtain ⟨u, hu, _⟩ := hr _ _ _ _ (hget i x a1) a2
              rw [Addr.add_lit, cell_of_row w b _ cs _ (0, 0) hb, ← Nat.add_assoc, ← Nat.add_mul]
              rw [hu]; rfl
            · obtain ⟨u, hu, hq'⟩ := hr _ _ _ _ (hget i x a1) a2
              rw [hu]
              exact hq'.mono fun b hb => ⟨h2 b hb, rfl⟩
        · rw [List.take_zero]; exact .row0 _ _
      · cases hp
    · cases hp
  | ref s i j => cases hp
  | _ => cases hp; exact Rep.mono hv fun b hb => ⟨h2 b hb, rfl⟩
theorem pur1s_rep {h : Nat → Option Blk} {ok2 : Nat → Prop} (hh : HOk w ok loc h) (h2 : ∀ b, ok b → ok2 b) (h3 : ∀ s l b, loc s = some l → l.blk = some b → ok2 b) : ∀ {vs vs' : List V} {cs : List Value}, RVs w ok loc vs cs → pur1s h vs = some vs' → vs'.length = vs.length ∧ ∀ (j : Nat) v' c, vs'[j]? = some v' → cs[j]? = some c → Rep w ok2 v' c
  | [], vs', cs, hv, hp => by cases hp; exact ⟨rfl, fun j v c h => by cases h⟩
  | a :: r, vs', [], hv, hp => by cases hv.1
  | a :: r, vs', c :: q, hv, hp => by
    simp only [pur1s] at hp
    split at hp
    · rename_i a' ha
      split at hp
      · rename_i r' hr
        cases hp
        obtain ⟨g1, g2⟩ := pur1s_rep hh h2 h3 (vs := r) (cs := q) ⟨by have := hv.1; simpa using this, fun j v c a1 a2 => hv.2 (j + 1) v c (by simpa using a1) (by simpa using a2)⟩ hr
        refine ⟨by simp [g1], fun j v' c' a1 a2 => ?_⟩
        cases j with
        | zero => simp at a1 a2; subst a1; subst a2; exact pur1_rep hh h2 (fun s l b _ => h3 s l b) (hv.2 0 a c rfl rfl) ha
        | succ j => exact g2 j v' c' (by simpa using a1) (by simpa using a2)
      · cases hp
    · cases hp
theorem pur_rep {h : Nat → Option Blk} {ok2 : Nat → Prop} (hh : HOk w ok loc h) (h2 : ∀ b, ok b → ok2 b) (h3 : ∀ s l b, loc s = some l → l.blk = some b → ok2 b) {v v' : V} {x : Value} (hv : RV w ok loc v x) (hp : v.pur h = some v') : Rep w ok2 v' x := by
  cases v with
  | ref s i j =>
    simp only [V.pur] at hp
    split at hp
    · rename_i vs hq
      split at hp
      · rename_i hi
        subst hi
        split at hp
        · rename_i vs' hvs
          cases hp
          rcases hv with ⟨b, g1, _, rfl⟩ | ⟨b, el, e, cap, g1, rfl⟩
          · obtain ⟨cs, el, hb, hr⟩ := hh _ _ _ g1 hq
            obtain ⟨k1, k2⟩ := pur1s_rep hh h2 h3 hr hvs
            have hcs : vs'.length = cs.size := by rw [k1, hr.1]; simp
            refine .ptr (fun m => (cs[j + m]?).getD undef) (h3 _ _ _ g1 rfl) (fun m p a1 => ?_) (fun m p a1 => ?_)
            · rw [List.getElem?_drop] at a1
              have hlt : j + m < cs.size := by rw [← hcs]; exact (List.getElem?_eq_some_iff.1 a1).1
              rw [Addr.add_lit, cell_of_row w b _ cs _ (0, 0) hb]
              simp [hlt]
            · rw [List.getElem?_drop] at a1
              have hlt : j + m < cs.size := by rw [← hcs]; exact (List.getElem?_eq_some_iff.1 a1).1
              refine k2 (j + m) p _ a1 ?_
              simp [hlt]
          · exact (hh _ _ _ g1 hq).elim
        · cases hp
      · cases hp
    · rename_i el e xs hq
      split at hp
      · rename_i y hy
        cases hp
        rcases hv with ⟨b, g1, _, rfl⟩ | ⟨b, el', e', cap, g1, rfl⟩
        · exact (hh _ _ _ g1 hq).elim
        · obtain ⟨e1, e2', hm, hxc, hlen, cs, hb, hcs, hr⟩ := hh _ _ _ g1 hq
          subst e2'
          refine .ptr (fun m => (cs[i * e + (j + m)]?).getD undef) (h3 _ _ _ g1 rfl) (fun m p a1 => ?_) (fun m p a1 => ?_)
          · rw [List.getElem?_drop] at a1
            obtain ⟨u, hu, _⟩ := hr _ _ _ _ hy a1
            rw [Addr.add_lit, cell_of_row w b _ cs _ (0, 0) hb, Nat.add_assoc, hu]
            rfl
          · rw [List.getElem?_drop] at a1
            obtain ⟨u, hu, hq'⟩ := hr _ _ _ _ hy a1
            rw [hu]
            exact hq'.mono fun b hb => ⟨h2 b hb, rfl⟩
      · cases hp
    · cases hp
  | sl s off len => exact pur1_rep hh h2 (fun s l b _ => h3 s l b) hv hp
  | _ => exact pur1_rep hh h2 (fun s l b _ => h3 s l b) hv hp
theorem purs_rep {h : Nat → Option Blk} {ok2 : Nat → Prop} (hh : HOk w ok loc h) (h2 : ∀ b, ok b → ok2 b) (h3 : ∀ s l b, loc s = some l → l.blk = some b → ok2 b) (loc2 : Locs) : ∀ {vs vs' : List V} {cs : List Value}, RVs w ok loc vs cs → purs h vs = some vs' → RVs w ok2 loc2 vs' cs
  | [], vs', cs, hv, hp => by cases hp; exact ⟨hv.1, fun j v c h => by cases h⟩
  | a :: r, vs', [], hv, hp => by cases hv.1
  | a :: r, vs', c :: q, hv, hp => by
    simp only [purs] at hp
    split at hp
    · rename_i a' ha
      split at hp
      · rename_i r' hr
        cases hp
        obtain ⟨g1, g2⟩ := purs_rep hh h2 h3 loc2 (vs := r) (cs := q) ⟨by have := hv.1; simpa using this, fun j v c a1 a2 => hv.2 (j + 1) v c (by simpa using a1) (by simpa using a2)⟩ hr
        refine ⟨by simp [g1], fun j v' c' a1 a2 => ?_⟩
        cases j with
        | zero => simp at a1 a2; subst a1; subst a2; exact (pur_rep hh h2 h3 (hv.2 0 a c rfl rfl) ha).rv
        | succ j => exact g2 j v' c' (by simpa using a1) (by simpa using a2)
      · cases hp
    · cases hp
theorem spur_rs {h : Nat → Option Blk} {ok2 : Nat → Prop} (hh : HOk w ok loc h) (h2 : ∀ b, ok b → ok2 b) (h3 : ∀ s l b, loc s = some l → l.blk = some b → ok2 b) (loc2 : Locs) {s s' : S} {x : Value} (hv : RS w ok loc s x) (hp : s.pur h = some s') : RS0 w ok2 loc2 s' x := by
  cases s with
  | one v =>
    simp only [S.pur] at hp
    split at hp
    · cases hp; exact (pur_rep hh h2 h3 hv ‹_›).rv
    · cases hp
  | agg vs =>
    simp only [S.pur] at hp
    split at hp
    · cases hp
      obtain ⟨cs, rfl, h4⟩ := hv
      exact ⟨cs, rfl, purs_rep hh h2 h3 loc2 h4 ‹_›⟩
    · cases hp
  | undef => cases hp
  | tup xs => cases hp
theorem RS0.rs {s : S} {x : Value} (h : RS0 w ok loc s x) : RS w ok loc s x := by
  cases s <;> first | exact h | exact h.elim
theorem spurT_rs {h : Nat → Option Blk} {ok2 : Nat → Prop} (hh : HOk w ok loc h) (h2 : ∀ b, ok b → ok2 b) (h3 : ∀ s l b, loc s = some l → l.blk = some b → ok2 b) (loc2 : Locs) {s s' : S} {x : Value} (hv : RS w ok loc s x) (hp : s.purT h = some s') : RS w ok2 loc2 s' x := by
  cases s with
  | tup xs =>
    simp only [S.purT] at hp
    split at hp
    · rename_i xs' hq
      cases hp
      obtain ⟨us, rfl, h4, h5⟩ := hv
      have key : ∀ (xs xs' : List S), S.purT.sp h xs = some xs' → xs'.length = xs.length ∧ ∀ (j : Nat) s', xs'[j]? = some s' → ∃ s, xs[j]? = some s ∧ s.pur h = some s' := by
        intro xs
        induction xs with
        | nil => intro xs' hq; cases hq; exact ⟨rfl, fun j s' h => by cases h⟩
        | cons a r ih =>
          intro xs' hq
          simp only [S.purT.sp] at hq
          split at hq
          · rename_i a' ha
            split at hq
            · rename_i r' hr
              cases hq
              obtain ⟨g1, g2⟩ := ih r' hr
              refine ⟨by simp [g1], fun j s' hj => ?_⟩
              cases j with
              | zero => simp at hj; subst hj; exact ⟨a, rfl, ha⟩
              | succ j => exact g2 j s' (by simpa using hj)
            · cases hq
          · cases hq
      obtain ⟨g1, g2⟩ := key xs xs' hq
      refine ⟨us, rfl, by rw [h4, g1], fun j s' u a1 a2 => ?_⟩
      obtain ⟨s, b1, b2⟩ := g2 j s' a1
      exact spur_rs hh h2 h3 loc2 (h5 j s u b1 a2).rs b2
    · cases hp
  | undef => cases hp
  | one v => exact (spur_rs hh h2 h3 loc2 (s := .one v) hv hp).rs
  | agg vs => exact (spur_rs hh h2 h3 loc2 (s := .agg vs) hv hp).rs

/-- Cells that share nothing. -/
theorem RV.self' {ok2 : Nat → Prop} {v : V} {x : Value} (h : RV w ok loc v x) (hs : v.self = true) : RV w ok2 loc v x := by
  cases v with
  | row xs =>
    cases xs with
    | nil =>
      cases (h : Rep w ok (.row []) x) with
      | row0 A c => exact Rep.row0 A c
      | row u hn hne => simp at hn; omega
    | cons a r => cases hs
  | int k n => cases (h : Rep w ok (.int k n) x); exact Rep.int
  | bool b => cases (h : Rep w ok (.bool b) x); exact Rep.bool
  | k v => cases (h : Rep w ok (.k v) x) with | k h => exact Rep.k h
  | dead => cases (h : Rep w ok .dead x) with | dead h => exact Rep.dead h
  | sl s off len => exact h
  | ref s i j => exact h
  | ptr cs => cases hs
  | fn f cs => cases hs
  | ifc t v => cases hs
theorem selfs_mem : ∀ {vs : List V}, selfs vs = true → ∀ v ∈ vs, v.self = true
  | [], _, v, h => by cases h
  | a :: r, hm, v, h => by
    simp only [selfs, Bool.and_eq_true] at hm
    rcases List.mem_cons.1 h with rfl | h
    · exact hm.1
    · exact selfs_mem hm.2 v h
theorem RS0.self' {ok2 : Nat → Prop} {s : S} {x : Value} (h : RS0 w ok loc s x) (hs : s.self = true) : RS0 w ok2 loc s x := by
  cases s with
  | undef => exact h
  | one v => exact RV.self' h hs
  | agg vs =>
    obtain ⟨cs, h1, h2⟩ := h
    exact ⟨cs, h1, h2.1, fun j v c a1 a2 => (h2.2 j v c a1 a2).self' (selfs_mem hs v (List.mem_of_getElem? a1))⟩
  | tup xs => exact h.elim
theorem sself_mem : ∀ {xs : List S}, S.self.sself xs = true → ∀ x ∈ xs, x.self = true
  | [], _, v, h => by cases h
  | a :: r, hm, v, h => by
    simp only [S.self.sself, Bool.and_eq_true] at hm
    rcases List.mem_cons.1 h with rfl | h
    · exact hm.1
    · exact sself_mem hm.2 v h
theorem RS.self' {ok2 : Nat → Prop} {s : S} {x : Value} (h : RS w ok loc s x) (hs : s.self = true) : RS w ok2 loc s x := by
  cases s with
  | tup xs =>
    obtain ⟨us, h1, h2, h3⟩ := h
    exact ⟨us, h1, h2, fun j s u a1 a2 => (h3 j s u a1 a2).self' (sself_mem hs s (List.mem_of_getElem? a1))⟩
  | undef => exact h
  | one v => exact RS0.self' (s := .one v) h hs
  | agg vs => exact RS0.self' (s := .agg vs) h hs
theorem Rep.self' {ok2 : Nat → Prop} {v : V} {x : Value} (h : Rep w ok v x) (hs : v.self = true) : Rep w ok2 v x := by
  have h1 := RV.self' (ok2 := ok2) (h.rv (loc := fun _ => none)) hs
  refine rv_rep h1 ?_
  cases h <;> rfl
theorem HB.selfb {ok2 : Nat → Prop} {l : Loc} {vs : List V} (h : HB w ok loc l (.box vs)) (hs : selfs vs = true) : HB w ok2 loc l (.box vs) := by
  cases l with
  | virt => exact h
  | rows b el' e' cap => exact h
  | box b =>
    obtain ⟨cs, el, h1, h2, h3⟩ := h
    exact ⟨cs, el, h1, h2, fun j v c a1 a2 => (h3 j v c a1 a2).self' (selfs_mem hs v (List.mem_of_getElem? a1))⟩
theorem HB.self' {ok2 : Nat → Prop} {l : Loc} {el e : Nat} {xs : List (List V)} (h : HB w ok loc l (.rows el e xs)) (hs : xs.all selfs = true) : HB w ok2 loc l (.rows el e xs) := by
  cases l with
  | virt => exact h
  | box b => exact h
  | rows b el' e' cap =>
    obtain ⟨h1, h2, h3, h4, h5, cs, h6, h7, h8⟩ := h
    refine ⟨h1, h2, h3, h4, h5, cs, h6, h7, fun i j x p a1 a2 => ?_⟩
    obtain ⟨u, hu, hr⟩ := h8 i j x p a1 a2
    exact ⟨u, hu, hr.self' (selfs_mem (List.all_eq_true.1 hs x (List.mem_of_getElem? a1)) p (List.mem_of_getElem? a2))⟩
end
end Go.Proofs.YtgjacdfiilcaaaaR
