/- What is read of the arguments of a law, as plain values: numbers, bools, structs, slices. -/
import Derived.Test.YtgjacdfiilcaaaaR19
import Derived.SizedLaws
import Derived.OpenShut
import Derived.ChangeSlices
import Derived.ChangeArms
set_option linter.unusedVariables false
set_option linter.unusedSimpArgs false
namespace Go.Proofs.YtgjacdfiilcaaaaR
open Go Go.RowKit Go.ChangeShapes Go.WideShapes

/-- All that was there. -/
def old (w : World) (b : Nat) : Prop := b < w.heap.size
/-- Cells that stand for plain values. -/
def Reps (w : World) (vs : List V) (cs : List Value) : Prop := vs.length = cs.length ∧ ∀ (j : Nat) (v : V) (u : Value), vs[j]? = some v → cs[j]? = some u → Rep w (old w) v u
theorem reps_one {w : World} {v : V} {u : Value} (h : Rep w (old w) v u) : Reps w [v] [u] := ⟨rfl, fun j v' u' h1 h2 => by
  match j, h1, h2 with
  | 0, h1, h2 => cases h1; cases h2; exact h⟩
theorem reps_append {w : World} {vs vs' : List V} {cs : List Value} (h : Reps w vs (cs.take vs.length)) (h' : Reps w vs' (cs.drop vs.length)) : Reps w (vs ++ vs') cs := by
  have h1 := h.1
  have h2 := h'.1
  simp only [List.length_take, List.length_drop] at h1 h2
  refine ⟨by rw [List.length_append]; omega, fun j v u hv hu => ?_⟩
  by_cases hj : j < vs.length
  · rw [List.getElem?_append_left hj] at hv
    exact h.2 j v u hv (by rw [List.getElem?_take, if_pos hj]; exact hu)
  · rw [List.getElem?_append_right (by omega)] at hv
    refine h'.2 (j - vs.length) v u hv ?_
    rw [List.getElem?_drop, show vs.length + (j - vs.length) = j by omega]
    exact hu

/-- Whatever is read at this type is so laid out, and within these bounds. -/
def OpenC (P : Program) (t : TypeId) {α : Type} (c : α → List V) (wf : α → Prop) : Prop :=
  ∀ (H : Type) (enc : TypeId × Value → H) (w : World) (base : Nat) (sp : Nat → Bool) (held : Bool) (fuel : Nat) (cs : List Value) (x : DataW H × List MemPlace),
    DataW.trod enc P w base sp held fuel t cs = some x → (∀ n ∈ x.1.weights P t, n ≤ reachBytes) → ∃ a : α, Reps w (c a) cs ∧ wf a
theorem openc_int {P : Program} {t : TypeId} {k : IntKind} (ht : P.underlying t = some (.int k)) : OpenC P t (fun n => [V.int k n]) (fun n => (Lit.int k n).wf = true) := by
  intro H enc w base sp held fuel cs x h hw
  obtain ⟨n, rfl, rfl, hn⟩ := DataW.trod_int ht h
  exact ⟨n, reps_one .int, hn⟩
theorem openc_bool {P : Program} {t : TypeId} (ht : P.underlying t = some .bool) : OpenC P t (fun b => [V.bool b]) (fun _ => True) := by
  intro H enc w base sp held fuel cs x h hw
  obtain ⟨b, rfl, rfl⟩ := DataW.trod_bool ht h
  exact ⟨b, reps_one .bool, trivial⟩
theorem addr_add2 (a : Addr) (i j : Nat) : (a.add i).add j = a.add (i + j) := by
  unfold Addr.add
  by_cases hm : i = 0 <;> by_cases hn : j = 0 <;> simp [hm, hn, Nat.add_assoc]
theorem lchoose {α : Type} {Q : Nat → α → Prop} : ∀ (n : Nat), (∀ i, i < n → ∃ a, Q i a) → ∃ l : List α, l.length = n ∧ ∀ i a, l[i]? = some a → Q i a
  | 0, _ => ⟨[], rfl, fun i a h => by simp at h⟩
  | n + 1, h => by
    obtain ⟨l, hl, hq⟩ := lchoose n (fun i hi => h i (by omega))
    obtain ⟨a, ha⟩ := h n (by omega)
    refine ⟨l ++ [a], by simp [hl], fun i b hb => ?_⟩
    by_cases hi : i < l.length
    · rw [List.getElem?_append_left hi] at hb
      exact hq i b hb
    · rw [List.getElem?_append_right (by omega)] at hb
      have : i - l.length = 0 := by
        have := (List.getElem?_eq_some_iff.1 hb).1
        simp at this
        omega
      rw [this] at hb
      simp at hb
      subst hb
      obtain rfl : i = n := by omega
      exact ha
theorem mem_wAll {H : Type} {P : Program} {e : TypeId} : ∀ {l : List (DataW H)} {d : DataW H}, d ∈ l → ∀ n ∈ d.weights P e, n ∈ DataW.weightsAll P e l
  | d0 :: r, d, hd, n, hn => by
    simp only [DataW.weightsAll, List.mem_append]
    rcases List.mem_cons.1 hd with rfl | hd
    · exact .inl hn
    · exact .inr (mem_wAll hd n hn)
theorem openc_slice {P : Program} {t e : TypeId} {α : Type} {c : α → List V} {wf : α → Prop} {sz B : Nat} (ht : P.underlying t = some (.slice e)) (hsz : ∀ a, (c a).length = sz) (hpos : 0 < sz) (hc : P.cellsOf e = sz) (hB : P.bytesOf e = B) (ho : OpenC P e c wf) :
    OpenC P t (fun xs : List α => [V.row (xs.map c)]) (fun xs : List α => xs.length * B ≤ 140737488351232 ∧ ∀ x ∈ xs, wf x) := by
  intro H enc w base sp held fuel cs x h hw
  rcases DataW.trod_slice ht h with ⟨rfl, rfl⟩ | ⟨a, len, cap, elems, rest, n, rfl, rfl, rfl, hb, hl, hm, hlen, hel, hsp, hns⟩
  · exact ⟨[], reps_one (.row0 none 0), by simp, by simp⟩
  · simp only [DataW.weights, ht, List.mem_cons, List.mem_append, List.length_map] at hw
    have each : ∀ i, i < len → ∃ p : α, (∃ cc, Reps w (c p) cc ∧ ∀ j u, cc[j]? = some u → w.cell? (a.add (i * sz + j)) = some u) ∧ wf p := by
      intro i hi
      have h1 := hel i hi
      rw [List.getElem?_eq_getElem (by omega), Option.bind_eq_some_iff] at h1
      obtain ⟨cs', h2, h3⟩ := h1
      obtain ⟨p, hK, hp⟩ := ho H enc w base sp held n cs' _ h3 (fun m hm => hw m (.inr (.inl (mem_wAll (List.mem_map.2 ⟨_, List.getElem_mem (by omega), rfl⟩) m hm))))
      obtain ⟨_, hcl, hcc⟩ := World.cells?_some h2
      refine ⟨p, ⟨cs', hK, fun j u hu => ?_⟩, hp⟩
      have hj : j < P.cellsOf e := by rw [← hcl]; exact (List.getElem?_eq_some_iff.1 hu).1
      rw [← Go.Proofs.YtgjacdfiilcaaaaR.addr_add2, ← hc, hcc j hj]
      exact hu
    obtain ⟨xs, hxl, hx⟩ := lchoose (Q := fun i p => (∃ cc, Reps w (c p) cc ∧ ∀ j u, cc[j]? = some u → w.cell? (a.add (i * sz + j)) = some u) ∧ wf p) len each
    refine ⟨xs, reps_one ?_, ?_, fun p hp => ?_⟩
    · by_cases h0 : len = 0
      · obtain rfl : xs = [] := List.eq_nil_of_length_eq_zero (by omega)
        subst h0
        exact .row0 _ _
      · have cell : ∀ (i j : Nat) (p : α) (v : V), xs[i]? = some p → (c p)[j]? = some v → ∃ u, w.cell? (a.add (i * sz + j)) = some u ∧ Rep w (old w) v u := by
          intro i j p v h1 h2
          obtain ⟨⟨cc, hr, hq⟩, _⟩ := hx i p h1
          have hj : j < cc.length := by rw [← hr.1]; exact (List.getElem?_eq_some_iff.1 h2).1
          exact ⟨cc[j], hq j _ (List.getElem?_eq_getElem hj), hr.2 j v _ h2 (List.getElem?_eq_getElem hj)⟩
        have hsplit : ∀ (i j : Nat) (x : List V) (p : V), (xs.map c)[i]? = some x → x[j]? = some p → ∃ q, xs[i]? = some q ∧ (c q)[j]? = some p := by
          intro i j x p h1 h2
          rw [List.getElem?_map] at h1
          cases hq : xs[i]? with
          | none => rw [hq] at h1; cases h1
          | some q => rw [hq] at h1; cases h1; exact ⟨q, rfl, h2⟩
        have hlt : a.block < w.heap.size := by
          have h1 : xs[0]? = some xs[0] := List.getElem?_eq_getElem (by omega)
          have h2 : (c xs[0])[0]? = some ((c xs[0])[0]'(by rw [hsz]; exact hpos)) := List.getElem?_eq_getElem _
          obtain ⟨u, hu, _⟩ := cell 0 0 _ _ h1 h2
          by_cases hh : a.block < w.heap.size
          · exact hh
          · unfold World.cell? at hu
            rw [add_block, Array.getElem?_eq_none (by omega)] at hu
            cases hu
        refine .row (e := sz) (fun i j => (w.cell? (a.add (i * sz + j))).getD undef) (by rw [List.length_map, hxl]) (by omega) hl hlt (fun x hxm => ?_) (fun i j x p h1 h2 => ?_) (fun i j x p h1 h2 => ?_)
        · obtain ⟨p, _, rfl⟩ := List.mem_map.1 hxm
          exact hsz p
        · obtain ⟨q, h3, h4⟩ := hsplit i j x p h1 h2
          obtain ⟨u, hu, hr⟩ := cell i j q p h3 h4
          rw [hu]; rfl
        · obtain ⟨q, h3, h4⟩ := hsplit i j x p h1 h2
          obtain ⟨u, hu, hr⟩ := cell i j q p h3 h4
          rw [hu]; exact hr
    · have := hw _ (.inl rfl)
      rw [hB] at this
      rw [hxl, ← hlen]
      exact Nat.le_trans (Nat.mul_le_mul_right _ (Nat.le_add_right _ _)) this
    · obtain ⟨i, hi⟩ := List.getElem?_of_mem hp
      exact (hx i p hi).2

/-- Fields, from an offset on. -/
def OpenF (P : Program) (fs : List Field) (off n : Nat) {α : Type} (c : α → List V) (wf : α → Prop) : Prop :=
  ∀ (H : Type) (enc : TypeId × Value → H) (w : World) (base : Nat) (sp : Nat → Bool) (held : Bool) (fuel : Nat) (cs : List Value) (xs : List (DataW H × List MemPlace)),
    (∀ (i : Nat) (f : Field), fs[i]? = some f → DataW.trod enc P w base sp held fuel f.type ((cs.drop f.offset).take (P.cellsOf f.type)) = xs[i]?) → xs.length = fs.length →
    (∀ n ∈ DataW.weightsEach P (fs.map (·.type)) (xs.map (·.1)), n ≤ reachBytes) → cs.length = off + n → ∃ a : α, Reps w (c a) (cs.drop off) ∧ wf a
theorem openf_one {P : Program} {f : Field} {off n : Nat} {α : Type} {c : α → List V} {wf : α → Prop} (h0 : f.offset = off) (hc : P.cellsOf f.type = n) (ho : OpenC P f.type c wf) : OpenF P [f] off n c wf := by
  intro H enc w base sp held fuel cs xs hx hl hw hn
  obtain ⟨x, rfl⟩ : ∃ x, xs = [x] := by
    match xs, hl with
    | [x], _ => exact ⟨x, rfl⟩
  have h := hx 0 f rfl
  rw [h0, hc, List.take_of_length_le (by rw [List.length_drop]; omega)] at h
  exact ho H enc w base sp held fuel _ x h (fun n hm => hw n (by simp [DataW.weightsEach]; exact hm))
theorem openf_cons {P : Program} {f : Field} {fs : List Field} {off k n : Nat} {α β : Type} {c : α → List V} {c' : β → List V} {wf : α → Prop} {wf' : β → Prop} (h0 : f.offset = off) (hc : P.cellsOf f.type = k) (hk : ∀ a, (c a).length = k) (ho : OpenC P f.type c wf) (hr : OpenF P fs (off + k) n c' wf') : OpenF P (f :: fs) off (k + n) (fun p : α × β => c p.1 ++ c' p.2) (fun p => wf p.1 ∧ wf' p.2) := by
  intro H enc w base sp held fuel cs xs hx hl hw hn
  obtain ⟨x, r, rfl⟩ : ∃ x r, xs = x :: r := by
    match xs, hl with
    | x :: r, _ => exact ⟨x, r, rfl⟩
  have h := hx 0 f rfl
  rw [h0, hc] at h
  obtain ⟨a, hK, ha⟩ := ho H enc w base sp held fuel _ x h (fun n hm => hw n (by simp only [List.map_cons, DataW.weightsEach, List.mem_append]; exact .inl hm))
  obtain ⟨b, hK', hb⟩ := hr H enc w base sp held fuel cs r (fun i g hg => hx (i + 1) g hg) (by simpa using hl) (fun n hm => hw n (by simp only [List.map_cons, DataW.weightsEach, List.mem_append]; exact .inr hm)) (by omega)
  refine ⟨(a, b), reps_append ?_ ?_, ha, hb⟩
  · rw [hk]; exact hK
  · rw [hk, List.drop_drop]; exact hK'
theorem openc_struct {P : Program} {t : TypeId} {fs : Array Field} {n : Nat} {α β : Type} {c : α → List V} {c' : β → List V} {wf : α → Prop} (g : α → β) (f : β → α) (hfg : ∀ a, f (g a) = a) (hcc : ∀ a, c' (g a) = c a) (ht : P.underlying t = some (.struct fs)) (hc : P.cellsOf t = n) (ho : OpenF P fs.toList 0 n c wf) : OpenC P t c' (fun b => wf (f b)) := by
  intro H enc w base sp held fuel cs x h hw
  obtain ⟨xs, n', rfl, rfl, hl, hxl, hx⟩ := DataW.trod_struct ht h
  simp only [DataW.weights, ht] at hw
  obtain ⟨a, hK, ha⟩ := ho H enc w base sp held n' cs xs (fun i f hf => hx i f (by simpa using hf)) (by simpa using hxl) hw (by rw [hl, hc]; omega)
  refine ⟨g a, ?_, ?_⟩
  · rw [hcc]; simpa using hK
  · show wf (f (g a))
    rw [hfg]; exact ha
/-- A parameter's value, out of its reading. -/
theorem openc_arg {P : Program} {t : TypeId} {α : Type} {c : α → List V} {wf : α → Prop} (ho : OpenC P t c wf) {H : Type} {enc : TypeId × Value → H} {w : World} {base : Nat} {sp : Nat → Bool} {held : Bool} {v : Value} {x : DataW H} {ps : List MemPlace} {ts : List TypeId} {ds : List (DataW H)} {j : Nat}
    (h : DataW.Trod enc P w base sp held t v x ps) (hsz : (DataW.weightsEach P ts ds).all (· ≤ reachBytes) = true) (hj : ts[j]? = some t) (hd : ds[j]? = some x) : ∃ a : α, Reps w (c a) v.cells.toList ∧ wf a := by
  obtain ⟨fuel, hf⟩ := h
  refine ho H enc w base sp held fuel _ _ hf (fun n hn => ?_)
  have := List.all_eq_true.1 hsz n (DataW.weights_mem_each hj hd n hn)
  simpa using this
theorem agg_of {P : Program} {w : World} {r : Reach} {base : Nat} {t : TypeId} {v : Value} {fs : Array Field} (ht : P.underlying t = some (.struct fs)) (h : Value.okWide P w r base t v) : ∃ cs, v = .agg cs := by
  unfold Value.okWide at h
  rw [ht] at h
  obtain ⟨cs, rfl, _⟩ := h
  exact ⟨cs, rfl⟩
/-- An array of numbers. -/
theorem openc_nums {P : Program} {t e : TypeId} {n : Nat} {k : IntKind} (ht : P.underlying t = some (.array n e)) (he : P.underlying e = some (.int k)) (hc : P.cellsOf e = 1) (hct : P.cellsOf t = n) : OpenC P t (fun xs : List Int => xs.map (V.int k)) (fun xs : List Int => xs.length = n ∧ ∀ x ∈ xs, (Lit.int k x).wf = true) := by
  intro H enc w base sp held fuel cs x h hw
  obtain ⟨ys, m, rfl, rfl, hl, hyl, hy⟩ := DataW.trod_array ht h
  have each : ∀ i, i < n → ∃ a : Int, cs[i]? = some (.int k a) ∧ (Lit.int k a).wf = true := by
    intro i hi
    have h1 := hy i hi
    rw [hc, Nat.mul_one, List.getElem?_eq_getElem (by omega)] at h1
    obtain ⟨a, h2, _, h3⟩ := DataW.trod_int he h1
    refine ⟨a, ?_, h3⟩
    have h4 : ((cs.drop i).take 1)[0]? = some (.int k a) := by rw [h2]; rfl
    rw [List.getElem?_take, if_pos (by omega), List.getElem?_drop] at h4
    simpa using h4
  obtain ⟨xs, hxl, hx⟩ := lchoose (Q := fun i a => cs[i]? = some (.int k a) ∧ (Lit.int k a).wf = true) n each
  refine ⟨xs, ⟨by rw [List.length_map]; omega, fun j v u h1 h2 => ?_⟩, hxl, fun a ha => ?_⟩
  · rw [List.getElem?_map, Option.map_eq_some_iff] at h1
    obtain ⟨a, h3, rfl⟩ := h1
    rw [(hx j a h3).1] at h2
    cases h2
    exact .int
  · obtain ⟨i, hi⟩ := List.getElem?_of_mem ha
    exact (hx i a hi).2
theorem agg_ofA {P : Program} {w : World} {r : Reach} {base : Nat} {t : TypeId} {v : Value} {n : Nat} {e : TypeId} (ht : P.underlying t = some (.array n e)) (h : Value.okWide P w r base t v) : ∃ cs, v = .agg cs := by
  unfold Value.okWide at h
  rw [ht] at h
  obtain ⟨cs, rfl, _⟩ := h
  exact ⟨cs, rfl⟩
/-! ### Arguments -/
theorem rs_one {w : World} {v : V} {u : Value} (h : Rep w (old w) v u) : RS0 w (old w) (fun _ => none) (.one v) u := h.rv
theorem rs_slice {w : World} {v : V} {A : Option Addr} {n c : Nat} (h : Reps w [v] (Value.slice A n c).cells.toList) : RS0 w (old w) (fun _ => none) (.one v) (.slice A n c) := (h.2 0 v _ rfl rfl).rv
theorem rs_agg {w : World} {vs : List V} {cs : Array Value} (h : Reps w vs (Value.agg cs).cells.toList) : RS0 w (old w) (fun _ => none) (.agg vs) (.agg cs) := ⟨cs, rfl, h.1, fun j v u h1 h2 => (h.2 j v u h1 h2).rv⟩
theorem rss_nil {w : World} {ok : Nat → Prop} {loc : Locs} : RSs w ok loc [] [] := ⟨rfl, fun j s u h => by simp at h⟩
theorem rss_cons {w : World} {ok : Nat → Prop} {loc : Locs} {a : S} {v : Value} {as : List S} {vs : List Value} (h : RS0 w ok loc a v) (hr : RSs w ok loc as vs) : RSs w ok loc (a :: as) (v :: vs) :=
  ⟨by simp [hr.1], fun j s u h1 h2 => by
    cases j with
    | zero => cases h1; cases h2; exact h
    | succ j => exact hr.2 j s u h1 h2⟩
theorem rss_noTup {w : World} {ok : Nat → Prop} {loc : Locs} : ∀ {as : List S} {vs : List Value}, RSs w ok loc as vs → splitA as = some (as, [])
  | [], _, _ => rfl
  | x :: r, [], h => by cases h.1
  | x :: r, v :: q, h => by
    have h1 : splitA r = some (r, []) := rss_noTup (vs := q) ⟨by simpa using h.1, fun j s u a1 a2 => h.2 (j + 1) s u (by simpa using a1) (by simpa using a2)⟩
    cases x with
    | tup l => exact (h.2 0 _ v rfl rfl).elim
    | undef => simp only [splitA, h1]
    | one v => simp only [splitA, h1]
    | agg vs => simp only [splitA, h1]
/-- A law that tells true. -/
theorem law_true {P : Program} {f : FuncId} {m : Model} (h : Sound P f m) {as : List S} (hm : m as = some (bV true, [])) {w : World} {vs : Array Value} (hg : GLW w) (hr : RSs w (old w) (fun _ => none) as vs.toList) :
    Calls P f vs w fun e w' => e = .returned (.bool true) ∧ Below w.heap.size w w' := by
  refine (h.closed hm (rss_noTup hr) (w := w) (ok0 := old w) hg (fun b hb => hb) hr).2.mono fun e w' ⟨v, loc, he, hb, _, hv⟩ => ?_
  cases hv
  exact ⟨he, hb⟩
end Go.Proofs.YtgjacdfiilcaaaaR
