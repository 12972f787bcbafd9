/- Open calls: blocks handed over. -/
import Derived.Test.YtgjacdfiilcaaaaR9
set_option linter.unusedVariables false
set_option linter.unusedSimpArgs false
namespace Go.Proofs.YtgjacdfiilcaaaaR
open Go Go.RowKit

section
variable {w w' : World} {ok ok' : Nat → Prop} {loc loc' : Locs}
theorem RV.mapS {f : Nat → Nat} {v : V} {x : Value} (h : RV w ok loc v x) (hok : ∀ b, ok b → ok' b) (hl : ∀ s l, v.ment = some s → loc s = some l → loc' (f s) = some l) : RV w ok' loc' (v.mapS f) x := by
  cases v with
  | ref s i j =>
    rcases h with ⟨b, h1, h2, h3⟩ | ⟨b, el, e, cap, h1, h3⟩
    · exact .inl ⟨b, hl _ _ rfl h1, h2, h3⟩
    · exact .inr ⟨b, el, e, cap, hl _ _ rfl h1, h3⟩
  | sl s off len =>
    rcases h with ⟨b, el, e, cap, h1, h2, h3⟩ | ⟨h1, h2, h3, h4⟩
    · exact .inl ⟨b, el, e, cap, hl _ _ rfl h1, h2, h3⟩
    · exact .inr ⟨hl _ _ rfl h1, h2, h3, h4⟩
  | _ => exact Rep.mono h fun b hb => ⟨hok b hb, rfl⟩
theorem RVs.mapS {f : Nat → Nat} {vs : List V} {cs : List Value} (h : RVs w ok loc vs cs) (hok : ∀ b, ok b → ok' b) (hl : ∀ s l, s ∈ ments vs → loc s = some l → loc' (f s) = some l) : RVs w ok' loc' (vs.map (V.mapS f)) cs := by
  refine ⟨by rw [List.length_map]; exact h.1, fun j v c a1 a2 => ?_⟩
  rw [List.getElem?_map, Option.map_eq_some_iff] at a1
  obtain ⟨v', b1, rfl⟩ := a1
  exact (h.2 j v' c b1 a2).mapS hok fun s l hm hs => hl s l (mem_ments (List.mem_of_getElem? b1) hm) hs
theorem RS0.mapS {f : Nat → Nat} {s : S} {x : Value} (h : RS0 w ok loc s x) (hok : ∀ b, ok b → ok' b) (hl : ∀ t l, t ∈ s.ment → loc t = some l → loc' (f t) = some l) : RS0 w ok' loc' (s.mapS f) x := by
  cases s with
  | undef => exact h
  | one v => exact RV.mapS h hok fun s l hm hs => hl s l (mem_ments (List.mem_singleton.2 rfl) hm) hs
  | agg vs =>
    obtain ⟨cs, h1, h2⟩ := h
    exact ⟨cs, h1, h2.mapS hok hl⟩
  | tup xs => exact h.elim
theorem smapS_get (f : Nat → Nat) : ∀ (xs : List S) (j : Nat) (x : S), (S.mapS.smapS f xs)[j]? = some x → ∃ y, xs[j]? = some y ∧ x = y.mapS f
  | [], j, x, h => by cases h
  | a :: r, j, x, h => by
    cases j with
    | zero => simp [S.mapS.smapS] at h; exact ⟨a, rfl, h.symm⟩
    | succ j => exact smapS_get f r j x (by simpa [S.mapS.smapS] using h)
theorem smapS_length (f : Nat → Nat) : ∀ (xs : List S), (S.mapS.smapS f xs).length = xs.length
  | [] => rfl
  | a :: r => by simp [S.mapS.smapS, smapS_length f r]
theorem RS.mapS {f : Nat → Nat} {s : S} {x : Value} (h : RS w ok loc s x) (hok : ∀ b, ok b → ok' b) (hl : ∀ t l, t ∈ s.ment → loc t = some l → loc' (f t) = some l) : RS w ok' loc' (s.mapS f) x := by
  cases s with
  | tup xs =>
    obtain ⟨us, h1, h2, h3⟩ := h
    refine ⟨us, h1, by rw [h2, smapS_length], fun j q u a1 a2 => ?_⟩
    obtain ⟨y, b1, rfl⟩ := smapS_get f xs j q a1
    exact (h3 j y u b1 a2).mapS hok fun t l hm hs => hl t l (mem_smt (List.mem_of_getElem? b1) hm) hs
  | undef => exact h
  | one v => exact RS0.mapS (s := .one v) h hok hl
  | agg vs => exact RS0.mapS (s := .agg vs) h hok hl
theorem HB.mapS {f : Nat → Nat} {l : Loc} {B : Blk} (h : HB w ok loc l B) (hok : ∀ b, ok b → ok' b) (hl : ∀ t m, t ∈ B.ment → loc t = some m → loc' (f t) = some m) : HB w ok' loc' l (B.mapS f) := by
  cases B with
  | rows el e xs => exact h.mono (fun b hb => ⟨hok b hb, rfl⟩) (fun _ _ => rfl) (fun t m ht => by cases ht)
  | box vs =>
    cases l with
    | virt => exact h
    | rows b el' e' cap => exact h
    | box b =>
      obtain ⟨cs, el, h1, h2⟩ := h
      exact ⟨cs, el, h1, h2.mapS hok hl⟩
theorem RV.kills {ns : List Nat} {v : V} {x : Value} (h : RV w ok loc v x) (hok : ∀ b, ok b → ok' b ∧ w'.heap[b]? = w.heap[b]?) (hl : ∀ t l, t ∉ ns → loc t = some l → loc' t = some l) : RV w' ok' loc' (killsV ns v) x := by
  cases v with
  | ref s i j =>
    simp only [killsV]
    split
    · exact Rep.dead h.one
    · rename_i hs
      exact RV.mono h hok fun t l hm ht => hl t l (fun hc => by cases hm; exact hs (List.contains_iff_mem.2 hc)) ht
  | sl s off len =>
    simp only [killsV]
    split
    · exact Rep.dead h.one
    · rename_i hs
      exact RV.mono h hok fun t l hm ht => hl t l (fun hc => by cases hm; exact hs (List.contains_iff_mem.2 hc)) ht
  | _ => exact RV.mono h hok fun t l hm ht => by cases hm
theorem RVs.kills {ns : List Nat} {vs : List V} {cs : List Value} (h : RVs w ok loc vs cs) (hok : ∀ b, ok b → ok' b ∧ w'.heap[b]? = w.heap[b]?) (hl : ∀ t l, t ∉ ns → loc t = some l → loc' t = some l) : RVs w' ok' loc' (vs.map (killsV ns)) cs := by
  refine ⟨by rw [List.length_map]; exact h.1, fun j v c a1 a2 => ?_⟩
  rw [List.getElem?_map, Option.map_eq_some_iff] at a1
  obtain ⟨v', b1, rfl⟩ := a1
  exact (h.2 j v' c b1 a2).kills hok hl
theorem RS0.kills {ns : List Nat} {s : S} {x : Value} (h : RS0 w ok loc s x) (hok : ∀ b, ok b → ok' b ∧ w'.heap[b]? = w.heap[b]?) (hl : ∀ t l, t ∉ ns → loc t = some l → loc' t = some l) : RS0 w' ok' loc' (killsS ns s) x := by
  cases s with
  | undef => exact h
  | one v => exact RV.kills h hok hl
  | agg vs =>
    obtain ⟨cs, h1, h2⟩ := h
    exact ⟨cs, h1, h2.kills hok hl⟩
  | tup xs => exact h.elim
theorem ks_get (ns : List Nat) : ∀ (xs : List S) (j : Nat) (x : S), (killsS.ks ns xs)[j]? = some x → ∃ y, xs[j]? = some y ∧ x = killsS ns y
  | [], j, x, h => by cases h
  | a :: r, j, x, h => by
    cases j with
    | zero => simp [killsS.ks] at h; exact ⟨a, rfl, h.symm⟩
    | succ j => exact ks_get ns r j x (by simpa [killsS.ks] using h)
theorem ks_length (ns : List Nat) : ∀ (xs : List S), (killsS.ks ns xs).length = xs.length
  | [] => rfl
  | a :: r => by simp [killsS.ks, ks_length ns r]
theorem RS.kills {ns : List Nat} {s : S} {x : Value} (h : RS w ok loc s x) (hok : ∀ b, ok b → ok' b ∧ w'.heap[b]? = w.heap[b]?) (hl : ∀ t l, t ∉ ns → loc t = some l → loc' t = some l) : RS w' ok' loc' (killsS ns s) x := by
  cases s with
  | tup xs =>
    obtain ⟨us, h1, h2, h3⟩ := h
    refine ⟨us, h1, by rw [h2, ks_length], fun j q u a1 a2 => ?_⟩
    obtain ⟨y, b1, rfl⟩ := ks_get ns xs j q a1
    exact (h3 j y u b1 a2).kills hok hl
  | undef => exact h
  | one v => exact RS0.kills (s := .one v) h hok hl
  | agg vs => exact RS0.kills (s := .agg vs) h hok hl
theorem HB.kills {ns : List Nat} {l : Loc} {B : Blk} (h : HB w ok loc l B) (hok : ∀ b, ok b → ok' b ∧ w'.heap[b]? = w.heap[b]?) (hb : ∀ b, l.blk = some b → w'.heap[b]? = w.heap[b]?) (hl : ∀ t l, t ∉ ns → loc t = some l → loc' t = some l) : HB w' ok' loc' l (killsB ns B) := by
  cases B with
  | rows el e xs => exact h.mono hok hb (fun t m ht => by cases ht)
  | box vs =>
    cases l with
    | virt => exact h
    | rows b el' e' cap => exact h
    | box b =>
      obtain ⟨cs, el, h1, h2⟩ := h
      exact ⟨cs, el, by rw [hb b rfl]; exact h1, h2.kills hok hl⟩
end

theorem mem_dedup {s : Nat} : ∀ {l seen : List Nat}, s ∈ dedup seen l ↔ s ∈ l ∧ s ∉ seen
  | [], seen => by simp [dedup]
  | a :: r, seen => by
    unfold dedup
    split
    · rename_i h
      rw [mem_dedup, List.mem_cons]
      rw [List.contains_iff_mem] at h
      constructor
      · exact fun h1 => ⟨.inr h1.1, h1.2⟩
      · rintro ⟨rfl | h1, h2⟩
        · exact absurd h h2
        · exact ⟨h1, h2⟩
    · rename_i h
      rw [List.contains_iff_mem] at h
      rw [List.mem_cons, mem_dedup, List.mem_cons, List.mem_cons, not_or]
      constructor
      · rintro (rfl | ⟨h1, h2, h3⟩)
        · exact ⟨.inl rfl, h⟩
        · exact ⟨.inr h1, h3⟩
      · rintro ⟨h1, h2⟩
        by_cases hs : s = a
        · exact .inl hs
        · exact .inr ⟨h1.resolve_left hs, hs, h2⟩
theorem nodup_dedup : ∀ {l seen : List Nat}, (dedup seen l).Nodup
  | [], seen => by simp [dedup]
  | a :: r, seen => by
    unfold dedup
    split
    · exact nodup_dedup
    · rw [List.nodup_cons]
      exact ⟨fun h => (mem_dedup.1 h).2 (List.mem_cons_self ..), nodup_dedup⟩
theorem idxOf_get : ∀ {ns : List Nat} {s : Nat}, s ∈ ns → ns[idxOf ns s]? = some s
  | [], s, h => by cases h
  | a :: r, s, h => by
    unfold idxOf
    split
    · rename_i e; subst e; rfl
    · rename_i e
      rcases List.mem_cons.1 h with rfl | h
      · exact absurd rfl e
      · simpa using idxOf_get h
theorem idxOf_lt {ns : List Nat} {s : Nat} (h : s ∈ ns) : idxOf ns s < ns.length := (List.getElem?_eq_some_iff.1 (idxOf_get h)).1
theorem idx_inj : ∀ {ns : List Nat}, ns.Nodup → ∀ {i j s : Nat}, ns[i]? = some s → ns[j]? = some s → i = j
  | [], _, i, j, s, h1, h2 => by simp at h1
  | a :: r, hn, i, j, s, h1, h2 => by
    rw [List.nodup_cons] at hn
    cases i with
    | zero =>
      cases j with
      | zero => rfl
      | succ j =>
        simp at h1 h2
        subst h1
        exact absurd (List.mem_of_getElem? h2) hn.1
    | succ i =>
      cases j with
      | zero =>
        simp at h1 h2
        subst h2
        exact absurd (List.mem_of_getElem? h1) hn.1
      | succ j =>
        have h3 : i = j := idx_inj (s := s) hn.2 (by simpa using h1) (by simpa using h2)
        rw [h3]
theorem decB_encB (B : Blk) : decB (encB B) = some B := by cases B <;> rfl
theorem encs_ok {h : Nat → Option Blk} {f : Nat → Nat} : ∀ {ns : List Nat} {bs : List S}, encs h f ns = some bs → ∀ k, ∃ h0, decH k bs = some h0 ∧ h0.length = ns.length ∧ ∀ i, look h0 i = if k ≤ i then (match ns[i - k]? with
    | some s => (h s).map (Blk.mapS f)
    | none => none) else none
  | [], bs, he, k => by cases he; exact ⟨[], rfl, rfl, fun i => by simp [look]⟩
  | s :: r, bs, he, k => by
    simp only [encs] at he
    split at he
    · rename_i B hB
      split at he
      · rename_i q hq
        cases he
        obtain ⟨h0, g1, g3, g2⟩ := encs_ok hq (k + 1)
        refine ⟨(k, B.mapS f) :: h0, by simp only [decH, decB_encB, g1], by simp [g3], fun i => ?_⟩
        simp only [look]
        by_cases hk : k = i
        · subst hk
          rw [if_pos rfl, if_pos (Nat.le_refl k), Nat.sub_self]
          simp [hB]
        · rw [if_neg hk, g2]
          by_cases h1 : k + 1 ≤ i
          · rw [if_pos h1, if_pos (by omega), show i - k = (i - (k + 1)) + 1 by omega, List.getElem?_cons_succ]
          · rw [if_neg h1, if_neg (by omega)]
      · cases he
    · cases he
theorem splitA_open : ∀ {as : List S} {bs : List S} {h0 : Hp}, noTup as = true → decH 0 bs = some h0 → splitA (as ++ [.tup bs]) = some (as, h0)
  | [], bs, h0, _, h => by simp only [List.nil_append, splitA, h]
  | x :: r, bs, h0, hn, h => by
    cases x with
    | tup l => cases hn
    | undef => simp only [List.cons_append, splitA, splitA_open (as := r) hn h]
    | one v => simp only [List.cons_append, splitA, splitA_open (as := r) hn h]
    | agg vs => simp only [List.cons_append, splitA, splitA_open (as := r) hn h]
theorem noTup_map {f : Nat → Nat} : ∀ {as : List S}, noTup as = true → noTup (S.mapS.smapS f as) = true
  | [], _ => rfl
  | x :: r, h => by
    cases x with
    | tup l => cases h
    | undef => exact noTup_map (as := r) h
    | one v => exact noTup_map (as := r) h
    | agg vs => exact noTup_map (as := r) h
theorem noTup_mem : ∀ {as : List S}, noTup as = true → ∀ l, S.tup l ∉ as
  | [], _, l => by simp
  | x :: r, h, l => by
    cases x with
    | tup l => cases h
    | undef => simp [noTup_mem (as := r) h l]
    | one v => simp [noTup_mem (as := r) h l]
    | agg vs => simp [noTup_mem (as := r) h l]
/-- The callee's number of one of the caller's sites. -/
def fwdN (ns : List Nat) (d s : Nat) : Option Nat := if s ∈ ns then some (idxOf ns s) else if 64 * d ≤ s ∧ s < 64 * d + 64 then some (s - 64 * d + 64) else none
theorem backN_lt {ns : List Nat} {d k s : Nat} (h : ns[k]? = some s) : backN ns d k = s := by unfold backN; rw [h]
theorem backN_ge {ns : List Nat} {d k : Nat} (h : ns.length ≤ k) : backN ns d k = 64 * d + (k - 64) := by unfold backN; rw [List.getElem?_eq_none h]
theorem keysOk_mem {ns : List Nat} {d m : Nat} : ∀ {hp : Hp}, keysOk ns d m hp = true → ∀ k B, (k, B) ∈ hp → k < m ∨ (64 ≤ k ∧ k < 128 ∧ (64 * d + (k - 64)) ∉ ns)
  | [], _, k, B, h => by cases h
  | (k', B') :: r, hk, k, B, h => by
    simp only [keysOk, Bool.and_eq_true, Bool.or_eq_true, decide_eq_true_eq, Bool.not_eq_true'] at hk
    rcases List.mem_cons.1 h with h | h
    · cases h
      rcases hk.1 with h1 | ⟨⟨h1, h2⟩, h3⟩
      · exact .inl h1
      · exact .inr ⟨h1, h2, fun hc => by rw [List.contains_iff_mem.2 hc] at h3; cases h3⟩
    · exact keysOk_mem hk.2 k B h
theorem fwd_back {ns : List Nat} (hn : ns.Nodup) (hl : ns.length ≤ 64) {d k : Nat} (h : k < ns.length ∨ (64 ≤ k ∧ k < 128 ∧ (64 * d + (k - 64)) ∉ ns)) : fwdN ns d (backN ns d k) = some k := by
  rcases h with h | ⟨h1, h2, h3⟩
  · have hs := List.getElem?_eq_getElem h
    have hm := List.mem_of_getElem? hs
    rw [backN_lt hs]
    unfold fwdN
    rw [if_pos hm, idx_inj hn (idxOf_get hm) hs]
  · rw [backN_ge (by omega)]
    unfold fwdN
    rw [if_neg h3, if_pos (by omega)]
    congr 1
    omega
theorem back_fwd {ns : List Nat} (hl : ns.length ≤ 64) {d k s : Nat} (h : fwdN ns d s = some k) : backN ns d k = s ∧ (s ∈ ns → k < ns.length) ∧ (s ∉ ns → 64 ≤ k) := by
  unfold fwdN at h
  split at h
  · rename_i hs
    cases h
    exact ⟨backN_lt (idxOf_get hs), fun _ => idxOf_lt hs, fun h => absurd hs h⟩
  · rename_i hs
    split at h
    · cases h
      exact ⟨by rw [backN_ge (by omega)]; omega, fun h => absurd h hs, fun _ => by omega⟩
    · cases h
theorem look_hpBack {ns : List Nat} (hn : ns.Nodup) (hl : ns.length ≤ 64) {d s : Nat} : ∀ {hp : Hp}, keysOk ns d ns.length hp = true → look (hpBack ns d hp) s = match fwdN ns d s with
    | some k => (look hp k).map (Blk.mapS (backN ns d))
    | none => none
  | [], _ => by unfold hpBack; cases fwdN ns d s <;> rfl
  | (k, B) :: r, hk => by
    have h0 := keysOk_mem hk k B (List.mem_cons_self ..)
    simp only [keysOk, Bool.and_eq_true] at hk
    have ih := look_hpBack hn hl (s := s) hk.2
    have hfb := fwd_back hn hl h0
    simp only [hpBack, look]
    by_cases hs : backN ns d k = s
    · rw [if_pos hs]
      rw [hs] at hfb
      rw [hfb]
      simp
    · rw [if_neg hs, ih]
      cases hf : fwdN ns d s with
      | none => rfl
      | some k' =>
        have hne : ¬ k = k' := by
          intro e
          subst e
          exact hs (back_fwd hl hf).1
        simp only [if_neg hne]
theorem look_without {ns : List Nat} {s : Nat} : ∀ {hp : Hp}, look (without ns hp) s = if s ∈ ns then none else look hp s
  | [] => by simp [without, look]
  | (k, B) :: r => by
    unfold without
    split
    · rename_i h
      rw [List.contains_iff_mem] at h
      rw [look_without]
      simp only [look]
      by_cases hs : s ∈ ns
      · rw [if_pos hs, if_pos hs]
      · rw [if_neg hs, if_neg hs, if_neg (fun e => hs (by subst e; exact h))]
    · rename_i h
      rw [List.contains_iff_mem] at h
      simp only [look]
      by_cases hk : k = s
      · subst hk; rw [if_pos rfl, if_neg h, if_pos rfl]
      · rw [if_neg hk, look_without, if_neg hk]
theorem mem_rowsOf {h : Nat → Option Blk} {s : Nat} : ∀ {ns : List Nat}, s ∈ rowsOf h ns ↔ s ∈ ns ∧ isBox (h s) = false
  | [] => by simp [rowsOf]
  | a :: r => by
    unfold rowsOf
    split
    · rename_i hb
      rw [mem_rowsOf, List.mem_cons]
      constructor
      · exact fun h1 => ⟨.inr h1.1, h1.2⟩
      · rintro ⟨rfl | h1, h2⟩
        · rw [hb] at h2; cases h2
        · exact ⟨h1, h2⟩
    · rename_i hb
      rw [List.mem_cons, mem_rowsOf, List.mem_cons]
      constructor
      · rintro (rfl | h1)
        · exact ⟨.inl rfl, by simpa using hb⟩
        · exact ⟨.inr h1.1, h1.2⟩
      · rintro ⟨rfl | h1, h2⟩
        · exact .inl rfl
        · exact .inr ⟨h1, h2⟩
theorem mem_blkMents {h : Nat → Option Blk} {t : Nat} : ∀ {ns : List Nat} {s : Nat} {B : Blk}, s ∈ ns → h s = some B → t ∈ B.mentB → t ∈ blkMents h ns
  | [], s, B, hs, _, _ => by cases hs
  | a :: r, s, B, hs, hB, ht => by
    unfold blkMents
    rcases List.mem_cons.1 hs with rfl | hs
    · rw [hB]; exact List.mem_append_left _ ht
    · split
      · exact List.mem_append_right _ (mem_blkMents hs hB ht)
      · exact mem_blkMents hs hB ht
theorem mem_mentS {as : List S} {s : S} {t : Nat} (h : s ∈ as) (hm : t ∈ s.ment) : t ∈ mentS as := by
  induction as with
  | nil => cases h
  | cons a r ih =>
    unfold mentS
    rcases List.mem_cons.1 h with rfl | h
    · exact List.mem_append_left _ hm
    · exact List.mem_append_right _ (ih h)
theorem boxesOk_get {h hp : Nat → Option Blk} : ∀ {ns : List Nat} {k : Nat}, boxesOk h hp k ns = true → ∀ i s, ns[i]? = some s → isBox (h s) = true → isBox (hp (k + i)) = true
  | [], k, _, i, s, hs, _ => by simp at hs
  | a :: r, k, hb, i, s, hs, hB => by
    simp only [boxesOk, Bool.and_eq_true, Bool.or_eq_true, Bool.not_eq_true'] at hb
    cases i with
    | zero =>
      simp at hs
      subst hs
      rcases hb.1 with h1 | h1
      · rw [hB] at h1; cases h1
      · exact h1
    | succ i =>
      have := boxesOk_get hb.2 i s (by simpa using hs) hB
      rwa [show k + 1 + i = k + (i + 1) by omega] at this
theorem mentB_ment (B : Blk) : B.mentB = B.ment := by cases B <;> rfl

section
variable {P : Program} {n : Nat} {Γ : Ent} {w0 : World} {ok0 : Nat → Prop} {loc : Locs} {st : St} {a : Act} {w : World} {o : Oper}
/-- **An open call.** -/
theorem o_callo {E : Nat → Model} (hE : ∀ f, Sound P f (E f)) (I : Inv n Γ w0 ok0 loc st a w) {f : Nat} {vs : Array Value} (hrun : fnOk P f = true → (execOp a.eval o).run P w = .ok (.enter f vs) w) {as : List S} (hl : as.length = vs.toList.length)
    (hr : ∀ (j : Nat) s u, as[j]? = some s → vs.toList[j]? = some u → RS w (okI w0 ok0 w loc) loc s u) {d : Nat} {v : S} {st1 : St} (he : callS E d f st as = some (v, st1)) (hd : ∀ t, o.dst = some t → t < n)
    {next : Act → World → Prop} {Q : Exit → Act → World → Prop} (hn : ∀ x w' loc', Inv n Γ w0 ok0 loc' (st1.put o.dst v) (a.put o.dst x) w' → next (a.put o.dst x) w') : o.wp P a w next Q := by
  unfold callS callT at he
  obtain ⟨ns, hns⟩ : ∃ ns, ns = names (look st.hp) as := ⟨_, rfl⟩
  rw [← hns] at he
  have hnd : ns.Nodup := by rw [hns]; exact nodup_dedup
  have hmem : ∀ s, s ∈ mentS as → s ∈ ns := fun s h => by rw [hns]; exact mem_dedup.2 ⟨List.mem_append_left _ h, by simp⟩
  split at he
  · rename_i bs hbs
    split at hbs
    case isFalse => cases hbs
    rename_i hnt
    obtain ⟨h0, e1, e0, e2⟩ := encs_ok hbs 0
    have e3 : ∀ i, look h0 i = match ns[i]? with | some s => (look st.hp s).map (Blk.mapS (idxOf ns)) | none => none := fun i => by rw [e2, if_pos (Nat.zero_le _), Nat.sub_zero]
    unfold callU at he
    split at he
    · rename_i r hp hEf
      split at he
      · rename_i hc
        simp only [Bool.and_eq_true, decide_eq_true_eq, List.all_eq_true] at hc
        obtain ⟨⟨⟨hlen, hkeys⟩, hclo⟩, hbx⟩ := hc
        split at he
        · rename_i hf
          cases he
          have hcl : ∀ s B, s ∈ ns → look st.hp s = some B → ∀ t, t ∈ B.ment → t ∈ ns := fun s B hs hB t ht => List.contains_iff_mem.1 (hclo t (mem_blkMents hs hB (by rw [mentB_ment]; exact ht)))
          have hsp := splitA_open (as := S.mapS.smapS (idxOf ns) as) (noTup_map hnt) e1
          -- what is handed over
          obtain ⟨loc0, hloc0⟩ : ∃ loc0 : Locs, ∀ i, loc0 i = match ns[i]? with | some s => loc s | none => none := ⟨_, fun _ => rfl⟩
          have hidx : ∀ s, s ∈ ns → loc0 (idxOf ns s) = loc s := fun s hs => by rw [hloc0, idxOf_get hs]
          have hown : ∀ b, ownL loc0 b ↔ ∃ s l, s ∈ ns ∧ loc s = some l ∧ l.blk = some b := by
            intro b
            constructor
            · rintro ⟨i, l, h1, h2⟩
              rw [hloc0] at h1
              split at h1
              · exact ⟨_, l, List.mem_of_getElem? ‹_›, h1, h2⟩
              · cases h1
            · rintro ⟨s, l, h1, h2, h3⟩
              exact ⟨idxOf ns s, l, by rw [hidx s h1]; exact h2, h3⟩
          have hoks : ∀ b, okI w0 ok0 w loc b → b < w.heap.size ∧ ¬ ownL loc0 b := fun b hb => ⟨hb.2.1, fun ho => by
            obtain ⟨s, l, _, h2, h3⟩ := (hown b).1 ho
            exact hb.2.2 s l h2 h3⟩
          have hHp : HpRel (ownL loc0) w.heap.size w (okI w0 ok0 w loc) loc0 h0 := by
            refine ⟨fun i => ?_, fun i l B h1 h2 => ?_, fun i j l l' b h1 h2 h3 h4 => ?_, fun i l b h1 h2 => ⟨.inl ⟨i, l, h1, h2⟩, ?_⟩⟩
            · rw [hloc0, e3]
              cases hq : ns[i]? with
              | none => rfl
              | some s => dsimp only; rw [I.hp.dom]; cases look st.hp s <;> rfl
            · rw [hloc0] at h1
              rw [e3] at h2
              cases hq : ns[i]? with
              | none => rw [hq] at h1; cases h1
              | some s =>
                rw [hq] at h1 h2
                dsimp only at h1 h2
                rw [Option.map_eq_some_iff] at h2
                obtain ⟨B', h2, rfl⟩ := h2
                refine (I.hp.blk s l B' h1 h2).mapS (fun b hb => hb) (fun t m ht hm => ?_)
                rw [hidx t (hcl s B' (List.mem_of_getElem? hq) h2 t ht)]
                exact hm
            · rw [hloc0] at h1 h2
              cases hq : ns[i]? with
              | none => rw [hq] at h1; cases h1
              | some s =>
                cases hq' : ns[j]? with
                | none => rw [hq'] at h2; cases h2
                | some s' =>
                  rw [hq] at h1
                  rw [hq'] at h2
                  have := I.hp.inj s s' l l' b h1 h2 h3 h4
                  subst this
                  exact idx_inj hnd hq hq'
            · rw [hloc0] at h1
              split at h1
              · exact (I.hp.lo _ l b h1 h2).2
              · cases h1
          have hArgs : RSs w (okI w0 ok0 w loc) loc0 (S.mapS.smapS (idxOf ns) as) vs.toList := by
            refine ⟨by rw [smapS_length]; exact hl, fun j s u h1 h2 => ?_⟩
            obtain ⟨y, h3, rfl⟩ := smapS_get _ as j s h1
            have h4 := hr j y u h3 h2
            have h5 : RS0 w (okI w0 ok0 w loc) loc y u := by
              cases y with
              | tup l => exact absurd (List.mem_of_getElem? h3) (noTup_mem hnt l)
              | undef => exact h4
              | one v => exact h4
              | agg vs => exact h4
            refine h5.mapS (fun b hb => hb) (fun t l ht hm => ?_)
            rw [hidx t (hmem t (mem_mentS (List.mem_of_getElem? h3) ht))]
            exact hm
          obtain ⟨hfn, hcall⟩ := hE f _ r hp hEf _ h0 hsp w (okI w0 ok0 w loc) loc0 vs ⟨I.okb.2.now I.below, fun p hp ho => by
            obtain ⟨s, l, _, k2, k3⟩ := (hown p.1).1 ho
            rcases (I.hp.lo s l p.1 k2 k3).1 with k | k
            · exact I.okb.2.2 p hp k
            · have := I.okb.2.1.lt hp; omega⟩ hoks hHp hArgs
          unfold Oper.wp
          rw [hrun hfn, Oper.upon_enter]
          refine hcall.mono fun e w' ⟨x, locR, hex, hF, hH, hR, hB⟩ => ?_
          subst hex
          obtain ⟨okR, hokR⟩ : ∃ okR, okR = okI w (fun b => okI w0 ok0 w loc b ∨ ownL loc0 b) w' locR := ⟨_, rfl⟩
          rw [← hokR] at hH hR
          have hbase : w0.heap.size ≤ w.heap.size := I.below.size
          -- where all stands from now on
          obtain ⟨locN, hlocN⟩ : ∃ locN : Locs, ∀ s, locN s = match fwdN ns d s with | some k => locR k | none => none := ⟨_, fun _ => rfl⟩
          obtain ⟨loc', hloc'⟩ : ∃ loc' : Locs, ∀ s, loc' s = match locN s with | some l => some l | none => if s ∈ ns then none else loc s := ⟨_, fun _ => rfl⟩
          have hkey : ∀ k l, locR k = some l → k < ns.length ∨ (64 ≤ k ∧ k < 128 ∧ (64 * d + (k - 64)) ∉ ns) := by
            intro k l hk
            have h1 := hH.dom k
            rw [hk] at h1
            cases h2 : look hp k with
            | none => rw [h2] at h1; cases h1
            | some B => exact keysOk_mem hkeys k B (look_mem _ _ _ h2)
          have hNback : ∀ k l, locR k = some l → locN (backN ns d k) = some l := fun k l hk => by rw [hlocN, fwd_back hnd hlen (hkey k l hk)]; exact hk
          have hback : ∀ k l, locR k = some l → loc' (backN ns d k) = some l := fun k l hk => by rw [hloc', hNback k l hk]
          have hNinv : ∀ s l, locN s = some l → ∃ k, backN ns d k = s ∧ locR k = some l := by
            intro s l hs
            rw [hlocN] at hs
            cases hq : fwdN ns d s with
            | none => rw [hq] at hs; cases hs
            | some k => rw [hq] at hs; exact ⟨k, (back_fwd hlen hq).1, hs⟩
          have hNbk : ∀ s, (locN s).isSome = (look (hpBack ns d hp) s).isSome := by
            intro s
            rw [hlocN, look_hpBack hnd hlen hkeys]
            cases fwdN ns d s with
            | none => rfl
            | some k => dsimp only; rw [hH.dom]; cases look hp k <;> rfl
          -- a site that was not handed over is where it was
          have hstay : ∀ s l, s ∉ ns → loc s = some l → locN s = none := by
            intro s l hs hq
            cases hN : locN s with
            | none => rfl
            | some m =>
              have h1 := hNbk s
              rw [hN] at h1
              have h2 := fresh_spec hf s h1.symm
              dsimp only at h2
              rw [look_without, if_neg hs, ← I.hp.dom, hq] at h2
              cases h2
          have hold : ∀ s l, s ∉ ns → loc s = some l → loc' s = some l := fun s l hs hq => by rw [hloc', hstay s l hs hq, if_neg hs]; exact hq
          have hcase : ∀ s l, loc' s = some l → (∃ k, backN ns d k = s ∧ locR k = some l ∧ locN s = some l) ∨ (s ∉ ns ∧ loc s = some l ∧ locN s = none) := by
            intro s l hs
            rw [hloc'] at hs
            cases hN : locN s with
            | some m =>
              rw [hN] at hs
              cases hs
              obtain ⟨k, h1, h2⟩ := hNinv s l hN
              exact .inl ⟨k, h1, h2, rfl⟩
            | none =>
              rw [hN] at hs
              dsimp only at hs
              split at hs
              · cases hs
              · exact .inr ⟨‹_›, hs, rfl⟩
          -- a variable that was handed over is where it was
          have hbox : ∀ s b, s ∈ ns → loc s = some (.box b) → loc' s = some (.box b) := by
            intro s b hs hq
            have h1 := hB (idxOf ns s) b (by rw [hidx s hs]; exact hq)
            have := hback _ _ h1
            rwa [backN_lt (idxOf_get hs)] at this
          have hkeep : ∀ t l, t ∉ rowsOf (look st.hp) ns → loc t = some l → loc' t = some l := by
            intro t l ht hq
            by_cases hs : t ∈ ns
            · have h1 : isBox (look st.hp t) = true := by
                cases h2 : isBox (look st.hp t) with
                | true => rfl
                | false => exact absurd (mem_rowsOf.2 ⟨hs, h2⟩) ht
              cases h3 : look st.hp t with
              | none => rw [h3] at h1; cases h1
              | some B =>
                cases B with
                | rows el e xs => rw [h3] at h1; cases h1
                | box vs0 =>
                  have h4 := I.hp.blk t l _ hq h3
                  cases l with
                  | box b => exact hbox t b hs hq
                  | virt => exact h4.elim
                  | rows b el e cap => exact h4.elim
            · exact hold t l hs hq
          have hnoown : ∀ s l b, s ∉ ns → loc s = some l → l.blk = some b → ¬ ownL loc0 b := by
            intro s l b hs h1 h2 ho
            obtain ⟨s', l', h3, h4, h5⟩ := (hown b).1 ho
            have := I.hp.inj s s' l l' b h1 h4 h2 h5
            subst this
            exact hs h3
          have hokk : ∀ b, okI w0 ok0 w loc b → okI w0 ok0 w' loc' b ∧ w'.heap[b]? = w.heap[b]? := by
            intro b hb
            refine ⟨⟨hb.1, by have := hb.2.1; have := hF.size; omega, fun s l hs hlb => ?_⟩, hF.block b hb.2.1 (hoks b hb).2⟩
            rcases hcase s l hs with ⟨k, _, h2, _⟩ | ⟨_, h2, _⟩
            · rcases (hH.lo k l b h2 hlb).1 with h3 | h3
              · exact (hoks b hb).2 h3
              · have := hb.2.1; omega
            · exact hb.2.2 s l h2 hlb
          have hokR' : ∀ b, okR b → okI w0 ok0 w' loc' b := by
            intro b hb
            rw [hokR] at hb
            obtain ⟨h1, h2, h3⟩ := hb
            refine ⟨?_, h2, fun s l hs hlb => ?_⟩
            · rcases h1 with (h1 | h1) | h1
              · exact h1.1
              · obtain ⟨s, l, _, h5, h6⟩ := (hown b).1 h1
                rcases (I.hp.lo s l b h5 h6).1 with h7 | h7
                · exact .inl (I.oko b h7)
                · exact .inr h7
              · exact .inr (by omega)
            · rcases hcase s l hs with ⟨k, _, h5, _⟩ | ⟨h4, h5, _⟩
              · exact h3 k l h5 hlb
              · rcases h1 with (h1 | h1) | h1
                · exact h1.2.2 s l h5 hlb
                · exact hnoown s l b h4 h5 hlb h1
                · have := (I.hp.lo s l b h5 hlb).2; omega
          have hI : Inv n Γ w0 ok0 loc' { sl := st.sl.map (fun p => (p.1, killsS (rowsOf (look st.hp) ns) p.2)), hp := hpBack ns d hp ++ (without ns st.hp).map (fun p => (p.1, killsB (rowsOf (look st.hp) ns) p.2)) } a w' := by
            refine ⟨⟨hF.os.trans I.below.os, hF.tape.trans I.below.tape, hF.output.trans I.below.output, Nat.le_trans hbase hF.size, fun k hk ho => ?_⟩, I.okb, ⟨fun s => ?_, fun s l B h1 h2 => ?_, fun s s' l l' b h1 h2 h3 h4 => ?_, fun s l b h1 h2 => ?_⟩, I.oko, fun s b h => ⟨(I.bx s b h).1, ?_⟩, I.sz, fun t q h => ?_, I.df⟩
            · rw [hF.block k (by omega) fun h1 => ?_]
              · exact I.below.block k hk ho
              · obtain ⟨s, l, _, h5, h6⟩ := (hown k).1 h1
                rcases (I.hp.lo s l k h5 h6).1 with h7 | h7
                · exact ho h7
                · omega
            · rw [look_append, hloc']
              have h1 := hNbk s
              cases hN : locN s with
              | some l =>
                rw [hN] at h1
                cases h2 : look (hpBack ns d hp) s with
                | some B => rfl
                | none => rw [h2] at h1; cases h1
              | none =>
                rw [hN] at h1
                cases h2 : look (hpBack ns d hp) s with
                | some B => rw [h2] at h1; cases h1
                | none =>
                  dsimp only
                  rw [look_map, look_without]
                  by_cases hs : s ∈ ns
                  · rw [if_pos hs, if_pos hs]; rfl
                  · rw [if_neg hs, if_neg hs, I.hp.dom]; cases look st.hp s <;> rfl
            · dsimp only at h2
              rw [look_append] at h2
              have h3 := hNbk s
              rcases hcase s l h1 with ⟨k, g1, g2, g3⟩ | ⟨g1, g2, g3⟩
              · rw [g3] at h3
                cases h4 : look (hpBack ns d hp) s with
                | none => rw [h4] at h3; cases h3
                | some B' =>
                  rw [h4] at h2
                  cases h2
                  rw [look_hpBack hnd hlen hkeys, ← g1, fwd_back hnd hlen (hkey k l g2)] at h4
                  dsimp only at h4
                  rw [Option.map_eq_some_iff] at h4
                  obtain ⟨B', h4, rfl⟩ := h4
                  exact (hH.blk k l B' g2 h4).mapS hokR' fun t m _ hm => hback t m hm
              · rw [g3] at h3
                cases h4 : look (hpBack ns d hp) s with
                | some B' => rw [h4] at h3; cases h3
                | none =>
                  rw [h4] at h2
                  dsimp only at h2
                  rw [look_map, look_without, if_neg g1, Option.map_eq_some_iff] at h2
                  obtain ⟨B', h2, rfl⟩ := h2
                  exact (I.hp.blk s l B' g2 h2).kills hokk (fun b hb => hF.block b (I.hp.lo s l b g2 hb).2 (hnoown s l b g1 g2 hb)) hkeep
            · rcases hcase s l h1 with ⟨k, g1, g2, _⟩ | ⟨g1, g2, _⟩ <;> rcases hcase s' l' h2 with ⟨k', q1, q2, _⟩ | ⟨q1, q2, _⟩
              · rw [← g1, ← q1, hH.inj k k' l l' b g2 q2 h3 h4]
              · rcases (hH.lo k l b g2 h3).1 with h5 | h5
                · exact absurd h5 (hnoown s' l' b q1 q2 h4)
                · have := (I.hp.lo s' l' b q2 h4).2; omega
              · rcases (hH.lo k' l' b q2 h4).1 with h5 | h5
                · exact absurd h5 (hnoown s l b g1 g2 h3)
                · have := (I.hp.lo s l b g2 h3).2; omega
              · exact I.hp.inj s s' l l' b g2 q2 h3 h4
            · rcases hcase s l h1 with ⟨k, _, g2, _⟩ | ⟨_, g2, _⟩
              · have h5 := hH.lo k l b g2 h2
                refine ⟨?_, h5.2⟩
                rcases h5.1 with h6 | h6
                · obtain ⟨s', l', _, h7, h8⟩ := (hown b).1 h6
                  exact (I.hp.lo s' l' b h7 h8).1
                · exact .inr (by omega)
              · have h5 := I.hp.lo s l b g2 h2
                exact ⟨h5.1, by have := h5.2; have := hF.size; omega⟩
            · have h1 := (I.bx s b h).2
              by_cases hs : s ∈ ns
              · exact hbox s b hs h1
              · exact hold s _ hs h1
            · dsimp only at h
              rw [look_map, Option.map_eq_some_iff] at h
              obtain ⟨q', h, rfl⟩ := h
              obtain ⟨h1, h2⟩ := I.sl t q' h
              exact ⟨h1, h2.kills hokk hkeep⟩
          exact hn x w' loc' (hI.val o.dst hd _ x (hR.mapS hokR' fun t m _ hm => hback t m hm))
        · cases he
      · cases he
    · cases he
  · cases he
end
end Go.Proofs.YtgjacdfiilcaaaaR
