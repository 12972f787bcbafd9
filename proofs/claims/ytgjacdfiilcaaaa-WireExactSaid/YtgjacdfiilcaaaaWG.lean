import Derived.Test.YtgjacdfiilcaaaaWF
set_option linter.unusedSimpArgs false
set_option linter.unusedVariables false
namespace Go.Proofs.Ytgjacdfiilcaaaa.CA
open Go Go.Proofs.YtgjacdfiilcaaaaR Go.Proofs.Ytgjacdfiilcaaaa.IW Go.Proofs.Ytgjacdfiilcaaaa.CZ Go.Proofs.Ytgjacdfiilcaaaa.WZ
open Go.Proofs.Ytgjacdfiilcaaaa.MA (Mg eM aM msgOK okM knownB bareB restM endsB whoseB wayB nodesB inB)
set_option maxRecDepth 100000
set_option maxHeartbeats 4000000
theorem inB_t {n lo hi : Int} (h : inB n lo hi = true) : lo ≤ n ∧ n ≤ hi := by simpa [inB] using h
theorem way_t {l : List Int} (h : wayB l = true) : l.length ≤ 8 ∧ ∀ x ∈ l, 0 ≤ x ∧ x ≤ 7 := by
  simp only [wayB, nodesB, Bool.and_eq_true, decide_eq_true_eq] at h
  exact ⟨h.1.2, fun x hx => inB_t (List.all_eq_true.1 h.1.1 x hx)⟩
/-- What the numbers of a right message may be. -/
structure Rg (m : Mg) : Prop where
  k : 1 ≤ m.k ∧ m.k ≤ 13
  f : 0 ≤ m.f ∧ m.f ≤ 7
  t : 0 ≤ m.t ∧ m.t ≤ 7
  tp : 0 ≤ m.tp ∧ m.tp ≤ 3
  fi : 0 ≤ m.fi ∧ m.fi ≤ 1073741824
  ti : 0 ≤ m.ti ∧ m.ti ≤ 1073741824
  e : 0 ≤ m.e ∧ m.e ≤ 1073741824
  s : 0 ≤ m.s ∧ m.s ≤ 1073741824
  l : 0 ≤ m.l ∧ m.l ≤ 1073741824
  v : 0 ≤ m.v ∧ m.v ≤ 2147483647
  nd : 0 ≤ m.nd ∧ m.nd ≤ 7
  ic : 0 ≤ m.ic ∧ m.ic ≤ 1073741824
  c : 0 ≤ m.c ∧ m.c ≤ 1073741824
  h : 0 ≤ m.h ∧ m.h ≤ 16
  pa : m.pa.length ≤ 8 ∧ ∀ x ∈ m.pa, 0 ≤ x ∧ x ≤ 7
  td : m.td.length ≤ 8 ∧ ∀ x ∈ m.td, 0 ≤ x ∧ x ≤ 7
theorem nil_w {l : List Int} (h : l = []) : l.length ≤ 8 ∧ ∀ x ∈ l, 0 ≤ x ∧ x ≤ 7 := by subst h; simp
theorem msg_rg {m : Mg} (h : msgOK m = true) : Rg m := by
  have hk : m.k = 1 ∨ m.k = 2 ∨ m.k = 3 ∨ m.k = 4 ∨ m.k = 5 ∨ m.k = 6 ∨ m.k = 7 ∨ m.k = 8 ∨ m.k = 9 ∨ m.k = 10 ∨ m.k = 11 ∨ m.k = 12 ∨ m.k = 13 := by
    simp only [msgOK, Bool.and_eq_true] at h
    have h1 := h.1.1
    refine Decidable.byContradiction fun hn => ?_
    simp only [not_or] at hn
    simp [okM, hn] at h1
  simp only [msgOK, knownB, Bool.and_eq_true] at h
  obtain ⟨⟨h1, h2, h3⟩, h4⟩ := h
  simp only [endsB, Bool.and_eq_true] at h2
  obtain ⟨⟨⟨f1, f2⟩, f3⟩, f4⟩ := h2
  have f1 := inB_t f1
  have f2 := inB_t f2
  have f4 := inB_t f4
  rcases hk with hk | hk | hk | hk | hk | hk | hk | hk | hk | hk | hk | hk | hk
  all_goals
    simp only [okM, restM, whoseB, hk, Int.reduceEq, if_true, if_false, reduceIte, bareB, Bool.and_eq_true, decide_eq_true_eq, List.isEmpty_iff] at h1 h3 h4
    constructor
    all_goals first
      | omega
      | (apply way_t; simp_all; done)
      | (apply nil_w; simp_all; done)
      | (simp only [inB, Bool.and_eq_true, decide_eq_true_eq] at h1 h3 h4; omega)
theorem msg_fits {m : Mg} (h : msgOK m = true) : Fits (numsM m) m.pa m.td := by
  have r := msg_rg h
  have f : ∀ (s : Nat) (n : Int), 0 ≤ n → n < 256 ^ s → n < 4611686018427387904 → fitN s n := fun s n a b c => ⟨a, b, c⟩
  have p1 : (256 : Int) ^ 1 = 256 := by decide
  have p4 : (256 : Int) ^ 4 = 4294967296 := by decide
  have p8 : (256 : Int) ^ 8 = 18446744073709551616 := by decide
  refine ⟨?_, by have := r.pa.1; omega, fun x hx => by have := r.pa.2 x hx; omega, by have := r.td.1; omega, fun x hx => by have := r.td.2 x hx; omega⟩
  have := r.k; have := r.f; have := r.t; have := r.tp; have := r.fi; have := r.ti; have := r.e; have := r.s; have := r.l; have := r.v; have := r.nd; have := r.ic; have := r.c; have := r.h
  refine ⟨f 1 _ ?_ ?_ ?_, f 1 _ ?_ ?_ ?_, f 1 _ ?_ ?_ ?_, f 1 _ ?_ ?_ ?_, f 4 _ ?_ ?_ ?_, f 4 _ ?_ ?_ ?_, f 8 _ ?_ ?_ ?_, f 4 _ ?_ ?_ ?_, f 4 _ ?_ ?_ ?_, f 4 _ ?_ ?_ ?_, f 1 _ ?_ ?_ ?_, f 4 _ ?_ ?_ ?_, f 4 _ ?_ ?_ ?_, f 1 _ ?_ ?_ ?_, trivial⟩
  all_goals first | omega | (simp only [p1, p4, p8]; omega)
theorem mk_nums (m : Mg) : mkM (numsM m) m.pa m.td = m := rfl
theorem nums_mk {ns pa td : List Int} (h : ns.length = 14) : numsM (mkM ns pa td) = ns := by
  match ns, h with
  | [k, f, t, tp, fi, ti, e, s, l, v, nd, ic, c, h], _ => rfl
theorem fits_len : ∀ (ss : List Nat) (ns : List Int), fitsN ss ns → ns.length = ss.length
  | [], [], _ => rfl
  | s :: ss, n :: ns, h => by simp [fits_len ss ns h.2]
  | [], _ :: _, h => h.elim
  | _ :: _, [], h => h.elim
theorem msg_rd {m : Mg} (h : msgOK m = true) : rdM (encM m) = some (numsM m, m.pa, m.td) := by
  have := rd_enc (msg_fits h) []
  rwa [List.append_nil, if_pos rfl] at this
theorem encM_inj {a b : Mg} (ha : msgOK a = true) (hb : msgOK b = true) (h : encM a = encM b) : a = b := by
  obtain ⟨h1, h2, h3⟩ := enc_inj (msg_fits ha) (msg_fits hb) h
  rw [← mk_nums a, ← mk_nums b, h1, h2, h3]
theorem opn_sel (b : List Int) : opn (sel b) = (b, 0) := by
  rw [opn, if_neg (by rw [sel_len]; omega), if_pos (sealed_sel b), sel_len, show b.length + 4 - 4 = b.length by omega, sel, List.take_left' rfl]
/-- What is encoded is decoded. -/
theorem dec_sel (x : List Int) (h : x.length ≤ 76) : decM (sel x) = match rdM x with
    | none => (zM, 3)
    | some (ns, pa, td) => if msgOK (mkM ns pa td) = true then (mkM ns pa td, 0) else (zM, 5) := by
  rw [decM, if_neg (by rw [sel_len]; omega), opn_sel]
  rfl
theorem dec_enc {m : Mg} (h : msgOK m = true) : decM (sel (encM m)) = (m, 0) := by
  have r := msg_rg h
  rw [dec_sel _ (by rw [encM_len]; have := r.pa.1; have := r.td.1; omega), msg_rd h]
  show (if msgOK (mkM (numsM m) m.pa m.td) = true then (mkM (numsM m) m.pa m.td, (0 : Int)) else (zM, 5)) = _
  rw [mk_nums, if_pos h]
/-- Whatever says a message are its bytes. -/
theorem dec_ok {b : List Int} (hb : Bs b) (h : (decM b).2 = 0) : msgOK (decM b).1 = true ∧ b = sel (encM (decM b).1) ∧ b.length ≤ 80 := by
  unfold decM at h ⊢
  by_cases h80 : 80 < b.length
  · rw [if_pos h80] at h; cases h
  · rw [if_neg h80] at h ⊢
    rcases opn_c b with ⟨c0, c1⟩ | ⟨c0, cs, c1⟩ | ⟨c0, cs, c1⟩
    · rw [c1] at h; cases h
    · rw [c1] at h ⊢
      rw [if_neg (by simp)] at h ⊢
      dsimp only at h ⊢
      cases hr : rdM (b.take (b.length - 4)) with
      | none => rw [hr] at h; cases h
      | some p =>
        obtain ⟨ns, pa, td⟩ := p
        rw [hr] at h
        dsimp only at h ⊢
        obtain ⟨g1, g2⟩ := rd_inv (Bs_take hb _) hr
        by_cases hm : msgOK (mkM ns pa td) = true
        · rw [if_pos hm]
          refine ⟨hm, ?_, by omega⟩
          have hl : ns.length = 14 := fits_len szs ns g1.n
          show b = sel (enc (numsM (mkM ns pa td)) (mkM ns pa td).pa (mkM ns pa td).td)
          rw [nums_mk hl, mk_pa, mk_td, ← g2]
          exact sealed_eq cs
        · rw [if_neg hm] at h; cases h
    · rw [c1] at h; cases h
theorem dec_no {b : List Int} (h : ¬ (decM b).2 = 0) : (decM b).1 = zM ∧ ((decM b).2 = 2 ∨ (decM b).2 = 4 ∨ (decM b).2 = 3 ∨ (decM b).2 = 5) := by
  revert h
  unfold decM
  split
  · intro; exact ⟨rfl, .inl rfl⟩
  · rcases opn_c b with ⟨c0, c1⟩ | ⟨c0, cs, c1⟩ | ⟨c0, cs, c1⟩
    · rw [c1]; intro; exact ⟨rfl, .inl rfl⟩
    · rw [c1, if_neg (by simp)]
      split
      · intro; exact ⟨rfl, .inr (.inr (.inl rfl))⟩
      · split
        · intro h; exact absurd rfl h
        · intro; exact ⟨rfl, .inr (.inr (.inr rfl))⟩
    · rw [c1]; intro; exact ⟨rfl, .inr (.inl rfl)⟩
end Go.Proofs.Ytgjacdfiilcaaaa.CA
