/- The evaluator, step by step: what is still to be done as a list. -/
import Derived.Test.YtgjacdfiilcaaaaR16
set_option linter.unusedVariables false
set_option linter.unusedSimpArgs false
namespace Go.Proofs.YtgjacdfiilcaaaaR
open Go Go.RowKit

/-- What is still to be done. -/
inductive W where
  | c (x : C)
  | o (x : IO)
  | b (id : Nat)
def go (E : Nat → Model) (N : Nat) : Option Nat → List W → St → Option (Out × St)
  | none, [], st => some (.norm, st)
  | some id, [], st => some (.exit id, st)
  | none, .c x :: r, st => match x.ev E N st with
    | some (.norm, st') => go E N none r st'
    | some (.exit id, st') => go E N (some id) r st'
    | some (.ret, st') => some (.ret, st')
    | none => none
  | none, .o x :: r, st => match step E x st with
    | some st' => go E N none r st'
    | none => none
  | none, .b _ :: r, st => go E N none r st
  | some id, .b i :: r, st => if i = id then go E N none r st else go E N (some id) r st
  | some id, .c _ :: r, st => go E N (some id) r st
  | some id, .o _ :: r, st => go E N (some id) r st
/-- Behind a loop. -/
def aft (E : Nat → Model) (N : Nat) (r : List W) : Option (Out × St) → Option (Out × St)
  | some (.norm, st') => go E N none r st'
  | some (.exit id, st') => go E N (some id) r st'
  | some (.ret, st') => some (.ret, st')
  | none => none
/-- One way or the other. -/
def br (E : Nat → Model) (N : Nat) (b : Bool) (l : List W) (s : St) (l' : List W) (s' : St) : Option (Out × St) := match b with
  | true => go E N none l s
  | false => go E N none l' s'
def goI (E : Nat → Model) (N : Nat) (a b : C) (r : List W) (st : St) : Option S → Option (Out × St)
  | some (.one (.bool t)) => br E N t (.c a :: r) st (.c b :: r) st
  | _ => none
def goO (E : Nat → Model) (N : Nat) (r : List W) (st : St) (d : Option Nat) : Option (S × Hp) → Option (Out × St)
  | some (v, news) => if fresh st news then go E N none r { sl := (st.put d v).sl, hp := news ++ st.hp } else none
  | none => none
def goF (E : Nat → Model) (N : Nat) (r : List W) (st : St) : Option Blk → Option (Out × St)
  | none => go E N none r st
  | _ => none
def goF2 (E : Nat → Model) (N : Nat) (r : List W) (st : St) : Option Blk → Option Blk → Option (Out × St)
  | none, none => go E N none r st
  | _, _ => none
/-- Behind a store. -/
def goS (E : Nat → Model) (N : Nat) (r : List W) (st : St) (d : Option Nat) : Option (S × Hp) → Option (Out × St)
  | some (v, news) => go E N none r { sl := (st.put d v).sl, hp := news ++ st.hp }
  | none => none
def goE (E : Nat → Model) (N : Nat) (r : List W) (d : Option Nat) : Option (S × St) → Option (Out × St)
  | some (v, st) => go E N none r (st.put d v)
  | none => none
def goG (E : Nat → Model) (N : Nat) (o : IO) (want : Bool) (r : List W) (st : St) : Option S → Option (Out × St)
  | some (.one (.bool b)) => br E N (b == want) (.o o :: r) st r (st.put o.dst .undef)
  | some .undef => go E N none r (st.put o.dst .undef)
  | _ => none
def goK (E : Nat → Model) (N : Nat) (r : List W) : Option St → Option (Out × St)
  | some st => go E N none r st
  | none => none

section
variable {E : Nat → Model} {N : Nat} {r : List W} {st s s' : St}
theorem go_nil : go E N none [] st = some (.norm, st) := rfl
theorem go_b {id : Nat} : go E N none (.b id :: r) st = go E N none r st := rfl
theorem go_skip : go E N none (.c .skip :: r) st = go E N none r st := rfl
theorem go_ret : go E N none (.c .ret :: r) st = some (.ret, st) := rfl
theorem go_exit {id : Nat} : go E N none (.c (.exit id) :: r) st = go E N (some id) r st := rfl
theorem go_xnil {id : Nat} : go E N (some id) [] st = some (.exit id, st) := rfl
theorem go_xb {id i : Nat} : go E N (some id) (.b i :: r) st = if i = id then go E N none r st else go E N (some id) r st := rfl
theorem go_xc {id : Nat} {x : C} : go E N (some id) (.c x :: r) st = go E N (some id) r st := rfl
theorem go_xo {id : Nat} {x : IO} : go E N (some id) (.o x :: r) st = go E N (some id) r st := rfl
theorem go_seq {a b : C} : go E N none (.c (.seq a b) :: r) st = go E N none (.c a :: .c b :: r) st := by
  simp only [go, C.ev]
  cases h : a.ev E N st with
  | none => rfl
  | some p =>
    obtain ⟨o, st'⟩ := p
    cases o <;> rfl
theorem go_block {id : Nat} {a : C} : go E N none (.c (.block id a) :: r) st = go E N none (.c a :: .b id :: r) st := by
  simp only [go, C.ev]
  cases h : a.ev E N st with
  | none => rfl
  | some p =>
    obtain ⟨o, st'⟩ := p
    cases o with
    | norm => rfl
    | ret => rfl
    | exit i =>
      dsimp only
      by_cases hi : i = id
      · subst hi; simp
      · rw [if_neg hi, if_neg (fun e => hi e.symm)]
theorem go_steps : ∀ (ops : List IO) (st : St), (match steps E ops st with | some st' => go E N none r st' | none => none) = go E N none (ops.map .o ++ r) st
  | [], st => rfl
  | o :: q, st => by
    simp only [steps, List.map_cons, List.cons_append, go]
    cases h : step E o st with
    | none => rfl
    | some st' => exact go_steps q st'
theorem go_region {ops : List IO} {d : Bool} : go E N none (.c (.region ops d) :: r) st = go E N none (ops.map .o ++ r) st := by
  rw [← go_steps]
  simp only [go, C.ev]
  cases h : steps E ops st <;> rfl
theorem go_cond {c : X} {a b : C} : go E N none (.c (.cond c a b) :: r) st = goI E N a b r st (c.ev (look st.sl)) := by
  simp only [go, C.ev]
  cases h : c.ev (look st.sl) with
  | none => rfl
  | some s =>
    cases s with
    | one v =>
      cases v with
      | bool t => cases t <;> rfl
      | _ => rfl
    | _ => rfl
theorem go_keep {l : List Nat} {a : C} : go E N none (.c (.keep l a) :: r) st = goK E N (.c a :: r) (gcK l st) := by
  simp only [go, C.ev]
  cases h : gcK l st <;> rfl
theorem go_frz {l : List Nat} {a : C} : go E N none (.c (.frz l a) :: r) st = go E N none (.c a :: r) (frzL l st) := rfl
theorem go_loop {a : C} : go E N none (.c (.loop a) :: r) st = aft E N r (iter N (a.ev E N) st) := by
  simp only [go, C.ev]
  cases h : iter N (a.ev E N) st with
  | none => rfl
  | some p =>
    obtain ⟨o, st'⟩ := p
    cases o <;> rfl
theorem aft_norm : aft E N r (some (.norm, st)) = go E N none r st := rfl
theorem aft_exit {id : Nat} : aft E N r (some (.exit id, st)) = go E N (some id) r st := rfl
theorem aft_ret : aft E N r (some (.ret, st)) = some (.ret, st) := rfl
theorem go_o {d : Option Nat} {i : I} {fb an : List Nat} (h : i.eff = false) (hk : i.stk = none) : go E N none (.o ⟨d, i, none, fb, an⟩ :: r) st = goO E N r st d (ev E (d.getD 0) (vG fb st) (vH fb st) i) := by
  simp only [go, step, h, hk, Option.isSome_none, Bool.false_or, Bool.false_eq_true, if_false, core]
  cases h : ev E (d.getD 0) (vG fb st) (vH fb st) i with
  | none => rfl
  | some p =>
    obtain ⟨v, news⟩ := p
    simp only [goO]
    by_cases hf : fresh st news = true
    · rw [if_pos hf, if_pos hf]
    · rw [if_neg hf, if_neg hf]
theorem go_e {d : Option Nat} {i : I} {fb an : List Nat} (h : i.eff = true) : go E N none (.o ⟨d, i, none, fb, an⟩ :: r) st = goE E N r d (evE E (d.getD 0) st i) := by
  simp only [go, step, h, if_true]
  cases h : evE E (d.getD 0) st i with
  | none => rfl
  | some p => rfl
theorem go_s {d : Option Nat} {key : Option Nat} {n : Nat} {x y : X} {fb an : List Nat} : go E N none (.o ⟨d, .store key n x y, none, fb, an⟩ :: r) st = goS E N r st d (ev E (d.getD 0) (vG fb st) (vH fb st) (.store key n x y)) := by
  simp only [go, step, I.eff, I.stk, Option.isSome_some, Bool.true_or, Bool.false_eq_true, if_false, core, if_true]
  cases h : ev E (d.getD 0) (vG fb st) (vH fb st) (.store key n x y) with
  | none => rfl
  | some p => rfl
theorem go_g {d : Option Nat} {i : I} {t : Nat} {want : Bool} {fb an : List Nat} (h : i.eff = false) (hk : i.stk = none) : go E N none (.o ⟨d, i, some (t, want), fb, an⟩ :: r) st = goG E N ⟨d, i, none, fb, an⟩ want r st (vG fb st t) := by
  simp only [go, step, h, hk, Option.isSome_none, Bool.false_or, Bool.false_eq_true, if_false, core]
  cases hq : vG fb st t with
  | none => rfl
  | some s =>
    cases s with
    | one v =>
      cases v with
      | bool b =>
        simp only [goG, br]
        by_cases hb : b = want
        · rw [if_pos hb]
          rw [show (b == want) = true by simp [hb]]
          show _ = go E N none (.o ⟨d, i, none, fb, an⟩ :: r) st
          rw [go_o h hk]
          cases hev : ev E (d.getD 0) (vG fb st) (vH fb st) i with
          | none => rfl
          | some p =>
            obtain ⟨v, news⟩ := p
            simp only [goO]
            by_cases hf : fresh st news = true
            · rw [if_pos hf, if_pos hf]
            · rw [if_neg hf, if_neg hf]
        · rw [if_neg hb]
          rw [show (b == want) = false by simp [hb]]
          simp [fresh]
          cases d <;> rfl
      | _ => rfl
    | undef => simp [goG, fresh]; cases d <;> rfl
    | _ => rfl
theorem br_t {l l' : List W} : br E N true l s l' s' = go E N none l s := rfl
theorem br_f {l l' : List W} : br E N false l s l' s' = go E N none l' s' := rfl
theorem br_cases {b : Bool} {l l' : List W} {q : Option (Out × St)} {f : Option (Out × St) → Option (S × Hp)} {z : Option (S × Hp)} (h1 : b = true → f (go E N none l s) = z) (h2 : b = false → f (go E N none l' s') = z) : f (br E N b l s l' s') = z := by
  cases b with
  | true => exact h1 rfl
  | false => exact h2 rfl
theorem goI_b {a b : C} {t : Bool} : goI E N a b r st (some (.one (.bool t))) = br E N t (.c a :: r) st (.c b :: r) st := rfl
theorem goG_t {o : IO} {b : Bool} : goG E N o true r st (some (.one (.bool b))) = br E N b (.o o :: r) st r (st.put o.dst .undef) := by cases b <;> rfl
theorem goG_f {o : IO} {b : Bool} : goG E N o false r st (some (.one (.bool b))) = br E N b r (st.put o.dst .undef) (.o o :: r) st := by cases b <;> rfl
theorem goG_u {o : IO} {w : Bool} : goG E N o w r st (some .undef) = go E N none r (st.put o.dst .undef) := rfl
theorem goO_0 {d : Option Nat} {v : S} : goO E N r st d (some (v, [])) = go E N none r (st.put d v) := by cases d <;> rfl
theorem goO_1 {d : Option Nat} {v : S} {k : Nat} {B : Blk} : goO E N r st d (some (v, [(k, B)])) = goF E N r { sl := (st.put d v).sl, hp := (k, B) :: st.hp } (look st.hp k) := by
  cases h : look st.hp k <;> simp [goO, fresh, h, goF]
theorem goO_2 {d : Option Nat} {v : S} {k k' : Nat} {B B' : Blk} : goO E N r st d (some (v, [(k, B), (k', B')])) = goF2 E N r { sl := (st.put d v).sl, hp := (k, B) :: (k', B') :: st.hp } (look st.hp k) (look st.hp k') := by
  cases h : look st.hp k <;> cases h' : look st.hp k' <;> simp [goO, fresh, h, h', goF2]
theorem goF_n : goF E N r st none = go E N none r st := rfl
theorem goF2_n : goF2 E N r st none none = go E N none r st := rfl
theorem goS_s {d : Option Nat} {v : S} {k : Nat} {B : Blk} : goS E N r st d (some (v, [(k, B)])) = go E N none r { sl := (st.put d v).sl, hp := (k, B) :: st.hp } := rfl
theorem goE_s {d : Option Nat} {v : S} : goE E N r d (some (v, st)) = go E N none r (st.put d v) := rfl
theorem goK_s : goK E N r (some st) = go E N none r st := rfl
theorem put_some {d : Nat} {v : S} {a : List (Nat × S)} {b : List (Nat × Blk)} : St.put ⟨a, b⟩ (some d) v = ⟨(d, v) :: a, b⟩ := rfl
theorem put_none {v : S} : st.put none v = st := rfl
theorem vG_nil : vG [] st = look st.sl := by funext t; rfl
theorem vH_nil : vH [] st = look st.hp := by funext t; rfl
theorem look_hit {α : Type} {k : Nat} {v : α} {l : List (Nat × α)} : look ((k, v) :: l) k = some v := by simp [look]
theorem look_miss {α : Type} {k n : Nat} {v : α} {l : List (Nat × α)} (h : ¬ k = n) : look ((k, v) :: l) n = look l n := by simp [look, h]
theorem look_end {α : Type} {n : Nat} : look ([] : List (Nat × α)) n = none := rfl
end
/-- The function's end. -/
def finG (m : Nat) (fd : F) : Option (Out × St) → Option (S × Hp)
  | some (.norm, st) => match Rs.ev st fd.res with
    | some l => hand m (look st.hp) l
    | none => none
  | some (.ret, st) => match Rs.ev st fd.res with
    | some l => hand m (look st.hp) l
    | none => none
  | _ => none
abbrev fin (fd : F) := finG 0 fd
/-- Nothing is handed over. -/
def closed : Nat → List S → Bool
  | 0, [] => true
  | n + 1, x :: r => (match x with
    | .tup _ => false
    | _ => true) && closed n r
  | _, _ => false
theorem closed_split : ∀ {n : Nat} {args : List S}, closed n args = true → splitA args = some (args, []) ∧ args.length = n
  | 0, [], _ => ⟨rfl, rfl⟩
  | n + 1, x :: r, h => by
    simp only [closed, Bool.and_eq_true] at h
    obtain ⟨h1, h2⟩ := closed_split h.2
    cases x with
    | tup l => cases h.1
    | undef => exact ⟨by simp only [splitA, h1], by simp [h2]⟩
    | one v => exact ⟨by simp only [splitA, h1], by simp [h2]⟩
    | agg vs => exact ⟨by simp only [splitA, h1], by simp [h2]⟩
  | 0, _ :: _, h => by cases h
  | _ + 1, [], h => by cases h
theorem F_evo {E : Nat → Model} {N : Nat} {fd : F} {args as : List S} {h0 : Hp} (hs : splitA args = some (as, h0)) (h : as.length = fd.np) (h6 : h0.length ≤ 64) : fd.ev E N args = finG h0.length fd (go E N none [.c fd.body] ⟨params 0 as, h0⟩) := by
  unfold F.ev
  rw [hs]
  dsimp only
  rw [if_pos ⟨h, h6⟩]
  simp only [go]
  cases h : fd.body.ev E N ⟨params 0 as, h0⟩ with
  | none => rfl
  | some p =>
    obtain ⟨o, st⟩ := p
    cases o <;> rfl
theorem F_ev {E : Nat → Model} {N : Nat} {fd : F} {args : List S} (h : closed fd.np args = true) : fd.ev E N args = fin fd (go E N none [.c fd.body] ⟨params 0 args, []⟩) :=
  F_evo (closed_split h).1 (closed_split h).2 (by simp)
def handO (m : Nat) (h : Nat → Option Blk) : Option (List S) → Option (S × Hp)
  | some l => hand m h l
  | none => none
theorem fin_ret {m : Nat} {fd : F} {st : St} : finG m fd (some (.ret, st)) = handO m (look st.hp) (Rs.ev st fd.res) := by
  simp only [finG]; cases Rs.ev st fd.res <;> rfl
theorem fin_norm {m : Nat} {fd : F} {st : St} : finG m fd (some (.norm, st)) = handO m (look st.hp) (Rs.ev st fd.res) := by
  simp only [finG]; cases Rs.ev st fd.res <;> rfl
theorem handO_s {m : Nat} {h : Nat → Option Blk} {l : List S} : handO m h (some l) = hand m h l := rfl
/-! ### Loops -/
/-- Behind a round. -/
def goL (E : Nat → Model) (N : Nat) (a : C) (n : Nat) : Option (Out × St) → Option (Out × St)
  | some (.norm, st') => iter n (a.ev E N) st'
  | r => r
theorem ev_go {E : Nat → Model} {N : Nat} {a : C} {st : St} : a.ev E N st = go E N none [.c a] st := by
  simp only [go]
  cases h : a.ev E N st with
  | none => rfl
  | some p =>
    obtain ⟨o, st'⟩ := p
    cases o <;> rfl
theorem iter_s {E : Nat → Model} {N : Nat} {a : C} {n : Nat} {st : St} : iter (n + 1) (a.ev E N) st = goL E N a n (go E N none [.c a] st) := by
  rw [← ev_go]
  simp only [iter]
  cases h : a.ev E N st with
  | none => rfl
  | some p =>
    obtain ⟨o, st'⟩ := p
    cases o <;> rfl
theorem goL_n {E : Nat → Model} {N : Nat} {a : C} {n : Nat} {st : St} : goL E N a n (some (.norm, st)) = iter n (a.ev E N) st := rfl
theorem goL_x {E : Nat → Model} {N : Nat} {a : C} {n id : Nat} {st : St} : goL E N a n (some (.exit id, st)) = some (.exit id, st) := rfl
theorem goL_r {E : Nat → Model} {N : Nat} {a : C} {n : Nat} {st : St} : goL E N a n (some (.ret, st)) = some (.ret, st) := rfl
theorem goL_cases {E : Nat → Model} {N : Nat} {a : C} {n : Nat} {s s' : St} {b : Bool} {l l' : List W} {z : Option (Out × St)} (h1 : b = true → goL E N a n (go E N none l s) = z) (h2 : b = false → goL E N a n (go E N none l' s') = z) : goL E N a n (br E N b l s l' s') = z := by
  cases b with
  | true => exact h1 rfl
  | false => exact h2 rfl
theorem fin_cases2 {m : Nat} {fd : F} {E : Nat → Model} {N : Nat} {a : C} {n : Nat} {r : List W} {s s' : St} {b : Bool} {l l' : List W} {z : Option (S × Hp)} (h1 : b = true → finG m fd (aft E N r (goL E N a n (go E N none l s))) = z) (h2 : b = false → finG m fd (aft E N r (goL E N a n (go E N none l' s'))) = z) : finG m fd (aft E N r (goL E N a n (br E N b l s l' s'))) = z := by
  cases b with
  | true => exact h1 rfl
  | false => exact h2 rfl
theorem fin_cases3 {m : Nat} {fd : F} {E : Nat → Model} {N : Nat} {a a' : C} {n n' : Nat} {r r' : List W} {s s' : St} {b : Bool} {l l' : List W} {z : Option (S × Hp)} (h1 : b = true → finG m fd (aft E N r (goL E N a n (aft E N r' (goL E N a' n' (go E N none l s))))) = z) (h2 : b = false → finG m fd (aft E N r (goL E N a n (aft E N r' (goL E N a' n' (go E N none l' s'))))) = z) : finG m fd (aft E N r (goL E N a n (aft E N r' (goL E N a' n' (br E N b l s l' s'))))) = z := by
  cases b with
  | true => exact h1 rfl
  | false => exact h2 rfl
/-- A loop ahead of what follows it. -/
theorem loopK {β : Type} {E : Nat → Model} {N : Nat} {L : List Nat} {a : C} (K : Option (Out × St) → β) (NF : Nat → St) (z : Nat → β) (stop : Nat)
    (hround : ∀ i n, i ≤ stop → (i < stop → ∀ st, gcK L st = some (NF (i + 1)) → K (iter n ((C.keep L a).ev E N) st) = z (i + 1)) → K (goL E N (.keep L a) n (go E N none [.c a] (NF i))) = z i) :
    ∀ m i n st, i + m = stop → m < n → gcK L st = some (NF i) → K (iter n ((C.keep L a).ev E N) st) = z i := by
  intro m
  induction m with
  | zero =>
    intro i n st him hn hk
    obtain ⟨n, rfl⟩ : ∃ k, n = k + 1 := ⟨n - 1, by omega⟩
    rw [iter_s, go_keep, hk, goK_s]
    exact hround i n (by omega) (fun h => by omega)
  | succ m ih =>
    intro i n st him hn hk
    obtain ⟨n, rfl⟩ : ∃ k, n = k + 1 := ⟨n - 1, by omega⟩
    rw [iter_s, go_keep, hk, goK_s]
    exact hround i n (by omega) (fun h st' hk' => ih (i + 1) n st' (by omega) (by omega) hk')
/-- A loop, by an invariant. -/
theorem loopI {β : Type} {E : Nat → Model} {N : Nat} {L : List Nat} {a : C} (K : Option (Out × St) → β) (I : Nat → St → Prop) (z : β) (stop : Nat)
    (hround : ∀ i n s, i ≤ stop → I i s → (i < stop → ∀ st s', gcK L st = some s' → I (i + 1) s' → K (iter n ((C.keep L a).ev E N) st) = z) → K (goL E N (.keep L a) n (go E N none [.c a] s)) = z) :
    ∀ m i n st s, i + m = stop → m < n → gcK L st = some s → I i s → K (iter n ((C.keep L a).ev E N) st) = z := by
  intro m
  induction m with
  | zero =>
    intro i n st s him hn hk hI
    obtain ⟨n, rfl⟩ : ∃ k, n = k + 1 := ⟨n - 1, by omega⟩
    rw [iter_s, go_keep, hk, goK_s]
    exact hround i n s (by omega) hI (fun h => by omega)
  | succ m ih =>
    intro i n st s him hn hk hI
    obtain ⟨n, rfl⟩ : ∃ k, n = k + 1 := ⟨n - 1, by omega⟩
    rw [iter_s, go_keep, hk, goK_s]
    exact hround i n s (by omega) hI (fun h st' s' hk' hI' => ih (i + 1) n st' s' (by omega) (by omega) hk' hI')
/-- A loop, by what each round finds at its head. 'NF i': what is kept at the head of round i. -/
theorem loop_rule {E : Nat → Model} {N : Nat} {L : List Nat} {a : C} (NF : Nat → St) (Res : Nat → Option (Out × St)) (stop : Nat)
    (hround : ∀ i n, i ≤ stop → (i < stop → ∀ st, gcK L st = some (NF (i + 1)) → iter n ((C.keep L a).ev E N) st = Res (i + 1)) → goL E N (.keep L a) n (go E N none [.c a] (NF i)) = Res i) :
    ∀ m i n st, i + m = stop → m < n → gcK L st = some (NF i) → iter n ((C.keep L a).ev E N) st = Res i := by
  intro m
  induction m with
  | zero =>
    intro i n st him hn hk
    obtain ⟨n, rfl⟩ : ∃ k, n = k + 1 := ⟨n - 1, by omega⟩
    rw [iter_s, go_keep, hk, goK_s]
    exact hround i n (by omega) (fun h => by omega)
  | succ m ih =>
    intro i n st him hn hk
    obtain ⟨n, rfl⟩ : ∃ k, n = k + 1 := ⟨n - 1, by omega⟩
    rw [iter_s, go_keep, hk, goK_s]
    exact hround i n (by omega) (fun h st' hk' => ih (i + 1) n st' (by omega) (by omega) hk')
theorem fin_cases {m : Nat} {fd : F} {E : Nat → Model} {N : Nat} {s s' : St} {b : Bool} {l l' : List W} {z : Option (S × Hp)} (h1 : b = true → finG m fd (go E N none l s) = z) (h2 : b = false → finG m fd (go E N none l' s') = z) : finG m fd (br E N b l s l' s') = z := by
  cases b with
  | true => exact h1 rfl
  | false => exact h2 rfl
end Go.Proofs.YtgjacdfiilcaaaaR
