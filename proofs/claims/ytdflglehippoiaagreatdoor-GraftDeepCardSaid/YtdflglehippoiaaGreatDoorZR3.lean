/- Texts joined: R17 R18 R19 R20 R21 R22. -/
import Derived.Test.YtdflglehippoiaaGreatDoorZR2
import Derived.SizedLaws
import Derived.OpenShut
import Derived.ChangeSlices
import Derived.ChangeArms
set_option linter.unusedVariables false
set_option linter.unusedSimpArgs false
namespace Go.Proofs.YtdflglehippoiaaGreatDoorR
open Go Go.RowKit

inductive W where
 | c (x : C)
 | o (x : IO)
 | b (id : Nat)
def go (E : Nat → Model) (N : Nat) : Option Nat → List W → St → Option (Out × St)
 | none, [], st => some (.norm, st)
 | some id, [], st => some (.exit id, st)
 | none, .c x :: r, st => match x.ev E N st with
  | some (.norm, st') => go E N none r st'
  | some (.exit id, st') => go E N (some id) r st'
  | some (.ret, st') => some (.ret, st')
  | none => none
 | none, .o x :: r, st => match step E x st with
  | some st' => go E N none r st'
  | none => none
 | none, .b _ :: r, st => go E N none r st
 | some id, .b i :: r, st => if i = id then go E N none r st else go E N (some id) r st
 | some id, .c _ :: r, st => go E N (some id) r st
 | some id, .o _ :: r, st => go E N (some id) r st
def aft (E : Nat → Model) (N : Nat) (r : List W) : Option (Out × St) → Option (Out × St)
 | some (.norm, st') => go E N none r st'
 | some (.exit id, st') => go E N (some id) r st'
 | some (.ret, st') => some (.ret, st')
 | none => none
def br (E : Nat → Model) (N : Nat) (b : Bool) (l : List W) (s : St) (l' : List W) (s' : St) : Option (Out × St) := match b with
 | true => go E N none l s
 | false => go E N none l' s'
def goI (E : Nat → Model) (N : Nat) (a b : C) (r : List W) (st : St) : Option S → Option (Out × St)
 | some (.one (.bool t)) => br E N t (.c a :: r) st (.c b :: r) st
 | _ => none
def goO (E : Nat → Model) (N : Nat) (r : List W) (st : St) (d : Option Nat) : Option (S × Hp) → Option (Out × St)
 | some (v, news) => if fresh st news then go E N none r { sl := (st.put d v).sl, hp := news ++ st.hp } else none
 | none => none
def goF (E : Nat → Model) (N : Nat) (r : List W) (st : St) : Option Blk → Option (Out × St)
 | none => go E N none r st
 | _ => none
def goF2 (E : Nat → Model) (N : Nat) (r : List W) (st : St) : Option Blk → Option Blk → Option (Out × St)
 | none, none => go E N none r st
 | _, _ => none
def goS (E : Nat → Model) (N : Nat) (r : List W) (st : St) (d : Option Nat) : Option (S × Hp) → Option (Out × St)
 | some (v, news) => go E N none r { sl := (st.put d v).sl, hp := news ++ st.hp }
 | none => none
def goE (E : Nat → Model) (N : Nat) (r : List W) (d : Option Nat) : Option (S × St) → Option (Out × St)
 | some (v, st) => go E N none r (st.put d v)
 | none => none
def goG (E : Nat → Model) (N : Nat) (o : IO) (want : Bool) (r : List W) (st : St) : Option S → Option (Out × St)
 | some (.one (.bool b)) => br E N (b == want) (.o o :: r) st r (st.put o.dst .undef)
 | some .undef => go E N none r (st.put o.dst .undef)
 | _ => none
def goK (E : Nat → Model) (N : Nat) (r : List W) : Option St → Option (Out × St)
 | some st => go E N none r st
 | none => none

section
variable {E : Nat → Model} {N : Nat} {r : List W} {st s s' : St}
theorem go_nil : go E N none [] st = some (.norm, st) := rfl
theorem go_b {id : Nat} : go E N none (.b id :: r) st = go E N none r st := rfl
theorem go_skip : go E N none (.c .skip :: r) st = go E N none r st := rfl
theorem go_ret : go E N none (.c .ret :: r) st = some (.ret, st) := rfl
theorem go_exit {id : Nat} : go E N none (.c (.exit id) :: r) st = go E N (some id) r st := rfl
theorem go_xnil {id : Nat} : go E N (some id) [] st = some (.exit id, st) := rfl
theorem go_xb {id i : Nat} : go E N (some id) (.b i :: r) st = if i = id then go E N none r st else go E N (some id) r st := rfl
theorem go_xc {id : Nat} {x : C} : go E N (some id) (.c x :: r) st = go E N (some id) r st := rfl
theorem go_xo {id : Nat} {x : IO} : go E N (some id) (.o x :: r) st = go E N (some id) r st := rfl
theorem go_seq {a b : C} : go E N none (.c (.seq a b) :: r) st = go E N none (.c a :: .c b :: r) st := by
 simp only [go, C.ev]
 cases h : a.ev E N st with
 | none => rfl
 | some p =>
  obtain ⟨o, st'⟩ := p
  cases o <;> rfl
theorem go_block {id : Nat} {a : C} : go E N none (.c (.block id a) :: r) st = go E N none (.c a :: .b id :: r) st := by
 simp only [go, C.ev]
 cases h : a.ev E N st with
 | none => rfl
 | some p =>
  obtain ⟨o, st'⟩ := p
  cases o with
  | norm => rfl
  | ret => rfl
  | exit i =>
   dsimp only
   by_cases hi : i = id
   ·subst hi; simp
   ·rw [if_neg hi, if_neg (fun e => hi e.symm)]
theorem go_steps : ∀ (ops : List IO) (st : St), (match steps E ops st with | some st' => go E N none r st' | none => none) = go E N none (ops.map .o ++ r) st
 | [], st => rfl
 | o :: q, st => by
  simp only [steps, List.map_cons, List.cons_append, go]
  cases h : step E o st with
  | none => rfl
  | some st' => exact go_steps q st'
theorem go_region {ops : List IO} {d : Bool} : go E N none (.c (.region ops d) :: r) st = go E N none (ops.map .o ++ r) st := by
 rw [← go_steps]
 simp only [go, C.ev]
 cases h : steps E ops st <;> rfl
theorem go_cond {c : X} {a b : C} : go E N none (.c (.cond c a b) :: r) st = goI E N a b r st (c.ev (look st.sl)) := by
 simp only [go, C.ev]
 cases h : c.ev (look st.sl) with
 | none => rfl
 | some s =>
  cases s with
  | one v =>
   cases v with
   | bool t => cases t <;> rfl
   | _ => rfl
  | _ => rfl
theorem go_keep {l : List Nat} {a : C} : go E N none (.c (.keep l a) :: r) st = goK E N (.c a :: r) (gcK l st) := by
 simp only [go, C.ev]
 cases h : gcK l st <;> rfl
theorem go_frz {l : List Nat} {a : C} : go E N none (.c (.frz l a) :: r) st = go E N none (.c a :: r) (frzL l st) := rfl
theorem go_loop {a : C} : go E N none (.c (.loop a) :: r) st = aft E N r (iter N (a.ev E N) st) := by
 simp only [go, C.ev]
 cases h : iter N (a.ev E N) st with
 | none => rfl
 | some p =>
  obtain ⟨o, st'⟩ := p
  cases o <;> rfl
theorem aft_norm : aft E N r (some (.norm, st)) = go E N none r st := rfl
theorem aft_exit {id : Nat} : aft E N r (some (.exit id, st)) = go E N (some id) r st := rfl
theorem aft_ret : aft E N r (some (.ret, st)) = some (.ret, st) := rfl
theorem go_o {d : Option Nat} {i : I} {fb an : List Nat} (h : i.eff = false) (hk : i.stk = none) : go E N none (.o ⟨d, i, none, fb, an⟩ :: r) st = goO E N r st d (ev E (d.getD 0) (vG fb st) (vH fb st) i) := by
 simp only [go, step, h, hk, Option.isSome_none, Bool.false_or, Bool.false_eq_true, if_false, core]
 cases h : ev E (d.getD 0) (vG fb st) (vH fb st) i with
 | none => rfl
 | some p =>
  obtain ⟨v, news⟩ := p
  simp only [goO]
  by_cases hf : fresh st news = true
  ·rw [if_pos hf, if_pos hf]
  ·rw [if_neg hf, if_neg hf]
theorem go_e {d : Option Nat} {i : I} {fb an : List Nat} (h : i.eff = true) : go E N none (.o ⟨d, i, none, fb, an⟩ :: r) st = goE E N r d (evE E (d.getD 0) st i) := by
 simp only [go, step, h, if_true]
 cases h : evE E (d.getD 0) st i with
 | none => rfl
 | some p => rfl
theorem go_s {d : Option Nat} {key : Option Nat} {n : Nat} {x y : X} {fb an : List Nat} : go E N none (.o ⟨d, .store key n x y, none, fb, an⟩ :: r) st = goS E N r st d (ev E (d.getD 0) (vG fb st) (vH fb st) (.store key n x y)) := by
 simp only [go, step, I.eff, I.stk, Option.isSome_some, Bool.true_or, Bool.false_eq_true, if_false, core, if_true]
 cases h : ev E (d.getD 0) (vG fb st) (vH fb st) (.store key n x y) with
 | none => rfl
 | some p => rfl
theorem go_g {d : Option Nat} {i : I} {t : Nat} {want : Bool} {fb an : List Nat} (h : i.eff = false) (hk : i.stk = none) : go E N none (.o ⟨d, i, some (t, want), fb, an⟩ :: r) st = goG E N ⟨d, i, none, fb, an⟩ want r st (vG fb st t) := by
 simp only [go, step, h, hk, Option.isSome_none, Bool.false_or, Bool.false_eq_true, if_false, core]
 cases hq : vG fb st t with
 | none => rfl
 | some s =>
  cases s with
  | one v =>
   cases v with
   | bool b =>
    simp only [goG, br]
    by_cases hb : b = want
    ·rw [if_pos hb]
     rw [show (b == want) = true by simp [hb]]
     show _ = go E N none (.o ⟨d, i, none, fb, an⟩ :: r) st
     rw [go_o h hk]
     cases hev : ev E (d.getD 0) (vG fb st) (vH fb st) i with
     | none => rfl
     | some p =>
      obtain ⟨v, news⟩ := p
      simp only [goO]
      by_cases hf : fresh st news = true
      ·rw [if_pos hf, if_pos hf]
      ·rw [if_neg hf, if_neg hf]
    ·rw [if_neg hb]
     rw [show (b == want) = false by simp [hb]]
     simp [fresh]
     cases d <;> rfl
   | _ => rfl
  | undef => simp [goG, fresh]; cases d <;> rfl
  | _ => rfl
theorem br_t {l l' : List W} : br E N true l s l' s' = go E N none l s := rfl
theorem br_f {l l' : List W} : br E N false l s l' s' = go E N none l' s' := rfl
theorem goI_b {a b : C} {t : Bool} : goI E N a b r st (some (.one (.bool t))) = br E N t (.c a :: r) st (.c b :: r) st := rfl
theorem goG_t {o : IO} {b : Bool} : goG E N o true r st (some (.one (.bool b))) = br E N b (.o o :: r) st r (st.put o.dst .undef) := by cases b <;> rfl
theorem goG_f {o : IO} {b : Bool} : goG E N o false r st (some (.one (.bool b))) = br E N b r (st.put o.dst .undef) (.o o :: r) st := by cases b <;> rfl
theorem goG_u {o : IO} {w : Bool} : goG E N o w r st (some .undef) = go E N none r (st.put o.dst .undef) := rfl
theorem goO_0 {d : Option Nat} {v : S} : goO E N r st d (some (v, [])) = go E N none r (st.put d v) := by cases d <;> rfl
theorem goO_1 {d : Option Nat} {v : S} {k : Nat} {B : Blk} : goO E N r st d (some (v, [(k, B)])) = goF E N r { sl := (st.put d v).sl, hp := (k, B) :: st.hp } (look st.hp k) := by
 cases h : look st.hp k <;> simp [goO, fresh, h, goF]
theorem goO_2 {d : Option Nat} {v : S} {k k' : Nat} {B B' : Blk} : goO E N r st d (some (v, [(k, B), (k', B')])) = goF2 E N r { sl := (st.put d v).sl, hp := (k, B) :: (k', B') :: st.hp } (look st.hp k) (look st.hp k') := by
 cases h : look st.hp k <;> cases h' : look st.hp k' <;> simp [goO, fresh, h, h', goF2]
theorem goF_n : goF E N r st none = go E N none r st := rfl
theorem goF2_n : goF2 E N r st none none = go E N none r st := rfl
theorem goS_s {d : Option Nat} {v : S} {k : Nat} {B : Blk} : goS E N r st d (some (v, [(k, B)])) = go E N none r { sl := (st.put d v).sl, hp := (k, B) :: st.hp } := rfl
theorem goE_s {d : Option Nat} {v : S} : goE E N r d (some (v, st)) = go E N none r (st.put d v) := rfl
theorem goK_s : goK E N r (some st) = go E N none r st := rfl
theorem put_some {d : Nat} {v : S} {a : List (Nat × S)} {b : List (Nat × Blk)} : St.put ⟨a, b⟩ (some d) v = ⟨(d, v) :: a, b⟩ := rfl
theorem put_none {v : S} : st.put none v = st := rfl
theorem vG_nil : vG [] st = look st.sl := by funext t; rfl
theorem vH_nil : vH [] st = look st.hp := by funext t; rfl
theorem look_hit {α : Type} {k : Nat} {v : α} {l : List (Nat × α)} : look ((k, v) :: l) k = some v := by simp [look]
theorem look_miss {α : Type} {k n : Nat} {v : α} {l : List (Nat × α)} (h : ¬ k = n) : look ((k, v) :: l) n = look l n := by simp [look, h]
theorem look_end {α : Type} {n : Nat} : look ([] : List (Nat × α)) n = none := rfl
end
def finG (m : Nat) (fd : F) : Option (Out × St) → Option (S × Hp)
 | some (.norm, st) => match Rs.ev st fd.res with
  | some l => hand m (look st.hp) l
  | none => none
 | some (.ret, st) => match Rs.ev st fd.res with
  | some l => hand m (look st.hp) l
  | none => none
 | _ => none
abbrev fin (fd : F) := finG 0 fd
def closed : Nat → List S → Bool
 | 0, [] => true
 | n + 1, x :: r => (match x with
  | .tup _ => false
  | _ => true) && closed n r
 | _, _ => false
theorem closed_split : ∀ {n : Nat} {args : List S}, closed n args = true → splitA args = some (args, []) ∧ args.length = n
 | 0, [], _ => ⟨rfl, rfl⟩
 | n + 1, x :: r, h => by
  simp only [closed, Bool.and_eq_true] at h
  obtain ⟨h1, h2⟩ := closed_split h.2
  cases x with
  | tup l => cases h.1
  | undef => exact ⟨by simp only [splitA, h1], by simp [h2]⟩
  | one v => exact ⟨by simp only [splitA, h1], by simp [h2]⟩
  | agg vs => exact ⟨by simp only [splitA, h1], by simp [h2]⟩
 | 0, _ :: _, h => by cases h
 | _ + 1, [], h => by cases h
theorem F_evo {E : Nat → Model} {N : Nat} {fd : F} {args as : List S} {h0 : Hp} (hs : splitA args = some (as, h0)) (h : as.length = fd.np) (h6 : h0.length ≤ 64) : fd.ev E N args = finG h0.length fd (go E N none [.c fd.body] ⟨params 0 as, h0⟩) := by
 unfold F.ev
 rw [hs]
 dsimp only
 rw [if_pos ⟨h, h6⟩]
 simp only [go]
 cases h : fd.body.ev E N ⟨params 0 as, h0⟩ with
 | none => rfl
 | some p =>
  obtain ⟨o, st⟩ := p
  cases o <;> rfl
theorem F_ev {E : Nat → Model} {N : Nat} {fd : F} {args : List S} (h : closed fd.np args = true) : fd.ev E N args = fin fd (go E N none [.c fd.body] ⟨params 0 args, []⟩) :=
 F_evo (closed_split h).1 (closed_split h).2 (by simp)
def handO (m : Nat) (h : Nat → Option Blk) : Option (List S) → Option (S × Hp)
 | some l => hand m h l
 | none => none
theorem fin_ret {m : Nat} {fd : F} {st : St} : finG m fd (some (.ret, st)) = handO m (look st.hp) (Rs.ev st fd.res) := by
 simp only [finG]; cases Rs.ev st fd.res <;> rfl
theorem fin_norm {m : Nat} {fd : F} {st : St} : finG m fd (some (.norm, st)) = handO m (look st.hp) (Rs.ev st fd.res) := by
 simp only [finG]; cases Rs.ev st fd.res <;> rfl
theorem handO_s {m : Nat} {h : Nat → Option Blk} {l : List S} : handO m h (some l) = hand m h l := rfl
def goL (E : Nat → Model) (N : Nat) (a : C) (n : Nat) : Option (Out × St) → Option (Out × St)
 | some (.norm, st') => iter n (a.ev E N) st'
 | r => r
theorem ev_go {E : Nat → Model} {N : Nat} {a : C} {st : St} : a.ev E N st = go E N none [.c a] st := by
 simp only [go]
 cases h : a.ev E N st with
 | none => rfl
 | some p =>
  obtain ⟨o, st'⟩ := p
  cases o <;> rfl
theorem iter_s {E : Nat → Model} {N : Nat} {a : C} {n : Nat} {st : St} : iter (n + 1) (a.ev E N) st = goL E N a n (go E N none [.c a] st) := by
 rw [← ev_go]
 simp only [iter]
 cases h : a.ev E N st with
 | none => rfl
 | some p =>
  obtain ⟨o, st'⟩ := p
  cases o <;> rfl
theorem goL_n {E : Nat → Model} {N : Nat} {a : C} {n : Nat} {st : St} : goL E N a n (some (.norm, st)) = iter n (a.ev E N) st := rfl
theorem goL_x {E : Nat → Model} {N : Nat} {a : C} {n id : Nat} {st : St} : goL E N a n (some (.exit id, st)) = some (.exit id, st) := rfl
theorem goL_r {E : Nat → Model} {N : Nat} {a : C} {n : Nat} {st : St} : goL E N a n (some (.ret, st)) = some (.ret, st) := rfl
theorem fin_cases2 {m : Nat} {fd : F} {E : Nat → Model} {N : Nat} {a : C} {n : Nat} {r : List W} {s s' : St} {b : Bool} {l l' : List W} {z : Option (S × Hp)} (h1 : b = true → finG m fd (aft E N r (goL E N a n (go E N none l s))) = z) (h2 : b = false → finG m fd (aft E N r (goL E N a n (go E N none l' s'))) = z) : finG m fd (aft E N r (goL E N a n (br E N b l s l' s'))) = z := by
 cases b with
 | true => exact h1 rfl
 | false => exact h2 rfl
theorem loopK {β : Type} {E : Nat → Model} {N : Nat} {L : List Nat} {a : C} (K : Option (Out × St) → β) (NF : Nat → St) (z : Nat → β) (stop : Nat)
  (hround : ∀ i n, i ≤ stop → (i < stop → ∀ st, gcK L st = some (NF (i + 1)) → K (iter n ((C.keep L a).ev E N) st) = z (i + 1)) → K (goL E N (.keep L a) n (go E N none [.c a] (NF i))) = z i) :
  ∀ m i n st, i + m = stop → m < n → gcK L st = some (NF i) → K (iter n ((C.keep L a).ev E N) st) = z i := by
 intro m
 induction m with
 | zero =>
  intro i n st him hn hk
  obtain ⟨n, rfl⟩ : ∃ k, n = k + 1 := ⟨n - 1, by omega⟩
  rw [iter_s, go_keep, hk, goK_s]
  exact hround i n (by omega) (fun h => by omega)
 | succ m ih =>
  intro i n st him hn hk
  obtain ⟨n, rfl⟩ : ∃ k, n = k + 1 := ⟨n - 1, by omega⟩
  rw [iter_s, go_keep, hk, goK_s]
  exact hround i n (by omega) (fun h st' hk' => ih (i + 1) n st' (by omega) (by omega) hk')
theorem loopI {β : Type} {E : Nat → Model} {N : Nat} {L : List Nat} {a : C} (K : Option (Out × St) → β) (I : Nat → St → Prop) (z : β) (stop : Nat)
  (hround : ∀ i n s, i ≤ stop → I i s → (i < stop → ∀ st s', gcK L st = some s' → I (i + 1) s' → K (iter n ((C.keep L a).ev E N) st) = z) → K (goL E N (.keep L a) n (go E N none [.c a] s)) = z) :
  ∀ m i n st s, i + m = stop → m < n → gcK L st = some s → I i s → K (iter n ((C.keep L a).ev E N) st) = z := by
 intro m
 induction m with
 | zero =>
  intro i n st s him hn hk hI
  obtain ⟨n, rfl⟩ : ∃ k, n = k + 1 := ⟨n - 1, by omega⟩
  rw [iter_s, go_keep, hk, goK_s]
  exact hround i n s (by omega) hI (fun h => by omega)
 | succ m ih =>
  intro i n st s him hn hk hI
  obtain ⟨n, rfl⟩ : ∃ k, n = k + 1 := ⟨n - 1, by omega⟩
  rw [iter_s, go_keep, hk, goK_s]
  exact hround i n s (by omega) hI (fun h st' s' hk' hI' => ih (i + 1) n st' s' (by omega) (by omega) hk' hI')
theorem fin_cases {m : Nat} {fd : F} {E : Nat → Model} {N : Nat} {s s' : St} {b : Bool} {l l' : List W} {z : Option (S × Hp)} (h1 : b = true → finG m fd (go E N none l s) = z) (h2 : b = false → finG m fd (go E N none l' s') = z) : finG m fd (br E N b l s l' s') = z := by
 cases b with
 | true => exact h1 rfl
 | false => exact h2 rfl
end Go.Proofs.YtdflglehippoiaaGreatDoorR
namespace Go.Proofs.YtdflglehippoiaaGreatDoorR
open Go Go.RowKit

def T (ext : List (Nat × Model)) (tab : List (Nat × F)) (N : Nat) : Nat → Nat → Model
 | 0, _ => fun _ => none
 | d + 1, f => match look ext f with
  | some m => m
  | none => match look tab f with
   | some fd => fd.ev (T ext tab N d) N
   | none => fun _ => none
theorem T_ok {P : Program} {ext : List (Nat × Model)} {tab : List (Nat × F)} {N : Nat} (hx : ∀ p ∈ ext, Sound P p.1 p.2) (ht : ∀ p ∈ tab, ∀ E : Nat → Model, (∀ f, Sound P f (E f)) → Sound P p.1 (p.2.ev E N)) : ∀ d f, Sound P f (T ext tab N d f)
 | 0, f => Sound.no
 | d + 1, f => by
  unfold T
  split
  ·rename_i m hm; exact hx (f, m) (look_mem _ _ _ hm)
  ·split
   ·rename_i fd hfd; exact ht (f, fd) (look_mem _ _ _ hfd) _ (T_ok hx ht d)
   ·exact Sound.no
def T1 (base : Nat → Nat → Model) (k : Nat) (fd : F) (N : Nat) : Nat → Nat → Model
 | 0, _ => fun _ => none
 | d + 1, f => if f = k then fd.ev (base d) N else fun _ => none
theorem T1_ok {P : Program} {base : Nat → Nat → Model} {k : Nat} {fd : F} {N : Nat} (hb : ∀ d f, Sound P f (base d f)) (ht : ∀ E : Nat → Model, (∀ f, Sound P f (E f)) → Sound P k (fd.ev E N)) : ∀ d f, Sound P f (T1 base k fd N d f)
 | 0, f => Sound.no
 | d + 1, f => by
  show Sound P f (if f = k then fd.ev (base d) N else fun _ => none)
  by_cases h : f = k
  ·rw [if_pos h]; subst h; exact ht _ (hb d)
  ·rw [if_neg h]; exact Sound.no
theorem all_nil {α : Type} {p : α → Prop} : ∀ x ∈ ([] : List α), p x := fun x h => by cases h
theorem all_cons {α : Type} {p : α → Prop} {a : α} {l : List α} (h : p a) (hl : ∀ x ∈ l, p x) : ∀ x ∈ a :: l, p x := fun x hx => by
 rcases List.mem_cons.1 hx with rfl | hx
 ·exact h
 ·exact hl x hx
def cloneM (el e by_ : Nat) : Model
 | [.one (.row xs)] => if xs.all (·.length == e) = true ∧ xs.length * by_ ≤ 140737488355328 then some (.one (.sl 0 0 xs.length), [(0, .rows el e xs)]) else none
 | _ => none
theorem clone_ok {P : Program} {f el e by_ : Nat} {r : Nat → S × Hp} (h1 : Sound P f fun
  | [.one (.row (x :: xs))] => if (x :: xs).all (·.length == e) = true ∧ (x :: xs).length * by_ ≤ 140737488355328 then some (.one (.sl 0 0 (x :: xs).length), [(0, .rows el e (x :: xs))]) else none
  | _ => none) (h2 : Sound P f fun
  | [.one (.row [])] => some (.one (.sl 0 0 0), [(0, .rows el e [])])
  | _ => none) : Sound P f (cloneM el e by_) := by
 refine (h1.or h2).of_le fun args r h => ?_
 unfold cloneM at h
 split at h
 ·rename_i xs
  cases xs with
  | nil => simpa using h
  | cons x xs =>
   split at h
   ·rename_i hc
    cases h
    simp only
    rw [if_pos hc]
   ·cases h
 ·cases h

abbrev iV (n : Int) : S := .one (.int .i64 n)
abbrev bV (b : Bool) : S := .one (.bool b)
abbrev eI (n : Int) : List V := [.int .i64 n]
abbrev rI (l : List Int) : V := .row (l.map eI)
theorem get_map {α β : Type} {f : α → β} {l : List α} {i : Nat} {a : α} (h : l[i]? = some a) : (l.map f)[i]? = some (f a) := by rw [List.getElem?_map, h]; rfl
end Go.Proofs.YtdflglehippoiaaGreatDoorR
namespace Go.Proofs.YtdflglehippoiaaGreatDoorR
open Go Go.RowKit

def ans : Option (S × Hp) → Option S
 | some (r, hp) => if Hp.ok64 hp then r.purT (look hp) else none
 | none => none
def callF : List Nat → Option (S × Hp) → Option (S × Hp)
 | m, some (r, hp) =>
  if m = [] ∨ (r.self && Hp.self hp) = true then
   if Hp.ok64 hp then match r.purT (look hp) with
    | some r' => some (r', [])
    | none => none
   else none
  else none
 | _, none => none
def callP (E : Nat → Model) (f : Nat) (m : List Nat) : Option (List S) → Option (S × Hp)
 | some as => callF m (E f as)
 | none => none
def callO : List Nat → Nat → Option (S × Hp) → Option (S × Hp)
 | m, d, some (r, hp) => if m = [] ∨ (r.self && Hp.self hp) = true then if Hp.ok64 hp then some (r.ren d, Hp.ren d hp) else none else none
 | _, _, none => none
def callQ (E : Nat → Model) (f : Nat) (m : List Nat) (d : Nat) : Option (List S) → Option (S × Hp)
 | some as => callO m d (E f as)
 | none => none
def ret0 : Option S → Option (S × Hp)
 | some r => some (r, [])
 | none => none
theorem callI_f {E : Nat → Model} {d : Nat} {h : Nat → Option Blk} {f : Nat} {as : List S} : callI E d h false f as = callP E f (mentS as) (purS h as) := by
 unfold callI callP callF
 cases purS h as with
 | none => rfl
 | some as' => cases hE : E f as' with
  | none => simp [hE]
  | some p => obtain ⟨r, hp⟩ := p; simp only [hE]; try rfl
theorem callI_t {E : Nat → Model} {d : Nat} {h : Nat → Option Blk} {f : Nat} {as : List S} : callI E d h true f as = callQ E f (mentS as) d (purS h as) := by
 unfold callI callQ callO
 cases purS h as with
 | none => rfl
 | some as' => cases hE : E f as' with
  | none => simp [hE]
  | some p => obtain ⟨r, hp⟩ := p; simp only [hE]; try rfl
theorem callP_s {E : Nat → Model} {f : Nat} {m : List Nat} {as : List S} : callP E f m (some as) = callF m (E f as) := rfl
theorem callQ_s {E : Nat → Model} {f : Nat} {m : List Nat} {d : Nat} {as : List S} : callQ E f m d (some as) = callO m d (E f as) := rfl
theorem callF_nil {x : Option (S × Hp)} : callF [] x = ret0 (ans x) := by
 cases x with
 | none => rfl
 | some p =>
  obtain ⟨r, hp⟩ := p
  simp only [callF, ans, true_or, if_true]
  cases Hp.ok64 hp with
  | false => rfl
  | true => simp only [if_true]; cases r.purT (look hp) <;> rfl
theorem callF_cons {m : Nat} {l : List Nat} {r : S} {hp : Hp} : callF (m :: l) (some (r, hp)) = if (r.self && Hp.self hp) = true then ret0 (ans (some (r, hp))) else none := by
 rw [← callF_nil]
 simp [callF]
theorem callO_nil {d : Nat} {r : S} {hp : Hp} : callO [] d (some (r, hp)) = if Hp.ok64 hp then some (r.ren d, Hp.ren d hp) else none := by simp [callO]
theorem callO_cons {d m : Nat} {l : List Nat} {r : S} {hp : Hp} : callO (m :: l) d (some (r, hp)) = if (r.self && Hp.self hp) = true then if Hp.ok64 hp then some (r.ren d, Hp.ren d hp) else none else none := by simp [callO]
theorem ans_s {r : S} {hp : Hp} : ans (some (r, hp)) = if Hp.ok64 hp then r.purT (look hp) else none := rfl
theorem ret0_s {r : S} : ret0 (some r) = some (r, []) := rfl
theorem go_eg {E : Nat → Model} {N : Nat} {r : List W} {st : St} {d : Option Nat} {i : I} {t : Nat} {want : Bool} {fb an : List Nat} (h : i.eff = true) : go E N none (.o ⟨d, i, some (t, want), fb, an⟩ :: r) st = goG E N ⟨d, i, none, fb, an⟩ want r st (look st.sl t) := by
 simp only [go, step, h, if_true]
 cases hq : look st.sl t with
 | none => rfl
 | some s =>
  cases s with
  | one v =>
   cases v with
   | bool b =>
    simp only [goG, br]
    by_cases hb : b = want
    ·rw [if_pos hb]
     rw [show (b == want) = true by simp [hb]]
     show _ = go E N none (.o ⟨d, i, none, fb, an⟩ :: r) st
     rw [go_e h]
     cases hev : evE E (d.getD 0) st i with
     | none => rfl
     | some p => rfl
    ·rw [if_neg hb]
     rw [show (b == want) = false by simp [hb]]
   | _ => rfl
  | undef => rfl
  | _ => rfl
theorem bq1 : (false == false) = true := rfl
theorem bq2 : (true == true) = true := rfl
theorem bq3 : (false == true) = false := rfl
theorem bq4 : (true == false) = false := rfl
theorem cast0 : ((0 : Nat) : Int) = 0 := rfl
theorem cast1 : ((1 : Nat) : Int) = 1 := rfl
theorem cz {n : Nat} : (0 ≤ (n : Int)) = True := by simp
theorem cz1 {n : Nat} : (0 < ((n + 1 : Nat) : Int)) = True := eq_true (by omega)
theorem cz2 {n : Nat} : (((n + 1 : Nat) : Int) = 0) = False := eq_false (by omega)
theorem cz3 {n : Nat} : (1 ≤ ((n + 1 : Nat) : Int)) = True := eq_true (by omega)
theorem cz4 {n : Nat} : ((1 : Int) = ((n + 1 + 1 : Nat) : Int)) = False := eq_false (by omega)
theorem vG_e {fb : List Nat} {st : St} {t : Nat} : vG fb st t = if fb.contains t = true then none else look st.sl t := rfl
theorem vH_e {fb : List Nat} {st : St} {s : Nat} : vH fb st s = if fb.contains (s / 64) = true then none else look st.hp s := rfl
end Go.Proofs.YtdflglehippoiaaGreatDoorR
namespace Go.Proofs.YtdflglehippoiaaGreatDoorR
open Go Go.RowKit Go.ChangeShapes Go.WideShapes

def old (w : World) (b : Nat) : Prop := b < w.heap.size
theorem rs_one {w : World} {v : V} {u : Value} (h : Rep w (old w) v u) : RS0 w (old w) (fun _ => none) (.one v) u := h.rv
theorem rss_nil {w : World} {ok : Nat → Prop} {loc : Locs} : RSs w ok loc [] [] := ⟨rfl, fun j s u h => by simp at h⟩
theorem rss_cons {w : World} {ok : Nat → Prop} {loc : Locs} {a : S} {v : Value} {as : List S} {vs : List Value} (h : RS0 w ok loc a v) (hr : RSs w ok loc as vs) : RSs w ok loc (a :: as) (v :: vs) :=
 ⟨by simp [hr.1], fun j s u h1 h2 => by
  cases j with
  | zero => cases h1; cases h2; exact h
  | succ j => exact hr.2 j s u h1 h2⟩
theorem rss_noTup {w : World} {ok : Nat → Prop} {loc : Locs} : ∀ {as : List S} {vs : List Value}, RSs w ok loc as vs → splitA as = some (as, [])
 | [], _, _ => rfl
 | x :: r, [], h => by cases h.1
 | x :: r, v :: q, h => by
  have h1 : splitA r = some (r, []) := rss_noTup (vs := q) ⟨by simpa using h.1, fun j s u a1 a2 => h.2 (j + 1) s u (by simpa using a1) (by simpa using a2)⟩
  cases x with
  | tup l => exact (h.2 0 _ v rfl rfl).elim
  | undef => simp only [splitA, h1]
  | one v => simp only [splitA, h1]
  | agg vs => simp only [splitA, h1]
theorem law_true {P : Program} {f : FuncId} {m : Model} (h : Sound P f m) {as : List S} (hm : m as = some (bV true, [])) {w : World} {vs : Array Value} (hg : GLW w) (hr : RSs w (old w) (fun _ => none) as vs.toList) :
  Calls P f vs w fun e w' => e = .returned (.bool true) ∧ Below w.heap.size w w' := by
 refine (h.closed hm (rss_noTup hr) (w := w) (ok0 := old w) hg (fun b hb => hb) hr).2.mono fun e w' ⟨v, loc, he, hb, _, hv⟩ => ?_
 cases hv
 exact ⟨he, hb⟩
end Go.Proofs.YtdflglehippoiaaGreatDoorR
namespace Go.Proofs.YtdflglehippoiaaGreatDoorR
open Go Go.RowKit
theorem oo {E : Nat → Model} {N : Nat} : (∀ (a_0 : X) (r : List W) (st : St) (d : Option Nat) (fb an : List Nat), go E N none (.o ⟨d, (.mov a_0), none, fb, an⟩ :: r) st = goO E N r st d (ev E (d.getD 0) (vG fb st) (vH fb st) (.mov a_0))) ∧
  (∀ (a_0 : Nat) (a_1 : Nat) (a_2 : Nat) (r : List W) (st : St) (d : Option Nat) (fb an : List Nat), go E N none (.o ⟨d, (.nilsl a_0 a_1 a_2), none, fb, an⟩ :: r) st = goO E N r st d (ev E (d.getD 0) (vG fb st) (vH fb st) (.nilsl a_0 a_1 a_2))) ∧
  (∀ (a_0 : X) (a_1 : X) (a_2 : X) (r : List W) (st : St) (d : Option Nat) (fb an : List Nat), go E N none (.o ⟨d, (.pick a_0 a_1 a_2), none, fb, an⟩ :: r) st = goO E N r st d (ev E (d.getD 0) (vG fb st) (vH fb st) (.pick a_0 a_1 a_2))) ∧
  (∀ (a_0 : BinOp) (a_1 : X) (a_2 : X) (r : List W) (st : St) (d : Option Nat) (fb an : List Nat), go E N none (.o ⟨d, (.bin a_0 a_1 a_2), none, fb, an⟩ :: r) st = goO E N r st d (ev E (d.getD 0) (vG fb st) (vH fb st) (.bin a_0 a_1 a_2))) ∧
  (∀ (a_0 : Bool) (a_1 : X) (a_2 : X) (r : List W) (st : St) (d : Option Nat) (fb an : List Nat), go E N none (.o ⟨d, (.eqb a_0 a_1 a_2), none, fb, an⟩ :: r) st = goO E N r st d (ev E (d.getD 0) (vG fb st) (vH fb st) (.eqb a_0 a_1 a_2))) ∧
  (∀ (a_0 : Bool) (a_1 : List Bool) (a_2 : X) (a_3 : X) (r : List W) (st : St) (d : Option Nat) (fb an : List Nat), go E N none (.o ⟨d, (.eqs a_0 a_1 a_2 a_3), none, fb, an⟩ :: r) st = goO E N r st d (ev E (d.getD 0) (vG fb st) (vH fb st) (.eqs a_0 a_1 a_2 a_3))) ∧
  (∀ (a_0 : Bool) (a_1 : X) (r : List W) (st : St) (d : Option Nat) (fb an : List Nat), go E N none (.o ⟨d, (.isnil a_0 a_1), none, fb, an⟩ :: r) st = goO E N r st d (ev E (d.getD 0) (vG fb st) (vH fb st) (.isnil a_0 a_1))) ∧
  (∀ (a_0 : UnOp) (a_1 : X) (r : List W) (st : St) (d : Option Nat) (fb an : List Nat), go E N none (.o ⟨d, (.un a_0 a_1), none, fb, an⟩ :: r) st = goO E N r st d (ev E (d.getD 0) (vG fb st) (vH fb st) (.un a_0 a_1))) ∧
  (∀ (a_0 : IntKind) (a_1 : X) (r : List W) (st : St) (d : Option Nat) (fb an : List Nat), go E N none (.o ⟨d, (.conv a_0 a_1), none, fb, an⟩ :: r) st = goO E N r st d (ev E (d.getD 0) (vG fb st) (vH fb st) (.conv a_0 a_1))) ∧
  (∀ (a_0 : List V) (r : List W) (st : St) (d : Option Nat) (fb an : List Nat), go E N none (.o ⟨d, (.alloc a_0), none, fb, an⟩ :: r) st = goO E N r st d (ev E (d.getD 0) (vG fb st) (vH fb st) (.alloc a_0))) ∧
  (∀ (a_0 : X) (r : List W) (st : St) (d : Option Nat) (fb an : List Nat), go E N none (.o ⟨d, (.box a_0), none, fb, an⟩ :: r) st = goO E N r st d (ev E (d.getD 0) (vG fb st) (vH fb st) (.box a_0))) ∧
  (∀ (a_0 : List V) (a_1 : List (Nat × Nat × X)) (r : List W) (st : St) (d : Option Nat) (fb an : List Nat), go E N none (.o ⟨d, (.build a_0 a_1), none, fb, an⟩ :: r) st = goO E N r st d (ev E (d.getD 0) (vG fb st) (vH fb st) (.build a_0 a_1))) ∧
  (∀ (a_0 : Nat) (a_1 : Nat) (a_2 : Nat) (a_3 : List V) (a_4 : List (Nat × X)) (r : List W) (st : St) (d : Option Nat) (fb an : List Nat), go E N none (.o ⟨d, (.bsl a_0 a_1 a_2 a_3 a_4), none, fb, an⟩ :: r) st = goO E N r st d (ev E (d.getD 0) (vG fb st) (vH fb st) (.bsl a_0 a_1 a_2 a_3 a_4))) ∧
  (∀ (a_0 : Bool) (a_1 : Nat) (a_2 : X) (r : List W) (st : St) (d : Option Nat) (fb an : List Nat), go E N none (.o ⟨d, (.load a_0 a_1 a_2), none, fb, an⟩ :: r) st = goO E N r st d (ev E (d.getD 0) (vG fb st) (vH fb st) (.load a_0 a_1 a_2))) ∧
  (∀ (a_0 : X) (r : List W) (st : St) (d : Option Nat) (fb an : List Nat), go E N none (.o ⟨d, (.nck a_0), none, fb, an⟩ :: r) st = goO E N r st d (ev E (d.getD 0) (vG fb st) (vH fb st) (.nck a_0))) ∧
  (∀ (a_0 : Nat) (a_1 : Nat) (a_2 : Nat) (a_3 : List V) (a_4 : X) (a_5 : X) (r : List W) (st : St) (d : Option Nat) (fb an : List Nat), go E N none (.o ⟨d, (.mks a_0 a_1 a_2 a_3 a_4 a_5), none, fb, an⟩ :: r) st = goO E N r st d (ev E (d.getD 0) (vG fb st) (vH fb st) (.mks a_0 a_1 a_2 a_3 a_4 a_5))) ∧
  (∀ (a_0 : Nat) (a_1 : X) (a_2 : Option X) (a_3 : Option X) (r : List W) (st : St) (d : Option Nat) (fb an : List Nat), go E N none (.o ⟨d, (.cut a_0 a_1 a_2 a_3), none, fb, an⟩ :: r) st = goO E N r st d (ev E (d.getD 0) (vG fb st) (vH fb st) (.cut a_0 a_1 a_2 a_3))) ∧
  (∀ (a_0 : Nat) (a_1 : X) (r : List W) (st : St) (d : Option Nat) (fb an : List Nat), go E N none (.o ⟨d, (.fad a_0 a_1), none, fb, an⟩ :: r) st = goO E N r st d (ev E (d.getD 0) (vG fb st) (vH fb st) (.fad a_0 a_1))) ∧
  (∀ (a_0 : Bool) (a_1 : Nat) (a_2 : Nat) (a_3 : X) (r : List W) (st : St) (d : Option Nat) (fb an : List Nat), go E N none (.o ⟨d, (.fld a_0 a_1 a_2 a_3), none, fb, an⟩ :: r) st = goO E N r st d (ev E (d.getD 0) (vG fb st) (vH fb st) (.fld a_0 a_1 a_2 a_3))) ∧
  (∀ (a_0 : Nat) (a_1 : X) (a_2 : X) (r : List W) (st : St) (d : Option Nat) (fb an : List Nat), go E N none (.o ⟨d, (.iad a_0 a_1 a_2), none, fb, an⟩ :: r) st = goO E N r st d (ev E (d.getD 0) (vG fb st) (vH fb st) (.iad a_0 a_1 a_2))) ∧
  (∀ (a_0 : Nat) (a_1 : Nat) (a_2 : X) (a_3 : X) (r : List W) (st : St) (d : Option Nat) (fb an : List Nat), go E N none (.o ⟨d, (.iada a_0 a_1 a_2 a_3), none, fb, an⟩ :: r) st = goO E N r st d (ev E (d.getD 0) (vG fb st) (vH fb st) (.iada a_0 a_1 a_2 a_3))) ∧
  (∀ (a_0 : Bool) (a_1 : Nat) (a_2 : Nat) (a_3 : X) (a_4 : X) (r : List W) (st : St) (d : Option Nat) (fb an : List Nat), go E N none (.o ⟨d, (.idx a_0 a_1 a_2 a_3 a_4), none, fb, an⟩ :: r) st = goO E N r st d (ev E (d.getD 0) (vG fb st) (vH fb st) (.idx a_0 a_1 a_2 a_3 a_4))) ∧
  (∀ (a_0 : X) (a_1 : Nat) (r : List W) (st : St) (d : Option Nat) (fb an : List Nat), go E N none (.o ⟨d, (.ext a_0 a_1), none, fb, an⟩ :: r) st = goO E N r st d (ev E (d.getD 0) (vG fb st) (vH fb st) (.ext a_0 a_1))) ∧
  (∀ (a_0 : Bool) (a_1 : Nat) (a_2 : List X) (r : List W) (st : St) (d : Option Nat) (fb an : List Nat), go E N none (.o ⟨d, (.call a_0 a_1 a_2), none, fb, an⟩ :: r) st = goO E N r st d (ev E (d.getD 0) (vG fb st) (vH fb st) (.call a_0 a_1 a_2))) ∧
  (∀ (a_0 : Bool) (a_1 : X) (a_2 : List X) (r : List W) (st : St) (d : Option Nat) (fb an : List Nat), go E N none (.o ⟨d, (.callv a_0 a_1 a_2), none, fb, an⟩ :: r) st = goO E N r st d (ev E (d.getD 0) (vG fb st) (vH fb st) (.callv a_0 a_1 a_2))) ∧
  (∀ (a_0 : X) (r : List W) (st : St) (d : Option Nat) (fb an : List Nat), go E N none (.o ⟨d, (.len a_0), none, fb, an⟩ :: r) st = goO E N r st d (ev E (d.getD 0) (vG fb st) (vH fb st) (.len a_0))) ∧
  (∀ (a_0 : X) (a_1 : X) (r : List W) (st : St) (d : Option Nat) (fb an : List Nat), go E N none (.o ⟨d, (.mx a_0 a_1), none, fb, an⟩ :: r) st = goO E N r st d (ev E (d.getD 0) (vG fb st) (vH fb st) (.mx a_0 a_1))) ∧
  (∀ (a_0 : X) (a_1 : X) (r : List W) (st : St) (d : Option Nat) (fb an : List Nat), go E N none (.o ⟨d, (.mn a_0 a_1), none, fb, an⟩ :: r) st = goO E N r st d (ev E (d.getD 0) (vG fb st) (vH fb st) (.mn a_0 a_1))) ∧
  (∀ (a_0 : Nat) (a_1 : List X) (r : List W) (st : St) (d : Option Nat) (fb an : List Nat), go E N none (.o ⟨d, (.mkf a_0 a_1), none, fb, an⟩ :: r) st = goO E N r st d (ev E (d.getD 0) (vG fb st) (vH fb st) (.mkf a_0 a_1))) ∧
  (∀ (a_0 : X) (r : List W) (st : St) (d : Option Nat) (fb an : List Nat), go E N none (.o ⟨d, (.kln a_0), none, fb, an⟩ :: r) st = goO E N r st d (ev E (d.getD 0) (vG fb st) (vH fb st) (.kln a_0))) ∧
  (∀ (a_0 : X) (a_1 : X) (r : List W) (st : St) (d : Option Nat) (fb an : List Nat), go E N none (.o ⟨d, (.kct a_0 a_1), none, fb, an⟩ :: r) st = goO E N r st d (ev E (d.getD 0) (vG fb st) (vH fb st) (.kct a_0 a_1))) ∧
  (∀ (a_0 : Nat) (a_1 : Nat) (a_2 : Nat) (a_3 : List V) (a_4 : X) (a_5 : X) (r : List W) (st : St) (d : Option Nat) (fb an : List Nat), go E N none (.o ⟨d, (.apz a_0 a_1 a_2 a_3 a_4 a_5), none, fb, an⟩ :: r) st = goO E N r st d (ev E (d.getD 0) (vG fb st) (vH fb st) (.apz a_0 a_1 a_2 a_3 a_4 a_5))) ∧
  (∀ (a_0 : Nat) (a_1 : X) (a_2 : X) (r : List W) (st : St) (d : Option Nat) (fb an : List Nat), go E N none (.o ⟨d, (.cu0 a_0 a_1 a_2), none, fb, an⟩ :: r) st = goO E N r st d (ev E (d.getD 0) (vG fb st) (vH fb st) (.cu0 a_0 a_1 a_2))) ∧
  (∀ (a_0 : Nat) (a_1 : Nat) (a_2 : X) (r : List W) (st : St) (d : Option Nat) (fb an : List Nat), go E N none (.o ⟨d, (.kow a_0 a_1 a_2), none, fb, an⟩ :: r) st = goO E N r st d (ev E (d.getD 0) (vG fb st) (vH fb st) (.kow a_0 a_1 a_2))) ∧
  (∀ (a_0 : List V) (a_1 : List (Nat × Nat × Nat)) (r : List W) (st : St) (d : Option Nat) (fb an : List Nat), go E N none (.o ⟨d, (.alo a_0 a_1), none, fb, an⟩ :: r) st = goO E N r st d (ev E (d.getD 0) (vG fb st) (vH fb st) (.alo a_0 a_1))) ∧
  (∀ (a_0 : Nat) (a_1 : Nat) (a_2 : Nat) (a_3 : X) (a_4 : X) (r : List W) (st : St) (d : Option Nat) (fb an : List Nat), go E N none (.o ⟨d, (.apn a_0 a_1 a_2 a_3 a_4), none, fb, an⟩ :: r) st = goO E N r st d (ev E (d.getD 0) (vG fb st) (vH fb st) (.apn a_0 a_1 a_2 a_3 a_4))) := by
 refine ⟨?_, ?_, ?_, ?_, ?_, ?_, ?_, ?_, ?_, ?_, ?_, ?_, ?_, ?_, ?_, ?_, ?_, ?_, ?_, ?_, ?_, ?_, ?_, ?_, ?_, ?_, ?_, ?_, ?_, ?_, ?_, ?_, ?_, ?_, ?_, ?_⟩ <;> (intros; first | exact go_o rfl rfl | exact go_g rfl rfl)
theorem pp {E : Nat → Model} {N : Nat} : (∀ (a_0 : X) (r : List W) (st : St) (d : Option Nat) (t : Nat) (w : Bool) (fb an : List Nat), go E N none (.o ⟨d, (.mov a_0), some (t, w), fb, an⟩ :: r) st = goG E N ⟨d, (.mov a_0), none, fb, an⟩ w r st (vG fb st t)) ∧
  (∀ (a_0 : Nat) (a_1 : Nat) (a_2 : Nat) (r : List W) (st : St) (d : Option Nat) (t : Nat) (w : Bool) (fb an : List Nat), go E N none (.o ⟨d, (.nilsl a_0 a_1 a_2), some (t, w), fb, an⟩ :: r) st = goG E N ⟨d, (.nilsl a_0 a_1 a_2), none, fb, an⟩ w r st (vG fb st t)) ∧
  (∀ (a_0 : X) (a_1 : X) (a_2 : X) (r : List W) (st : St) (d : Option Nat) (t : Nat) (w : Bool) (fb an : List Nat), go E N none (.o ⟨d, (.pick a_0 a_1 a_2), some (t, w), fb, an⟩ :: r) st = goG E N ⟨d, (.pick a_0 a_1 a_2), none, fb, an⟩ w r st (vG fb st t)) ∧
  (∀ (a_0 : BinOp) (a_1 : X) (a_2 : X) (r : List W) (st : St) (d : Option Nat) (t : Nat) (w : Bool) (fb an : List Nat), go E N none (.o ⟨d, (.bin a_0 a_1 a_2), some (t, w), fb, an⟩ :: r) st = goG E N ⟨d, (.bin a_0 a_1 a_2), none, fb, an⟩ w r st (vG fb st t)) ∧
  (∀ (a_0 : Bool) (a_1 : X) (a_2 : X) (r : List W) (st : St) (d : Option Nat) (t : Nat) (w : Bool) (fb an : List Nat), go E N none (.o ⟨d, (.eqb a_0 a_1 a_2), some (t, w), fb, an⟩ :: r) st = goG E N ⟨d, (.eqb a_0 a_1 a_2), none, fb, an⟩ w r st (vG fb st t)) ∧
  (∀ (a_0 : Bool) (a_1 : List Bool) (a_2 : X) (a_3 : X) (r : List W) (st : St) (d : Option Nat) (t : Nat) (w : Bool) (fb an : List Nat), go E N none (.o ⟨d, (.eqs a_0 a_1 a_2 a_3), some (t, w), fb, an⟩ :: r) st = goG E N ⟨d, (.eqs a_0 a_1 a_2 a_3), none, fb, an⟩ w r st (vG fb st t)) ∧
  (∀ (a_0 : Bool) (a_1 : X) (r : List W) (st : St) (d : Option Nat) (t : Nat) (w : Bool) (fb an : List Nat), go E N none (.o ⟨d, (.isnil a_0 a_1), some (t, w), fb, an⟩ :: r) st = goG E N ⟨d, (.isnil a_0 a_1), none, fb, an⟩ w r st (vG fb st t)) ∧
  (∀ (a_0 : UnOp) (a_1 : X) (r : List W) (st : St) (d : Option Nat) (t : Nat) (w : Bool) (fb an : List Nat), go E N none (.o ⟨d, (.un a_0 a_1), some (t, w), fb, an⟩ :: r) st = goG E N ⟨d, (.un a_0 a_1), none, fb, an⟩ w r st (vG fb st t)) ∧
  (∀ (a_0 : IntKind) (a_1 : X) (r : List W) (st : St) (d : Option Nat) (t : Nat) (w : Bool) (fb an : List Nat), go E N none (.o ⟨d, (.conv a_0 a_1), some (t, w), fb, an⟩ :: r) st = goG E N ⟨d, (.conv a_0 a_1), none, fb, an⟩ w r st (vG fb st t)) ∧
  (∀ (a_0 : List V) (r : List W) (st : St) (d : Option Nat) (t : Nat) (w : Bool) (fb an : List Nat), go E N none (.o ⟨d, (.alloc a_0), some (t, w), fb, an⟩ :: r) st = goG E N ⟨d, (.alloc a_0), none, fb, an⟩ w r st (vG fb st t)) ∧
  (∀ (a_0 : X) (r : List W) (st : St) (d : Option Nat) (t : Nat) (w : Bool) (fb an : List Nat), go E N none (.o ⟨d, (.box a_0), some (t, w), fb, an⟩ :: r) st = goG E N ⟨d, (.box a_0), none, fb, an⟩ w r st (vG fb st t)) ∧
  (∀ (a_0 : List V) (a_1 : List (Nat × Nat × X)) (r : List W) (st : St) (d : Option Nat) (t : Nat) (w : Bool) (fb an : List Nat), go E N none (.o ⟨d, (.build a_0 a_1), some (t, w), fb, an⟩ :: r) st = goG E N ⟨d, (.build a_0 a_1), none, fb, an⟩ w r st (vG fb st t)) ∧
  (∀ (a_0 : Nat) (a_1 : Nat) (a_2 : Nat) (a_3 : List V) (a_4 : List (Nat × X)) (r : List W) (st : St) (d : Option Nat) (t : Nat) (w : Bool) (fb an : List Nat), go E N none (.o ⟨d, (.bsl a_0 a_1 a_2 a_3 a_4), some (t, w), fb, an⟩ :: r) st = goG E N ⟨d, (.bsl a_0 a_1 a_2 a_3 a_4), none, fb, an⟩ w r st (vG fb st t)) ∧
  (∀ (a_0 : Bool) (a_1 : Nat) (a_2 : X) (r : List W) (st : St) (d : Option Nat) (t : Nat) (w : Bool) (fb an : List Nat), go E N none (.o ⟨d, (.load a_0 a_1 a_2), some (t, w), fb, an⟩ :: r) st = goG E N ⟨d, (.load a_0 a_1 a_2), none, fb, an⟩ w r st (vG fb st t)) ∧
  (∀ (a_0 : X) (r : List W) (st : St) (d : Option Nat) (t : Nat) (w : Bool) (fb an : List Nat), go E N none (.o ⟨d, (.nck a_0), some (t, w), fb, an⟩ :: r) st = goG E N ⟨d, (.nck a_0), none, fb, an⟩ w r st (vG fb st t)) ∧
  (∀ (a_0 : Nat) (a_1 : Nat) (a_2 : Nat) (a_3 : List V) (a_4 : X) (a_5 : X) (r : List W) (st : St) (d : Option Nat) (t : Nat) (w : Bool) (fb an : List Nat), go E N none (.o ⟨d, (.mks a_0 a_1 a_2 a_3 a_4 a_5), some (t, w), fb, an⟩ :: r) st = goG E N ⟨d, (.mks a_0 a_1 a_2 a_3 a_4 a_5), none, fb, an⟩ w r st (vG fb st t)) ∧
  (∀ (a_0 : Nat) (a_1 : X) (a_2 : Option X) (a_3 : Option X) (r : List W) (st : St) (d : Option Nat) (t : Nat) (w : Bool) (fb an : List Nat), go E N none (.o ⟨d, (.cut a_0 a_1 a_2 a_3), some (t, w), fb, an⟩ :: r) st = goG E N ⟨d, (.cut a_0 a_1 a_2 a_3), none, fb, an⟩ w r st (vG fb st t)) ∧
  (∀ (a_0 : Nat) (a_1 : X) (r : List W) (st : St) (d : Option Nat) (t : Nat) (w : Bool) (fb an : List Nat), go E N none (.o ⟨d, (.fad a_0 a_1), some (t, w), fb, an⟩ :: r) st = goG E N ⟨d, (.fad a_0 a_1), none, fb, an⟩ w r st (vG fb st t)) ∧
  (∀ (a_0 : Bool) (a_1 : Nat) (a_2 : Nat) (a_3 : X) (r : List W) (st : St) (d : Option Nat) (t : Nat) (w : Bool) (fb an : List Nat), go E N none (.o ⟨d, (.fld a_0 a_1 a_2 a_3), some (t, w), fb, an⟩ :: r) st = goG E N ⟨d, (.fld a_0 a_1 a_2 a_3), none, fb, an⟩ w r st (vG fb st t)) ∧
  (∀ (a_0 : Nat) (a_1 : X) (a_2 : X) (r : List W) (st : St) (d : Option Nat) (t : Nat) (w : Bool) (fb an : List Nat), go E N none (.o ⟨d, (.iad a_0 a_1 a_2), some (t, w), fb, an⟩ :: r) st = goG E N ⟨d, (.iad a_0 a_1 a_2), none, fb, an⟩ w r st (vG fb st t)) ∧
  (∀ (a_0 : Nat) (a_1 : Nat) (a_2 : X) (a_3 : X) (r : List W) (st : St) (d : Option Nat) (t : Nat) (w : Bool) (fb an : List Nat), go E N none (.o ⟨d, (.iada a_0 a_1 a_2 a_3), some (t, w), fb, an⟩ :: r) st = goG E N ⟨d, (.iada a_0 a_1 a_2 a_3), none, fb, an⟩ w r st (vG fb st t)) ∧
  (∀ (a_0 : Bool) (a_1 : Nat) (a_2 : Nat) (a_3 : X) (a_4 : X) (r : List W) (st : St) (d : Option Nat) (t : Nat) (w : Bool) (fb an : List Nat), go E N none (.o ⟨d, (.idx a_0 a_1 a_2 a_3 a_4), some (t, w), fb, an⟩ :: r) st = goG E N ⟨d, (.idx a_0 a_1 a_2 a_3 a_4), none, fb, an⟩ w r st (vG fb st t)) ∧
  (∀ (a_0 : X) (a_1 : Nat) (r : List W) (st : St) (d : Option Nat) (t : Nat) (w : Bool) (fb an : List Nat), go E N none (.o ⟨d, (.ext a_0 a_1), some (t, w), fb, an⟩ :: r) st = goG E N ⟨d, (.ext a_0 a_1), none, fb, an⟩ w r st (vG fb st t)) ∧
  (∀ (a_0 : Bool) (a_1 : Nat) (a_2 : List X) (r : List W) (st : St) (d : Option Nat) (t : Nat) (w : Bool) (fb an : List Nat), go E N none (.o ⟨d, (.call a_0 a_1 a_2), some (t, w), fb, an⟩ :: r) st = goG E N ⟨d, (.call a_0 a_1 a_2), none, fb, an⟩ w r st (vG fb st t)) ∧
  (∀ (a_0 : Bool) (a_1 : X) (a_2 : List X) (r : List W) (st : St) (d : Option Nat) (t : Nat) (w : Bool) (fb an : List Nat), go E N none (.o ⟨d, (.callv a_0 a_1 a_2), some (t, w), fb, an⟩ :: r) st = goG E N ⟨d, (.callv a_0 a_1 a_2), none, fb, an⟩ w r st (vG fb st t)) ∧
  (∀ (a_0 : X) (r : List W) (st : St) (d : Option Nat) (t : Nat) (w : Bool) (fb an : List Nat), go E N none (.o ⟨d, (.len a_0), some (t, w), fb, an⟩ :: r) st = goG E N ⟨d, (.len a_0), none, fb, an⟩ w r st (vG fb st t)) ∧
  (∀ (a_0 : X) (a_1 : X) (r : List W) (st : St) (d : Option Nat) (t : Nat) (w : Bool) (fb an : List Nat), go E N none (.o ⟨d, (.mx a_0 a_1), some (t, w), fb, an⟩ :: r) st = goG E N ⟨d, (.mx a_0 a_1), none, fb, an⟩ w r st (vG fb st t)) ∧
  (∀ (a_0 : X) (a_1 : X) (r : List W) (st : St) (d : Option Nat) (t : Nat) (w : Bool) (fb an : List Nat), go E N none (.o ⟨d, (.mn a_0 a_1), some (t, w), fb, an⟩ :: r) st = goG E N ⟨d, (.mn a_0 a_1), none, fb, an⟩ w r st (vG fb st t)) ∧
  (∀ (a_0 : Nat) (a_1 : List X) (r : List W) (st : St) (d : Option Nat) (t : Nat) (w : Bool) (fb an : List Nat), go E N none (.o ⟨d, (.mkf a_0 a_1), some (t, w), fb, an⟩ :: r) st = goG E N ⟨d, (.mkf a_0 a_1), none, fb, an⟩ w r st (vG fb st t)) ∧
  (∀ (a_0 : X) (r : List W) (st : St) (d : Option Nat) (t : Nat) (w : Bool) (fb an : List Nat), go E N none (.o ⟨d, (.kln a_0), some (t, w), fb, an⟩ :: r) st = goG E N ⟨d, (.kln a_0), none, fb, an⟩ w r st (vG fb st t)) ∧
  (∀ (a_0 : X) (a_1 : X) (r : List W) (st : St) (d : Option Nat) (t : Nat) (w : Bool) (fb an : List Nat), go E N none (.o ⟨d, (.kct a_0 a_1), some (t, w), fb, an⟩ :: r) st = goG E N ⟨d, (.kct a_0 a_1), none, fb, an⟩ w r st (vG fb st t)) ∧
  (∀ (a_0 : Nat) (a_1 : Nat) (a_2 : Nat) (a_3 : List V) (a_4 : X) (a_5 : X) (r : List W) (st : St) (d : Option Nat) (t : Nat) (w : Bool) (fb an : List Nat), go E N none (.o ⟨d, (.apz a_0 a_1 a_2 a_3 a_4 a_5), some (t, w), fb, an⟩ :: r) st = goG E N ⟨d, (.apz a_0 a_1 a_2 a_3 a_4 a_5), none, fb, an⟩ w r st (vG fb st t)) ∧
  (∀ (a_0 : Nat) (a_1 : X) (a_2 : X) (r : List W) (st : St) (d : Option Nat) (t : Nat) (w : Bool) (fb an : List Nat), go E N none (.o ⟨d, (.cu0 a_0 a_1 a_2), some (t, w), fb, an⟩ :: r) st = goG E N ⟨d, (.cu0 a_0 a_1 a_2), none, fb, an⟩ w r st (vG fb st t)) ∧
  (∀ (a_0 : Nat) (a_1 : Nat) (a_2 : X) (r : List W) (st : St) (d : Option Nat) (t : Nat) (w : Bool) (fb an : List Nat), go E N none (.o ⟨d, (.kow a_0 a_1 a_2), some (t, w), fb, an⟩ :: r) st = goG E N ⟨d, (.kow a_0 a_1 a_2), none, fb, an⟩ w r st (vG fb st t)) ∧
  (∀ (a_0 : List V) (a_1 : List (Nat × Nat × Nat)) (r : List W) (st : St) (d : Option Nat) (t : Nat) (w : Bool) (fb an : List Nat), go E N none (.o ⟨d, (.alo a_0 a_1), some (t, w), fb, an⟩ :: r) st = goG E N ⟨d, (.alo a_0 a_1), none, fb, an⟩ w r st (vG fb st t)) ∧
  (∀ (a_0 : Nat) (a_1 : Nat) (a_2 : Nat) (a_3 : X) (a_4 : X) (r : List W) (st : St) (d : Option Nat) (t : Nat) (w : Bool) (fb an : List Nat), go E N none (.o ⟨d, (.apn a_0 a_1 a_2 a_3 a_4), some (t, w), fb, an⟩ :: r) st = goG E N ⟨d, (.apn a_0 a_1 a_2 a_3 a_4), none, fb, an⟩ w r st (vG fb st t)) := by
 refine ⟨?_, ?_, ?_, ?_, ?_, ?_, ?_, ?_, ?_, ?_, ?_, ?_, ?_, ?_, ?_, ?_, ?_, ?_, ?_, ?_, ?_, ?_, ?_, ?_, ?_, ?_, ?_, ?_, ?_, ?_, ?_, ?_, ?_, ?_, ?_, ?_⟩ <;> (intros; first | exact go_o rfl rfl | exact go_g rfl rfl)
theorem oo3 {E : Nat → Model} {N : Nat} : (∀ (a_0 : Nat) (a_1 : X) (r : List W) (st : St) (d : Option Nat) (fb an : List Nat), go E N none (.o ⟨d, (.mki a_0 a_1), none, fb, an⟩ :: r) st = goO E N r st d (ev E (d.getD 0) (vG fb st) (vH fb st) (.mki a_0 a_1))) ∧
  (∀ (a_0 : Bool) (a_1 : X) (r : List W) (st : St) (d : Option Nat) (fb an : List Nat), go E N none (.o ⟨d, (.ifn a_0 a_1), none, fb, an⟩ :: r) st = goO E N r st d (ev E (d.getD 0) (vG fb st) (vH fb st) (.ifn a_0 a_1))) ∧
  (∀ (a_0 : List Nat) (a_1 : X) (a_2 : X) (r : List W) (st : St) (d : Option Nat) (fb an : List Nat), go E N none (.o ⟨d, (.ieq a_0 a_1 a_2), none, fb, an⟩ :: r) st = goO E N r st d (ev E (d.getD 0) (vG fb st) (vH fb st) (.ieq a_0 a_1 a_2))) ∧
  (∀ (a_0 : Nat) (a_1 : List (Nat × Bool)) (a_2 : X) (r : List W) (st : St) (d : Option Nat) (fb an : List Nat), go E N none (.o ⟨d, (.tas a_0 a_1 a_2), none, fb, an⟩ :: r) st = goO E N r st d (ev E (d.getD 0) (vG fb st) (vH fb st) (.tas a_0 a_1 a_2))) ∧
  (∀ (a_0 : Bool) (a_1 : List (Nat × Nat)) (a_2 : X) (a_3 : List X) (r : List W) (st : St) (d : Option Nat) (fb an : List Nat), go E N none (.o ⟨d, (.inv a_0 a_1 a_2 a_3), none, fb, an⟩ :: r) st = goO E N r st d (ev E (d.getD 0) (vG fb st) (vH fb st) (.inv a_0 a_1 a_2 a_3))) ∧
  (∀ (a_0 : Nat) (a_1 : Nat) (a_2 : Nat) (a_3 : List V) (a_4 : X) (r : List W) (st : St) (d : Option Nat) (fb an : List Nat), go E N none (.o ⟨d, (.mkz a_0 a_1 a_2 a_3 a_4), none, fb, an⟩ :: r) st = goO E N r st d (ev E (d.getD 0) (vG fb st) (vH fb st) (.mkz a_0 a_1 a_2 a_3 a_4))) ∧
  (∀ (a_0 : Nat) (a_1 : Nat) (a_2 : Nat) (a_3 : List V) (a_4 : List (Nat × X)) (r : List W) (st : St) (d : Option Nat) (fb an : List Nat), go E N none (.o ⟨d, (.bsr a_0 a_1 a_2 a_3 a_4), none, fb, an⟩ :: r) st = goO E N r st d (ev E (d.getD 0) (vG fb st) (vH fb st) (.bsr a_0 a_1 a_2 a_3 a_4))) ∧
  (∀ (a_0 : Nat) (a_1 : X) (r : List W) (st : St) (d : Option Nat) (t : Nat) (w : Bool) (fb an : List Nat), go E N none (.o ⟨d, (.mki a_0 a_1), some (t, w), fb, an⟩ :: r) st = goG E N ⟨d, (.mki a_0 a_1), none, fb, an⟩ w r st (vG fb st t)) ∧
  (∀ (a_0 : Bool) (a_1 : X) (r : List W) (st : St) (d : Option Nat) (t : Nat) (w : Bool) (fb an : List Nat), go E N none (.o ⟨d, (.ifn a_0 a_1), some (t, w), fb, an⟩ :: r) st = goG E N ⟨d, (.ifn a_0 a_1), none, fb, an⟩ w r st (vG fb st t)) ∧
  (∀ (a_0 : List Nat) (a_1 : X) (a_2 : X) (r : List W) (st : St) (d : Option Nat) (t : Nat) (w : Bool) (fb an : List Nat), go E N none (.o ⟨d, (.ieq a_0 a_1 a_2), some (t, w), fb, an⟩ :: r) st = goG E N ⟨d, (.ieq a_0 a_1 a_2), none, fb, an⟩ w r st (vG fb st t)) ∧
  (∀ (a_0 : Nat) (a_1 : List (Nat × Bool)) (a_2 : X) (r : List W) (st : St) (d : Option Nat) (t : Nat) (w : Bool) (fb an : List Nat), go E N none (.o ⟨d, (.tas a_0 a_1 a_2), some (t, w), fb, an⟩ :: r) st = goG E N ⟨d, (.tas a_0 a_1 a_2), none, fb, an⟩ w r st (vG fb st t)) ∧
  (∀ (a_0 : Bool) (a_1 : List (Nat × Nat)) (a_2 : X) (a_3 : List X) (r : List W) (st : St) (d : Option Nat) (t : Nat) (w : Bool) (fb an : List Nat), go E N none (.o ⟨d, (.inv a_0 a_1 a_2 a_3), some (t, w), fb, an⟩ :: r) st = goG E N ⟨d, (.inv a_0 a_1 a_2 a_3), none, fb, an⟩ w r st (vG fb st t)) ∧
  (∀ (a_0 : Nat) (a_1 : Nat) (a_2 : Nat) (a_3 : List V) (a_4 : X) (r : List W) (st : St) (d : Option Nat) (t : Nat) (w : Bool) (fb an : List Nat), go E N none (.o ⟨d, (.mkz a_0 a_1 a_2 a_3 a_4), some (t, w), fb, an⟩ :: r) st = goG E N ⟨d, (.mkz a_0 a_1 a_2 a_3 a_4), none, fb, an⟩ w r st (vG fb st t)) ∧
  (∀ (a_0 : Nat) (a_1 : Nat) (a_2 : Nat) (a_3 : List V) (a_4 : List (Nat × X)) (r : List W) (st : St) (d : Option Nat) (t : Nat) (w : Bool) (fb an : List Nat), go E N none (.o ⟨d, (.bsr a_0 a_1 a_2 a_3 a_4), some (t, w), fb, an⟩ :: r) st = goG E N ⟨d, (.bsr a_0 a_1 a_2 a_3 a_4), none, fb, an⟩ w r st (vG fb st t)) := by
 refine ⟨?_, ?_, ?_, ?_, ?_, ?_, ?_, ?_, ?_, ?_, ?_, ?_, ?_, ?_⟩ <;> (intros; first | exact go_o rfl rfl | exact go_g rfl rfl)
theorem oo4 {E : Nat → Model} {N : Nat} : (∀ (a_0 a_1 a_2 : X) (r : List W) (st : St) (d : Option Nat) (fb an : List Nat), go E N none (.o ⟨d, (.mx3 a_0 a_1 a_2), none, fb, an⟩ :: r) st = goO E N r st d (ev E (d.getD 0) (vG fb st) (vH fb st) (.mx3 a_0 a_1 a_2))) ∧
  (∀ (a_0 : Bool) (a_1 : Nat) (a_2 : X) (r : List W) (st : St) (d : Option Nat) (fb an : List Nat), go E N none (.o ⟨d, (.ldb a_0 a_1 a_2), none, fb, an⟩ :: r) st = goO E N r st d (ev E (d.getD 0) (vG fb st) (vH fb st) (.ldb a_0 a_1 a_2))) ∧
  (∀ (a_0 a_1 a_2 : X) (r : List W) (st : St) (d : Option Nat) (t : Nat) (w : Bool) (fb an : List Nat), go E N none (.o ⟨d, (.mx3 a_0 a_1 a_2), some (t, w), fb, an⟩ :: r) st = goG E N ⟨d, (.mx3 a_0 a_1 a_2), none, fb, an⟩ w r st (vG fb st t)) := by
 refine ⟨?_, ?_, ?_⟩ <;> (intros; first | exact go_o rfl rfl | exact go_g rfl rfl)
theorem go_stp {E : Nat → Model} {N : Nat} {r : List W} {st : St} {d : Option Nat} {t : Nat} {w : Bool} {fb an : List Nat} : go E N none (.o ⟨d, .stop, some (t, w), fb, an⟩ :: r) st = goG E N ⟨d, .stop, none, fb, an⟩ w r st (vG fb st t) := go_g rfl rfl
theorem go_mkp {E : Nat → Model} {N : Nat} {r : List W} {st : St} {d : Option Nat} {t : Nat} {x : X} {fb an : List Nat} : go E N none (.o ⟨d, .mkp t x, none, fb, an⟩ :: r) st = goE E N r d (evE E (d.getD 0) st (.mkp t x)) := go_e rfl
theorem go_ea {E : Nat → Model} {N : Nat} {r : List W} {st : St} {d : Option Nat} {el e b : Nat} {x y : X} {fb an : List Nat} : go E N none (.o ⟨d, .app el e b x y, none, fb, an⟩ :: r) st = goE E N r d (evE E (d.getD 0) st (.app el e b x y)) := go_e rfl
theorem go_ek {E : Nat → Model} {N : Nat} {r : List W} {st : St} {d : Option Nat} {el e b : Nat} {x y : X} {fb an : List Nat} : go E N none (.o ⟨d, .apk el e b x y, none, fb, an⟩ :: r) st = goE E N r d (evE E (d.getD 0) st (.apk el e b x y)) := go_e rfl
theorem go_bxo {E : Nat → Model} {N : Nat} {r : List W} {st : St} {d : Option Nat} {x : X} {ps : List (Nat × Nat × Nat)} {fb an : List Nat} : go E N none (.o ⟨d, .bxo x ps, none, fb, an⟩ :: r) st = goO E N r st d (ev E (d.getD 0) (vG fb st) (vH fb st) (.bxo x ps)) := go_o rfl rfl
theorem go_ev {E : Nat → Model} {N : Nat} {r : List W} {st : St} {d : Option Nat} {x : X} {fb an : List Nat} : go E N none (.o ⟨d, .cvb x, none, fb, an⟩ :: r) st = goE E N r d (evE E (d.getD 0) st (.cvb x)) := go_e rfl
theorem go_eb {E : Nat → Model} {N : Nat} {r : List W} {st : St} {d : Option Nat} {el e b : Nat} {x y : X} {t : Nat} {w : Bool} {fb an : List Nat} : go E N none (.o ⟨d, .app el e b x y, some (t, w), fb, an⟩ :: r) st = goG E N ⟨d, .app el e b x y, none, fb, an⟩ w r st (look st.sl t) := go_eg rfl
theorem go_el {E : Nat → Model} {N : Nat} {r : List W} {st : St} {d : Option Nat} {el e b : Nat} {x y : X} {t : Nat} {w : Bool} {fb an : List Nat} : go E N none (.o ⟨d, .apk el e b x y, some (t, w), fb, an⟩ :: r) st = goG E N ⟨d, .apk el e b x y, none, fb, an⟩ w r st (look st.sl t) := go_eg rfl
theorem go_ec {E : Nat → Model} {N : Nat} {r : List W} {st : St} {d : Option Nat} {el e : Nat} {x : X} {fb an : List Nat} : go E N none (.o ⟨d, .clr el e x, none, fb, an⟩ :: r) st = goE E N r d (evE E (d.getD 0) st (.clr el e x)) := go_e rfl
theorem go_eo {E : Nat → Model} {N : Nat} {r : List W} {st : St} {d : Option Nat} {f : Nat} {as : List X} {fb an : List Nat} : go E N none (.o ⟨d, .callo f as, none, fb, an⟩ :: r) st = goE E N r d (evE E (d.getD 0) st (.callo f as)) := go_e rfl
theorem go_eq {E : Nat → Model} {N : Nat} {r : List W} {st : St} {d : Option Nat} {f : Nat} {as : List X} {t : Nat} {w : Bool} {fb an : List Nat} : go E N none (.o ⟨d, .callo f as, some (t, w), fb, an⟩ :: r) st = goG E N ⟨d, .callo f as, none, fb, an⟩ w r st (look st.sl t) := go_eg rfl
theorem qq : type_of% @go_seq ∧
  type_of% @go_region ∧
  type_of% @go_block ∧
  type_of% @go_cond ∧
  type_of% @go_skip ∧
  type_of% @go_ret ∧
  type_of% @go_exit ∧
  type_of% @go_xnil ∧
  type_of% @go_xb ∧
  type_of% @go_xc ∧
  type_of% @go_xo ∧
  type_of% @go_b ∧
  type_of% @go_nil ∧
  type_of% @go_keep ∧
  type_of% @go_frz ∧
  type_of% @callI_f ∧
  type_of% @callI_t ∧
  type_of% @callP_s ∧
  type_of% @callQ_s ∧
  type_of% @callF_nil ∧
  type_of% @callF_cons ∧
  type_of% @callO_nil ∧
  type_of% @callO_cons ∧
  type_of% @ans_s ∧
  type_of% @ret0_s ∧
  type_of% @go_loop ∧
  type_of% @aft_norm ∧
  type_of% @aft_exit ∧
  type_of% @aft_ret ∧
  type_of% @goL_n ∧
  type_of% @goL_x ∧
  type_of% @goL_r ∧
  type_of% @go_s ∧
  type_of% @goI_b ∧
  type_of% @goG_t ∧
  type_of% @goG_f ∧
  type_of% @goG_u ∧
  type_of% @goO_0 ∧
  type_of% @goO_1 ∧
  type_of% @goO_2 ∧
  type_of% @goF_n ∧
  type_of% @goF2_n ∧
  type_of% @goS_s ∧
  type_of% @goE_s ∧
  type_of% @goK_s ∧
  type_of% @br_t ∧
  type_of% @br_f ∧
  type_of% @put_some ∧
  type_of% @put_none ∧
  type_of% @vG_nil ∧
  type_of% @vH_nil ∧
  type_of% @vG_e ∧
  type_of% @vH_e ∧
  type_of% @fin_ret ∧
  type_of% @fin_norm ∧
  type_of% @handO_s ∧
  type_of% @bq1 ∧
  type_of% @bq2 ∧
  type_of% @bq3 ∧
  type_of% @bq4 ∧
  type_of% @cz ∧
  type_of% @cz1 ∧
  type_of% @cz2 ∧
  type_of% @cz3 ∧
  type_of% @cz4 ∧
  type_of% @cast0 ∧
  type_of% @cast1 ∧
  type_of% @go_ea ∧
  type_of% @go_ek ∧
  type_of% @go_ev ∧
  type_of% @go_bxo ∧
  type_of% @go_eb ∧
  type_of% @go_el ∧
  type_of% @go_ec ∧
  type_of% @go_eo ∧
  type_of% @go_eq := ⟨@go_seq, @go_region, @go_block, @go_cond, @go_skip, @go_ret, @go_exit, @go_xnil, @go_xb, @go_xc, @go_xo, @go_b, @go_nil, @go_keep, @go_frz, @callI_f, @callI_t, @callP_s, @callQ_s, @callF_nil, @callF_cons, @callO_nil, @callO_cons, @ans_s, @ret0_s, @go_loop, @aft_norm, @aft_exit, @aft_ret, @goL_n, @goL_x, @goL_r, @go_s, @goI_b, @goG_t, @goG_f, @goG_u, @goO_0, @goO_1, @goO_2, @goF_n, @goF2_n, @goS_s, @goE_s, @goK_s, @br_t, @br_f, @put_some, @put_none, @vG_nil, @vH_nil, @vG_e, @vH_e, @fin_ret, @fin_norm, @handO_s, @bq1, @bq2, @bq3, @bq4, @cz, @cz1, @cz2, @cz3, @cz4, @cast0, @cast1, @go_ea, @go_ek, @go_ev, @go_bxo, @go_eb, @go_el, @go_ec, @go_eo, @go_eq⟩
end Go.Proofs.YtdflglehippoiaaGreatDoorR
set_option maxRecDepth 100000
namespace Go.Proofs.YtdflglehippoiaaGreatDoorR
open Go
abbrev nO (d : Nat) (i : I) : IO := ⟨some d, i, none, [], []⟩
abbrev gO (d : Nat) (i : I) (t : Nat) (b : Bool) : IO := ⟨some d, i, some (t, b), [], []⟩
theorem ww :
  type_of% @qq ∧
  type_of% @List.replicate.eq_1.{0} ∧
  type_of% @List.replicate.eq_2.{0} ∧
  type_of% @nilV.eq_1 ∧
  type_of% @nilV.eq_2 ∧
  type_of% @oo3 ∧
  type_of% @oo4 ∧
  type_of% @rdb.eq_1 ∧
  type_of% @rdb.eq_2 ∧
  type_of% @go_mkp ∧
  type_of% @go_stp ∧
  type_of% @ments.eq_1 ∧
  type_of% @ments.eq_2 ∧
  type_of% @V.ment.eq_1 ∧
  type_of% @V.ment.eq_2 ∧
  type_of% @V.ment.eq_3 ∧
  type_of% @List.isEmpty_nil.{0} ∧
  type_of% @oo ∧
  type_of% @pp ∧
  type_of% @lives.eq_1 ∧
  type_of% @lives.eq_2 ∧
  type_of% @V.live.eq_1 ∧
  type_of% @V.live.eq_2 ∧
  type_of% @purS.eq_1 ∧
  type_of% @purS.eq_2 ∧
  type_of% @S.pur.eq_1 ∧
  type_of% @S.pur.eq_2 ∧
  type_of% @S.pur.eq_3 ∧
  type_of% @V.pur.eq_1 ∧
  type_of% @V.pur.eq_2 ∧
  type_of% @V.pur1.eq_1 ∧
  type_of% @V.pur1.eq_2 ∧
  type_of% @V.pur1.eq_3 ∧
  type_of% @purs.eq_1 ∧
  type_of% @purs.eq_2 ∧
  type_of% @pur1s.eq_1 ∧
  type_of% @pur1s.eq_2 ∧
  type_of% @mentS.eq_1 ∧
  type_of% @mentS.eq_2 ∧
  type_of% @S.ment.eq_1 ∧
  type_of% @S.ment.eq_2 ∧
  type_of% @S.ment.eq_3 ∧
  type_of% @S.ment.eq_4 ∧
  type_of% @S.ment.smt.eq_1 ∧
  type_of% @S.ment.smt.eq_2 ∧
  type_of% @ments.eq_1 ∧
  type_of% @ments.eq_2 ∧
  type_of% @V.ment.eq_1 ∧
  type_of% @V.ment.eq_2 ∧
  type_of% @V.ment.eq_3 ∧
  type_of% @List.append_nil.{0} ∧
  type_of% @Hp.ok64.eq_1 ∧
  type_of% @List.all_nil.{0} ∧
  type_of% @List.all_cons.{0} ∧
  type_of% @S.purT.eq_1 ∧
  type_of% @S.purT.eq_2 ∧
  type_of% @S.purT.sp.eq_1 ∧
  type_of% @S.purT.sp.eq_2 ∧
  type_of% @S.self.eq_1 ∧
  type_of% @S.self.eq_2 ∧
  type_of% @S.self.eq_3 ∧
  type_of% @S.self.eq_4 ∧
  type_of% @V.self.eq_1 ∧
  type_of% @V.self.eq_2 ∧
  type_of% @V.self.eq_3 ∧
  type_of% @V.self.eq_4 ∧
  type_of% @V.self.eq_5 ∧
  type_of% @V.self.eq_6 ∧
  type_of% @V.self.eq_7 ∧
  type_of% @V.self.eq_8 ∧
  type_of% @selfs.eq_1 ∧
  type_of% @selfs.eq_2 ∧
  type_of% @S.self.sself.eq_1 ∧
  type_of% @S.self.sself.eq_2 ∧
  type_of% @Hp.self.eq_1 ∧
  type_of% @Hp.self.eq_2 ∧
  type_of% @Hp.self.eq_3 ∧
  type_of% @S.ren.eq_1 ∧
  type_of% @S.ren.eq_2 ∧
  type_of% @S.ren.eq_3 ∧
  type_of% @S.ren.eq_4 ∧
  type_of% @S.ren.sren.eq_1 ∧
  type_of% @S.ren.sren.eq_2 ∧
  type_of% @V.ren.eq_1 ∧
  type_of% @V.ren.eq_2 ∧
  type_of% @V.ren.eq_3 ∧
  type_of% @Hp.ren.eq_1 ∧
  type_of% @true_or ∧
  type_of% @or_true ∧
  type_of% @false_or ∧
  type_of% @or_false ∧
  type_of% @Bool.and_true ∧
  type_of% @Bool.true_and ∧
  type_of% @Bool.and_false ∧
  type_of% @Bool.false_and ∧
  type_of% @Bool.and_self ∧
  type_of% @hand.eq_1 ∧
  type_of% @handSs.eq_1 ∧
  type_of% @handSs.eq_2 ∧
  type_of% @handS.eq_1 ∧
  type_of% @handS.eq_2 ∧
  type_of% @handS.eq_3 ∧
  type_of% @handS.eq_4 ∧
  type_of% @handVs.eq_1 ∧
  type_of% @handVs.eq_2 ∧
  type_of% @handV.eq_1 ∧
  type_of% @handV.eq_2 ∧
  type_of% @handV.eq_3 ∧
  type_of% @handBs.eq_1 ∧
  type_of% @handBs.eq_2 ∧
  type_of% @upTo.eq_1 ∧
  type_of% @upTo.eq_2 ∧
  type_of% @one1.eq_1 ∧
  type_of% @one1.eq_2 ∧
  type_of% @List.contains_nil.{0} ∧
  type_of% @List.isEmpty_nil.{0} ∧
  type_of% @List.take_length.{0} ∧
  type_of% @List.getElem?_cons_zero.{0} ∧
  type_of% @List.getElem?_cons_succ.{0} ∧
  type_of% @fillV.eq_1 ∧
  type_of% @fillV.eq_2 ∧
  type_of% @fillR.eq_1 ∧
  type_of% @fillR.eq_2 ∧
  type_of% @setAt.eq_1 ∧
  type_of% @setAt.eq_2 ∧
  type_of% @List.set_cons_zero.{0} ∧
  type_of% @List.set_cons_succ.{0} ∧
  type_of% @evE.eq_1 ∧
  type_of% @evE.eq_2 ∧
  type_of% @evE.eq_3 ∧
  type_of% @evE.eq_4 ∧
  type_of% @evE.eq_5 ∧
  type_of% @evE.eq_6 ∧
  type_of% @evE.eq_7 ∧
  type_of% @evE.eq_8 ∧
  type_of% @asRow.eq_1 ∧
  type_of% @asRow.eq_2 ∧
  type_of% @asRow.eq_3 ∧
  type_of% @callS.eq_1 ∧
  type_of% @callT.eq_1 ∧
  type_of% @callU.eq_1 ∧
  type_of% @callU.eq_2 ∧
  type_of% @names.eq_1 ∧
  type_of% @dedup.eq_1 ∧
  type_of% @dedup.eq_2 ∧
  type_of% @blkMents.eq_1 ∧
  type_of% @blkMents.eq_2 ∧
  type_of% @Blk.mentB.eq_1 ∧
  type_of% @Blk.mentB.eq_2 ∧
  type_of% @idxOf.eq_1 ∧
  type_of% @idxOf.eq_2 ∧
  type_of% @V.mapS.eq_1 ∧
  type_of% @V.mapS.eq_2 ∧
  type_of% @V.mapS.eq_3 ∧
  type_of% @S.mapS.eq_1 ∧
  type_of% @S.mapS.eq_2 ∧
  type_of% @S.mapS.eq_3 ∧
  type_of% @S.mapS.eq_4 ∧
  type_of% @S.mapS.smapS.eq_1 ∧
  type_of% @S.mapS.smapS.eq_2 ∧
  type_of% @Blk.mapS.eq_1 ∧
  type_of% @Blk.mapS.eq_2 ∧
  type_of% @encs.eq_1 ∧
  type_of% @encs.eq_2 ∧
  type_of% @encB.eq_1 ∧
  type_of% @encB.eq_2 ∧
  type_of% @isBox.eq_1 ∧
  type_of% @isBox.eq_2 ∧
  type_of% @backN.eq_1 ∧
  type_of% @hpBack.eq_1 ∧
  type_of% @hpBack.eq_2 ∧
  type_of% @killsV.eq_1 ∧
  type_of% @killsV.eq_2 ∧
  type_of% @killsV.eq_3 ∧
  type_of% @killsS.eq_1 ∧
  type_of% @killsS.eq_2 ∧
  type_of% @killsS.eq_3 ∧
  type_of% @killsS.eq_4 ∧
  type_of% @killsS.ks.eq_1 ∧
  type_of% @killsS.ks.eq_2 ∧
  type_of% @killsB.eq_1 ∧
  type_of% @killsB.eq_2 ∧
  type_of% @rowsOf.eq_1 ∧
  type_of% @rowsOf.eq_2 ∧
  type_of% @without.eq_1 ∧
  type_of% @without.eq_2 ∧
  type_of% @keysOk.eq_1 ∧
  type_of% @keysOk.eq_2 ∧
  type_of% @noTup.eq_1 ∧
  type_of% @noTup.eq_2 ∧
  type_of% @noTup.eq_3 ∧
  type_of% @boxesOk.eq_1 ∧
  type_of% @boxesOk.eq_2 ∧
  type_of% @fresh.eq_1 ∧
  type_of% @Option.isNone_none.{0} ∧
  type_of% @Blk.ren.eq_1 ∧
  type_of% @Blk.ren.eq_2 ∧
  type_of% @aloOk.eq_1 ∧
  type_of% @aloOk.eq_2 ∧
  type_of% @aloV.eq_1 ∧
  type_of% @aloV.eq_2 ∧
  type_of% @aloB.eq_1 ∧
  type_of% @aloB.eq_2 ∧
  type_of% @frzL.eq_1 ∧
  type_of% @freezes.eq_1 ∧
  type_of% @freezes.eq_2 ∧
  type_of% @Go.Proofs.YtdflglehippoiaaGreatDoorR.freeze.eq_1 ∧
  type_of% @drop1.eq_1 ∧
  type_of% @drop1.eq_2 ∧
  type_of% @S.frz.eq_1 ∧
  type_of% @S.frz.eq_2 ∧
  type_of% @S.frz.eq_3 ∧
  type_of% @S.frz.eq_4 ∧
  type_of% @S.frz.sf.eq_1 ∧
  type_of% @S.frz.sf.eq_2 ∧
  type_of% @V.frz.eq_1 ∧
  type_of% @V.frz.eq_2 ∧
  type_of% @V.frz.eq_3 ∧
  type_of% @V.frz.eq_4 ∧
  type_of% @V.frz.eq_5 ∧
  type_of% @V.frz.eq_6 ∧
  type_of% @Blk.frz.eq_1 ∧
  type_of% @Blk.frz.eq_2 ∧
  type_of% @slMent.eq_1 ∧
  type_of% @slMent.eq_2 ∧
  type_of% @pickL.eq_1 ∧
  type_of% @pickL.eq_2 ∧
  type_of% @List.map_append.{0, 0} ∧
  type_of% @S.kill.eq_1 ∧
  type_of% @S.kill.eq_2 ∧
  type_of% @S.kill.eq_3 ∧
  type_of% @S.kill.eq_4 ∧
  type_of% @S.kill.sk.eq_1 ∧
  type_of% @S.kill.sk.eq_2 ∧
  type_of% @V.kill.eq_1 ∧
  type_of% @V.kill.eq_2 ∧
  type_of% @V.kill.eq_3 ∧
  type_of% @Blk.kill.eq_1 ∧
  type_of% @Blk.kill.eq_2 ∧
  type_of% @eqvs.eq_1 ∧
  type_of% @eqvs.eq_2 ∧
  type_of% @eqvs.eq_3 ∧
  type_of% @eqvs.eq_4 ∧
  type_of% @ones.eq_1 ∧
  type_of% @ones.eq_2 ∧
  type_of% @ones.eq_3 ∧
  type_of% @Bool.not_true ∧
  type_of% @Bool.not_false ∧
  type_of% @decide_true ∧
  type_of% @decide_false ∧
  type_of% @List.length_append.{0} ∧
  type_of% @Int.le_refl ∧
  type_of% @Int.toNat_natCast ∧
  type_of% @Int.toNat_one ∧
  type_of% @Int.cast_ofNat_Int ∧
  type_of% @List.all_nil.{0} ∧
  type_of% @List.contains_cons.{0} ∧
  type_of% @Bool.false_or ∧
  type_of% @Bool.or_false ∧
  type_of% @Bool.true_or ∧
  type_of% @Bool.or_true ∧
  type_of% @look_hit ∧
  type_of% @look_end ∧
  type_of% @look_miss ∧
  type_of% @List.map_cons.{0, 0} ∧
  type_of% @List.map_nil.{0, 0} ∧
  type_of% @List.cons_append.{0} ∧
  type_of% @List.nil_append.{0} ∧
  type_of% @Option.getD_some.{0} ∧
  type_of% @Option.getD_none.{0} ∧
  type_of% @X.ev.eq_1 ∧
  type_of% @X.ev.eq_2 ∧
  type_of% @X.ev.eq_3 ∧
  type_of% @ev.eq_1 ∧
  type_of% @ev.eq_2 ∧
  type_of% @ev.eq_3 ∧
  type_of% @ev.eq_4 ∧
  type_of% @ev.eq_5 ∧
  type_of% @ev.eq_6 ∧
  type_of% @ev.eq_7 ∧
  type_of% @ev.eq_8 ∧
  type_of% @ev.eq_9 ∧
  type_of% @ev.eq_10 ∧
  type_of% @ev.eq_11 ∧
  type_of% @ev.eq_12 ∧
  type_of% @ev.eq_13 ∧
  type_of% @ev.eq_14 ∧
  type_of% @ev.eq_15 ∧
  type_of% @ev.eq_16 ∧
  type_of% @ev.eq_17 ∧
  type_of% @ev.eq_18 ∧
  type_of% @ev.eq_19 ∧
  type_of% @ev.eq_20 ∧
  type_of% @ev.eq_21 ∧
  type_of% @ev.eq_22 ∧
  type_of% @ev.eq_23 ∧
  type_of% @ev.eq_24 ∧
  type_of% @ev.eq_25 ∧
  type_of% @ev.eq_26 ∧
  type_of% @ev.eq_27 ∧
  type_of% @ev.eq_28 ∧
  type_of% @ev.eq_29 ∧
  type_of% @ev.eq_30 ∧
  type_of% @ev.eq_31 ∧
  type_of% @ev.eq_32 ∧
  type_of% @ev.eq_33 ∧
  type_of% @ev.eq_34 ∧
  type_of% @ev.eq_35 ∧
  type_of% @ev.eq_36 ∧
  type_of% @ev.eq_37 ∧
  type_of% @ev.eq_38 ∧
  type_of% @ev.eq_39 ∧
  type_of% @ev.eq_40 ∧
  type_of% @ev.eq_41 ∧
  type_of% @ev.eq_42 ∧
  type_of% @ev.eq_43 ∧
  type_of% @ev.eq_44 ∧
  type_of% @ev.eq_45 ∧
  type_of% @ev.eq_46 ∧
  type_of% @ev.eq_47 ∧
  type_of% @ev.eq_48 ∧
  type_of% @ev.eq_49 ∧
  type_of% @ev.eq_50 ∧
  type_of% @ev.eq_51 ∧
  type_of% @ev.eq_52 ∧
  type_of% @ev.eq_53 ∧
  type_of% @ev.eq_54 ∧
  type_of% @ev.eq_55 ∧
  type_of% @bin.eq_1 ∧
  type_of% @bin.eq_2 ∧
  type_of% @ibin.eq_1 ∧
  type_of% @ibin.eq_2 ∧
  type_of% @ibin.eq_3 ∧
  type_of% @ibin.eq_4 ∧
  type_of% @ibin.eq_5 ∧
  type_of% @ibin.eq_6 ∧
  type_of% @ibin.eq_7 ∧
  type_of% @ibin.eq_8 ∧
  type_of% @ibin.eq_9 ∧
  type_of% @ibin.eq_10 ∧
  type_of% @ibin.eq_11 ∧
  type_of% @ibin.eq_12 ∧
  type_of% @ibin.eq_13 ∧
  type_of% @ibin.eq_14 ∧
  type_of% @ibin.eq_15 ∧
  type_of% @ibin.eq_16 ∧
  type_of% @ibin.eq_17 ∧
  type_of% @ibin.eq_18 ∧
  type_of% @Option.map_some.{0, 0} ∧
  type_of% @Option.map_none.{0, 0} ∧
  type_of% @Option.bind_some.{0, 0} ∧
  type_of% @S.cells.eq_1 ∧
  type_of% @S.cells.eq_2 ∧
  type_of% @S.cells.eq_3 ∧
  type_of% @rd.eq_1 ∧
  type_of% @rd.eq_2 ∧
  type_of% @rd.eq_3 ∧
  type_of% @sub.eq_1 ∧
  type_of% @Go.Proofs.YtdflglehippoiaaGreatDoorR.shape.eq_1 ∧
  type_of% @Go.Proofs.YtdflglehippoiaaGreatDoorR.shape.eq_2 ∧
  type_of% @asI.eq_1 ∧
  type_of% @asI.eq_2 ∧
  type_of% @bnd.eq_1 ∧
  type_of% @bnd.eq_2 ∧
  type_of% @evs.eq_1 ∧
  type_of% @evs.eq_2 ∧
  type_of% @Rs.ev.eq_1 ∧
  type_of% @Rs.ev.eq_2 ∧
  type_of% @R.ev.eq_1 ∧
  type_of% @R.ev.eq_2 ∧
  type_of% @params.eq_1 ∧
  type_of% @params.eq_2 ∧
  type_of% @okKey.eq_1 ∧
  type_of% @okKey.eq_2 ∧
  type_of% @Int.toNat_zero ∧
  type_of% @not_false_eq_true ∧
  type_of% @not_true_eq_false ∧
  type_of% @Nat.zero_add ∧
  type_of% @Nat.add_zero ∧
  type_of% @Bool.true_eq_false ∧
  type_of% @Bool.false_eq_true ∧
  type_of% @List.length_cons.{0} ∧
  type_of% @List.length_nil.{0} ∧
  type_of% @and_self ∧
  type_of% @true_and ∧
  type_of% @and_true ∧
  type_of% @List.drop_zero.{0} ∧
  type_of% @List.take_succ_cons.{0} ∧
  type_of% @List.take_zero.{0} ∧
  type_of% @List.drop_succ_cons.{0} ∧
  type_of% @Nat.le_refl := ⟨@qq, @List.replicate.eq_1.{0}, @List.replicate.eq_2.{0}, @nilV.eq_1, @nilV.eq_2, @oo3, @oo4, @rdb.eq_1, @rdb.eq_2, @go_mkp, @go_stp, @ments.eq_1, @ments.eq_2, @V.ment.eq_1, @V.ment.eq_2, @V.ment.eq_3, @List.isEmpty_nil.{0}, @oo, @pp, @lives.eq_1, @lives.eq_2, @V.live.eq_1, @V.live.eq_2, @purS.eq_1, @purS.eq_2, @S.pur.eq_1, @S.pur.eq_2, @S.pur.eq_3, @V.pur.eq_1, @V.pur.eq_2, @V.pur1.eq_1, @V.pur1.eq_2, @V.pur1.eq_3, @purs.eq_1, @purs.eq_2, @pur1s.eq_1, @pur1s.eq_2, @mentS.eq_1, @mentS.eq_2, @S.ment.eq_1, @S.ment.eq_2, @S.ment.eq_3, @S.ment.eq_4, @S.ment.smt.eq_1, @S.ment.smt.eq_2, @ments.eq_1, @ments.eq_2, @V.ment.eq_1, @V.ment.eq_2, @V.ment.eq_3, @List.append_nil.{0}, @Hp.ok64.eq_1, @List.all_nil.{0}, @List.all_cons.{0}, @S.purT.eq_1, @S.purT.eq_2, @S.purT.sp.eq_1, @S.purT.sp.eq_2, @S.self.eq_1, @S.self.eq_2, @S.self.eq_3, @S.self.eq_4, @V.self.eq_1, @V.self.eq_2, @V.self.eq_3, @V.self.eq_4, @V.self.eq_5, @V.self.eq_6, @V.self.eq_7, @V.self.eq_8, @selfs.eq_1, @selfs.eq_2, @S.self.sself.eq_1, @S.self.sself.eq_2, @Hp.self.eq_1, @Hp.self.eq_2, @Hp.self.eq_3, @S.ren.eq_1, @S.ren.eq_2, @S.ren.eq_3, @S.ren.eq_4, @S.ren.sren.eq_1, @S.ren.sren.eq_2, @V.ren.eq_1, @V.ren.eq_2, @V.ren.eq_3, @Hp.ren.eq_1, @true_or, @or_true, @false_or, @or_false, @Bool.and_true, @Bool.true_and, @Bool.and_false, @Bool.false_and, @Bool.and_self, @hand.eq_1, @handSs.eq_1, @handSs.eq_2, @handS.eq_1, @handS.eq_2, @handS.eq_3, @handS.eq_4, @handVs.eq_1, @handVs.eq_2, @handV.eq_1, @handV.eq_2, @handV.eq_3, @handBs.eq_1, @handBs.eq_2, @upTo.eq_1, @upTo.eq_2, @one1.eq_1, @one1.eq_2, @List.contains_nil.{0}, @List.isEmpty_nil.{0}, @List.take_length.{0}, @List.getElem?_cons_zero.{0}, @List.getElem?_cons_succ.{0}, @fillV.eq_1, @fillV.eq_2, @fillR.eq_1, @fillR.eq_2, @setAt.eq_1, @setAt.eq_2, @List.set_cons_zero.{0}, @List.set_cons_succ.{0}, @evE.eq_1, @evE.eq_2, @evE.eq_3, @evE.eq_4, @evE.eq_5, @evE.eq_6, @evE.eq_7, @evE.eq_8, @asRow.eq_1, @asRow.eq_2, @asRow.eq_3, @callS.eq_1, @callT.eq_1, @callU.eq_1, @callU.eq_2, @names.eq_1, @dedup.eq_1, @dedup.eq_2, @blkMents.eq_1, @blkMents.eq_2, @Blk.mentB.eq_1, @Blk.mentB.eq_2, @idxOf.eq_1, @idxOf.eq_2, @V.mapS.eq_1, @V.mapS.eq_2, @V.mapS.eq_3, @S.mapS.eq_1, @S.mapS.eq_2, @S.mapS.eq_3, @S.mapS.eq_4, @S.mapS.smapS.eq_1, @S.mapS.smapS.eq_2, @Blk.mapS.eq_1, @Blk.mapS.eq_2, @encs.eq_1, @encs.eq_2, @encB.eq_1, @encB.eq_2, @isBox.eq_1, @isBox.eq_2, @backN.eq_1, @hpBack.eq_1, @hpBack.eq_2, @killsV.eq_1, @killsV.eq_2, @killsV.eq_3, @killsS.eq_1, @killsS.eq_2, @killsS.eq_3, @killsS.eq_4, @killsS.ks.eq_1, @killsS.ks.eq_2, @killsB.eq_1, @killsB.eq_2, @rowsOf.eq_1, @rowsOf.eq_2, @without.eq_1, @without.eq_2, @keysOk.eq_1, @keysOk.eq_2, @noTup.eq_1, @noTup.eq_2, @noTup.eq_3, @boxesOk.eq_1, @boxesOk.eq_2, @fresh.eq_1, @Option.isNone_none.{0}, @Blk.ren.eq_1, @Blk.ren.eq_2, @aloOk.eq_1, @aloOk.eq_2, @aloV.eq_1, @aloV.eq_2, @aloB.eq_1, @aloB.eq_2, @frzL.eq_1, @freezes.eq_1, @freezes.eq_2, @Go.Proofs.YtdflglehippoiaaGreatDoorR.freeze.eq_1, @drop1.eq_1, @drop1.eq_2, @S.frz.eq_1, @S.frz.eq_2, @S.frz.eq_3, @S.frz.eq_4, @S.frz.sf.eq_1, @S.frz.sf.eq_2, @V.frz.eq_1, @V.frz.eq_2, @V.frz.eq_3, @V.frz.eq_4, @V.frz.eq_5, @V.frz.eq_6, @Blk.frz.eq_1, @Blk.frz.eq_2, @slMent.eq_1, @slMent.eq_2, @pickL.eq_1, @pickL.eq_2, @List.map_append.{0, 0}, @S.kill.eq_1, @S.kill.eq_2, @S.kill.eq_3, @S.kill.eq_4, @S.kill.sk.eq_1, @S.kill.sk.eq_2, @V.kill.eq_1, @V.kill.eq_2, @V.kill.eq_3, @Blk.kill.eq_1, @Blk.kill.eq_2, @eqvs.eq_1, @eqvs.eq_2, @eqvs.eq_3, @eqvs.eq_4, @ones.eq_1, @ones.eq_2, @ones.eq_3, @Bool.not_true, @Bool.not_false, @decide_true, @decide_false, @List.length_append.{0}, @Int.le_refl, @Int.toNat_natCast, @Int.toNat_one, @Int.cast_ofNat_Int, @List.all_nil.{0}, @List.contains_cons.{0}, @Bool.false_or, @Bool.or_false, @Bool.true_or, @Bool.or_true, @look_hit, @look_end, @look_miss, @List.map_cons.{0, 0}, @List.map_nil.{0, 0}, @List.cons_append.{0}, @List.nil_append.{0}, @Option.getD_some.{0}, @Option.getD_none.{0}, @X.ev.eq_1, @X.ev.eq_2, @X.ev.eq_3, @ev.eq_1, @ev.eq_2, @ev.eq_3, @ev.eq_4, @ev.eq_5, @ev.eq_6, @ev.eq_7, @ev.eq_8, @ev.eq_9, @ev.eq_10, @ev.eq_11, @ev.eq_12, @ev.eq_13, @ev.eq_14, @ev.eq_15, @ev.eq_16, @ev.eq_17, @ev.eq_18, @ev.eq_19, @ev.eq_20, @ev.eq_21, @ev.eq_22, @ev.eq_23, @ev.eq_24, @ev.eq_25, @ev.eq_26, @ev.eq_27, @ev.eq_28, @ev.eq_29, @ev.eq_30, @ev.eq_31, @ev.eq_32, @ev.eq_33, @ev.eq_34, @ev.eq_35, @ev.eq_36, @ev.eq_37, @ev.eq_38, @ev.eq_39, @ev.eq_40, @ev.eq_41, @ev.eq_42, @ev.eq_43, @ev.eq_44, @ev.eq_45, @ev.eq_46, @ev.eq_47, @ev.eq_48, @ev.eq_49, @ev.eq_50, @ev.eq_51, @ev.eq_52, @ev.eq_53, @ev.eq_54, @ev.eq_55, @bin.eq_1, @bin.eq_2, @ibin.eq_1, @ibin.eq_2, @ibin.eq_3, @ibin.eq_4, @ibin.eq_5, @ibin.eq_6, @ibin.eq_7, @ibin.eq_8, @ibin.eq_9, @ibin.eq_10, @ibin.eq_11, @ibin.eq_12, @ibin.eq_13, @ibin.eq_14, @ibin.eq_15, @ibin.eq_16, @ibin.eq_17, @ibin.eq_18, @Option.map_some.{0, 0}, @Option.map_none.{0, 0}, @Option.bind_some.{0, 0}, @S.cells.eq_1, @S.cells.eq_2, @S.cells.eq_3, @rd.eq_1, @rd.eq_2, @rd.eq_3, @sub.eq_1, @Go.Proofs.YtdflglehippoiaaGreatDoorR.shape.eq_1, @Go.Proofs.YtdflglehippoiaaGreatDoorR.shape.eq_2, @asI.eq_1, @asI.eq_2, @bnd.eq_1, @bnd.eq_2, @evs.eq_1, @evs.eq_2, @Rs.ev.eq_1, @Rs.ev.eq_2, @R.ev.eq_1, @R.ev.eq_2, @params.eq_1, @params.eq_2, @okKey.eq_1, @okKey.eq_2, @Int.toNat_zero, @not_false_eq_true, @not_true_eq_false, @Nat.zero_add, @Nat.add_zero, @Bool.true_eq_false, @Bool.false_eq_true, @List.length_cons.{0}, @List.length_nil.{0}, @and_self, @true_and, @and_true, @List.drop_zero.{0}, @List.take_succ_cons.{0}, @List.take_zero.{0}, @List.drop_succ_cons.{0}, @Nat.le_refl⟩
theorem kk :
  type_of% @gcK.eq_1 ∧
  type_of% @lowB.eq_1 ∧
  type_of% @lowB.eq_2 ∧
  type_of% @lowB.eq_3 ∧
  type_of% @List.contains_nil.{0} ∧
  type_of% @List.contains_cons.{0} ∧
  type_of% @Bool.or_false ∧
  type_of% @Bool.false_or ∧
  type_of% @Bool.false_eq_true ∧
  type_of% @Bool.true_and ∧
  type_of% @Bool.and_true ∧
  type_of% @pickL.eq_1 ∧
  type_of% @pickL.eq_2 ∧
  type_of% @look_hit ∧
  type_of% @look_miss ∧
  type_of% @look_end ∧
  type_of% @slMent.eq_1 ∧
  type_of% @slMent.eq_2 ∧
  type_of% @hpMent.eq_1 ∧
  type_of% @hpMent.eq_2 ∧
  type_of% @hpMent.eq_3 ∧
  type_of% @S.ment.eq_1 ∧
  type_of% @S.ment.eq_2 ∧
  type_of% @S.ment.eq_3 ∧
  type_of% @S.ment.eq_4 ∧
  type_of% @S.ment.smt.eq_1 ∧
  type_of% @S.ment.smt.eq_2 ∧
  type_of% @ments.eq_1 ∧
  type_of% @ments.eq_2 ∧
  type_of% @V.ment.eq_1 ∧
  type_of% @V.ment.eq_2 ∧
  type_of% @V.ment.eq_3 ∧
  type_of% @List.append_nil.{0} ∧
  type_of% @List.nil_append.{0} ∧
  type_of% @List.cons_append.{0} ∧
  type_of% @List.all_nil.{0} ∧
  type_of% @List.all_cons.{0} ∧
  type_of% @Option.isSome_some.{0} ∧
  type_of% @Bool.and_self ∧
  type_of% @not_false_eq_true := ⟨@gcK.eq_1, @lowB.eq_1, @lowB.eq_2, @lowB.eq_3, @List.contains_nil.{0}, @List.contains_cons.{0}, @Bool.or_false, @Bool.false_or, @Bool.false_eq_true, @Bool.true_and, @Bool.and_true, @pickL.eq_1, @pickL.eq_2, @look_hit, @look_miss, @look_end, @slMent.eq_1, @slMent.eq_2, @hpMent.eq_1, @hpMent.eq_2, @hpMent.eq_3, @S.ment.eq_1, @S.ment.eq_2, @S.ment.eq_3, @S.ment.eq_4, @S.ment.smt.eq_1, @S.ment.smt.eq_2, @ments.eq_1, @ments.eq_2, @V.ment.eq_1, @V.ment.eq_2, @V.ment.eq_3, @List.append_nil.{0}, @List.nil_append.{0}, @List.cons_append.{0}, @List.all_nil.{0}, @List.all_cons.{0}, @Option.isSome_some.{0}, @Bool.and_self, @not_false_eq_true⟩
end Go.Proofs.YtdflglehippoiaaGreatDoorR
