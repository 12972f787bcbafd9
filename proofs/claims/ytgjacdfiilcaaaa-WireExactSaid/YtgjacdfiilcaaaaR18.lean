/- Models of functions; an environment; a model told on plain data. -/
import Derived.Test.YtgjacdfiilcaaaaR17
set_option linter.unusedVariables false
set_option linter.unusedSimpArgs false
namespace Go.Proofs.YtgjacdfiilcaaaaR
open Go Go.RowKit

/-- An environment: a few functions. -/
def envL : List (Nat × Model) → Nat → Model
  | [], _ => fun _ => none
  | (k, m) :: r, n => if k = n then m else envL r n
theorem envL_ok {P : Program} : ∀ (l : List (Nat × Model)), (∀ p ∈ l, Sound P p.1 p.2) → ∀ f, Sound P f (envL l f)
  | [], _, f => Sound.no
  | (k, m) :: r, h, f => by
    unfold envL
    split
    · rename_i e; subst e; exact h (k, m) (List.mem_cons_self ..)
    · exact envL_ok r (fun p hp => h p (List.mem_cons_of_mem _ hp)) f
theorem env_nil {P : Program} : ∀ p ∈ ([] : List (Nat × Model)), Sound P p.1 p.2 := fun p h => by cases h
theorem env_cons {P : Program} {k : Nat} {m : Model} {l : List (Nat × Model)} (h : Sound P k m) (hl : ∀ p ∈ l, Sound P p.1 p.2) : ∀ p ∈ (k, m) :: l, Sound P p.1 p.2 := fun p hp => by
  rcases List.mem_cons.1 hp with rfl | hp
  · exact h
  · exact hl p hp
theorem envL_hit {k : Nat} {m : Model} {l : List (Nat × Model)} : envL ((k, m) :: l) k = m := by unfold envL; rw [if_pos rfl]
theorem envL_miss {k n : Nat} {m : Model} {l : List (Nat × Model)} (h : ¬ k = n) : envL ((k, m) :: l) n = envL l n := by rw [envL, if_neg h]

/-- Functions, some of them told by hand, that call each other to a depth. -/
def T (ext : List (Nat × Model)) (tab : List (Nat × F)) (N : Nat) : Nat → Nat → Model
  | 0, _ => fun _ => none
  | d + 1, f => match look ext f with
    | some m => m
    | none => match look tab f with
      | some fd => fd.ev (T ext tab N d) N
      | none => fun _ => none
theorem T_ok {P : Program} {ext : List (Nat × Model)} {tab : List (Nat × F)} {N : Nat} (hx : ∀ p ∈ ext, Sound P p.1 p.2) (ht : ∀ p ∈ tab, ∀ E : Nat → Model, (∀ f, Sound P f (E f)) → Sound P p.1 (p.2.ev E N)) : ∀ d f, Sound P f (T ext tab N d f)
  | 0, f => Sound.no
  | d + 1, f => by
    unfold T
    split
    · rename_i m hm; exact hx (f, m) (look_mem _ _ _ hm)
    · split
      · rename_i fd hfd; exact ht (f, fd) (look_mem _ _ _ hfd) _ (T_ok hx ht d)
      · exact Sound.no
theorem all_nil {α : Type} {p : α → Prop} : ∀ x ∈ ([] : List α), p x := fun x h => by cases h
theorem all_cons {α : Type} {p : α → Prop} {a : α} {l : List α} (h : p a) (hl : ∀ x ∈ l, p x) : ∀ x ∈ a :: l, p x := fun x hx => by
  rcases List.mem_cons.1 hx with rfl | hx
  · exact h
  · exact hl x hx
/-- slices.Clone: a row of one's own. -/
def cloneM (el e by_ : Nat) : Model
  | [.one (.row xs)] => if xs.all (·.length == e) = true ∧ xs.length * by_ ≤ 140737488355328 then some (.one (.sl 0 0 xs.length), [(0, .rows el e xs)]) else none
  | _ => none
theorem clone_ok {P : Program} {f el e by_ : Nat} {r : Nat → S × Hp} (h1 : Sound P f fun
    | [.one (.row (x :: xs))] => if (x :: xs).all (·.length == e) = true ∧ (x :: xs).length * by_ ≤ 140737488355328 then some (.one (.sl 0 0 (x :: xs).length), [(0, .rows el e (x :: xs))]) else none
    | _ => none) (h2 : Sound P f fun
    | [.one (.row [])] => some (.one (.sl 0 0 0), [(0, .rows el e [])])
    | _ => none) : Sound P f (cloneM el e by_) := by
  refine (h1.or h2).of_le fun args r h => ?_
  unfold cloneM at h
  split at h
  · rename_i xs
    cases xs with
    | nil => simpa using h
    | cons x xs =>
      split at h
      · rename_i hc
        cases h
        simp only
        rw [if_pos hc]
      · cases h
  · cases h

/-! ### How plain data is laid out -/
abbrev iV (n : Int) : S := .one (.int .i64 n)
abbrev bV (b : Bool) : S := .one (.bool b)
abbrev eI (n : Int) : List V := [.int .i64 n]
abbrev eU (n : Int) : List V := [.int .u8 n]
abbrev rI (l : List Int) : V := .row (l.map eI)
abbrev rU (l : List Int) : V := .row (l.map eU)
theorem eI_inj {a b : Int} (h : eI a = eI b) : a = b := by cases h; rfl
theorem map_inj {α β : Type} {f : α → β} (hf : ∀ a b, f a = f b → a = b) : ∀ {l m : List α}, l.map f = m.map f → l = m
  | [], [], _ => rfl
  | [], _ :: _, h => by cases h
  | _ :: _, [], h => by cases h
  | a :: l, b :: m, h => by
    simp only [List.map_cons, List.cons.injEq] at h
    rw [hf a b h.1, map_inj hf h.2]
theorem get_map {α β : Type} {f : α → β} {l : List α} {i : Nat} {a : α} (h : l[i]? = some a) : (l.map f)[i]? = some (f a) := by rw [List.getElem?_map, h]; rfl
end Go.Proofs.YtgjacdfiilcaaaaR
