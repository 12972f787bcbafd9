/- Calls whose answer is only read: the answer without its site numbers. -/
import Derived.Test.YtgjacdfiilcaaaaR18
set_option linter.unusedVariables false
set_option linter.unusedSimpArgs false
namespace Go.Proofs.YtgjacdfiilcaaaaR
open Go Go.RowKit

/-- The answer, only read. -/
def ans : Option (S × Hp) → Option S
  | some (r, hp) => if Hp.ok64 hp then r.purT (look hp) else none
  | none => none
def callF : List Nat → Option (S × Hp) → Option (S × Hp)
  | m, some (r, hp) =>
    if m = [] ∨ (r.self && Hp.self hp) = true then
      if Hp.ok64 hp then match r.purT (look hp) with
        | some r' => some (r', [])
        | none => none
      else none
    else none
  | _, none => none
def callP (E : Nat → Model) (f : Nat) (m : List Nat) : Option (List S) → Option (S × Hp)
  | some as => callF m (E f as)
  | none => none
def callO : List Nat → Nat → Option (S × Hp) → Option (S × Hp)
  | m, d, some (r, hp) => if m = [] ∨ (r.self && Hp.self hp) = true then if Hp.ok64 hp then some (r.ren d, Hp.ren d hp) else none else none
  | _, _, none => none
def callQ (E : Nat → Model) (f : Nat) (m : List Nat) (d : Nat) : Option (List S) → Option (S × Hp)
  | some as => callO m d (E f as)
  | none => none
def ret0 : Option S → Option (S × Hp)
  | some r => some (r, [])
  | none => none
theorem callI_f {E : Nat → Model} {d : Nat} {h : Nat → Option Blk} {f : Nat} {as : List S} : callI E d h false f as = callP E f (mentS as) (purS h as) := by
  unfold callI callP callF
  cases purS h as with
  | none => rfl
  | some as' => cases hE : E f as' with
    | none => simp [hE]
    | some p => obtain ⟨r, hp⟩ := p; simp only [hE]; try rfl
theorem callI_t {E : Nat → Model} {d : Nat} {h : Nat → Option Blk} {f : Nat} {as : List S} : callI E d h true f as = callQ E f (mentS as) d (purS h as) := by
  unfold callI callQ callO
  cases purS h as with
  | none => rfl
  | some as' => cases hE : E f as' with
    | none => simp [hE]
    | some p => obtain ⟨r, hp⟩ := p; simp only [hE]; try rfl
theorem callP_s {E : Nat → Model} {f : Nat} {m : List Nat} {as : List S} : callP E f m (some as) = callF m (E f as) := rfl
theorem callQ_s {E : Nat → Model} {f : Nat} {m : List Nat} {d : Nat} {as : List S} : callQ E f m d (some as) = callO m d (E f as) := rfl
theorem callF_nil {x : Option (S × Hp)} : callF [] x = ret0 (ans x) := by
  cases x with
  | none => rfl
  | some p =>
    obtain ⟨r, hp⟩ := p
    simp only [callF, ans, true_or, if_true]
    cases Hp.ok64 hp with
    | false => rfl
    | true => simp only [if_true]; cases r.purT (look hp) <;> rfl
theorem callF_cons {m : Nat} {l : List Nat} {r : S} {hp : Hp} : callF (m :: l) (some (r, hp)) = if (r.self && Hp.self hp) = true then ret0 (ans (some (r, hp))) else none := by
  rw [← callF_nil]
  simp [callF]
theorem callO_nil {d : Nat} {r : S} {hp : Hp} : callO [] d (some (r, hp)) = if Hp.ok64 hp then some (r.ren d, Hp.ren d hp) else none := by simp [callO]
theorem callO_cons {d m : Nat} {l : List Nat} {r : S} {hp : Hp} : callO (m :: l) d (some (r, hp)) = if (r.self && Hp.self hp) = true then if Hp.ok64 hp then some (r.ren d, Hp.ren d hp) else none else none := by simp [callO]
theorem ans_s {r : S} {hp : Hp} : ans (some (r, hp)) = if Hp.ok64 hp then r.purT (look hp) else none := rfl
theorem ret0_s {r : S} : ret0 (some r) = some (r, []) := rfl
theorem go_eg {E : Nat → Model} {N : Nat} {r : List W} {st : St} {d : Option Nat} {i : I} {t : Nat} {want : Bool} {fb an : List Nat} (h : i.eff = true) : go E N none (.o ⟨d, i, some (t, want), fb, an⟩ :: r) st = goG E N ⟨d, i, none, fb, an⟩ want r st (look st.sl t) := by
  simp only [go, step, h, if_true]
  cases hq : look st.sl t with
  | none => rfl
  | some s =>
    cases s with
    | one v =>
      cases v with
      | bool b =>
        simp only [goG, br]
        by_cases hb : b = want
        · rw [if_pos hb]
          rw [show (b == want) = true by simp [hb]]
          show _ = go E N none (.o ⟨d, i, none, fb, an⟩ :: r) st
          rw [go_e h]
          cases hev : evE E (d.getD 0) st i with
          | none => rfl
          | some p => rfl
        · rw [if_neg hb]
          rw [show (b == want) = false by simp [hb]]
      | _ => rfl
    | undef => rfl
    | _ => rfl
theorem an_cases {m : Nat} {fd : F} {E : Nat → Model} {N : Nat} {s s' : St} {b : Bool} {l l' : List W} {z : Option S} (h1 : b = true → ans (finG m fd (go E N none l s)) = z) (h2 : b = false → ans (finG m fd (go E N none l' s')) = z) : ans (finG m fd (br E N b l s l' s')) = z := by
  cases b with
  | true => exact h1 rfl
  | false => exact h2 rfl
theorem an_cases2 {m : Nat} {fd : F} {E : Nat → Model} {N : Nat} {a : C} {n : Nat} {r : List W} {s s' : St} {b : Bool} {l l' : List W} {z : Option S} (h1 : b = true → ans (finG m fd (aft E N r (goL E N a n (go E N none l s)))) = z) (h2 : b = false → ans (finG m fd (aft E N r (goL E N a n (go E N none l' s')))) = z) : ans (finG m fd (aft E N r (goL E N a n (br E N b l s l' s')))) = z := by
  cases b with
  | true => exact h1 rfl
  | false => exact h2 rfl
theorem bq1 : (false == false) = true := rfl
theorem bq2 : (true == true) = true := rfl
theorem bq3 : (false == true) = false := rfl
theorem bq4 : (true == false) = false := rfl
theorem cast0 : ((0 : Nat) : Int) = 0 := rfl
theorem cast1 : ((1 : Nat) : Int) = 1 := rfl
theorem cz {n : Nat} : (0 ≤ (n : Int)) = True := by simp
theorem cz1 {n : Nat} : (0 < ((n + 1 : Nat) : Int)) = True := eq_true (by omega)
theorem cz2 {n : Nat} : (((n + 1 : Nat) : Int) = 0) = False := eq_false (by omega)
theorem cz3 {n : Nat} : (1 ≤ ((n + 1 : Nat) : Int)) = True := eq_true (by omega)
theorem cz4 {n : Nat} : ((1 : Int) = ((n + 1 + 1 : Nat) : Int)) = False := eq_false (by omega)
theorem vG_e {fb : List Nat} {st : St} {t : Nat} : vG fb st t = if fb.contains t = true then none else look st.sl t := rfl
theorem vH_e {fb : List Nat} {st : St} {s : Nat} : vH fb st s = if fb.contains (s / 64) = true then none else look st.hp s := rfl
end Go.Proofs.YtgjacdfiilcaaaaR
