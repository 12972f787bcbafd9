/- The operations' steps in one. -/
import Derived.Test.YtgjacdfiilcaaaaR20
set_option linter.unusedVariables false
namespace Go.Proofs.YtgjacdfiilcaaaaR
open Go Go.RowKit
theorem oo {E : Nat → Model} {N : Nat} : (∀ (a_0 : X) (r : List W) (st : St) (d : Option Nat) (fb an : List Nat), go E N none (.o ⟨d, (.mov a_0), none, fb, an⟩ :: r) st = goO E N r st d (ev E (d.getD 0) (vG fb st) (vH fb st) (.mov a_0))) ∧
    (∀ (a_0 : Nat) (a_1 : Nat) (a_2 : Nat) (r : List W) (st : St) (d : Option Nat) (fb an : List Nat), go E N none (.o ⟨d, (.nilsl a_0 a_1 a_2), none, fb, an⟩ :: r) st = goO E N r st d (ev E (d.getD 0) (vG fb st) (vH fb st) (.nilsl a_0 a_1 a_2))) ∧
    (∀ (a_0 : X) (a_1 : X) (a_2 : X) (r : List W) (st : St) (d : Option Nat) (fb an : List Nat), go E N none (.o ⟨d, (.pick a_0 a_1 a_2), none, fb, an⟩ :: r) st = goO E N r st d (ev E (d.getD 0) (vG fb st) (vH fb st) (.pick a_0 a_1 a_2))) ∧
    (∀ (a_0 : BinOp) (a_1 : X) (a_2 : X) (r : List W) (st : St) (d : Option Nat) (fb an : List Nat), go E N none (.o ⟨d, (.bin a_0 a_1 a_2), none, fb, an⟩ :: r) st = goO E N r st d (ev E (d.getD 0) (vG fb st) (vH fb st) (.bin a_0 a_1 a_2))) ∧
    (∀ (a_0 : Bool) (a_1 : X) (a_2 : X) (r : List W) (st : St) (d : Option Nat) (fb an : List Nat), go E N none (.o ⟨d, (.eqb a_0 a_1 a_2), none, fb, an⟩ :: r) st = goO E N r st d (ev E (d.getD 0) (vG fb st) (vH fb st) (.eqb a_0 a_1 a_2))) ∧
    (∀ (a_0 : Bool) (a_1 : List Bool) (a_2 : X) (a_3 : X) (r : List W) (st : St) (d : Option Nat) (fb an : List Nat), go E N none (.o ⟨d, (.eqs a_0 a_1 a_2 a_3), none, fb, an⟩ :: r) st = goO E N r st d (ev E (d.getD 0) (vG fb st) (vH fb st) (.eqs a_0 a_1 a_2 a_3))) ∧
    (∀ (a_0 : Bool) (a_1 : X) (r : List W) (st : St) (d : Option Nat) (fb an : List Nat), go E N none (.o ⟨d, (.isnil a_0 a_1), none, fb, an⟩ :: r) st = goO E N r st d (ev E (d.getD 0) (vG fb st) (vH fb st) (.isnil a_0 a_1))) ∧
    (∀ (a_0 : UnOp) (a_1 : X) (r : List W) (st : St) (d : Option Nat) (fb an : List Nat), go E N none (.o ⟨d, (.un a_0 a_1), none, fb, an⟩ :: r) st = goO E N r st d (ev E (d.getD 0) (vG fb st) (vH fb st) (.un a_0 a_1))) ∧
    (∀ (a_0 : IntKind) (a_1 : X) (r : List W) (st : St) (d : Option Nat) (fb an : List Nat), go E N none (.o ⟨d, (.conv a_0 a_1), none, fb, an⟩ :: r) st = goO E N r st d (ev E (d.getD 0) (vG fb st) (vH fb st) (.conv a_0 a_1))) ∧
    (∀ (a_0 : List V) (r : List W) (st : St) (d : Option Nat) (fb an : List Nat), go E N none (.o ⟨d, (.alloc a_0), none, fb, an⟩ :: r) st = goO E N r st d (ev E (d.getD 0) (vG fb st) (vH fb st) (.alloc a_0))) ∧
    (∀ (a_0 : X) (r : List W) (st : St) (d : Option Nat) (fb an : List Nat), go E N none (.o ⟨d, (.box a_0), none, fb, an⟩ :: r) st = goO E N r st d (ev E (d.getD 0) (vG fb st) (vH fb st) (.box a_0))) ∧
    (∀ (a_0 : List V) (a_1 : List (Nat × Nat × X)) (r : List W) (st : St) (d : Option Nat) (fb an : List Nat), go E N none (.o ⟨d, (.build a_0 a_1), none, fb, an⟩ :: r) st = goO E N r st d (ev E (d.getD 0) (vG fb st) (vH fb st) (.build a_0 a_1))) ∧
    (∀ (a_0 : Nat) (a_1 : Nat) (a_2 : Nat) (a_3 : List V) (a_4 : List (Nat × X)) (r : List W) (st : St) (d : Option Nat) (fb an : List Nat), go E N none (.o ⟨d, (.bsl a_0 a_1 a_2 a_3 a_4), none, fb, an⟩ :: r) st = goO E N r st d (ev E (d.getD 0) (vG fb st) (vH fb st) (.bsl a_0 a_1 a_2 a_3 a_4))) ∧
    (∀ (a_0 : Bool) (a_1 : Nat) (a_2 : X) (r : List W) (st : St) (d : Option Nat) (fb an : List Nat), go E N none (.o ⟨d, (.load a_0 a_1 a_2), none, fb, an⟩ :: r) st = goO E N r st d (ev E (d.getD 0) (vG fb st) (vH fb st) (.load a_0 a_1 a_2))) ∧
    (∀ (a_0 : X) (r : List W) (st : St) (d : Option Nat) (fb an : List Nat), go E N none (.o ⟨d, (.nck a_0), none, fb, an⟩ :: r) st = goO E N r st d (ev E (d.getD 0) (vG fb st) (vH fb st) (.nck a_0))) ∧
    (∀ (a_0 : Nat) (a_1 : Nat) (a_2 : Nat) (a_3 : List V) (a_4 : X) (a_5 : X) (r : List W) (st : St) (d : Option Nat) (fb an : List Nat), go E N none (.o ⟨d, (.mks a_0 a_1 a_2 a_3 a_4 a_5), none, fb, an⟩ :: r) st = goO E N r st d (ev E (d.getD 0) (vG fb st) (vH fb st) (.mks a_0 a_1 a_2 a_3 a_4 a_5))) ∧
    (∀ (a_0 : Nat) (a_1 : X) (a_2 : Option X) (a_3 : Option X) (r : List W) (st : St) (d : Option Nat) (fb an : List Nat), go E N none (.o ⟨d, (.cut a_0 a_1 a_2 a_3), none, fb, an⟩ :: r) st = goO E N r st d (ev E (d.getD 0) (vG fb st) (vH fb st) (.cut a_0 a_1 a_2 a_3))) ∧
    (∀ (a_0 : Nat) (a_1 : X) (r : List W) (st : St) (d : Option Nat) (fb an : List Nat), go E N none (.o ⟨d, (.fad a_0 a_1), none, fb, an⟩ :: r) st = goO E N r st d (ev E (d.getD 0) (vG fb st) (vH fb st) (.fad a_0 a_1))) ∧
    (∀ (a_0 : Bool) (a_1 : Nat) (a_2 : Nat) (a_3 : X) (r : List W) (st : St) (d : Option Nat) (fb an : List Nat), go E N none (.o ⟨d, (.fld a_0 a_1 a_2 a_3), none, fb, an⟩ :: r) st = goO E N r st d (ev E (d.getD 0) (vG fb st) (vH fb st) (.fld a_0 a_1 a_2 a_3))) ∧
    (∀ (a_0 : Nat) (a_1 : X) (a_2 : X) (r : List W) (st : St) (d : Option Nat) (fb an : List Nat), go E N none (.o ⟨d, (.iad a_0 a_1 a_2), none, fb, an⟩ :: r) st = goO E N r st d (ev E (d.getD 0) (vG fb st) (vH fb st) (.iad a_0 a_1 a_2))) ∧
    (∀ (a_0 : Nat) (a_1 : Nat) (a_2 : X) (a_3 : X) (r : List W) (st : St) (d : Option Nat) (fb an : List Nat), go E N none (.o ⟨d, (.iada a_0 a_1 a_2 a_3), none, fb, an⟩ :: r) st = goO E N r st d (ev E (d.getD 0) (vG fb st) (vH fb st) (.iada a_0 a_1 a_2 a_3))) ∧
    (∀ (a_0 : Bool) (a_1 : Nat) (a_2 : Nat) (a_3 : X) (a_4 : X) (r : List W) (st : St) (d : Option Nat) (fb an : List Nat), go E N none (.o ⟨d, (.idx a_0 a_1 a_2 a_3 a_4), none, fb, an⟩ :: r) st = goO E N r st d (ev E (d.getD 0) (vG fb st) (vH fb st) (.idx a_0 a_1 a_2 a_3 a_4))) ∧
    (∀ (a_0 : X) (a_1 : Nat) (r : List W) (st : St) (d : Option Nat) (fb an : List Nat), go E N none (.o ⟨d, (.ext a_0 a_1), none, fb, an⟩ :: r) st = goO E N r st d (ev E (d.getD 0) (vG fb st) (vH fb st) (.ext a_0 a_1))) ∧
    (∀ (a_0 : Bool) (a_1 : Nat) (a_2 : List X) (r : List W) (st : St) (d : Option Nat) (fb an : List Nat), go E N none (.o ⟨d, (.call a_0 a_1 a_2), none, fb, an⟩ :: r) st = goO E N r st d (ev E (d.getD 0) (vG fb st) (vH fb st) (.call a_0 a_1 a_2))) ∧
    (∀ (a_0 : Bool) (a_1 : X) (a_2 : List X) (r : List W) (st : St) (d : Option Nat) (fb an : List Nat), go E N none (.o ⟨d, (.callv a_0 a_1 a_2), none, fb, an⟩ :: r) st = goO E N r st d (ev E (d.getD 0) (vG fb st) (vH fb st) (.callv a_0 a_1 a_2))) ∧
    (∀ (a_0 : X) (r : List W) (st : St) (d : Option Nat) (fb an : List Nat), go E N none (.o ⟨d, (.len a_0), none, fb, an⟩ :: r) st = goO E N r st d (ev E (d.getD 0) (vG fb st) (vH fb st) (.len a_0))) ∧
    (∀ (a_0 : X) (a_1 : X) (r : List W) (st : St) (d : Option Nat) (fb an : List Nat), go E N none (.o ⟨d, (.mx a_0 a_1), none, fb, an⟩ :: r) st = goO E N r st d (ev E (d.getD 0) (vG fb st) (vH fb st) (.mx a_0 a_1))) ∧
    (∀ (a_0 : X) (a_1 : X) (r : List W) (st : St) (d : Option Nat) (fb an : List Nat), go E N none (.o ⟨d, (.mn a_0 a_1), none, fb, an⟩ :: r) st = goO E N r st d (ev E (d.getD 0) (vG fb st) (vH fb st) (.mn a_0 a_1))) ∧
    (∀ (a_0 : Nat) (a_1 : List X) (r : List W) (st : St) (d : Option Nat) (fb an : List Nat), go E N none (.o ⟨d, (.mkf a_0 a_1), none, fb, an⟩ :: r) st = goO E N r st d (ev E (d.getD 0) (vG fb st) (vH fb st) (.mkf a_0 a_1))) ∧
    (∀ (a_0 : X) (r : List W) (st : St) (d : Option Nat) (fb an : List Nat), go E N none (.o ⟨d, (.kln a_0), none, fb, an⟩ :: r) st = goO E N r st d (ev E (d.getD 0) (vG fb st) (vH fb st) (.kln a_0))) ∧
    (∀ (a_0 : X) (a_1 : X) (r : List W) (st : St) (d : Option Nat) (fb an : List Nat), go E N none (.o ⟨d, (.kct a_0 a_1), none, fb, an⟩ :: r) st = goO E N r st d (ev E (d.getD 0) (vG fb st) (vH fb st) (.kct a_0 a_1))) ∧
    (∀ (a_0 : Nat) (a_1 : Nat) (a_2 : Nat) (a_3 : List V) (a_4 : X) (a_5 : X) (r : List W) (st : St) (d : Option Nat) (fb an : List Nat), go E N none (.o ⟨d, (.apz a_0 a_1 a_2 a_3 a_4 a_5), none, fb, an⟩ :: r) st = goO E N r st d (ev E (d.getD 0) (vG fb st) (vH fb st) (.apz a_0 a_1 a_2 a_3 a_4 a_5))) ∧
    (∀ (a_0 : Nat) (a_1 : X) (a_2 : X) (r : List W) (st : St) (d : Option Nat) (fb an : List Nat), go E N none (.o ⟨d, (.cu0 a_0 a_1 a_2), none, fb, an⟩ :: r) st = goO E N r st d (ev E (d.getD 0) (vG fb st) (vH fb st) (.cu0 a_0 a_1 a_2))) ∧
    (∀ (a_0 : Nat) (a_1 : Nat) (a_2 : X) (r : List W) (st : St) (d : Option Nat) (fb an : List Nat), go E N none (.o ⟨d, (.kow a_0 a_1 a_2), none, fb, an⟩ :: r) st = goO E N r st d (ev E (d.getD 0) (vG fb st) (vH fb st) (.kow a_0 a_1 a_2))) ∧
    (∀ (a_0 : List V) (a_1 : List (Nat × Nat × Nat)) (r : List W) (st : St) (d : Option Nat) (fb an : List Nat), go E N none (.o ⟨d, (.alo a_0 a_1), none, fb, an⟩ :: r) st = goO E N r st d (ev E (d.getD 0) (vG fb st) (vH fb st) (.alo a_0 a_1))) ∧
    (∀ (a_0 : Nat) (a_1 : Nat) (a_2 : Nat) (a_3 : X) (a_4 : X) (r : List W) (st : St) (d : Option Nat) (fb an : List Nat), go E N none (.o ⟨d, (.apn a_0 a_1 a_2 a_3 a_4), none, fb, an⟩ :: r) st = goO E N r st d (ev E (d.getD 0) (vG fb st) (vH fb st) (.apn a_0 a_1 a_2 a_3 a_4))) := by
  refine ⟨?_, ?_, ?_, ?_, ?_, ?_, ?_, ?_, ?_, ?_, ?_, ?_, ?_, ?_, ?_, ?_, ?_, ?_, ?_, ?_, ?_, ?_, ?_, ?_, ?_, ?_, ?_, ?_, ?_, ?_, ?_, ?_, ?_, ?_, ?_, ?_⟩ <;> (intros; first | exact go_o rfl rfl | exact go_g rfl rfl)
theorem pp {E : Nat → Model} {N : Nat} : (∀ (a_0 : X) (r : List W) (st : St) (d : Option Nat) (t : Nat) (w : Bool) (fb an : List Nat), go E N none (.o ⟨d, (.mov a_0), some (t, w), fb, an⟩ :: r) st = goG E N ⟨d, (.mov a_0), none, fb, an⟩ w r st (vG fb st t)) ∧
    (∀ (a_0 : Nat) (a_1 : Nat) (a_2 : Nat) (r : List W) (st : St) (d : Option Nat) (t : Nat) (w : Bool) (fb an : List Nat), go E N none (.o ⟨d, (.nilsl a_0 a_1 a_2), some (t, w), fb, an⟩ :: r) st = goG E N ⟨d, (.nilsl a_0 a_1 a_2), none, fb, an⟩ w r st (vG fb st t)) ∧
    (∀ (a_0 : X) (a_1 : X) (a_2 : X) (r : List W) (st : St) (d : Option Nat) (t : Nat) (w : Bool) (fb an : List Nat), go E N none (.o ⟨d, (.pick a_0 a_1 a_2), some (t, w), fb, an⟩ :: r) st = goG E N ⟨d, (.pick a_0 a_1 a_2), none, fb, an⟩ w r st (vG fb st t)) ∧
    (∀ (a_0 : BinOp) (a_1 : X) (a_2 : X) (r : List W) (st : St) (d : Option Nat) (t : Nat) (w : Bool) (fb an : List Nat), go E N none (.o ⟨d, (.bin a_0 a_1 a_2), some (t, w), fb, an⟩ :: r) st = goG E N ⟨d, (.bin a_0 a_1 a_2), none, fb, an⟩ w r st (vG fb st t)) ∧
    (∀ (a_0 : Bool) (a_1 : X) (a_2 : X) (r : List W) (st : St) (d : Option Nat) (t : Nat) (w : Bool) (fb an : List Nat), go E N none (.o ⟨d, (.eqb a_0 a_1 a_2), some (t, w), fb, an⟩ :: r) st = goG E N ⟨d, (.eqb a_0 a_1 a_2), none, fb, an⟩ w r st (vG fb st t)) ∧
    (∀ (a_0 : Bool) (a_1 : List Bool) (a_2 : X) (a_3 : X) (r : List W) (st : St) (d : Option Nat) (t : Nat) (w : Bool) (fb an : List Nat), go E N none (.o ⟨d, (.eqs a_0 a_1 a_2 a_3), some (t, w), fb, an⟩ :: r) st = goG E N ⟨d, (.eqs a_0 a_1 a_2 a_3), none, fb, an⟩ w r st (vG fb st t)) ∧
    (∀ (a_0 : Bool) (a_1 : X) (r : List W) (st : St) (d : Option Nat) (t : Nat) (w : Bool) (fb an : List Nat), go E N none (.o ⟨d, (.isnil a_0 a_1), some (t, w), fb, an⟩ :: r) st = goG E N ⟨d, (.isnil a_0 a_1), none, fb, an⟩ w r st (vG fb st t)) ∧
    (∀ (a_0 : UnOp) (a_1 : X) (r : List W) (st : St) (d : Option Nat) (t : Nat) (w : Bool) (fb an : List Nat), go E N none (.o ⟨d, (.un a_0 a_1), some (t, w), fb, an⟩ :: r) st = goG E N ⟨d, (.un a_0 a_1), none, fb, an⟩ w r st (vG fb st t)) ∧
    (∀ (a_0 : IntKind) (a_1 : X) (r : List W) (st : St) (d : Option Nat) (t : Nat) (w : Bool) (fb an : List Nat), go E N none (.o ⟨d, (.conv a_0 a_1), some (t, w), fb, an⟩ :: r) st = goG E N ⟨d, (.conv a_0 a_1), none, fb, an⟩ w r st (vG fb st t)) ∧
    (∀ (a_0 : List V) (r : List W) (st : St) (d : Option Nat) (t : Nat) (w : Bool) (fb an : List Nat), go E N none (.o ⟨d, (.alloc a_0), some (t, w), fb, an⟩ :: r) st = goG E N ⟨d, (.alloc a_0), none, fb, an⟩ w r st (vG fb st t)) ∧
    (∀ (a_0 : X) (r : List W) (st : St) (d : Option Nat) (t : Nat) (w : Bool) (fb an : List Nat), go E N none (.o ⟨d, (.box a_0), some (t, w), fb, an⟩ :: r) st = goG E N ⟨d, (.box a_0), none, fb, an⟩ w r st (vG fb st t)) ∧
    (∀ (a_0 : List V) (a_1 : List (Nat × Nat × X)) (r : List W) (st : St) (d : Option Nat) (t : Nat) (w : Bool) (fb an : List Nat), go E N none (.o ⟨d, (.build a_0 a_1), some (t, w), fb, an⟩ :: r) st = goG E N ⟨d, (.build a_0 a_1), none, fb, an⟩ w r st (vG fb st t)) ∧
    (∀ (a_0 : Nat) (a_1 : Nat) (a_2 : Nat) (a_3 : List V) (a_4 : List (Nat × X)) (r : List W) (st : St) (d : Option Nat) (t : Nat) (w : Bool) (fb an : List Nat), go E N none (.o ⟨d, (.bsl a_0 a_1 a_2 a_3 a_4), some (t, w), fb, an⟩ :: r) st = goG E N ⟨d, (.bsl a_0 a_1 a_2 a_3 a_4), none, fb, an⟩ w r st (vG fb st t)) ∧
    (∀ (a_0 : Bool) (a_1 : Nat) (a_2 : X) (r : List W) (st : St) (d : Option Nat) (t : Nat) (w : Bool) (fb an : List Nat), go E N none (.o ⟨d, (.load a_0 a_1 a_2), some (t, w), fb, an⟩ :: r) st = goG E N ⟨d, (.load a_0 a_1 a_2), none, fb, an⟩ w r st (vG fb st t)) ∧
    (∀ (a_0 : X) (r : List W) (st : St) (d : Option Nat) (t : Nat) (w : Bool) (fb an : List Nat), go E N none (.o ⟨d, (.nck a_0), some (t, w), fb, an⟩ :: r) st = goG E N ⟨d, (.nck a_0), none, fb, an⟩ w r st (vG fb st t)) ∧
    (∀ (a_0 : Nat) (a_1 : Nat) (a_2 : Nat) (a_3 : List V) (a_4 : X) (a_5 : X) (r : List W) (st : St) (d : Option Nat) (t : Nat) (w : Bool) (fb an : List Nat), go E N none (.o ⟨d, (.mks a_0 a_1 a_2 a_3 a_4 a_5), some (t, w), fb, an⟩ :: r) st = goG E N ⟨d, (.mks a_0 a_1 a_2 a_3 a_4 a_5), none, fb, an⟩ w r st (vG fb st t)) ∧
    (∀ (a_0 : Nat) (a_1 : X) (a_2 : Option X) (a_3 : Option X) (r : List W) (st : St) (d : Option Nat) (t : Nat) (w : Bool) (fb an : List Nat), go E N none (.o ⟨d, (.cut a_0 a_1 a_2 a_3), some (t, w), fb, an⟩ :: r) st = goG E N ⟨d, (.cut a_0 a_1 a_2 a_3), none, fb, an⟩ w r st (vG fb st t)) ∧
    (∀ (a_0 : Nat) (a_1 : X) (r : List W) (st : St) (d : Option Nat) (t : Nat) (w : Bool) (fb an : List Nat), go E N none (.o ⟨d, (.fad a_0 a_1), some (t, w), fb, an⟩ :: r) st = goG E N ⟨d, (.fad a_0 a_1), none, fb, an⟩ w r st (vG fb st t)) ∧
    (∀ (a_0 : Bool) (a_1 : Nat) (a_2 : Nat) (a_3 : X) (r : List W) (st : St) (d : Option Nat) (t : Nat) (w : Bool) (fb an : List Nat), go E N none (.o ⟨d, (.fld a_0 a_1 a_2 a_3), some (t, w), fb, an⟩ :: r) st = goG E N ⟨d, (.fld a_0 a_1 a_2 a_3), none, fb, an⟩ w r st (vG fb st t)) ∧
    (∀ (a_0 : Nat) (a_1 : X) (a_2 : X) (r : List W) (st : St) (d : Option Nat) (t : Nat) (w : Bool) (fb an : List Nat), go E N none (.o ⟨d, (.iad a_0 a_1 a_2), some (t, w), fb, an⟩ :: r) st = goG E N ⟨d, (.iad a_0 a_1 a_2), none, fb, an⟩ w r st (vG fb st t)) ∧
    (∀ (a_0 : Nat) (a_1 : Nat) (a_2 : X) (a_3 : X) (r : List W) (st : St) (d : Option Nat) (t : Nat) (w : Bool) (fb an : List Nat), go E N none (.o ⟨d, (.iada a_0 a_1 a_2 a_3), some (t, w), fb, an⟩ :: r) st = goG E N ⟨d, (.iada a_0 a_1 a_2 a_3), none, fb, an⟩ w r st (vG fb st t)) ∧
    (∀ (a_0 : Bool) (a_1 : Nat) (a_2 : Nat) (a_3 : X) (a_4 : X) (r : List W) (st : St) (d : Option Nat) (t : Nat) (w : Bool) (fb an : List Nat), go E N none (.o ⟨d, (.idx a_0 a_1 a_2 a_3 a_4), some (t, w), fb, an⟩ :: r) st = goG E N ⟨d, (.idx a_0 a_1 a_2 a_3 a_4), none, fb, an⟩ w r st (vG fb st t)) ∧
    (∀ (a_0 : X) (a_1 : Nat) (r : List W) (st : St) (d : Option Nat) (t : Nat) (w : Bool) (fb an : List Nat), go E N none (.o ⟨d, (.ext a_0 a_1), some (t, w), fb, an⟩ :: r) st = goG E N ⟨d, (.ext a_0 a_1), none, fb, an⟩ w r st (vG fb st t)) ∧
    (∀ (a_0 : Bool) (a_1 : Nat) (a_2 : List X) (r : List W) (st : St) (d : Option Nat) (t : Nat) (w : Bool) (fb an : List Nat), go E N none (.o ⟨d, (.call a_0 a_1 a_2), some (t, w), fb, an⟩ :: r) st = goG E N ⟨d, (.call a_0 a_1 a_2), none, fb, an⟩ w r st (vG fb st t)) ∧
    (∀ (a_0 : Bool) (a_1 : X) (a_2 : List X) (r : List W) (st : St) (d : Option Nat) (t : Nat) (w : Bool) (fb an : List Nat), go E N none (.o ⟨d, (.callv a_0 a_1 a_2), some (t, w), fb, an⟩ :: r) st = goG E N ⟨d, (.callv a_0 a_1 a_2), none, fb, an⟩ w r st (vG fb st t)) ∧
    (∀ (a_0 : X) (r : List W) (st : St) (d : Option Nat) (t : Nat) (w : Bool) (fb an : List Nat), go E N none (.o ⟨d, (.len a_0), some (t, w), fb, an⟩ :: r) st = goG E N ⟨d, (.len a_0), none, fb, an⟩ w r st (vG fb st t)) ∧
    (∀ (a_0 : X) (a_1 : X) (r : List W) (st : St) (d : Option Nat) (t : Nat) (w : Bool) (fb an : List Nat), go E N none (.o ⟨d, (.mx a_0 a_1), some (t, w), fb, an⟩ :: r) st = goG E N ⟨d, (.mx a_0 a_1), none, fb, an⟩ w r st (vG fb st t)) ∧
    (∀ (a_0 : X) (a_1 : X) (r : List W) (st : St) (d : Option Nat) (t : Nat) (w : Bool) (fb an : List Nat), go E N none (.o ⟨d, (.mn a_0 a_1), some (t, w), fb, an⟩ :: r) st = goG E N ⟨d, (.mn a_0 a_1), none, fb, an⟩ w r st (vG fb st t)) ∧
    (∀ (a_0 : Nat) (a_1 : List X) (r : List W) (st : St) (d : Option Nat) (t : Nat) (w : Bool) (fb an : List Nat), go E N none (.o ⟨d, (.mkf a_0 a_1), some (t, w), fb, an⟩ :: r) st = goG E N ⟨d, (.mkf a_0 a_1), none, fb, an⟩ w r st (vG fb st t)) ∧
    (∀ (a_0 : X) (r : List W) (st : St) (d : Option Nat) (t : Nat) (w : Bool) (fb an : List Nat), go E N none (.o ⟨d, (.kln a_0), some (t, w), fb, an⟩ :: r) st = goG E N ⟨d, (.kln a_0), none, fb, an⟩ w r st (vG fb st t)) ∧
    (∀ (a_0 : X) (a_1 : X) (r : List W) (st : St) (d : Option Nat) (t : Nat) (w : Bool) (fb an : List Nat), go E N none (.o ⟨d, (.kct a_0 a_1), some (t, w), fb, an⟩ :: r) st = goG E N ⟨d, (.kct a_0 a_1), none, fb, an⟩ w r st (vG fb st t)) ∧
    (∀ (a_0 : Nat) (a_1 : Nat) (a_2 : Nat) (a_3 : List V) (a_4 : X) (a_5 : X) (r : List W) (st : St) (d : Option Nat) (t : Nat) (w : Bool) (fb an : List Nat), go E N none (.o ⟨d, (.apz a_0 a_1 a_2 a_3 a_4 a_5), some (t, w), fb, an⟩ :: r) st = goG E N ⟨d, (.apz a_0 a_1 a_2 a_3 a_4 a_5), none, fb, an⟩ w r st (vG fb st t)) ∧
    (∀ (a_0 : Nat) (a_1 : X) (a_2 : X) (r : List W) (st : St) (d : Option Nat) (t : Nat) (w : Bool) (fb an : List Nat), go E N none (.o ⟨d, (.cu0 a_0 a_1 a_2), some (t, w), fb, an⟩ :: r) st = goG E N ⟨d, (.cu0 a_0 a_1 a_2), none, fb, an⟩ w r st (vG fb st t)) ∧
    (∀ (a_0 : Nat) (a_1 : Nat) (a_2 : X) (r : List W) (st : St) (d : Option Nat) (t : Nat) (w : Bool) (fb an : List Nat), go E N none (.o ⟨d, (.kow a_0 a_1 a_2), some (t, w), fb, an⟩ :: r) st = goG E N ⟨d, (.kow a_0 a_1 a_2), none, fb, an⟩ w r st (vG fb st t)) ∧
    (∀ (a_0 : List V) (a_1 : List (Nat × Nat × Nat)) (r : List W) (st : St) (d : Option Nat) (t : Nat) (w : Bool) (fb an : List Nat), go E N none (.o ⟨d, (.alo a_0 a_1), some (t, w), fb, an⟩ :: r) st = goG E N ⟨d, (.alo a_0 a_1), none, fb, an⟩ w r st (vG fb st t)) ∧
    (∀ (a_0 : Nat) (a_1 : Nat) (a_2 : Nat) (a_3 : X) (a_4 : X) (r : List W) (st : St) (d : Option Nat) (t : Nat) (w : Bool) (fb an : List Nat), go E N none (.o ⟨d, (.apn a_0 a_1 a_2 a_3 a_4), some (t, w), fb, an⟩ :: r) st = goG E N ⟨d, (.apn a_0 a_1 a_2 a_3 a_4), none, fb, an⟩ w r st (vG fb st t)) := by
  refine ⟨?_, ?_, ?_, ?_, ?_, ?_, ?_, ?_, ?_, ?_, ?_, ?_, ?_, ?_, ?_, ?_, ?_, ?_, ?_, ?_, ?_, ?_, ?_, ?_, ?_, ?_, ?_, ?_, ?_, ?_, ?_, ?_, ?_, ?_, ?_, ?_⟩ <;> (intros; first | exact go_o rfl rfl | exact go_g rfl rfl)
theorem oo3 {E : Nat → Model} {N : Nat} : (∀ (a_0 : Nat) (a_1 : X) (r : List W) (st : St) (d : Option Nat) (fb an : List Nat), go E N none (.o ⟨d, (.mki a_0 a_1), none, fb, an⟩ :: r) st = goO E N r st d (ev E (d.getD 0) (vG fb st) (vH fb st) (.mki a_0 a_1))) ∧
    (∀ (a_0 : Bool) (a_1 : X) (r : List W) (st : St) (d : Option Nat) (fb an : List Nat), go E N none (.o ⟨d, (.ifn a_0 a_1), none, fb, an⟩ :: r) st = goO E N r st d (ev E (d.getD 0) (vG fb st) (vH fb st) (.ifn a_0 a_1))) ∧
    (∀ (a_0 : List Nat) (a_1 : X) (a_2 : X) (r : List W) (st : St) (d : Option Nat) (fb an : List Nat), go E N none (.o ⟨d, (.ieq a_0 a_1 a_2), none, fb, an⟩ :: r) st = goO E N r st d (ev E (d.getD 0) (vG fb st) (vH fb st) (.ieq a_0 a_1 a_2))) ∧
    (∀ (a_0 : Nat) (a_1 : List (Nat × Bool)) (a_2 : X) (r : List W) (st : St) (d : Option Nat) (fb an : List Nat), go E N none (.o ⟨d, (.tas a_0 a_1 a_2), none, fb, an⟩ :: r) st = goO E N r st d (ev E (d.getD 0) (vG fb st) (vH fb st) (.tas a_0 a_1 a_2))) ∧
    (∀ (a_0 : Bool) (a_1 : List (Nat × Nat)) (a_2 : X) (a_3 : List X) (r : List W) (st : St) (d : Option Nat) (fb an : List Nat), go E N none (.o ⟨d, (.inv a_0 a_1 a_2 a_3), none, fb, an⟩ :: r) st = goO E N r st d (ev E (d.getD 0) (vG fb st) (vH fb st) (.inv a_0 a_1 a_2 a_3))) ∧
    (∀ (a_0 : Nat) (a_1 : Nat) (a_2 : Nat) (a_3 : List V) (a_4 : X) (r : List W) (st : St) (d : Option Nat) (fb an : List Nat), go E N none (.o ⟨d, (.mkz a_0 a_1 a_2 a_3 a_4), none, fb, an⟩ :: r) st = goO E N r st d (ev E (d.getD 0) (vG fb st) (vH fb st) (.mkz a_0 a_1 a_2 a_3 a_4))) ∧
    (∀ (a_0 : Nat) (a_1 : Nat) (a_2 : Nat) (a_3 : List V) (a_4 : List (Nat × X)) (r : List W) (st : St) (d : Option Nat) (fb an : List Nat), go E N none (.o ⟨d, (.bsr a_0 a_1 a_2 a_3 a_4), none, fb, an⟩ :: r) st = goO E N r st d (ev E (d.getD 0) (vG fb st) (vH fb st) (.bsr a_0 a_1 a_2 a_3 a_4))) ∧
    (∀ (a_0 : Nat) (a_1 : X) (r : List W) (st : St) (d : Option Nat) (t : Nat) (w : Bool) (fb an : List Nat), go E N none (.o ⟨d, (.mki a_0 a_1), some (t, w), fb, an⟩ :: r) st = goG E N ⟨d, (.mki a_0 a_1), none, fb, an⟩ w r st (vG fb st t)) ∧
    (∀ (a_0 : Bool) (a_1 : X) (r : List W) (st : St) (d : Option Nat) (t : Nat) (w : Bool) (fb an : List Nat), go E N none (.o ⟨d, (.ifn a_0 a_1), some (t, w), fb, an⟩ :: r) st = goG E N ⟨d, (.ifn a_0 a_1), none, fb, an⟩ w r st (vG fb st t)) ∧
    (∀ (a_0 : List Nat) (a_1 : X) (a_2 : X) (r : List W) (st : St) (d : Option Nat) (t : Nat) (w : Bool) (fb an : List Nat), go E N none (.o ⟨d, (.ieq a_0 a_1 a_2), some (t, w), fb, an⟩ :: r) st = goG E N ⟨d, (.ieq a_0 a_1 a_2), none, fb, an⟩ w r st (vG fb st t)) ∧
    (∀ (a_0 : Nat) (a_1 : List (Nat × Bool)) (a_2 : X) (r : List W) (st : St) (d : Option Nat) (t : Nat) (w : Bool) (fb an : List Nat), go E N none (.o ⟨d, (.tas a_0 a_1 a_2), some (t, w), fb, an⟩ :: r) st = goG E N ⟨d, (.tas a_0 a_1 a_2), none, fb, an⟩ w r st (vG fb st t)) ∧
    (∀ (a_0 : Bool) (a_1 : List (Nat × Nat)) (a_2 : X) (a_3 : List X) (r : List W) (st : St) (d : Option Nat) (t : Nat) (w : Bool) (fb an : List Nat), go E N none (.o ⟨d, (.inv a_0 a_1 a_2 a_3), some (t, w), fb, an⟩ :: r) st = goG E N ⟨d, (.inv a_0 a_1 a_2 a_3), none, fb, an⟩ w r st (vG fb st t)) ∧
    (∀ (a_0 : Nat) (a_1 : Nat) (a_2 : Nat) (a_3 : List V) (a_4 : X) (r : List W) (st : St) (d : Option Nat) (t : Nat) (w : Bool) (fb an : List Nat), go E N none (.o ⟨d, (.mkz a_0 a_1 a_2 a_3 a_4), some (t, w), fb, an⟩ :: r) st = goG E N ⟨d, (.mkz a_0 a_1 a_2 a_3 a_4), none, fb, an⟩ w r st (vG fb st t)) ∧
    (∀ (a_0 : Nat) (a_1 : Nat) (a_2 : Nat) (a_3 : List V) (a_4 : List (Nat × X)) (r : List W) (st : St) (d : Option Nat) (t : Nat) (w : Bool) (fb an : List Nat), go E N none (.o ⟨d, (.bsr a_0 a_1 a_2 a_3 a_4), some (t, w), fb, an⟩ :: r) st = goG E N ⟨d, (.bsr a_0 a_1 a_2 a_3 a_4), none, fb, an⟩ w r st (vG fb st t)) := by
  refine ⟨?_, ?_, ?_, ?_, ?_, ?_, ?_, ?_, ?_, ?_, ?_, ?_, ?_, ?_⟩ <;> (intros; first | exact go_o rfl rfl | exact go_g rfl rfl)
theorem go_stp {E : Nat → Model} {N : Nat} {r : List W} {st : St} {d : Option Nat} {t : Nat} {w : Bool} {fb an : List Nat} : go E N none (.o ⟨d, .stop, some (t, w), fb, an⟩ :: r) st = goG E N ⟨d, .stop, none, fb, an⟩ w r st (vG fb st t) := go_g rfl rfl
theorem go_mkp {E : Nat → Model} {N : Nat} {r : List W} {st : St} {d : Option Nat} {t : Nat} {x : X} {fb an : List Nat} : go E N none (.o ⟨d, .mkp t x, none, fb, an⟩ :: r) st = goE E N r d (evE E (d.getD 0) st (.mkp t x)) := go_e rfl
theorem go_ea {E : Nat → Model} {N : Nat} {r : List W} {st : St} {d : Option Nat} {el e b : Nat} {x y : X} {fb an : List Nat} : go E N none (.o ⟨d, .app el e b x y, none, fb, an⟩ :: r) st = goE E N r d (evE E (d.getD 0) st (.app el e b x y)) := go_e rfl
theorem go_ek {E : Nat → Model} {N : Nat} {r : List W} {st : St} {d : Option Nat} {el e b : Nat} {x y : X} {fb an : List Nat} : go E N none (.o ⟨d, .apk el e b x y, none, fb, an⟩ :: r) st = goE E N r d (evE E (d.getD 0) st (.apk el e b x y)) := go_e rfl
theorem go_apl {E : Nat → Model} {N : Nat} {r : List W} {st : St} {d : Option Nat} {el e b : Nat} {zs : List V} {x y : X} {fb an : List Nat} : go E N none (.o ⟨d, .apl el e b zs x y, none, fb, an⟩ :: r) st = goE E N r d (evE E (d.getD 0) st (.apl el e b zs x y)) := go_e rfl
theorem go_ev {E : Nat → Model} {N : Nat} {r : List W} {st : St} {d : Option Nat} {x : X} {fb an : List Nat} : go E N none (.o ⟨d, .cvb x, none, fb, an⟩ :: r) st = goE E N r d (evE E (d.getD 0) st (.cvb x)) := go_e rfl
theorem go_eb {E : Nat → Model} {N : Nat} {r : List W} {st : St} {d : Option Nat} {el e b : Nat} {x y : X} {t : Nat} {w : Bool} {fb an : List Nat} : go E N none (.o ⟨d, .app el e b x y, some (t, w), fb, an⟩ :: r) st = goG E N ⟨d, .app el e b x y, none, fb, an⟩ w r st (look st.sl t) := go_eg rfl
theorem go_el {E : Nat → Model} {N : Nat} {r : List W} {st : St} {d : Option Nat} {el e b : Nat} {x y : X} {t : Nat} {w : Bool} {fb an : List Nat} : go E N none (.o ⟨d, .apk el e b x y, some (t, w), fb, an⟩ :: r) st = goG E N ⟨d, .apk el e b x y, none, fb, an⟩ w r st (look st.sl t) := go_eg rfl
theorem go_ec {E : Nat → Model} {N : Nat} {r : List W} {st : St} {d : Option Nat} {el e : Nat} {x : X} {fb an : List Nat} : go E N none (.o ⟨d, .clr el e x, none, fb, an⟩ :: r) st = goE E N r d (evE E (d.getD 0) st (.clr el e x)) := go_e rfl
theorem go_eo {E : Nat → Model} {N : Nat} {r : List W} {st : St} {d : Option Nat} {f : Nat} {as : List X} {fb an : List Nat} : go E N none (.o ⟨d, .callo f as, none, fb, an⟩ :: r) st = goE E N r d (evE E (d.getD 0) st (.callo f as)) := go_e rfl
theorem go_eq {E : Nat → Model} {N : Nat} {r : List W} {st : St} {d : Option Nat} {f : Nat} {as : List X} {t : Nat} {w : Bool} {fb an : List Nat} : go E N none (.o ⟨d, .callo f as, some (t, w), fb, an⟩ :: r) st = goG E N ⟨d, .callo f as, none, fb, an⟩ w r st (look st.sl t) := go_eg rfl
theorem qq : type_of% @go_seq ∧
    type_of% @go_region ∧
    type_of% @go_block ∧
    type_of% @go_cond ∧
    type_of% @go_skip ∧
    type_of% @go_ret ∧
    type_of% @go_exit ∧
    type_of% @go_xnil ∧
    type_of% @go_xb ∧
    type_of% @go_xc ∧
    type_of% @go_xo ∧
    type_of% @go_b ∧
    type_of% @go_nil ∧
    type_of% @go_keep ∧
    type_of% @go_frz ∧
    type_of% @callI_f ∧
    type_of% @callI_t ∧
    type_of% @callP_s ∧
    type_of% @callQ_s ∧
    type_of% @callF_nil ∧
    type_of% @callF_cons ∧
    type_of% @callO_nil ∧
    type_of% @callO_cons ∧
    type_of% @ans_s ∧
    type_of% @ret0_s ∧
    type_of% @go_loop ∧
    type_of% @aft_norm ∧
    type_of% @aft_exit ∧
    type_of% @aft_ret ∧
    type_of% @goL_n ∧
    type_of% @goL_x ∧
    type_of% @goL_r ∧
    type_of% @go_s ∧
    type_of% @goI_b ∧
    type_of% @goG_t ∧
    type_of% @goG_f ∧
    type_of% @goG_u ∧
    type_of% @goO_0 ∧
    type_of% @goO_1 ∧
    type_of% @goO_2 ∧
    type_of% @goF_n ∧
    type_of% @goF2_n ∧
    type_of% @goS_s ∧
    type_of% @goE_s ∧
    type_of% @goK_s ∧
    type_of% @br_t ∧
    type_of% @br_f ∧
    type_of% @put_some ∧
    type_of% @put_none ∧
    type_of% @vG_nil ∧
    type_of% @vH_nil ∧
    type_of% @vG_e ∧
    type_of% @vH_e ∧
    type_of% @fin_ret ∧
    type_of% @fin_norm ∧
    type_of% @handO_s ∧
    type_of% @bq1 ∧
    type_of% @bq2 ∧
    type_of% @bq3 ∧
    type_of% @bq4 ∧
    type_of% @cz ∧
    type_of% @cz1 ∧
    type_of% @cz2 ∧
    type_of% @cz3 ∧
    type_of% @cz4 ∧
    type_of% @cast0 ∧
    type_of% @cast1 ∧
    type_of% @go_ea ∧
    type_of% @go_ek ∧
    type_of% @go_ev ∧
    type_of% @go_eb ∧
    type_of% @go_el ∧
    type_of% @go_ec ∧
    type_of% @go_eo ∧
    type_of% @go_eq := ⟨@go_seq, @go_region, @go_block, @go_cond, @go_skip, @go_ret, @go_exit, @go_xnil, @go_xb, @go_xc, @go_xo, @go_b, @go_nil, @go_keep, @go_frz, @callI_f, @callI_t, @callP_s, @callQ_s, @callF_nil, @callF_cons, @callO_nil, @callO_cons, @ans_s, @ret0_s, @go_loop, @aft_norm, @aft_exit, @aft_ret, @goL_n, @goL_x, @goL_r, @go_s, @goI_b, @goG_t, @goG_f, @goG_u, @goO_0, @goO_1, @goO_2, @goF_n, @goF2_n, @goS_s, @goE_s, @goK_s, @br_t, @br_f, @put_some, @put_none, @vG_nil, @vH_nil, @vG_e, @vH_e, @fin_ret, @fin_norm, @handO_s, @bq1, @bq2, @bq3, @bq4, @cz, @cz1, @cz2, @cz3, @cz4, @cast0, @cast1, @go_ea, @go_ek, @go_ev, @go_eb, @go_el, @go_ec, @go_eo, @go_eq⟩
end Go.Proofs.YtgjacdfiilcaaaaR

