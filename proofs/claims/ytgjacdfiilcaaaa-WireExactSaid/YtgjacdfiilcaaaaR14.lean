/- Operations in an order that is drawn: the order of the text tells what each gives. -/
import Derived.Test.YtgjacdfiilcaaaaR13
set_option linter.unusedVariables false
set_option linter.unusedSimpArgs false
namespace Go.Proofs.YtgjacdfiilcaaaaR
open Go Go.RowKit

/-- The same, as far as anybody looks. -/
structure Eqv (s t : St) : Prop where
  sl : look s.sl = look t.sl
  hp : look s.hp = look t.hp
theorem Eqv.refl (s : St) : Eqv s s := ⟨rfl, rfl⟩
theorem Eqv.symm {s t : St} (h : Eqv s t) : Eqv t s := ⟨h.sl.symm, h.hp.symm⟩
theorem Eqv.trans {s t u : St} (h : Eqv s t) (k : Eqv t u) : Eqv s u := ⟨h.sl.trans k.sl, h.hp.trans k.hp⟩

section
variable {P : Program} {n : Nat} {Γ : Ent} {w0 : World} {ok0 : Nat → Prop} {loc : Locs} {st st' : St} {a : Act} {w : World} {E : Nat → Model}

theorem Inv.congr (I : Inv n Γ w0 ok0 loc st a w) (h : Eqv st st') : Inv n Γ w0 ok0 loc st' a w :=
  ⟨I.below, I.okb, ⟨fun s => by rw [← h.hp]; exact I.hp.dom s, fun s l B h1 h2 => I.hp.blk s l B h1 (by rw [h.hp]; exact h2), I.hp.inj, I.hp.lo⟩, I.oko, I.bx, I.sz, fun t s h1 => I.sl t s (by rw [h.sl]; exact h1), I.df⟩

theorem look_cons_congr {α : Type} {l l' : List (Nat × α)} (h : look l = look l') (k : Nat) (v : α) : look ((k, v) :: l) = look ((k, v) :: l') := by
  funext s; simp only [look, h]
theorem look_app_congr {α : Type} {l l' : List (Nat × α)} (h : look l = look l') (m : List (Nat × α)) : look (m ++ l) = look (m ++ l') := by
  funext s; rw [look_append, look_append, h]
theorem Eqv.put {s t : St} (h : Eqv s t) (d : Option Nat) (v : S) : Eqv (s.put d v) (t.put d v) := by
  cases d with
  | none => exact h
  | some d => exact ⟨look_cons_congr h.sl d v, h.hp⟩
theorem fresh_congr {s t : St} (h : Eqv s t) (news : Hp) : fresh s news = fresh t news := by unfold fresh; rw [h.hp]
theorem callU_congr {s t : St} (h : Eqv s t) {d : Nat} {ns : List Nat} {q : Option (S × Hp)} {v : S} {s1 : St} (he : callU d s ns q = some (v, s1)) : ∃ t1, callU d t ns q = some (v, t1) ∧ Eqv s1 t1 := by
  cases q with
  | none => cases he
  | some p =>
    obtain ⟨r, hp⟩ := p
    simp only [callU, ← h.hp] at he ⊢
    split at he
    · rename_i hc
      rw [if_pos hc]
      have hw : fresh ⟨[], without ns s.hp⟩ (hpBack ns d hp) = fresh ⟨[], without ns t.hp⟩ (hpBack ns d hp) := by
        unfold fresh
        congr 1
        funext p
        dsimp only
        rw [look_without, look_without, h.hp]
      rw [← hw]
      split at he
      · rename_i hf
        cases he
        rw [if_pos hf]
        refine ⟨_, rfl, ?_, ?_⟩
        · funext k; dsimp only; rw [look_map, look_map, h.sl]
        · refine look_app_congr ?_ _
          funext k; rw [look_map, look_map, look_without, look_without, h.hp]
      · cases he
    · cases he
theorem freeze_congr {s t : St} (h : Eqv s t) (k : Nat) : Eqv (freeze k s) (freeze k t) := by
  refine ⟨?_, ?_⟩
  · funext q
    simp only [freeze]
    rw [look_map, look_map, h.sl, h.hp]
  · funext q
    simp only [freeze]
    rw [look_map, look_map, drop1_look, drop1_look, h.hp]
theorem freezes_congr : ∀ (l : List Nat) {s t : St}, Eqv s t → Eqv (freezes l s) (freezes l t)
  | [], s, t, h => h
  | k :: r, s, t, h => by
    unfold freezes
    split
    · exact freezes_congr r h
    · exact freezes_congr r (freeze_congr h k)
theorem mkp_congr {E : Nat → Model} {s t : St} (h : Eqv s t) {d ty : Nat} {x : X} {v : S} {s1 : St} (he : evE E d s (.mkp ty x) = some (v, s1)) : ∃ t1, evE E d t (.mkp ty x) = some (v, t1) ∧ Eqv s1 t1 := by
  simp only [evE] at he ⊢
  rw [← h.sl, ← h.hp]
  split at he
  · rename_i s0 _ _ _
    have h2 := freezes_congr (blkMents (look s.hp) [s0]) h
    generalize freezes (blkMents (look s.hp) [s0]) s = q at he h2 ⊢
    generalize freezes (blkMents (look s.hp) [s0]) t = q' at he h2 ⊢
    rw [← h2.sl, ← h2.hp]
    split at he
    · rename_i hq
      (try simp only [hq])
      split at he
      · rename_i hq2
        (try simp only [hq2])
        split at he
        · rename_i hc
          cases he
          rw [if_pos hc]
          exact ⟨_, rfl, freeze_congr h2 _⟩
        · cases he
      · cases he
    · cases he
  · cases he
theorem evE_congr {s t : St} (h : Eqv s t) {d : Nat} {i : I} {v : S} {s1 : St} (he : evE E d s i = some (v, s1)) : ∃ t1, evE E d t i = some (v, t1) ∧ Eqv s1 t1 := by
  cases i with
  | app el e by_ x y =>
    simp only [evE, ← h.sl, ← h.hp] at he ⊢
    split at he
    · split at he
      · rename_i hq hy
        (try simp only [hq, hy])
        split at he
        · rename_i hc
          cases he
          rw [if_pos hc]
          refine ⟨_, rfl, ?_, ?_⟩
          · funext k; rw [look_map, look_map, h.sl]
          · refine look_cons_congr ?_ _ _
            funext k; rw [look_map, look_map, h.hp]
        · cases he
      · cases he
    · cases he
  | clr el e x =>
    simp only [evE, ← h.sl, ← h.hp] at he ⊢
    split at he
    · cases he; exact ⟨_, rfl, h⟩
    · split at he
      · rename_i hq
        (try simp only [hq])
        split at he
        · rename_i hc
          cases he
          rw [if_pos hc]
          exact ⟨_, rfl, h.sl, look_cons_congr h.hp _ _⟩
        · cases he
      · cases he
    · cases he
  | apk el e by_ x y =>
    simp only [evE, ← h.sl, ← h.hp] at he ⊢
    split at he
    · split at he
      · rename_i hq hy
        (try simp only [hq, hy])
        split at he
        · rename_i hc
          cases he
          rw [if_pos hc]
          exact ⟨_, rfl, freeze_congr h _⟩
        · cases he
      · cases he
    · cases he
  | apl el e by_ zs x m =>
    simp only [evE, ← h.sl, ← h.hp] at he ⊢
    split at he
    · split at he
      · rename_i hq hy
        (try simp only [hq, hy])
        split at he
        · rename_i hc
          cases he
          rw [if_pos hc]
          exact ⟨_, rfl, freeze_congr h _⟩
        · cases he
      · cases he
    · cases he
  | mkp t x => exact mkp_congr h he
  | cvb x =>
    simp only [evE, ← h.sl, ← h.hp] at he ⊢
    split at he
    · split at he
      · rename_i hq
        (try simp only [hq])
        split at he
        · rename_i hc
          cases he
          rw [if_pos hc]
          refine ⟨_, rfl, ?_, ?_⟩
          · funext k; rw [look_map, look_map, h.sl]
          · refine look_cons_congr ?_ _ _
            funext k; rw [look_map, look_map, h.hp]
        · cases he
      · cases he
    · cases he
  | callo f as =>
    simp only [evE, callS, callT, ← h.sl, ← h.hp] at he ⊢
    split at he
    · split at he
      · rename_i hq
        (try simp only [hq])
        exact callU_congr h he
      · cases he
    · cases he
  | _ => cases he
theorem vG_congr {s t : St} (h : Eqv s t) (fb : List Nat) : vG fb s = vG fb t := by funext k; unfold vG; rw [h.sl]
theorem vH_congr {s t : St} (h : Eqv s t) (fb : List Nat) : vH fb s = vH fb t := by funext k; unfold vH; rw [h.hp]
theorem step_congr {s t : St} (h : Eqv s t) {o : IO} {s1 : St} (he : step E o s = some s1) : ∃ t1, step E o t = some t1 ∧ Eqv s1 t1 := by
  unfold step at he ⊢
  split at he
  · rename_i heff
    rw [if_pos heff]
    have hgo : (evE E (o.dst.getD 0) s o.i).map (fun r => r.2.put o.dst r.1) = some s1 → ∃ t1, (evE E (o.dst.getD 0) t o.i).map (fun r => r.2.put o.dst r.1) = some t1 ∧ Eqv s1 t1 := by
      intro h1
      rw [Option.map_eq_some_iff] at h1
      obtain ⟨⟨v, q⟩, h1, rfl⟩ := h1
      obtain ⟨q', h2, h3⟩ := evE_congr h h1
      exact ⟨_, by rw [h2]; rfl, h3.put _ _⟩
    split at he
    · rename_i hg
      (try simp only [hg])
      exact hgo he
    · rename_i t0 want hg
      (try simp only [hg])
      rw [← h.sl]
      split at he
      · rename_i b hb
        (try simp only [hb])
        split at he
        · rename_i hw; rw [if_pos hw]; exact hgo he
        · rename_i hw; rw [if_neg hw]; cases he; exact ⟨_, rfl, h.put _ _⟩
      · rename_i hb
        (try simp only [hb])
        cases he; exact ⟨_, rfl, h.put _ _⟩
      · cases he
  · rename_i heff
    rw [if_neg heff, ← vG_congr h, ← vH_congr h]
    split at he
    · rename_i v news hc
      (try simp only [hc])
      rw [← fresh_congr h]
      split at he
      · rename_i hf
        cases he
        rw [if_pos hf]
        exact ⟨_, rfl, ⟨(h.put _ _).sl, look_app_congr h.hp _⟩⟩
      · cases he
    · cases he
def stepsI (E : Nat → Model) (q : List IO) : List Nat → St → Option St
  | [], st => some st
  | i :: r, st => match q[i]? with
    | some o => match step E o st with
      | some st' => stepsI E q r st'
      | none => none
    | none => none
theorem stepsI_congr {q : List IO} : ∀ {l : List Nat} {s t s1 : St}, Eqv s t → stepsI E q l s = some s1 → ∃ t1, stepsI E q l t = some t1 ∧ Eqv s1 t1
  | [], s, t, s1, h, he => by cases he; exact ⟨t, rfl, h⟩
  | i :: r, s, t, s1, h, he => by
    simp only [stepsI] at he ⊢
    split at he
    · rename_i o ho
      split at he
      · rename_i s2 h2
        obtain ⟨t2, g1, g2⟩ := step_congr h h2
        obtain ⟨t1, k1, k2⟩ := stepsI_congr g2 he
        exact ⟨t1, by simp only [ho, g1]; exact k1, k2⟩
      · cases he
    · cases he

/-- The number of the sites that an operation makes, or changes. -/
def keyOf (d : Nat) (i : I) : Nat := i.stk.getD d
def IO.key (o : IO) : Nat := keyOf (o.dst.getD 0) o.i
/-- The sites that an operation makes bear its slot's number. -/
theorem keys_ev {i : I} {d : Nat} {g : Nat → Option S} {h : Nat → Option Blk} {v : S} {news : Hp} (hw : i.wild = false) (he : ev E d g h i = some (v, news)) : ∀ k B, (k, B) ∈ news → k / 64 = keyOf d i := by
  have hcall : ∀ {own f as}, callI E d h own f as = some (v, news) → ∀ k B, (k, B) ∈ news → k / 64 = d := by
    intro own f as hc
    unfold callI at hc
    split at hc
    · split at hc
      · split at hc
        · split at hc
          · split at hc
            · rename_i h64
              cases hc
              intro k B hm
              unfold Hp.ren at hm
              rw [List.mem_map] at hm
              obtain ⟨p, hp, e⟩ := hm
              cases e
              have := ok64_mem h64 (k := p.1) (B := p.2) hp
              omega
            · cases hc
          · split at hc
            · split at hc
              · cases hc; intro k B hm; cases hm
              · cases hc
            · cases hc
        · cases hc
      · cases hc
    · cases hc
  have h1 : ∀ {B' : Blk}, news = [(64 * d, B')] → ∀ k B, (k, B) ∈ news → k / 64 = d := by
    intro B' hn k B hm
    rw [hn] at hm
    simp only [List.mem_singleton, Prod.mk.injEq] at hm
    omega
  have h0 : news = [] → ∀ k B, (k, B) ∈ news → k / 64 = d := by
    intro hn k B hm
    rw [hn] at hm
    cases hm
  cases i <;> simp only [ev] at he <;> simp only [keyOf, I.stk, Option.getD_none, Option.getD_some]
  case call => split at he <;> first | exact hcall he | cases he
  case callv =>
    split at he
    · split at he
      · exact hcall he
      · cases he
    · cases he
  case nilsl el e k =>
    split at he
    · cases he
      intro q B hm
      simp only [List.mem_singleton, Prod.mk.injEq] at hm
      omega
    · cases he
  case alloc => cases he; exact h1 rfl
  case box => split at he <;> first | (cases he; exact h1 rfl) | cases he
  case bsl => split at he <;> first | (cases he; exact h1 rfl) | cases he
  case kow =>
    split at he
    · cases he; exact h1 rfl
    · cases he; exact h0 rfl
    · cases he
  case apn =>
    split at he
    · split at he
      · split at he
        · cases he; exact h1 rfl
        · cases he
      · cases he
    · cases he
  case apz =>
    split at he
    · split at he
      · cases he; exact h1 rfl
      · cases he
    · cases he
  case mks =>
    split at he
    · split at he
      · cases he; exact h1 rfl
      · cases he
    · cases he
  case store key n x y =>
    cases key with
    | none => cases hw
    | some key =>
    simp only [okKey, beq_iff_eq, Option.getD_some] at he ⊢
    split at he
    · split at he
      · rename_i hk
        split at he
        · split at he
          · cases he
            intro k B hm
            simp only [List.mem_singleton, Prod.mk.injEq] at hm
            rw [hm.1]; exact hk.2
          · cases he
        · split at he
          · split at he
            · cases he
              intro k B hm
              simp only [List.mem_singleton, Prod.mk.injEq] at hm
              rw [hm.1]; exact hk.2
            · cases he
          · cases he
        · cases he
      · cases he
    · cases he
  case app => cases he
  case clr => cases he
  case apk => cases he
  case apl => cases he
  case cvb => cases he
  case mkp => cases he
  case inv =>
    split at he
    · split at he
      · split at he
        · exact hcall he
        · cases he
      · cases he
    · cases he
  case mkz =>
    split at he
    · split at he
      · cases he; exact h1 rfl
      · cases he
    · cases he
  case callo => cases he
  case alo => cases hw
  all_goals
    refine h0 ?_
    repeat' split at he
    all_goals first
      | (cases he; done)
      | (cases he; rfl)
      | (simp only [Option.map_eq_some_iff, Prod.mk.injEq] at he
         obtain ⟨_, _, _, e⟩ := he
         exact e.symm)
theorem keys_core {o : IO} {g : Nat → Option S} {h : Nat → Option Blk} {v : S} {news : Hp} (hw : o.i.wild = false) (he : core E o g h = some (v, news)) : ∀ k B, (k, B) ∈ news → k / 64 = o.key := by
  unfold core at he
  split at he
  · exact keys_ev hw he
  · split at he
    · split at he
      · exact keys_ev hw he
      · cases he; intro k B hm; cases hm
    · cases he; intro k B hm; cases hm
    · cases he

/-- Two operations that may come in either order. -/
def noSee (fb : List Nat) (o : IO) : Bool := (match o.dst with | some d => fb.contains d | none => true) && fb.contains o.key
def indep0 (p i : IO) : Bool := !p.i.wild && !i.i.wild && noSee i.fb p && noSee p.fb i && !(p.key == i.key) && (match p.dst, i.dst with
  | some d, some e => !(d == e)
  | _, _ => true)
def X.no (c : Nat) : X → Bool
  | .t k => !(k == c)
  | _ => false
/-- A number, or a slot. -/
def X.noc (c : Nat) : X → Bool
  | .t k => !(k == c)
  | _ => true
def noX (c : Nat) : Option X → Bool
  | some x => x.noc c
  | none => true
/-- An append that may come ahead of what copies, or cuts. -/
def comm (p i : IO) : Bool := match p.dst, p.i, p.guard, i.dst, i.guard with
  | some d, .app _ _ _ x y, none, some c, none => !(d == c) && x.noc c && y.noc c && (match i.i with
    | .mov x' => x'.no d
    | .cut _ x' lo hi => x'.no d && noX d lo && noX d hi
    | .bsl _ _ _ _ qs => qs.all fun q => q.2.noc d
    | _ => false)
  | _, _, _, _, _ => false
def indep (p i : IO) : Bool := indep0 p i || comm p i
theorem look_none_of {news : Hp} {d s : Nat} (h : ∀ k B, (k, B) ∈ news → k / 64 = d) (hs : s / 64 ≠ d) : look news s = none := by
  cases hq : look news s with
  | none => rfl
  | some B => exact absurd (h s B (look_mem _ _ _ hq)) hs
theorem see {fb : List Nat} {p : IO} (hn : noSee fb p = true) {s : St} {v : S} {news : Hp} (kp : ∀ k B, (k, B) ∈ news → k / 64 = p.key) : vG fb { sl := (s.put p.dst v).sl, hp := news ++ s.hp } = vG fb s ∧ vH fb { sl := (s.put p.dst v).sl, hp := news ++ s.hp } = vH fb s := by
  unfold noSee at hn
  simp only [Bool.and_eq_true] at hn
  constructor
  · funext t
    unfold vG
    split
    · rfl
    · rename_i ht
      cases hd : p.dst with
      | none => rfl
      | some d =>
        have h1 := hn.1
        rw [hd] at h1
        show look ((d, v) :: s.sl) t = _
        simp only [look]
        rw [if_neg (fun e => ht (by rw [← e]; exact h1))]
  · funext t
    unfold vH
    split
    · rfl
    · rename_i ht
      show look (news ++ s.hp) t = _
      rw [look_append, look_none_of kp (fun e => ht (by rw [e]; exact hn.2))]
theorem fresh_see {p : IO} {s : St} {v : S} {news news' : Hp} {k' : Nat} {b : Bool} (hk : k' ≠ p.key) (kp : ∀ k B, (k, B) ∈ news → k / 64 = p.key) (ki : ∀ k B, (k, B) ∈ news' → k / 64 = k') : (b || fresh { sl := (s.put p.dst v).sl, hp := news ++ s.hp } news') = (b || fresh s news') := by
  cases b with
  | true => rfl
  | false =>
    simp only [Bool.false_or]
    unfold fresh
    rw [Bool.eq_iff_iff, List.all_eq_true, List.all_eq_true]
    have h3 : ∀ x ∈ news', look (news ++ s.hp) x.1 = look s.hp x.1 := fun x hx => by rw [look_append, look_none_of kp (by rw [ki x.1 x.2 hx]; exact hk)]
    constructor
    · intro h x hx
      have := h x hx
      have h4 : (look (news ++ s.hp) x.1).isNone = true := this
      rw [h3 x hx] at h4
      exact h4
    · intro h x hx
      show (look (news ++ s.hp) x.1).isNone = true
      rw [h3 x hx]
      exact h x hx
theorem not_eff {i : I} (h : i.wild = false) : i.eff = false := by cases i <;> first | rfl | cases h
theorem swap0 {p i : IO} (hi : indep0 p i = true) {s s1 s2 : St} (h1 : step E p s = some s1) (h2 : step E i s1 = some s2) : ∃ t1 t2, step E i s = some t1 ∧ step E p t1 = some t2 ∧ Eqv s2 t2 := by
  unfold indep0 at hi
  simp only [Bool.and_eq_true, Bool.not_eq_true', beq_eq_false_iff_ne] at hi
  obtain ⟨⟨⟨⟨⟨wp, wi⟩, f1⟩, f2⟩, hne⟩, hdd⟩ := hi
  have hp := not_eff wp
  have hie := not_eff wi
  unfold step at h1 h2
  rw [hp] at h1
  rw [hie] at h2
  simp only [Bool.false_eq_true, if_false] at h1 h2
  split at h1
  · rename_i v news hc
    split at h1
    · rename_i hf
      cases h1
      split at h2
      · rename_i v' news' hc'
        split at h2
        · rename_i hf'
          cases h2
          have kp := keys_core wp hc
          obtain ⟨vg, vh⟩ := see f1 (s := s) (v := v) kp
          rw [vg, vh] at hc'
          have ki := keys_core wi hc'
          rw [fresh_see (fun e => hne e.symm) kp ki] at hf'
          obtain ⟨vg2, vh2⟩ := see f2 (s := s) (v := v') ki
          have hfp := fresh_see (p := i) (s := s) (v := v') (b := p.i.stk.isSome) hne ki kp
          refine ⟨{ sl := (s.put i.dst v').sl, hp := news' ++ s.hp }, { sl := (St.put { sl := (s.put i.dst v').sl, hp := news' ++ s.hp } p.dst v).sl, hp := news ++ (news' ++ s.hp) }, ?_, ?_, ?_, ?_⟩
          · unfold step
            rw [hie]
            simp only [Bool.false_eq_true, if_false, hc']
            rw [if_pos hf']
          · unfold step
            rw [hp]
            simp only [Bool.false_eq_true, if_false, vg2, vh2, hc]
            rw [if_pos (by rw [hfp]; exact hf)]
          · funext t
            cases hd : p.dst with
            | none => cases i.dst <;> rfl
            | some d =>
              cases he : i.dst with
              | none => rfl
              | some e =>
                rw [hd, he] at hdd
                simp only [Bool.not_eq_true', beq_eq_false_iff_ne] at hdd
                show look ((e, v') :: (d, v) :: s.sl) t = look ((d, v) :: (e, v') :: s.sl) t
                simp only [look]
                by_cases c1 : e = t
                · subst c1
                  rw [if_pos rfl, if_neg hdd, if_pos rfl]
                · rw [if_neg c1, if_neg c1]
          · funext t
            show look (news' ++ (news ++ s.hp)) t = look (news ++ (news' ++ s.hp)) t
            simp only [look_append]
            by_cases c1 : t / 64 = i.key
            · rw [look_none_of kp (by rw [c1]; exact fun h => hne h.symm)]
            · rw [look_none_of ki c1]
        · cases h2
      · cases h2
    · cases h1
  · cases h1
theorem X.ev_no {c : Nat} {x : X} (h : x.noc c = true) {v : S} {l : List (Nat × S)} : x.ev (look ((c, v) :: l)) = x.ev (look l) := by
  cases x with
  | t k =>
    simp only [X.noc, Bool.not_eq_true', beq_eq_false_iff_ne] at h
    simp only [X.ev, look]
    rw [if_neg (fun e => h e.symm)]
  | _ => rfl
theorem V.kill_int {s : Nat} {v : V} {k : IntKind} {n : Int} (h : v.kill s = .int k n) : v = .int k n := by
  cases v <;> simp only [V.kill] at h <;> first | exact h | (split at h <;> cases h)
theorem V.kill_row {s : Nat} {v : V} {xs : List (List V)} (h : v.kill s = .row xs) : v = .row xs := by
  cases v <;> simp only [V.kill] at h <;> first | exact h | (split at h <;> cases h)
theorem V.kill_sl {s : Nat} {v : V} {a b c : Nat} (h : v.kill s = .sl a b c) : v = .sl a b c ∧ a ≠ s := by
  cases v <;> simp only [V.kill] at h <;> first | (cases h; done) | (split at h <;> first | (cases h; done) | (rename_i hn; cases h; exact ⟨rfl, hn⟩))
theorem S.kill_one {s : Nat} {q : S} {v : V} (h : q.kill s = .one v) : ∃ u, q = .one u ∧ u.kill s = v := by
  cases q <;> simp only [S.kill] at h <;> first | (cases h; done) | (cases h; exact ⟨_, rfl, rfl⟩)
/-- What is read behind an append, and ahead of it. -/
theorem vG_kill {fb : List Nat} {st : St} {d k : Nat} {v : S} {hp hp' : Hp} {t : Nat} (ht : t ≠ d) : vG fb { sl := (d, v) :: st.sl.map (fun p => (p.1, p.2.kill k)), hp := hp } t = (vG fb st t).map (S.kill k) := by
  unfold vG
  split
  · rfl
  · simp only [look]
    rw [if_neg (fun e => ht e.symm), look_map]
theorem X.no_noc {c : Nat} {x : X} (h : x.no c = true) : x.noc c = true := by cases x <;> first | exact h | rfl
theorem X.ev_kill {fb : List Nat} {st : St} {d k : Nat} {v : S} {hp : Hp} {x : X} (hx : x.noc d = true) {w : V} (h : x.ev (vG fb { sl := (d, v) :: st.sl.map (fun p => (p.1, p.2.kill k)), hp := hp }) = some (.one w)) (hw : ∀ u : V, u.kill k = w → u = w ∨ x.ev (vG fb st) ≠ some (.one u)) : x.ev (vG fb st) = some (.one w) := by
  cases x with
  | t n =>
    simp only [X.noc, Bool.not_eq_true', beq_eq_false_iff_ne] at hx
    simp only [X.ev] at h hw ⊢
    rw [vG_kill (hp' := hp) hx, Option.map_eq_some_iff] at h
    obtain ⟨q, h1, h2⟩ := h
    obtain ⟨u, rfl, hu⟩ := S.kill_one h2
    rcases hw u hu with e | e
    · rw [h1, e]
    · exact absurd h1 e
  | c z => exact h
  | ca zs => exact h
theorem bnd_kill {fb : List Nat} {st : St} {d k : Nat} {v : S} {hp : Hp} {o : Option X} (ho : noX d o = true) {f n : Int} (h : bnd (vG fb { sl := (d, v) :: st.sl.map (fun p => (p.1, p.2.kill k)), hp := hp }) f o = some n) : bnd (vG fb st) f o = some n := by
  cases o with
  | none => exact h
  | some x =>
    simp only [bnd] at h ⊢
    unfold asI at h
    split at h
    · rename_i q m e
      cases h
      rw [X.ev_kill ho e fun u hu => .inl (V.kill_int hu)]
      rfl
    · cases h
theorem vH_kill {fb : List Nat} {hp : Hp} {k t : Nat} {B : Blk} (ht : t ≠ k) {sl sl' : List (Nat × S)} {el e : Nat} {xs : List (List V)} (h : vH fb { sl := sl, hp := (k, B) :: hp.map (fun p => (p.1, p.2.kill k)) } t = some (.rows el e xs)) : vH fb { sl := sl', hp := hp } t = some (.rows el e xs) := by
  unfold vH at h ⊢
  split
  · rename_i hc; rw [if_pos hc] at h; cases h
  · rename_i hc
    rw [if_neg hc] at h
    simp only [look] at h ⊢
    rw [if_neg (fun e => ht e.symm), look_map, Option.map_eq_some_iff] at h
    obtain ⟨C, h1, h2⟩ := h
    cases C with
    | box vs => cases h2
    | rows a b c => cases h2; exact h1
theorem step_pure {c : Nat} {ii : I} {fb an : List Nat} {st : St} {v : S} {news : Hp} (heff : ii.eff = false) (h : ev E c (vG fb st) (vH fb st) ii = some (v, news)) (hf : fresh st news = true) : step E ⟨some c, ii, none, fb, an⟩ st = some ⟨(c, v) :: st.sl, news ++ st.hp⟩ := by
  simp only [step, heff, Bool.false_eq_true, if_false, core, Option.getD, h]
  rw [if_pos (by rw [hf, Bool.or_true])]
  rfl
theorem step_pure' {c : Nat} {ii : I} {fb an : List Nat} {st s2 : St} (heff : ii.eff = false) (hstk : ii.stk = none) (h : step E ⟨some c, ii, none, fb, an⟩ st = some s2) : ∃ v news, ev E c (vG fb st) (vH fb st) ii = some (v, news) ∧ fresh st news = true ∧ s2 = ⟨(c, v) :: st.sl, news ++ st.hp⟩ := by
  simp only [step, heff, Bool.false_eq_true, if_false, core, Option.getD] at h
  split at h
  · rename_i v news hv
    split at h
    · rename_i hf
      cases h
      rw [hstk] at hf
      exact ⟨v, news, hv, by simpa using hf, rfl⟩
    · cases h
  · cases h
theorem live_kill {k : Nat} {v : V} (h : (v.kill k).live = true) : v.kill k = v := by
  cases v <;> simp only [V.kill] at h ⊢ <;> (split <;> first | rfl | (rename_i hn; rw [if_pos hn] at h; cases h))
theorem lives_kill {k : Nat} : ∀ {vs : List V}, lives (vs.map (V.kill k)) = true → vs.map (V.kill k) = vs
  | [], _ => rfl
  | v :: r, h => by
    simp only [List.map_cons, lives, Bool.and_eq_true] at h
    rw [List.map_cons, live_kill h.1, lives_kill h.2]
theorem cells_kill {k : Nat} {q : S} {vs : List V} (h : (q.kill k).cells = some vs) (hl : lives vs = true) : q.cells = some vs := by
  cases q with
  | undef => cases h
  | one v =>
    simp only [S.kill, S.cells, Option.some.injEq] at h ⊢
    subst h
    simp only [lives, Bool.and_true] at hl
    rw [live_kill hl]
  | agg ws =>
    simp only [S.kill, S.cells, Option.some.injEq] at h ⊢
    subst h
    rw [lives_kill hl]
  | tup xs => cases h
theorem fill_kill {fb : List Nat} {st : St} {d k e : Nat} {v : S} {hp : Hp} : ∀ {qs : List (Nat × X)} {xs ys : List (List V)}, (qs.all fun q => q.2.noc d) = true → fillR (vG fb ⟨(d, v) :: st.sl.map (fun p => (p.1, p.2.kill k)), hp⟩) e xs qs = some ys → fillR (vG fb st) e xs qs = some ys
  | [], xs, ys, _, h => h
  | (i, x) :: r, xs, ys, hq, h => by
    simp only [List.all_cons, Bool.and_eq_true] at hq
    simp only [fillR] at h ⊢
    split at h
    · rename_i us hus
      split at h
      · rename_i hc
        rw [Option.bind_eq_some_iff] at hus
        obtain ⟨q, h1, h2⟩ := hus
        have h3 : (x.ev (vG fb st)).bind S.cells = some us := by
          cases x with
          | t m =>
            have hm := hq.1
            simp only [X.noc, Bool.not_eq_true', beq_eq_false_iff_ne] at hm
            simp only [X.ev] at h1 ⊢
            rw [vG_kill (hp' := st.hp) hm, Option.map_eq_some_iff] at h1
            obtain ⟨u, h4, rfl⟩ := h1
            rw [h4, Option.bind_some]
            exact cells_kill h2 hc.2.2.2
          | c z => simp only [X.ev, Option.some.injEq] at h1 ⊢; subst h1; exact h2
          | ca zs => simp only [X.ev, Option.some.injEq] at h1 ⊢; subst h1; exact h2
        rw [h3]
        (try dsimp only)
        rw [if_pos hc]
        exact fill_kill hq.2 h
      · cases h
    · cases h
theorem ev_kill {fb : List Nat} {st : St} {d k n c : Nat} {B : Blk} {ii : I} (hii : (match ii with
    | .mov x' => x'.no d
    | .cut _ x' lo hi => x'.no d && noX d lo && noX d hi
    | .bsl _ _ _ _ qs => qs.all fun q => q.2.noc d
    | _ => false) = true) {v : S} {news : Hp}
    (h : ev E c (vG fb ⟨(d, .one (.sl k 0 n)) :: st.sl.map (fun p => (p.1, p.2.kill k)), (k, B) :: st.hp.map (fun p => (p.1, p.2.kill k))⟩) (vH fb ⟨(d, .one (.sl k 0 n)) :: st.sl.map (fun p => (p.1, p.2.kill k)), (k, B) :: st.hp.map (fun p => (p.1, p.2.kill k))⟩) ii = some (v, news))
    (hf : fresh ⟨(d, .one (.sl k 0 n)) :: st.sl.map (fun p => (p.1, p.2.kill k)), (k, B) :: st.hp.map (fun p => (p.1, p.2.kill k))⟩ news = true) :
    ∃ v0, ev E c (vG fb st) (vH fb st) ii = some (v0, news) ∧ fresh st news = true ∧ v = v0.kill k ∧ look news k = none ∧ news.map (fun p => (p.1, p.2.kill k)) = news := by
  have hn0 : fresh st ([] : Hp) = true := by unfold fresh; simp
  cases ii with
  | mov x' =>
    simp only [ev, Option.map_eq_some_iff, Prod.mk.injEq] at h ⊢
    obtain ⟨q, h1, rfl, rfl⟩ := h
    cases x' with
    | t m =>
      simp only [X.no, Bool.not_eq_true', beq_eq_false_iff_ne] at hii
      simp only [X.ev] at h1 ⊢
      rw [vG_kill (hp' := st.hp) hii, Option.map_eq_some_iff] at h1
      obtain ⟨u, h3, h4⟩ := h1
      exact ⟨u, ⟨u, h3, rfl, trivial⟩, hn0, h4.symm, rfl, rfl⟩
    | c z => cases hii
    | ca zs => cases hii
  | bsl el e m zs qs =>
    simp only [ev] at h ⊢
    split at h
    · rename_i xs hx
      cases h
      rw [fill_kill hii hx]
      have hk : k ≠ 64 * c := by
        intro e
        subst e
        simp [fresh, look] at hf
      have hk2 : (look st.hp (64 * c)).isNone = true := by
        unfold fresh at hf
        simp only [List.all_cons, List.all_nil, Bool.and_true, look] at hf
        rw [if_neg hk, look_map] at hf
        cases hl : look st.hp (64 * c) with
        | none => rfl
        | some B => rw [hl] at hf; cases hf
      refine ⟨_, rfl, ?_, ?_, ?_, rfl⟩
      · unfold fresh
        simp only [List.all_cons, List.all_nil, Bool.and_true]
        exact hk2
      · simp only [S.kill, V.kill]
        rw [if_neg (fun e => hk e.symm)]
      · simp only [look]
        rw [if_neg (fun e => hk e.symm)]
    · cases h
  | cut e2 x' lo hi =>
    simp only [Bool.and_eq_true] at hii
    obtain ⟨⟨hx', hlo⟩, hhi⟩ := hii
    simp only [ev] at h ⊢
    split at h
    · rename_i xs e
      rw [X.ev_kill (X.no_noc hx') e fun u hu => .inl (V.kill_row hu)]
      (try dsimp only)
      split at h
      · rename_i l u e1 e2
        rw [bnd_kill hlo e1, bnd_kill hhi e2]
        (try dsimp only)
        split at h
        · rename_i hc
          rw [if_pos hc]
          split at h
          · rename_i hc2
            rw [if_pos hc2]
            cases h
            exact ⟨_, rfl, hn0, rfl, rfl, rfl⟩
          · rename_i hc2
            rw [if_neg hc2]
            split at h
            · rename_i hc3
              rw [if_pos hc3]
              cases h
              exact ⟨_, rfl, hn0, rfl, rfl, rfl⟩
            · cases h
        · cases h
      · cases h
    · rename_i s' off len e
      have hne : s' ≠ k := by
        cases x' with
        | t m =>
          simp only [X.no, Bool.not_eq_true', beq_eq_false_iff_ne] at hx'
          simp only [X.ev] at e
          rw [vG_kill (hp' := st.hp) hx', Option.map_eq_some_iff] at e
          obtain ⟨q, h3, h4⟩ := e
          obtain ⟨u, rfl, hu⟩ := S.kill_one h4
          exact (V.kill_sl hu).2
        | c z => cases hx'
        | ca zs => cases hx'
      rw [X.ev_kill (X.no_noc hx') e fun u hu => .inl (V.kill_sl hu).1]
      (try dsimp only)
      split at h
      · rename_i el e' xs hh
        rw [vH_kill (sl' := st.sl) hne hh]
        (try dsimp only)
        split at h
        · rename_i l u e1 e2
          rw [bnd_kill hlo e1, bnd_kill hhi e2]
          (try dsimp only)
          split at h
          · rename_i hc
            rw [if_pos hc]
            split at h
            · rename_i hc2
              rw [if_pos hc2]
              cases h
              exact ⟨_, rfl, hn0, rfl, rfl, rfl⟩
            · rename_i hc2
              rw [if_neg hc2]
              split at h
              · rename_i hc3
                rw [if_pos hc3]
                cases h
                refine ⟨_, rfl, hn0, ?_, rfl, rfl⟩
                simp only [S.kill, V.kill]
                rw [if_neg hne]
              · cases h
          · cases h
        · cases h
      · cases h
    · cases h
  | _ => cases hii
theorem pur1_more {h h' : Nat → Option Blk} {v r : V} (hh : ∀ s B, h s = some B → h' s = some B) (hp : v.pur1 h = some r) : v.pur1 h' = some r := by
  cases v with
  | sl s off len =>
    simp only [V.pur1] at hp ⊢
    split at hp
    · rename_i el e xs hq
      rw [hh _ _ hq]
      exact hp
    · cases hp
  | ref s i j => cases hp
  | _ => exact hp
theorem swapC {p i : IO} (hi : comm p i = true) {s s1 s2 : St} (h1 : step E p s = some s1) (h2 : step E i s1 = some s2) : ∃ t1 t2, step E i s = some t1 ∧ step E p t1 = some t2 ∧ Eqv s2 t2 := by
  obtain ⟨pd, pi, pg, pf, pa⟩ := p
  obtain ⟨id, ii, ig, jf, ia⟩ := i
  unfold comm at hi
  split at hi
  · rename_i d el e by_ x y c q1 q2 q3 q4 q5
    simp only at q1 q2 q3 q4 q5
    subst q1; subst q2; subst q3; subst q4; subst q5
    simp only [Bool.and_eq_true, Bool.not_eq_true', beq_eq_false_iff_ne] at hi
    obtain ⟨⟨⟨hdc, hx⟩, hy⟩, hii⟩ := hi
    have heff : ii.eff = false := by cases ii <;> first | rfl | cases hii
    have hstk : ii.stk = none := by cases ii <;> first | rfl | cases hii
    simp only [step, I.eff, if_true, Option.map_eq_some_iff, evE, Option.getD] at h1
    obtain ⟨r, hr, hs1⟩ := h1
    split at hr
    · rename_i k n y0 ex ey
      split at hr
      · rename_i el' e' xs ys hq hpur
        split at hr
        · rename_i hc
          cases hr
          obtain rfl : s1 = ⟨(d, .one (.sl k 0 (n + ys.length))) :: s.sl.map (fun p => (p.1, p.2.kill k)), (k, .rows el e (xs.take n ++ ys)) :: s.hp.map (fun p => (p.1, p.2.kill k))⟩ := hs1.symm
          obtain ⟨v, news, hv, hf, rfl⟩ := step_pure' heff hstk h2
          obtain ⟨v0, hv0, hf0, rfl, hnk, hmap⟩ := ev_kill hii hv hf
          have hmore : ∀ t B, look s.hp t = some B → look (news ++ s.hp) t = some B := by
            intro t B ht
            rw [look_append]
            cases hl : look news t with
            | none => exact ht
            | some C =>
              have := List.all_eq_true.1 hf0 (t, C) (look_mem _ _ _ hl)
              simp only at this
              rw [ht] at this
              cases this
          have hpur' : (y0.pur1 (look (news ++ s.hp))).bind asRow = some ys := by
            rw [Option.bind_eq_some_iff] at hpur ⊢
            obtain ⟨u, h3, h4⟩ := hpur
            exact ⟨u, pur1_more hmore h3, h4⟩
          refine ⟨⟨(c, v0) :: s.sl, news ++ s.hp⟩, ⟨(d, .one (.sl k 0 (n + ys.length))) :: (c, v0.kill k) :: s.sl.map (fun p => (p.1, p.2.kill k)), (k, .rows el e (xs.take n ++ ys)) :: (news ++ s.hp.map (fun p => (p.1, p.2.kill k)))⟩, step_pure heff hv0 hf0, ?_, ?_, ?_⟩
          · simp only [step, I.eff, if_true, evE, Option.getD, X.ev_no hx, X.ev_no hy, ex, ey, hmore _ _ hq, hpur', if_pos hc, Option.map_some, St.put, List.map_cons, List.map_append, hmap]
          · funext t
            simp only [look]
            by_cases c1 : c = t
            · subst c1
              rw [if_pos rfl, if_neg hdc, if_pos rfl]
            · rw [if_neg c1, if_neg c1]
          · funext t
            (try dsimp only)
            rw [look_append]
            simp only [look]
            rw [look_append]
            by_cases c1 : k = t
            · subst c1
              simp only [hnk, if_true]
            · rw [if_neg c1, if_neg c1]
        · cases hr
      · cases hr
    · cases hr
  · cases hi
theorem swap {p i : IO} (hi : indep p i = true) {s s1 s2 : St} (h1 : step E p s = some s1) (h2 : step E i s1 = some s2) : ∃ t1 t2, step E i s = some t1 ∧ step E p t1 = some t2 ∧ Eqv s2 t2 := by
  unfold indep at hi
  rw [Bool.or_eq_true] at hi
  rcases hi with h | h
  · exact swap0 h h1 h2
  · exact swapC h h1 h2
/-- One that may come now may be taken first. -/
theorem first {q : List IO} {i : Nat} {oi : IO} (hoi : q[i]? = some oi) {post : List Nat} : ∀ {pre : List Nat} {s sF : St}, (∀ p op, p ∈ pre → q[p]? = some op → indep op oi = true) → stepsI E q (pre ++ i :: post) s = some sF →
    ∃ t1 tF, step E oi s = some t1 ∧ stepsI E q (pre ++ post) t1 = some tF ∧ Eqv sF tF
  | [], s, sF, _, h => by
    simp only [List.nil_append, stepsI, hoi] at h
    split at h
    · rename_i t1 ht
      exact ⟨t1, sF, ht, h, Eqv.refl _⟩
    · cases h
  | p :: pre, s, sF, hp, h => by
    simp only [List.cons_append, stepsI] at h
    split at h
    · rename_i op hop
      split at h
      · rename_i s1 hs1
        obtain ⟨u1, uF, g1, g2, g3⟩ := first hoi (pre := pre) (fun p' op' h1 h2 => hp p' op' (List.mem_cons_of_mem _ h1) h2) h
        obtain ⟨t1, t2, k1, k2, k3⟩ := swap (hp p op (List.mem_cons_self ..) hop) hs1 g1
        obtain ⟨tF, m1, m2⟩ := stepsI_congr k3 g2
        exact ⟨t1, tF, k1, by simp only [List.cons_append, stepsI, hop, k2]; exact m1, g3.trans m2⟩
      · cases h
    · cases h
theorem stepsI_range {q : List IO} : ∀ (l : List IO) (k : Nat) (s : St), (∀ j, l[j]? = q[k + j]?) → stepsI E q (List.range' k l.length) s = steps E l s
  | [], _, _, _ => rfl
  | o :: l, k, s, h => by
    have h0 : q[k]? = some o := by have := h 0; simpa using this.symm
    rw [List.length_cons, List.range'_succ]
    simp only [stepsI, h0, steps]
    cases step E o s with
    | none => rfl
    | some s1 => exact stepsI_range l (k + 1) s1 fun j => by have := h (j + 1); simpa [Nat.add_assoc, Nat.add_comm 1 j] using this

/-! ### The check of a region that draws -/
def edges (o : Oper) : List Nat := (o.after.toList.filter fun e => Region.binds .any e).map (·.on)
/-- The ancestors are what the edges say. -/
def ancOk (ops : List Oper) (q : List IO) : Bool := (List.range q.length).all fun i => match ops[i]?, q[i]? with
  | some o, some io => (edges o).all (fun e => decide (e < i)) && io.anc.all (fun p => (edges o).contains p || (edges o).any fun e => match q[e]? with | some oe => oe.anc.contains p | none => false)
  | _, _ => false
def pairsOk (q : List IO) : Bool := (List.range q.length).all fun i => (List.range i).all fun p => match q[p]?, q[i]? with
  | some op, some oi => oi.anc.contains p || indep op oi
  | _, _ => false
def chkR (P : Program) (n : Nat) (ops : List Oper) (q : List IO) (draw : Bool) : Bool := chkL P n ops ops q && (!draw || (P.follows .mixedOrders && ancOk ops q && pairsOk q))
theorem chkL_get {ops0 : List Oper} : ∀ {l : List Oper} {q : List IO}, chkL P n ops0 l q = true → l.length = q.length ∧ ∀ (j : Nat) o io, l[j]? = some o → q[j]? = some io → chkO P n ops0 o io = true
  | [], [], _ => ⟨rfl, fun j o io h => by cases h⟩
  | o :: l, io :: q, h => by
    simp only [chkL, Bool.and_eq_true] at h
    obtain ⟨g1, g2⟩ := chkL_get h.2
    refine ⟨by simp [g1], fun j o' io' h1 h2 => ?_⟩
    cases j with
    | zero => simp at h1 h2; subst h1; subst h2; exact h.1
    | succ j => exact g2 j o' io' (by simpa using h1) (by simpa using h2)
  | [], _ :: _, h => by cases h
  | _ :: _, [], h => by cases h

theorem mem_readyI {md : Region.Mode} {ops : Array Oper} {listed : Array Bool} {i : Nat} (h : i ∈ Region.ready md ops listed) : listed.getD i true = false ∧ ∃ o, ops[i]? = some o ∧ ∀ e ∈ o.after, Region.binds md e = true → listed.getD e.on false = true := mem_ready.1 h

theorem any_ok (hE : ∀ f, Sound P f (E f)) {ops : Array Oper} {q : List IO} {Q : Exit → Act → World → Prop} (hc : chkL P n ops.toList ops.toList q = true) (hanc : ancOk ops.toList q = true) (hpair : pairsOk q = true) :
    ∀ (L : List Nat) (listed : Array Bool) (st st' : St) (loc : Locs) (a : Act) (w : World), listed.size = ops.size → (∀ j, j ∈ L ↔ listed.getD j true = false) → L.Pairwise (· < ·) →
      (∀ i io p, q[i]? = some io → listed.getD i false = true → p ∈ io.anc → listed.getD p false = true) →
      Inv n Γ w0 ok0 loc st a w → stepsI E q L st = some st' → (∀ a' w' loc', Inv n Γ w0 ok0 loc' st' a' w' → Q .normal a' w') → wpAny P .any ops Q L.length listed a w := by
  have hql : ops.size = q.length := by have := (chkL_get hc).1; simpa using this
  intro L
  generalize hm : L.length = m
  induction m generalizing L with
  | zero =>
    intro listed st st' loc a w hsz hL hpw hcl I hs hn
    have hL0 : L = [] := List.eq_nil_of_length_eq_zero hm
    subst hL0
    cases hs
    refine ⟨?_, hn _ _ _ I⟩
    cases hr : Region.ready .any ops listed with
    | nil => rfl
    | cons i r =>
      have := (mem_readyI (md := .any) (ops := ops) (listed := listed) (i := i) (by rw [hr]; exact List.mem_cons_self ..)).1
      exact absurd ((hL i).2 this) (by simp)
  | succ m ih =>
    intro listed st st' loc a w hsz hL hpw hcl I hs hn
    have hanc' : ∀ i o io, ops[i]? = some o → q[i]? = some io → (∀ e ∈ edges o, e < i) ∧ ∀ p ∈ io.anc, p ∈ edges o ∨ ∃ e oe, e ∈ edges o ∧ q[e]? = some oe ∧ p ∈ oe.anc := by
      intro i o io h1 h2
      have hi : i < q.length := (List.getElem?_eq_some_iff.1 h2).1
      have h3 := List.all_eq_true.1 hanc i (List.mem_range.2 hi)
      have h1' : ops.toList[i]? = some o := by simpa using h1
      simp only [h1', h2, Bool.and_eq_true, List.all_eq_true, decide_eq_true_eq, Bool.or_eq_true, List.contains_iff_mem, List.any_eq_true] at h3
      refine ⟨h3.1, fun p hp => ?_⟩
      rcases h3.2 p hp with h4 | ⟨e, h4, h5⟩
      · exact .inl h4
      · split at h5
        · exact .inr ⟨e, _, h4, ‹_›, by simpa using h5⟩
        · cases h5
    have hedge : ∀ {o : Oper} {e : Nat}, e ∈ edges o → ∃ x ∈ o.after, Region.binds .any x = true ∧ x.on = e := by
      intro o e he
      unfold edges at he
      rw [List.mem_map] at he
      obtain ⟨x, hx, rfl⟩ := he
      rw [List.mem_filter] at hx
      exact ⟨x, by simpa using hx.1, hx.2, rfl⟩
    refine ⟨fun hr => ?_, fun i hi => ?_⟩
    · -- the least one that is left may come
      exfalso
      cases L with
      | nil => simp at hm
      | cons i r =>
        have hiu := (hL i).1 (List.mem_cons_self ..)
        have hlt : i < ops.size := by
          rcases Nat.lt_or_ge i listed.size with h | h
          · omega
          · rw [Array.getD_eq_getD_getElem?, Array.getElem?_eq_none h] at hiu; cases hiu
        have ho : ops[i]? = some ops[i] := by simp [hlt]
        have hq : q[i]? = some q[i] := by simp
        have hin : i ∈ Region.ready .any ops listed := by
          rw [mem_ready]
          refine ⟨hiu, ops[i], ho, fun e he hb => ?_⟩
          have hlt' := (hanc' i _ _ ho hq).1 e.on (by unfold edges; rw [List.mem_map]; exact ⟨e, List.mem_filter.2 ⟨by simpa using he, hb⟩, rfl⟩)
          cases hl : listed.getD e.on false with
          | true => rfl
          | false =>
            have h5 : listed.getD e.on true = false := by
              have h6 : e.on < listed.size := by omega
              rw [Array.getD_eq_getD_getElem?, Array.getElem?_eq_getElem h6] at hl ⊢
              exact hl
            have h7 := (hL e.on).2 h5
            rcases List.mem_cons.1 h7 with h8 | h8
            · omega
            · have := (List.pairwise_cons.1 hpw).1 e.on h8; omega
        rw [hr] at hin
        cases hin
    · obtain ⟨hiu, o, ho, hall⟩ := mem_readyI hi
      have hiL := (hL i).2 hiu
      obtain ⟨pre, post, rfl⟩ := List.append_of_mem hiL
      have hlt : i < q.length := by rw [← hql]; exact (Array.getElem?_eq_some_iff.1 ho).1
      have hoi : q[i]? = some q[i] := by simp
      have hpre : ∀ p ∈ pre, p < i := fun p hp => (List.pairwise_append.1 hpw).2.2 p hp i (List.mem_cons_self ..)
      have hedges : ∀ e ∈ edges o, listed.getD e false = true := by
        intro e he
        obtain ⟨x, h1, h2, rfl⟩ := hedge he
        exact hall x h1 h2
      have hancl : ∀ p ∈ (q[i]).anc, listed.getD p false = true := by
        intro p hp
        rcases (hanc' i o _ ho hoi).2 p hp with h1 | ⟨e, oe, h1, h2, h3⟩
        · exact hedges p h1
        · exact hcl e oe p h2 (hedges e h1) h3
      have hind : ∀ p op, p ∈ pre → q[p]? = some op → indep op q[i] = true := by
        intro p op hp hop
        have h1 := List.all_eq_true.1 hpair i (List.mem_range.2 hlt)
        have h2 := List.all_eq_true.1 h1 p (List.mem_range.2 (hpre p hp))
        simp only [hop, hoi, Bool.or_eq_true, List.contains_iff_mem] at h2
        refine h2.resolve_left fun h3 => ?_
        have h4 := hancl p h3
        have h5 := (hL p).1 (List.mem_append_left _ hp)
        have h6 : p < listed.size := by have := hpre p hp; omega
        rw [Array.getD_eq_getD_getElem?, Array.getElem?_eq_getElem h6] at h4 h5
        rw [show listed[p] = true from h4] at h5
        cases h5
      obtain ⟨t1, tF, g1, g2, g3⟩ := first hoi hind hs
      have ho' : ops.toList[i]? = some o := by simpa using ho
      have hchk := (chkL_get hc).2 i o _ ho' hoi
      unfold wpOp
      rw [ho]
      refine step_ok hE I hchk g1 fun a' w' loc' I' => ?_
      have hset : ∀ j (d : Bool), (listed.setIfInBounds i true).getD j d = if i = j ∧ i < listed.size then true else listed.getD j d := by
        intro j d
        rw [Array.getD_eq_getD_getElem?, Array.getElem?_setIfInBounds, Array.getD_eq_getD_getElem?]
        by_cases h1 : i = j
        · subst h1
          by_cases h2 : i < listed.size
          · rw [if_pos rfl, if_pos h2, if_pos ⟨rfl, h2⟩]; rfl
          · rw [if_pos rfl, if_neg h2, if_neg (fun h => h2 h.2), Array.getElem?_eq_none (by omega)]
        · rw [if_neg h1, if_neg (fun h => h1 h.1)]
      have hil : i < listed.size := by omega
      refine ih (pre ++ post) (by simp at hm ⊢; omega) (listed.setIfInBounds i true) t1 tF loc' a' w' (by simp [hsz]) (fun j => ?_) ?_ (fun j io p h1 h2 h3 => ?_) I' g2 (fun a2 w2 loc2 I2 => hn a2 w2 loc2 (I2.congr g3.symm))
      · rw [hset]
        have hj := hL j
        by_cases h1 : i = j
        · subst h1
          rw [if_pos ⟨rfl, hil⟩]
          constructor
          · intro h2
            exfalso
            rcases List.mem_append.1 h2 with h3 | h3
            · have := hpre i h3; omega
            · have := (List.pairwise_cons.1 (List.pairwise_append.1 hpw).2.1).1 i h3; omega
          · intro h2; cases h2
        · rw [if_neg (fun h => h1 h.1), ← hj]
          simp only [List.mem_append, List.mem_cons]
          constructor
          · rintro (h2 | h2)
            · exact .inl h2
            · exact .inr (.inr h2)
          · rintro (h2 | h2 | h2)
            · exact .inl h2
            · exact absurd h2.symm h1
            · exact .inr h2
      · rw [List.pairwise_append] at hpw ⊢
        exact ⟨hpw.1, (List.pairwise_cons.1 hpw.2.1).2, fun x hx y hy => hpw.2.2 x hx y (List.mem_cons_of_mem _ hy)⟩
      · rw [hset] at h2 ⊢
        by_cases hip : i = p
        · rw [if_pos ⟨hip, hil⟩]
        · rw [if_neg (fun h => hip h.1)]
          by_cases hij : i = j
          · subst hij
            rw [hoi] at h1
            cases h1
            exact hancl p h3
          · rw [if_neg (fun h => hij h.1)] at h2
            exact hcl j io p h1 h2 h3
/-- **A region, whatever order it draws.** -/
theorem regionR_ok (hE : ∀ f, Sound P f (E f)) {id : Nat} {ops : Array Oper} {q : List IO} {draw : Bool} {Q : Exit → Act → World → Prop} (hc : chkR P n ops.toList q draw = true) (I : Inv n Γ w0 ok0 loc st a w) (hs : steps E q st = some st') (hn : ∀ a' w' loc', Inv n Γ w0 ok0 loc' st' a' w' → Q .normal a' w') :
    (Code.region id ops draw).wp P Q a w := by
  unfold chkR at hc
  simp only [Bool.and_eq_true, Bool.or_eq_true, Bool.not_eq_true'] at hc
  cases draw with
  | false => exact region_ok hE hc.1 I hs hn
  | true =>
    obtain ⟨⟨hm, hanc⟩, hpair⟩ := hc.2.resolve_left (by simp)
    have hql : ops.size = q.length := by have := (chkL_get hc.1).1; simpa using this
    refine wp_region_any hm ?_
    have hI : Inv n Γ w0 ok0 loc st a { w with drawn := w.drawn + 1 } := by
      refine ⟨⟨I.below.os, I.below.tape, I.below.output, I.below.size, I.below.block⟩, I.okb, ⟨I.hp.dom, fun s l B h1 h2 => (I.hp.blk s l B h1 h2).mono (fun b hb => ⟨hb, rfl⟩) (fun _ _ => rfl) (fun _ _ _ h => h), I.hp.inj, I.hp.lo⟩, I.oko, I.bx, I.sz, fun t s h => ⟨(I.sl t s h).1, (I.sl t s h).2.mono (fun b hb => ⟨hb, rfl⟩) (fun _ _ _ h => h)⟩, I.df⟩
    have h := any_ok (ops := ops) (Q := Q) hE hc.1 hanc hpair (List.range' 0 q.length) (Array.replicate ops.size false) st st' loc a _ (by simp) (fun j => ?_) ?_ (fun i io p h1 h2 h3 => ?_) hI (by rw [stepsI_range q 0 st (fun j => by simp)]; exact hs) hn
    · simpa [hql] using h
    · simp [← hql, Array.getD_eq_getD_getElem?, Array.getElem?_replicate]
      by_cases hj : j < ops.size <;> simp [hj]
    · rw [← List.range_eq_range']
      exact List.pairwise_lt_range
    · simp [Array.getD_eq_getD_getElem?, Array.getElem?_replicate] at h2
      by_cases hj : i < ops.size <;> simp [hj] at h2
end
end Go.Proofs.YtgjacdfiilcaaaaR
