/- Texts joined: HE KI KJ KK KL KM KN KO HG LA HI. -/
import Derived.Test.YtdflglehippoiaaGreatDoorZE1
import Derived.Test.YtdflglehippoiaaGreatDoorProg
set_option linter.unusedVariables false
set_option linter.unusedSimpArgs false
namespace Go.Proofs.YtdflglehippoiaaGreatDoor.GA
open Go Go.Proofs.YtdflglehippoiaaGreatDoorR IG
open QA (Ev eE aE rE epOK evOK qOK putE n01)
open AA (It eT aT rT wi takeT allT ahOK)
open EC (Cf eC okC)
open FA (Sm eS aS s0 smL flowC rightB heavyB heavy_t flow_t flow_of right_t q_t kpOK kRow umodF toldS toldP)
open KA (Kd eK aK rK nr okT okN kOK inB gap takeK all3 askP askT askR askS askQ hasN drp)
open MA (Mg eM aM msgOK)
set_option maxRecDepth 100000
set_option maxHeartbeats 8000000
theorem w19 : TT 4000 19 29 [] = some (bV true, []) := by kernel_rfl
theorem drp_len (l : List Kd) (n : Int) : (drp l n).length ≤ l.length := List.length_filter_le _ _
theorem jn_sm {c : Cf} {t self : Int} {x : Tp} {n inc top : Int} (h : smX x) (g0 : grC c t self x = 0) : smX (jnG c t self x n inc top).1 := by
 obtain ⟨q1, q2, q3, _⟩ := gr_k g0
 unfold jnG
 by_cases g3 : (nr t self n && inB inc 1 1073741824) = true
 ·rw [if_pos g3]
  have g4 := Bool.and_eq_true_iff.1 g3
  have hl := askR_len q1 g4.1 g4.2
  generalize askR t c.k x.ks n inc = A at *
  have hd := drp_len A.1 n
  split
  ·split
   ·exact ⟨h.1, by show (drp A.1 n).length < 900; omega, h.2.2⟩
   ·exact ⟨h.1, by show A.1.length < 900; omega, h.2.2⟩
  ·exact ⟨h.1, by show A.1.length < 900; omega, h.2.2⟩
 ·rw [if_neg g3]
  exact h
theorem sent_sm {t self : Int} {x : Tp} {n to : Int} (h : smX x) : smX (sentG t self x n to) := by
 unfold sentG
 split
 ·exact ⟨by simp, h.2⟩
 ·exact h
theorem lost_sm {x : Tp} (h : smX x) : smX (lostX x) := ⟨by simp [lostX], h.2⟩
theorem ack_sm {c : Cf} {t self : Int} {x : Tp} {n : Int} {m : Mg} (h : smX x) (hm : m.pa.length < 900) : smX (ackG c t self x n m) := by
 unfold ackG
 split
 ·refine ⟨hm, h.2.1, ?_, h.2.2.2⟩
  show smL (if _ then _ else _)
  split
  ·unfold toldS
   split
   ·simp
   ·split
    ·exact h.2.2.1
    ·exact h.2.2.1
  ·exact h.2.2.1
 ·exact h
theorem heavyM {m : Mg} (h : MA.heavyB m = false) : m.pa.length ≤ 30 ∧ m.td.length ≤ 30 := by
 unfold MA.heavyB at h
 simp only [Bool.or_eq_false_iff, decide_eq_false_iff_not] at h
 omega
theorem z00 : decide ((0 : Int) = 0) = true := rfl
theorem z11 : decide ((1 : Int) = 1) = true := rfl
theorem z10 : decide ((1 : Int) = 0) = false := rfl
theorem zzY (d : Nat) : TT 4000 (d + 3) 19 [aX x0, aX x0] = some (bV true, []) := e19r 4000 d (by omega) x0 (by simp [smX, smL])
end Go.Proofs.YtdflglehippoiaaGreatDoor.GA
namespace Go.Proofs.YtdflglehippoiaaGreatDoor.KA
open Go Go.Proofs.YtdflglehippoiaaGreatDoorR IG
set_option maxRecDepth 100000
set_option maxHeartbeats 4000000
theorem askP_len (t self limit : Int) (l : List Kd) (n inc : Int) : (askP t self limit l n inc).1.length ≤ l.length + 1 := by
 unfold askP
 split
 ·simp
 ·unfold askT
  split
  ·simp
  ·split
   ·simp [insP_len]
   ·split
    ·simp
    ·split
     ·simp
     ·simp [insP_len]
end Go.Proofs.YtdflglehippoiaaGreatDoor.KA
namespace Go.Proofs.YtdflglehippoiaaGreatDoor.KA
open Go Go.Proofs.YtdflglehippoiaaGreatDoorR IG
set_option maxRecDepth 100000
set_option maxHeartbeats 4000000
theorem chn_weak {t a b : Int} {l : List Kd} (h1 : nr t a b = true) (h2 : chn t b l = true) : chn t a l = true := by
 cases l with
 | nil => rfl
 | cons y r =>
  simp only [chn, Bool.and_eq_true] at h2 ⊢
  exact ⟨⟨nr_trans h1 h2.1.1, h2.1.2⟩, h2.2⟩
theorem chn_drp {t n : Int} : ∀ {l : List Kd} {p : Int}, chn t p l = true → chn t p (drp l n) = true
 | [], p, _ => rfl
 | y :: r, p, h => by
  simp only [chn, Bool.and_eq_true] at h
  have ih := chn_drp (n := n) h.2
  by_cases hy : y.n = n
  ·have : drp (y :: r) n = drp r n := by unfold drp; rw [List.filter_cons]; simp [hy]
   rw [this]
   exact chn_weak h.1.1 ih
  ·have : drp (y :: r) n = y :: drp r n := by unfold drp; rw [List.filter_cons]; simp [hy]
   rw [this]
   simp only [chn, h.1.1, h.1.2, ih, Bool.and_true]
theorem kOK_of {t self limit : Int} {l : List Kd} (h1 : okT t = true) (h2 : okN self = true) (h3 : 1 ≤ limit ∧ limit ≤ 4) (h4 : (l.length : Int) ≤ limit) (h5 : chn t self l = true) : kOK t self limit l = true := by
 simp only [kOK, h1, h2, h5, inB, Bool.true_and, Bool.and_true, Bool.and_eq_true, decide_eq_true_eq]
 exact ⟨h3, h4⟩
theorem kOK_drp {t self limit n : Int} {l : List Kd} (h : kOK t self limit l = true) : kOK t self limit (drp l n) = true := by
 have := kOK_t h
 have h2 := drp_len l n
 exact kOK_of this.1 this.2.1 ⟨this.2.2.1, this.2.2.2.1⟩ (by omega) (chn_drp this.2.2.2.2.2)
end Go.Proofs.YtdflglehippoiaaGreatDoor.KA
namespace Go.Proofs.YtdflglehippoiaaGreatDoor.KA
open Go Go.Proofs.YtdflglehippoiaaGreatDoorR IG
set_option maxRecDepth 100000
set_option maxHeartbeats 4000000
end Go.Proofs.YtdflglehippoiaaGreatDoor.KA
namespace Go.Proofs.YtdflglehippoiaaGreatDoor.KA
open Go Go.Proofs.YtdflglehippoiaaGreatDoorR IG
set_option maxRecDepth 100000
set_option maxHeartbeats 4000000
end Go.Proofs.YtdflglehippoiaaGreatDoor.KA
namespace Go.Proofs.YtdflglehippoiaaGreatDoor.KA
open Go Go.Proofs.YtdflglehippoiaaGreatDoorR IG
set_option maxRecDepth 100000
set_option maxHeartbeats 4000000
def ad (t n : Int) (l : List Kd) : List Kd := if hasN l n then l else insP t ⟨n, 2, 0⟩ l
structure Good (t s : Int) (l : List Kd) : Prop where
 ch : chn t s l = true
 eq : ∀ y ∈ l, y = ⟨y.n, 2, 0⟩
theorem insP_mem {t : Int} {x y : Kd} {l : List Kd} : y ∈ insP t x l ↔ y = x ∨ y ∈ l := by
 unfold insP
 rw [List.mem_append, List.mem_append, List.mem_singleton]
 constructor
 ·rintro ((h | h) | h)
  ·exact .inr (List.mem_of_mem_take h)
  ·exact .inl h
  ·exact .inr (List.mem_of_mem_drop h)
 ·rintro (h | h)
  ·exact .inl (.inr h)
  ·rw [← List.take_append_drop (kAt t x l) l, List.mem_append] at h
   rcases h with h | h
   ·exact .inl (.inl h)
   ·exact .inr h
theorem chn_insP {t : Int} {x : Kd} (hi : inc2 x = true) : ∀ {l : List Kd} {p : Int}, chn t p l = true → nr t p x.n = true → (∀ y ∈ l, y.n ≠ x.n) → chn t p (insP t x l) = true
 | [], p, _, hp, _ => by rw [insP_nil]; simp [chn, hp, hi]
 | y :: r, p, h, hp, hne => by
  simp only [chn, Bool.and_eq_true] at h
  cases h2 : nr t y.n x.n with
  | true =>
   rw [insP_t h2]
   simp only [chn, h.1.1, h.1.2, chn_insP hi h.2 h2 (fun z hz => hne z (by simp [hz])), Bool.and_true]
  | false =>
   have hyx := nr_tot (nr_t hp).1 (nr_t h.1.1).2.2.1 (nr_t hp).2.2.1 (hne y (by simp)) h2
   rw [insP_f h2]
   simp only [chn, hp, hi, hyx, h.1.2, h.2, Bool.and_true]
theorem has_get {l : List Kd} {n : Int} (h : hasN l n = true) : ∃ y ∈ l, y.n = n := by
 unfold hasN at h
 rw [List.any_eq_true] at h
 obtain ⟨y, h1, h2⟩ := h
 exact ⟨y, h1, by simpa using h2⟩
theorem has_of {l : List Kd} {y : Kd} (h : y ∈ l) : hasN l y.n = true := by
 unfold hasN
 rw [List.any_eq_true]
 exact ⟨y, h, by simp⟩
end Go.Proofs.YtdflglehippoiaaGreatDoor.KA
namespace Go.Proofs.YtdflglehippoiaaGreatDoor.KA
open Go Go.Proofs.YtdflglehippoiaaGreatDoorR IG
set_option maxRecDepth 100000
set_option maxHeartbeats 4000000
end Go.Proofs.YtdflglehippoiaaGreatDoor.KA
namespace Go.Proofs.YtdflglehippoiaaGreatDoor.KA
open Go Go.Proofs.YtdflglehippoiaaGreatDoorR IG
set_option maxRecDepth 100000
set_option maxHeartbeats 4000000
theorem chn_set {t : Int} {x : Kd} (hi : inc2 x = true) : ∀ {l : List Kd} {p : Int} {k : Nat}, chn t p l = true → (h : k < l.length) → l[k].n = x.n → chn t p (l.set k x) = true
 | [], p, k, _, h, _ => by simp at h
 | y :: r, p, 0, hc, h, hk => by
  simp only [chn, Bool.and_eq_true] at hc
  have hy : y.n = x.n := by simpa using hk
  simp only [List.set_cons_zero, chn, ← hy, hc.1.1, hc.2, hi, Bool.and_true]
 | y :: r, p, k + 1, hc, h, hk => by
  simp only [chn, Bool.and_eq_true] at hc
  simp only [List.set_cons_succ, chn, hc.1.1, hc.1.2, chn_set hi hc.2 (by simpa using h) (by simpa using hk), Bool.and_true]
theorem chn_take {t : Int} : ∀ {l : List Kd} {p : Int} {k : Nat}, chn t p l = true → chn t p (l.take k) = true
 | [], p, k, _ => by simp [chn]
 | y :: r, p, 0, _ => by simp [chn]
 | y :: r, p, k + 1, h => by
  simp only [chn, Bool.and_eq_true] at h
  simp only [List.take_succ_cons, chn, h.1.1, h.1.2, chn_take h.2, Bool.and_true]
structure Cap (t s c : Int) (asked : Int → Bool) (l : List Kd) : Prop where
 ok : kOK t s c l = true
 sub : ∀ y ∈ l, asked y.n = true
 near : ∀ m, asked m = true → nr t s m = true → ∃ y r, l = y :: r ∧ (y.n = m ∨ nr t y.n m = true)
theorem insP_head {t : Int} {x : Kd} {l : List Kd} : ∃ y r, insP t x l = y :: r ∧ ((y = x) ∨ (nr t y.n x.n = true ∧ ∃ r', l = y :: r')) := by
 cases l with
 | nil => exact ⟨x, [], rfl, .inl rfl⟩
 | cons y r =>
  cases h : nr t y.n x.n with
  | true => exact ⟨y, insP t x r, insP_t h, .inr ⟨h, r, rfl⟩⟩
  | false => exact ⟨x, y :: r, insP_f h, .inl rfl⟩
theorem near_ins {t s n inc : Int} {asked : Int → Bool} {l : List Kd} (ht : nr t s n = true) (hall : ∀ y ∈ l, nr t s y.n = true) (hne : ∀ y ∈ l, y.n ≠ n)
  (hnear : ∀ m, asked m = true → nr t s m = true → ∃ y r, l = y :: r ∧ (y.n = m ∨ nr t y.n m = true)) :
  ∀ m, (asked m || decide (m = n)) = true → nr t s m = true → ∃ y r, insP t ⟨n, inc, 0⟩ l = y :: r ∧ (y.n = m ∨ nr t y.n m = true) := by
 intro m hm hs
 rw [Bool.or_eq_true, decide_eq_true_eq] at hm
 obtain ⟨y, r, h1, h2⟩ := insP_head (t := t) (x := ⟨n, inc, 0⟩) (l := l)
 refine ⟨y, r, h1, ?_⟩
 rcases hm with hm | rfl
 ·obtain ⟨y0, r0, e0, e1⟩ := hnear m hm hs
  rcases h2 with rfl | ⟨h2, r', h3⟩
  ·right
   have hy0 := hall y0 (by rw [e0]; simp)
   have hn0 : nr t y0.n n = false := by
    cases hc : nr t y0.n n with
    | false => rfl
    | true =>
     rw [e0, insP_t hc] at h1
     have := (List.cons.inj h1).1
     exact absurd (by rw [this]) (hne y0 (by rw [e0]; simp))
   have hx := nr_tot (nr_t ht).1 (nr_t hy0).2.2.1 (nr_t ht).2.2.1 (hne y0 (by rw [e0]; simp)) hn0
   rcases e1 with e1 | e1
   ·rw [← e1]; exact hx
   ·exact nr_trans hx e1
  ·rw [e0] at h3
   have := (List.cons.inj h3).1
   rw [← this]
   exact e1
 ·rcases h2 with rfl | ⟨h2, _⟩
  ·exact .inl rfl
  ·exact .inr h2
theorem chn_last {t : Int} {z : Kd} : ∀ {l : List Kd} {p : Int}, chn t p (l ++ [z]) = true → ∀ u ∈ l, nr t u.n z.n = true
 | [], p, _, u, hu => by simp at hu
 | y :: r, p, h, u, hu => by
  simp only [List.cons_append, chn, Bool.and_eq_true] at h
  rcases List.mem_cons.1 hu with e | e
  ·rw [e]
   exact chn_gt h.2 z (by simp)
  ·exact chn_last h.2 u e
theorem has_insP {t n inc : Int} {l : List Kd} : hasN (insP t ⟨n, inc, 0⟩ l) n = true := has_of (y := ⟨n, inc, 0⟩) (insP_mem.2 (.inl rfl))
theorem cap_step {t s c n inc : Int} {asked : Int → Bool} {l : List Kd} (h : Cap t s c asked l) (hn : nr t s n = true) (hi : inB inc 1 1073741824 = true) :
  ∃ m who to, askT t c l n inc = (m, who, to, 0) ∧ Cap t s c (fun z => asked z || decide (z = n)) m ∧ ((who = 0 ∧ to = 0 ∧ hasN m n = true) ∨ (1 ≤ who ∧ who ≤ 8 ∧ 1 ≤ to ∧ to ≤ 8 ∧ nr t (to - 1) (who - 1) = true ∧ hasN m (who - 1) = false ∧ (who = n + 1 → m = l))) := by
 have hok := kOK_t h.ok
 have hx2 : inc2 ⟨n, inc, 0⟩ = true := by simp [inc2, hi]; simp [inB]
 have hall : ∀ y ∈ l, nr t s y.n = true := chn_gt hok.2.2.2.2.2
 have hnb := okN_b (nr_t hn).2.2.1
 unfold askT
 cases hh : hasN l n with
 | true =>
  obtain ⟨k, k1, k2, k3, k4⟩ := ix_some (Int.le_refl 0) (show l.any (fun y => decide (y.n = n)) = true from hh)
  rw [Int.zero_add] at k1
  have k3' : l[k].n = n := by simpa using k3
  refine ⟨l.set k ⟨n, inc, 0⟩, 0, 0, by simp only [if_true, k1, Int.toNat_natCast], ⟨?_, ?_, ?_⟩, .inl ⟨rfl, rfl, ?_⟩⟩
  ·exact kOK_of hok.1 hok.2.1 ⟨hok.2.2.1, hok.2.2.2.1⟩ (by rw [List.length_set]; exact hok.2.2.2.2.1) (chn_set hx2 hok.2.2.2.2.2 k2 k3')
  ·intro y hy
   rcases List.mem_or_eq_of_mem_set hy with e | e
   ·simp [h.sub y e]
   ·simp [e]
  ·intro m hm hs
   rw [Bool.or_eq_true, decide_eq_true_eq] at hm
   have hm' : asked m = true := by
    rcases hm with e | e
    ·exact e
    ·rw [e, ← k3']; exact h.sub _ (List.getElem_mem _)
   obtain ⟨y, r, e1, e2⟩ := h.near m hm' hs
   subst e1
   cases k with
   | zero =>
    have k5 : y.n = n := by simpa using k3'
    exact ⟨⟨n, inc, 0⟩, r, rfl, by rw [k5] at e2; exact e2⟩
   | succ k => exact ⟨y, r.set k ⟨n, inc, 0⟩, rfl, e2⟩
  ·have : (⟨n, inc, 0⟩ : Kd) ∈ l.set k ⟨n, inc, 0⟩ := List.mem_set k2 _
   exact has_of this
 | false =>
 have hne := hasN_f hh
 simp only [Bool.false_eq_true, if_false]
 by_cases hroom : (l.length : Int) < c
 ·rw [if_pos hroom]
  refine ⟨_, 0, 0, rfl, ⟨?_, ?_, near_ins hn hall hne h.near⟩, .inl ⟨rfl, rfl, has_insP⟩⟩
  ·exact kOK_of hok.1 hok.2.1 ⟨hok.2.2.1, hok.2.2.2.1⟩ (by rw [insP_len]; omega) (chn_insP hx2 hok.2.2.2.2.2 hn hne)
  ·intro y hy
   rcases insP_mem.1 hy with e | e
   ·simp [e]
   ·simp [h.sub y e]
 ·rw [if_neg hroom]
  cases l with
  | nil => simp at hroom; omega
  | cons y r =>
   have hyn := hall y (by simp)
   have hyb := okN_b (nr_t hyn).2.2.1
   (try dsimp only)
   cases hf : nr t y.n n with
   | true =>
    rw [if_pos rfl]
    refine ⟨_, _, _, rfl, ⟨h.ok, fun z hz => by simp [h.sub z hz], fun m hm hs => ?_⟩, .inr ⟨by omega, by omega, by omega, by omega, ?_, ?_, fun _ => rfl⟩⟩
    ·rw [Bool.or_eq_true, decide_eq_true_eq] at hm
     rcases hm with e | e
     ·exact h.near m e hs
     ·exact ⟨y, r, rfl, .inr (by rw [e]; exact hf)⟩
    ·rw [Int.add_sub_cancel, Int.add_sub_cancel]; exact hf
    ·rw [Int.add_sub_cancel]; exact hh
   | false =>
    have hx := nr_tot (nr_t hn).1 (nr_t hyn).2.2.1 (nr_t hn).2.2.1 (hne y (by simp)) hf
    rw [if_neg (by decide)]
    obtain ⟨z, hz⟩ : ∃ z, z = (y :: r)[r.length]'(by simp) := ⟨_, rfl⟩
    rw [← hz]
    have hzm : z ∈ y :: r := by rw [hz]; exact List.getElem_mem _
    have hzb := okN_b (nr_t (hall z hzm)).2.2.1
    have hsplit : (y :: r).take r.length ++ [z] = y :: r := by
     have h5 := take_s (l := y :: r) (i := r.length) (by simp)
     rw [List.take_of_length_le (by simp)] at h5
     rw [hz]
     exact h5.symm
    have hcl : chn t s ((y :: r).take r.length ++ [z]) = true := by rw [hsplit]; exact hok.2.2.2.2.2
    have hlt := chn_last hcl
    have hins : insP t ⟨n, inc, 0⟩ ((y :: r).take r.length) = ⟨n, inc, 0⟩ :: (y :: r).take r.length := by
     cases r with
     | nil => rfl
     | cons a b => exact insP_f hf
    have hnz : nr t n z.n = true := by
     rcases List.mem_cons.1 hzm with e | e
     ·rw [e]; exact hx
     ·have h6 := hok.2.2.2.2.2
      simp only [chn, Bool.and_eq_true] at h6
      exact nr_trans hx (chn_gt h6.2 z e)
    refine ⟨_, _, _, rfl, ⟨?_, ?_, ?_⟩, .inr ⟨by omega, by omega, by omega, by omega, ?_, ?_, fun e => ?_⟩⟩
    ·refine kOK_of hok.1 hok.2.1 ⟨hok.2.2.1, hok.2.2.2.1⟩ ?_ (chn_insP hx2 (chn_take hok.2.2.2.2.2) hn fun u hu => hne u (List.mem_of_mem_take hu))
     have := hok.2.2.2.2.1
     rw [insP_len, List.length_take]
     simp only [List.length_cons] at this ⊢
     omega
    ·intro u hu
     rcases insP_mem.1 hu with e | e
     ·simp [e]
     ·simp [h.sub u (List.mem_of_mem_take e)]
    ·intro m hm hs
     rw [hins]
     refine ⟨_, _, rfl, ?_⟩
     rw [Bool.or_eq_true, decide_eq_true_eq] at hm
     rcases hm with e | e
     ·obtain ⟨y0, r0, e0, e1⟩ := h.near m e hs
      cases e0
      rcases e1 with e1 | e1
      ·exact .inr (by rw [← e1]; exact hx)
      ·exact .inr (nr_trans hx e1)
     ·exact .inl e.symm
    ·rw [Int.add_sub_cancel, Int.add_sub_cancel]; exact hnz
    ·rw [Int.add_sub_cancel, hins]
     unfold hasN
     rw [List.any_cons, Bool.or_eq_false_iff]
     refine ⟨by simpa using nr_ne hnz, ?_⟩
     rw [List.any_eq_false]
     intro u hu hc
     exact nr_ne (hlt u hu) (by simpa using hc)
    ·exact absurd (show z.n = n by omega) (hne z hzm)
end Go.Proofs.YtdflglehippoiaaGreatDoor.KA
namespace Go.Proofs.YtdflglehippoiaaGreatDoor.GA
open Go Go.Proofs.YtdflglehippoiaaGreatDoorR IG
open QA (Ev eE aE rE epOK evOK qOK putE n01)
open AA (It eT aT rT wi takeT allT ahOK)
open EC (Cf eC okC)
open FA (Sm eS aS s0 smL flowC rightB heavyB heavy_t flow_t flow_of right_t q_t kpOK kRow umodF toldS toldP)
open KA (Kd eK aK rK nr okT okN kOK inB gap takeK all3 askP askT askR askS askQ hasN drp)
open MA (Mg eM aM msgOK)
set_option maxRecDepth 100000
set_option maxHeartbeats 4000000
theorem gr_mk {c : Cf} {t self : Int} {x y : Tp} (h : grC c t self x = 0) (h1 : 0 ≤ y.t ∧ y.t ≤ 1073741824) (h2 : 0 ≤ y.g ∧ y.g ≤ 1000) (h3 : lnk t self y.p = true) (h4 : lnk t self y.a = true) (h5 : lnk t self y.o = true) (h6 : rtd self y = true) (h7 : plc y = true) (h8 : pthC t self y.pa c.d = 0) (h9 : kOK t self c.k y.ks = true) (h10 : flowC c y.s y.q = 0) : grC c t self y = 0 := by
 obtain ⟨k1, k2, k3, k4, k5, k6, k7, k8, k9, k10, k11⟩ := gr_t h
 have h11 : rgtB c t self y = true := by
  simp only [rgtB, Bool.and_eq_true, decide_eq_true_eq]
  exact ⟨h1.1, h1.2, h2.1, h2.2, h3, h4, h5, h6, h7, h8, h9, h10⟩
 unfold grC
 rw [if_pos k1, if_pos]
 simp only [Bool.and_eq_true, decide_eq_true_eq]
 exact ⟨k2, k3, k4, k5, h11⟩
theorem rtd_t {self : Int} {x : Tp} (h : rtd self x = true) : x.r = 0 ∨ (epOK x.r = true ∧ x.r.tmod 16 = self ∧ x.r ≤ x.t ∧ x.p = 0 ∧ x.s.e = x.r) := by
 unfold rtd at h
 simp only [Bool.or_eq_true, Bool.and_eq_true, decide_eq_true_eq] at h
 exact h
theorem rtd_of {self : Int} {x : Tp} (h : x.r = 0 ∨ (epOK x.r = true ∧ x.r.tmod 16 = self ∧ x.r ≤ x.t ∧ x.p = 0 ∧ x.s.e = x.r)) : rtd self x = true := by
 unfold rtd
 simp only [Bool.or_eq_true, Bool.and_eq_true, decide_eq_true_eq]
 exact h
theorem pth_nil {c : Cf} {t self : Int} {x : Tp} (h : grC c t self x = 0) : pthC t self [] c.d = 0 := by
 obtain ⟨k1, k2, k3, k4, k5, k6, k7, k8, k9, k10, k11⟩ := gr_t h
 have kc := FA.okC_t k1
 have : inB c.d 1 8 = true := by simp [inB]; omega
 simp [pthC, k8, k7, this, risP]; omega
theorem told_good {c : Cf} {s : Sm} {q : List Ev} {e n : Int} (h : flowC c s q = 0) (he : epOK e = true) (hn : 1 ≤ n ∧ n ≤ 1073741824) : flowC c (toldS s e n) q = 0 ∧ s.e ≤ (toldS s e n).e := by
 obtain ⟨k1, k2, k3⟩ := flow_t h
 have kc := FA.okC_t k1
 unfold toldS
 by_cases g1 : e > s.e
 ·rw [if_pos g1]
  refine ⟨flow_of k1 (FA.right_of he hn (Int.le_refl _) hn.2 ?_ ?_) k3, by show s.e ≤ e; omega⟩
  ·simp [kpOK, QA.inB, kRow]; omega
  ·simp [ahOK, AA.inB, AA.risB]; omega
 rw [if_neg g1]
 by_cases g2 : e = s.e
 ·rw [if_pos g2]
  rw [g2] at he
  obtain ⟨r1, r2, r3⟩ := FA.right_e k2 he
  obtain ⟨n1, n2, n3, n4⟩ := FA.right_kn k2 he
  refine ⟨flow_of k1 (FA.right_of he ⟨n3, n4⟩ ?_ ?_ r1 r2) k3, Int.le_refl _⟩
  ·show s.w ≤ if n > s.kn then n else s.kn
   split <;> omega
  ·show (if n > s.kn then n else s.kn) ≤ 1073741824
   split <;> omega
 ·rw [if_neg g2]
  exact ⟨h, Int.le_refl _⟩
structure Gd (c : Cf) (t u : Int) (x y : Tp) : Prop where
 r : grC c t u y = 0
 t : x.t ≤ y.t
 e : x.s.e ≤ y.s.e
 ro : y.r = x.r
theorem cap_of {t s c : Int} {l : List Kd} (h : kOK t s c l = true) : KA.Cap t s c (fun z => hasN l z) l := by
 refine ⟨h, fun y hy => KA.has_of hy, fun m hm hs => ?_⟩
 obtain ⟨y, hy, e⟩ := KA.has_get hm
 have hc := (KA.kOK_t h).2.2.2.2.2
 cases l with
 | nil => cases hy
 | cons z r =>
  refine ⟨z, r, rfl, ?_⟩
  rcases List.mem_cons.1 hy with h1 | h1
  ·left; rw [← h1, e]
  ·right
   simp only [KA.chn, Bool.and_eq_true] at hc
   rw [← e]
   exact KA.chn_gt hc.2 y h1
theorem ask_facts {t s c n inc : Int} {l : List Kd} (h : kOK t s c l = true) (hn : nr t s n = true) (hi : inB inc 1 1073741824 = true) :
  kOK t s c (askR t c l n inc).1 = true ∧ (((askR t c l n inc).2.1 = 0 ∧ (askR t c l n inc).2.2 = 0 ∧ hasN (askR t c l n inc).1 n = true) ∨ (1 ≤ (askR t c l n inc).2.1 ∧ (askR t c l n inc).2.1 ≤ 8 ∧ 1 ≤ (askR t c l n inc).2.2 ∧ (askR t c l n inc).2.2 ≤ 8 ∧ nr t ((askR t c l n inc).2.2 - 1) ((askR t c l n inc).2.1 - 1) = true ∧ hasN (askR t c l n inc).1 ((askR t c l n inc).2.1 - 1) = false ∧ ((askR t c l n inc).2.1 = n + 1 → (askR t c l n inc).1 = l))) := by
 obtain ⟨m, who, to, h1, h2, h3⟩ := KA.cap_step (cap_of h) hn hi
 rw [KA.ask_eq h hn] at h1
 simp only [Prod.mk.injEq] at h1
 obtain ⟨e1, e2, e3, _⟩ := h1
 rw [e1, e2, e3]
 exact ⟨h2.ok, h3⟩
theorem askY_good {c : Cf} {t self : Int} {x : Tp} {top : Int} {l : List Kd} (h : grC c t self x = 0) (ht : 0 ≤ top ∧ top ≤ 1073741824) (hk : kOK t self c.k l = true) : Gd c t self x (askY x top l) := by
 obtain ⟨k1, k2, k3, k4, k5, k6, k7, k8, k9, k10, k11⟩ := gr_t h
 obtain ⟨q1, q2, q3, q4, q5, q6, q7, q8, q9, q10⟩ := gr_k h
 have ht1 : x.t ≤ (if top > x.t then top else x.t) := by split <;> omega
 have ht2 : (if top > x.t then top else x.t) ≤ 1073741824 := by split <;> omega
 refine ⟨gr_mk h ⟨by show 0 ≤ (if top > x.t then top else x.t); omega, ht2⟩ ⟨q9, q10⟩ q4 q5 q6 (rtd_of ?_) q8 q3 hk k11, ht1, Int.le_refl _, rfl⟩
 rcases rtd_t q7 with h1 | ⟨h1, h2, h3, h4, h5⟩
 ·exact .inl h1
 ·exact .inr ⟨h1, h2, by show x.r ≤ (if top > x.t then top else x.t); omega, h4, h5⟩
theorem jn_good {c : Cf} {t self : Int} {x : Tp} {n inc top : Int} (h : grC c t self x = 0) (ht : 0 ≤ top ∧ top ≤ 1073741824) : Gd c t self x (jnG c t self x n inc top).1 := by
 obtain ⟨q1, q2, q3, _⟩ := gr_k h
 unfold jnG
 by_cases g3 : (nr t self n && inB inc 1 1073741824) = true
 ·rw [if_pos g3]
  have g4 := Bool.and_eq_true_iff.1 g3
  have hf := (ask_facts q1 g4.1 g4.2).1
  split
  ·split
   ·exact askY_good h ht (KA.kOK_drp hf)
   ·exact askY_good h ht hf
  ·exact askY_good h ht hf
 ·rw [if_neg g3]
  exact ⟨h, Int.le_refl _, Int.le_refl _, rfl⟩
theorem lost_good {c : Cf} {t self : Int} {x : Tp} {o : Int} (h : grC c t self x = 0) (ho : lnk t self o = true) : Gd c t self x ⟨x.m, x.b, x.t, x.r, 0, 0, o, 0, [], x.ks, x.s, x.q⟩ := by
 obtain ⟨k1, k2, k3, k4, k5, k6, k7, k8, k9, k10, k11⟩ := gr_t h
 obtain ⟨q1, q2, q3, q4, q5, q6, q7, q8, q9, q10⟩ := gr_k h
 refine ⟨gr_mk h ⟨k9, k10⟩ ⟨Int.le_refl _, by show (0 : Int) ≤ 1000; omega⟩ rfl rfl ho (rtd_of ?_) rfl (pth_nil h) q1 k11, Int.le_refl _, Int.le_refl _, rfl⟩
 rcases rtd_t q7 with h1 | ⟨h1, h2, h3, h4, h5⟩
 ·exact .inl h1
 ·exact .inr ⟨h1, h2, h3, rfl, h5⟩
theorem lnk_of {t self n : Int} (h : nr t n self = true) : lnk t self (IntKind.i64.wrap (n + 1)) = true := by
 have hb := KA.okN_b (KA.nr_t h).2.1
 rw [IntWalk.i64_in _ (by omega)]
 unfold lnk
 rw [decide_eq_true (show n + 1 > 0 by omega), IntWalk.i64_in _ (by omega), show n + 1 - 1 = n by omega, h]
 simp
theorem sent_good {c : Cf} {t self : Int} {x : Tp} {n to : Int} (h : grC c t self x = 0) : Gd c t self x (sentG t self x n to) := by
 unfold sentG
 split
 ·rename_i g; exact lost_good h (lnk_of g.2)
 ·exact ⟨h, Int.le_refl _, Int.le_refl _, rfl⟩
theorem mx3_b {a b c : Int} (ha : 0 ≤ a ∧ a ≤ 1073741824) (hb : b ≤ 1073741824) (hc : c ≤ 1073741824) : 0 ≤ mx3 a b c ∧ mx3 a b c ≤ 1073741824 ∧ a ≤ mx3 a b c := by
 unfold mx3
 split
 ·split at * <;> omega
 ·split <;> omega
theorem pth_head {t self d y : Int} {r : List Int} (h : pthC t self (y :: r) d = 0) : nr t y self = true := by
 unfold pthC at h
 split at h
 ·split at h
  ·omega
  ·split at h
   ·rename_i h1
    rw [risP, Bool.and_eq_true] at h1
    exact h1.1
   ·omega
 ·omega
theorem ack_good {c : Cf} {t self : Int} {x : Tp} {m : Mg} (h : grC c t self x = 0) (hm : msgOK m = true) (hk : m.k = 3) : Gd c t self x (ackG c t self x m.f m) := by
 obtain ⟨k1, k2, k3, k4, k5, k6, k7, k8, k9, k10, k11⟩ := gr_t h
 obtain ⟨q1, q2, q3, q4, q5, q6, q7, q8, q9, q10⟩ := gr_k h
 obtain ⟨m1, m2, m3, m4, m5, m6, m7, m8, r, hr⟩ := okM_seq hm hk
 unfold ackG
 split
 ·rename_i g
  obtain ⟨g1, g2, g3⟩ := g
  have hb := mx3_b ⟨k9, k10⟩ m6 m4
  have hn : nr t m.f self = true := by rw [hr] at g3; exact pth_head g3
  have hf : flowC c (if epOK m.e = true then toldS x.s m.e m.s else x.s) x.q = 0 ∧ x.s.e ≤ (if epOK m.e = true then toldS x.s m.e m.s else x.s).e := by
   split
   ·rename_i he; exact told_good k11 he ⟨m1, m2⟩
   ·exact ⟨k11, Int.le_refl _⟩
  refine ⟨gr_mk h ⟨hb.1, hb.2.1⟩ ⟨Int.le_refl _, by show (0 : Int) ≤ 1000; omega⟩ (lnk_of hn) q5 q6 (rtd_of (.inl g2)) ?_ g3 q1 hf.1, hb.2.2, hf.2, rfl⟩
  unfold plc
  dsimp only
  rw [hr]
  simp
 ·exact ⟨h, Int.le_refl _, Int.le_refl _, rfl⟩
end Go.Proofs.YtdflglehippoiaaGreatDoor.GA
set_option maxRecDepth 100000
namespace Go.Proofs.YtdflglehippoiaaGreatDoor.LA
open Go Go.Proofs.YtdflglehippoiaaGreatDoorR
def j11 : C := (.seq (.region [nO 8 (.box (.t 0)),
  nO 11 (.box (.t 3)),
  nO 15 (.box (.t 7)),
  nO 16 (.mov (.c (.bool false)))] false)
 (.seq (.seq (.region [nO 20 (.load true 16 (.t 11)),
  nO 21 (.call false 13 [(.t 20)]),
  nO 22 (.mov (.t 21)),
  gO 23 (.load true 16 (.t 15)) 22 false,
  gO 24 (.call false 36 [(.t 23)]) 22 false,
  nO 25 (.pick (.t 22) (.c (.bool true)) (.t 24)),
  nO 26 (.mov (.t 25)),
  gO 27 (.load true 7 (.t 8)) 26 false,
  gO 28 (.mov (.t 1)) 26 false,
  gO 29 (.mov (.t 2)) 26 false,
  gO 30 (.load true 16 (.t 11)) 26 false,
  gO 31 (.call false 14 [(.t 27), (.t 28), (.t 29), (.t 30)]) 26 false,
  gO 32 (.un .not (.t 31)) 26 false,
  nO 33 (.pick (.t 26) (.c (.bool true)) (.t 32))] false)
 (.cond (.t 33) (.seq (.region [nO 16 (.mov (.c (.bool true)))] false)
 .ret) .skip))
 (.seq (.seq (.region [nO 17 (.mov (.c (.int .i64 0)))] false)
 (.block 0 (.loop (.keep [1, 2, 4, 5, 6, 8, 11, 15, 17] (.seq (.seq (.region [nO 34 (.mov (.t 17)),
  nO 35 (.bin .lss (.t 34) (.c (.int .i64 4)))] false)
 (.cond (.t 35) .skip (.exit 0)))
 (.seq (.block 1 (.seq (.region [nO 18 (.alloc [.bool false, .bool false, .int .i64 0, .int .i64 0, .int .i64 0, .int .i64 0, .int .i64 0, .int .i64 0, .row [], .row [], .int .i64 0, .int .i64 0, .int .i64 0, .row [], .row [], .row []])] false)
 (.seq (.region [nO 19 (.mov (.c (.int .i64 0)))] false)
 (.seq (.seq (.region [nO 38 (.mov (.t 17))] false)
 (.block 2 (.seq (.region [nO 48 (.bin .eql (.t 38) (.c (.int .i64 0))),
  nO 47 (.mov (.t 48))] false)
 (.cond (.t 47) (.region [nO 50 (.load true 7 (.t 8)),
  nO 51 (.mov (.t 1)),
  nO 52 (.mov (.t 2)),
  nO 53 (.load true 16 (.t 11)),
  nO 54 (.mov (.t 4)),
  nO 55 (.mov (.t 5)),
  nO 56 (.mov (.t 6)),
  nO 57 (.call false 27 [(.t 50), (.t 51), (.t 52), (.t 53), (.t 54), (.t 55), (.t 56)]),
  nO 49 (.mov (.t 57)),
  nO 58 (.ext (.t 49) 0),
  nO 59 (.ext (.t 49) 1),
  nO 60 (.ext (.t 49) 2),
  ⟨none, .store none 16 (.t 18) (.t 58), none, [], []⟩,
  nO 19 (.mov (.t 60))] false) (.seq (.region [nO 62 (.bin .eql (.t 38) (.c (.int .i64 1))),
  nO 61 (.mov (.t 62))] false)
 (.cond (.t 61) (.region [nO 64 (.load true 7 (.t 8)),
  nO 65 (.mov (.t 1)),
  nO 66 (.mov (.t 2)),
  nO 67 (.load true 16 (.t 11)),
  nO 68 (.mov (.t 4)),
  nO 69 (.load true 16 (.t 15)),
  nO 70 (.call false 33 [(.t 64), (.t 65), (.t 66), (.t 67), (.t 68), (.t 69)]),
  nO 63 (.mov (.t 70)),
  nO 71 (.ext (.t 63) 0),
  nO 72 (.ext (.t 63) 1),
  ⟨none, .store none 16 (.t 18) (.t 71), none, [], []⟩,
  nO 19 (.mov (.t 72))] false) (.seq (.region [nO 74 (.bin .eql (.t 38) (.c (.int .i64 2))),
  nO 73 (.mov (.t 74))] false)
 (.cond (.t 73) (.region [nO 76 (.load true 7 (.t 8)),
  nO 77 (.mov (.t 1)),
  nO 78 (.mov (.t 2)),
  nO 79 (.load true 16 (.t 11)),
  nO 80 (.mov (.t 4)),
  nO 81 (.mov (.t 6)),
  nO 82 (.call false 38 [(.t 76), (.t 77), (.t 78), (.t 79), (.t 80), (.t 81)]),
  nO 75 (.mov (.t 82)),
  nO 83 (.ext (.t 75) 0),
  nO 84 (.ext (.t 75) 1),
  ⟨none, .store none 16 (.t 18) (.t 83), none, [], []⟩,
  nO 19 (.mov (.t 84))] false) (.region [nO 40 (.load true 7 (.t 8)),
  nO 41 (.mov (.t 1)),
  nO 42 (.mov (.t 2)),
  nO 43 (.load true 16 (.t 11)),
  nO 44 (.call false 39 [(.t 40), (.t 41), (.t 42), (.t 43)]),
  nO 39 (.mov (.t 44)),
  nO 45 (.ext (.t 39) 0),
  nO 46 (.ext (.t 39) 1),
  ⟨none, .store none 16 (.t 18) (.t 45), none, [], []⟩,
  nO 19 (.mov (.t 46))] false)))))))))
 (.seq (.seq (.region [nO 85 (.mov (.t 19)),
  nO 86 (.bin .neq (.t 85) (.c (.int .i64 0)))] false)
 (.cond (.t 86) (.seq (.seq (.region [nO 87 (.mov (.t 19)),
  nO 88 (.bin .neq (.t 87) (.c (.int .i64 1))),
  nO 89 (.mov (.t 88)),
  gO 90 (.load true 16 (.t 18)) 89 false,
  gO 91 (.build [.bool false, .bool false, .int .i64 0, .int .i64 0, .int .i64 0, .int .i64 0, .int .i64 0, .int .i64 0, .row [], .row [], .int .i64 0, .int .i64 0, .int .i64 0, .row [], .row [], .row []] []) 89 false,
  gO 92 (.call false 19 [(.t 90), (.t 91)]) 89 false,
  gO 93 (.un .not (.t 92)) 89 false,
  nO 94 (.pick (.t 89) (.c (.bool true)) (.t 93))] false)
 (.cond (.t 94) (.seq (.region [nO 16 (.mov (.c (.bool false)))] false)
 .ret) .skip))
 (.exit 1)) .skip))
 (.seq (.region [nO 95 (.load true 7 (.t 8)),
  nO 96 (.mov (.t 1)),
  nO 97 (.mov (.t 2)),
  nO 98 (.load true 16 (.t 18)),
  nO 99 (.call false 18 [(.t 95), (.t 96), (.t 97), (.t 98)]),
  nO 100 (.bin .neq (.t 99) (.c (.int .i64 0))),
  nO 101 (.mov (.t 100)),
  gO 102 (.mov (.t 1)) 101 false,
  gO 103 (.mov (.t 2)) 101 false,
  gO 104 (.fad 8 (.t 18)) 101 false,
  gO 105 (.load false 1 (.t 104)) 101 false,
  gO 106 (.fad 3 (.t 8)) 101 false,
  gO 107 (.load false 1 (.t 106)) 101 false,
  gO 108 (.call false 31 [(.t 102), (.t 103), (.t 105), (.t 107)]) 101 false,
  gO 109 (.bin .neq (.t 108) (.c (.int .i64 0))) 101 false,
  nO 110 (.pick (.t 101) (.c (.bool true)) (.t 109)),
  nO 111 (.mov (.t 110)),
  gO 112 (.mov (.t 1)) 111 false,
  gO 113 (.mov (.t 2)) 111 false,
  gO 114 (.fad 2 (.t 8)) 111 false,
  gO 115 (.load false 1 (.t 114)) 111 false,
  gO 116 (.fad 9 (.t 18)) 111 false,
  gO 117 (.load false 1 (.t 116)) 111 false,
  gO 118 (.call false 48 [(.t 112), (.t 113), (.t 115), (.t 117)]) 111 false,
  gO 119 (.bin .neq (.t 118) (.c (.int .i64 0))) 111 false,
  nO 120 (.pick (.t 111) (.c (.bool true)) (.t 119)),
  nO 121 (.mov (.t 120)),
  gO 122 (.fad 4 (.t 18)) 121 false,
  gO 123 (.load false 1 (.t 122)) 121 false,
  gO 124 (.bin .gtr (.t 123) (.c (.int .i64 0))) 121 false,
  gO 125 (.mov (.t 124)) 121 false,
  gO 126 (.mov (.t 1)) 125 true,
  gO 127 (.fad 4 (.t 18)) 125 true,
  gO 128 (.load false 1 (.t 127)) 125 true,
  gO 129 (.bin .sub (.t 128) (.c (.int .i64 1))) 125 true,
  gO 130 (.mov (.t 2)) 125 true,
  gO 131 (.call false 28 [(.t 126), (.t 129), (.t 130)]) 125 true,
  gO 132 (.un .not (.t 131)) 125 true,
  gO 133 (.pick (.t 125) (.t 132) (.c (.bool false))) 121 false,
  nO 134 (.pick (.t 121) (.c (.bool true)) (.t 133)),
  nO 135 (.mov (.t 134)),
  gO 136 (.fad 2 (.t 18)) 135 false,
  gO 137 (.load false 1 (.t 136)) 135 false,
  gO 138 (.fad 2 (.t 11)) 135 false,
  gO 139 (.load false 1 (.t 138)) 135 false,
  gO 140 (.bin .lss (.t 137) (.t 139)) 135 false,
  nO 141 (.pick (.t 135) (.c (.bool true)) (.t 140)),
  nO 142 (.mov (.t 141)),
  gO 143 (.fad 10 (.t 18)) 142 false,
  gO 144 (.fad 0 (.t 143)) 142 false,
  gO 145 (.load false 1 (.t 144)) 142 false,
  gO 146 (.fad 10 (.t 11)) 142 false,
  gO 147 (.fad 0 (.t 146)) 142 false,
  gO 148 (.load false 1 (.t 147)) 142 false,
  gO 149 (.bin .lss (.t 145) (.t 148)) 142 false,
  nO 150 (.pick (.t 142) (.c (.bool true)) (.t 149)),
  nO 151 (.mov (.t 150)),
  gO 152 (.fad 3 (.t 18)) 151 false,
  gO 153 (.load false 1 (.t 152)) 151 false,
  gO 154 (.fad 3 (.t 11)) 151 false,
  gO 155 (.load false 1 (.t 154)) 151 false,
  gO 156 (.bin .neq (.t 153) (.t 155)) 151 false,
  nO 157 (.pick (.t 151) (.c (.bool true)) (.t 156))] false)
 (.cond (.t 157) (.seq (.region [nO 16 (.mov (.c (.bool false)))] false)
 .ret) .skip)))))))
 (.region [nO 36 (.mov (.t 17)),
  nO 37 (.bin .add (.t 36) (.c (.int .i64 1))),
  nO 17 (.mov (.t 37))] false)))))))
 (.seq (.region [nO 158 (.call false 29 []),
  nO 16 (.mov (.t 158))] false)
 .ret))))
def i11 : F := ⟨8, 159, j11, [.t 16]⟩
theorem b11 : i11.body = j11 := rfl
theorem q11 : i11.res = [.t 16] := rfl
theorem c11 : chkF Tryz.prog Tryz.f11 i11 = true := by kernel_rfl
theorem s11 {m : Model} {E : Nat → Model} (hE : ∀ f, Sound Tryz.prog f (E f)) (hm : ∀ args r, m args = some r → ∃ N, i11.ev E N args = some r) : Sound Tryz.prog 11 m := sound_of i11 Tryz.func11 rfl c11 hE hm
def xt : List (Nat × Model) := []
def tb : List (Nat × F) := [(11, i11)]
theorem xt_ok : ∀ p ∈ xt, Sound Tryz.prog p.1 p.2 := all_nil
theorem tb_ok (N : Nat) : ∀ p ∈ tb, ∀ E : Nat → Model, (∀ f, Sound Tryz.prog f (E f)) → Sound Tryz.prog p.1 (p.2.ev E N) := all_cons (fun E hE => s11 hE fun _ _ h => ⟨N, h⟩) (all_nil)
abbrev TT (N : Nat) : Nat → Nat → Model := T1 (IG.TT N) 11 i11 N
theorem TT_ok (N d f : Nat) : Sound Tryz.prog f (TT N d f) := T1_ok (IG.TT_ok N) (fun E hE => s11 hE fun _ _ h => ⟨N, h⟩) d f
theorem t11 (N d : Nat) : TT N (d + 1) 11 = i11.ev (IG.TT N d) N := rfl
end Go.Proofs.YtdflglehippoiaaGreatDoor.LA
namespace Go.Proofs.YtdflglehippoiaaGreatDoor.GA
open Go Go.Proofs.YtdflglehippoiaaGreatDoorR IG
open QA (Ev eE aE rE epOK evOK qOK putE n01)
open AA (It eT aT rT wi takeT allT ahOK)
open EC (Cf eC okC)
open FA (Sm eS aS s0 smL flowC rightB heavyB heavy_t flow_t flow_of right_t q_t kpOK kRow umodF toldS toldP)
open KA (Kd eK aK rK nr okT okN kOK inB gap takeK all3 askP askT askR askS askQ hasN drp)
open MA (Mg eM aM msgOK)
open LA (j11 i11 b11 q11)
set_option maxRecDepth 100000
set_option maxHeartbeats 8000000
theorem zzZ (d : Nat) : TT 4000 (d + 3) 19 [aX x0, zX] = some (bV true, []) := zzY d
theorem wn1 : IntKind.i64.wrap 1 = 1 := by decide
theorem wn2 : IntKind.i64.wrap 2 = 2 := by decide
theorem wn3 : IntKind.i64.wrap 3 = 3 := by decide
theorem wn4 : IntKind.i64.wrap 4 = 4 := by decide
theorem gd_facts {c : Cf} {t self : Int} {x y : Tp} (h : Gd c t self x y) (hy : smX y) : (∀ d, TT 4000 (d + 13) 18 [.agg (eC c), iV t, iV self, aX y] = some (iV 0, [])) ∧ (∀ d, TT 4000 (d + 7) 31 [iV t, iV self, .one (rI y.pa), iV c.d] = some (iV 0, [])) ∧ (∀ d, TT 4000 (d + 7) 48 [iV t, iV self, iV c.k, .one (rK y.ks)] = some (iV 0, [])) ∧ (y.p > 0 → nr t (IntKind.i64.wrap (y.p - 1)) self = true) ∧ decide (y.t < x.t) = false ∧ decide (y.s.e < x.s.e) = false ∧ decide (y.r = x.r) = true := by
 obtain ⟨q1, q2, q3, q4, q5, q6, q7, q8, q9, q10⟩ := gr_k h.r
 have h1 := h.t
 have h2 := h.e
 refine ⟨fun d => ?_, fun d => ?_, fun d => ?_, fun hp => ?_, decide_eq_false (by omega), decide_eq_false (by omega), decide_eq_true h.ro⟩
 ·rw [e18 4000 d (by omega) c t self y hy, h.r]
 ·rw [e31 4000 d t self y.pa c.d (by have := hy.1; omega) (by have := hy.1; omega), q3]
 ·rw [KA.e48 4000 d t self c.k y.ks (by have := hy.2.1; omega) (by have := hy.2.1; omega), q1, if_pos rfl]
 ·unfold lnk at q4
  simp only [Bool.or_eq_true, Bool.and_eq_true, decide_eq_true_eq] at q4
  rcases q4 with q4 | q4
  ·omega
  ·exact q4.2
theorem e11 (c : Cf) (t self : Int) (x : Tp) (n inc top : Int) (m : Mg) (z1 : i64B x.p) (z2 : i64B x.a) (z3 : i64B x.o) : LA.TT 4000 20 11 [.agg (eC c), iV t, iV self, aX x, iV n, iV inc, iV top, aM m] = some (bV true, []) := by
 rw [LA.t11, F_ev rfl]
 have hH := fun d => e13 4000 d x
 have hM := fun d => MA.e36 4000 d m
 cases hv : hvX x with
 | true => rw [hv] at hH; simp only [hH, j11, b11, q11, ww, simprocAttr]
 | false =>
 rw [hv] at hH
 cases hm : MA.heavyB m with
 | true => rw [hm] at hM; simp only [hH, hM, j11, b11, q11, ww, simprocAttr]
 | false =>
 rw [hm] at hM
 obtain ⟨hx, hh⟩ := hv_t hv
 have hml := heavyM hm
 have hR := fun d => e14 4000 d (by omega) c t self x hx z1 z2 z3
 by_cases g0 : grC c t self x = 0
 rotate_left
 ·simp only [decide_eq_false g0] at hR
  simp only [hH, hM, hR, j11, b11, q11, ww, simprocAttr]
 simp only [decide_eq_true g0] at hR
 have hw := w19
 have hz := zzZ
 simp only [hH, hM, hR, j11, b11, q11, ww, simprocAttr]
 refine loopI (K := fun o => fin _ (aft _ _ _ o)) (I := fun i st => st = ⟨[(1, iV t), (2, iV self), (4, iV n), (5, iV inc), (6, iV top), (8, .one (.ref 512 0 0)), (11, .one (.ref 704 0 0)), (15, .one (.ref 960 0 0)), (17, iV i)], [(512, .box (eC c)), (704, .box (eX x)), (960, .box (eM m))]⟩) _ 4 ?hr 4 0 4000 _ ⟨[(1, iV t), (2, iV self), (4, iV n), (5, iV inc), (6, iV top), (8, .one (.ref 512 0 0)), (11, .one (.ref 704 0 0)), (15, .one (.ref 960 0 0)), (17, iV 0)], [(512, .box (eC c)), (704, .box (eX x)), (960, .box (eM m))]⟩ (by omega) (by omega) ?hk rfl
 case hk => simp only [kk, simprocAttr]; try rfl
 case hr =>
  rintro i n0 st hi rfl ih
  (try dsimp only)
  rcases (by omega : i = 0 ∨ i = 1 ∨ i = 2 ∨ i = 3 ∨ i = 4) with rfl | rfl | rfl | rfl | rfl
  ·have hJ := fun d => e27 4000 d (by omega) c t self x n inc top hx
   unfold jnP at hJ
   rw [if_pos g0] at hJ
   by_cases g1 : (decide (0 ≤ top) && decide (top ≤ 1073741824)) = true
   ·rw [if_pos g1] at hJ
    simp only [Bool.and_eq_true, decide_eq_true_eq] at g1
    have hg := jn_good (n := n) (inc := inc) g0 g1
    obtain ⟨f1, f2, f3, f4, f5, f6, f7⟩ := gd_facts hg (jn_sm hx g0)
    generalize jnG c t self x n inc top = G at *
    obtain ⟨y, o⟩ := G
    dsimp only at *
    by_cases g2 : y.p > 0
    ·have f8 := f4 g2
     simp only [hJ, f1, f2, f3, KA.e28, f8, f5, f6, f7, decide_eq_true g2, z00, wn1, wn2, wn3, wn4, j11, b11, q11, ww, simprocAttr]
     exact ih (by omega) _ _ (by simp only [kk, simprocAttr]) rfl
    ·simp only [hJ, f1, f2, f3, f5, f6, f7, decide_eq_false g2, z00, wn1, wn2, wn3, wn4, j11, b11, q11, ww, simprocAttr]
     exact ih (by omega) _ _ (by simp only [kk, simprocAttr]) rfl
   ·rw [if_neg g1] at hJ
    simp only [hJ, hz, z11, z10, wn1, wn2, wn3, wn4, j11, b11, q11, ww, simprocAttr]
    exact ih (by omega) _ _ (by simp only [kk, simprocAttr]) rfl
  ·have hA := fun d => e33 1000 d (by omega) c t self x n m hx (by omega) (by omega)
   unfold ackP at hA
   rw [if_pos g0] at hA
   by_cases g1 : msgOK m = true ∧ m.k = 3 ∧ m.tp = t ∧ m.f = n
   ·rw [if_pos g1] at hA
    have hg := ack_good g0 g1.1 g1.2.1
    rw [g1.2.2.2] at hg
    obtain ⟨f1, f2, f3, f4, f5, f6, f7⟩ := gd_facts hg (ack_sm hx (by omega))
    generalize ackG c t self x n m = y at *
    by_cases g2 : y.p > 0
    ·have f8 := f4 g2
     simp only [hA, f1, f2, f3, KA.e28, f8, f5, f6, f7, decide_eq_true g2, z00, wn1, wn2, wn3, wn4, j11, b11, q11, ww, simprocAttr]
     exact ih (by omega) _ _ (by simp only [kk, simprocAttr]) rfl
    ·simp only [hA, f1, f2, f3, f5, f6, f7, decide_eq_false g2, z00, wn1, wn2, wn3, wn4, j11, b11, q11, ww, simprocAttr]
     exact ih (by omega) _ _ (by simp only [kk, simprocAttr]) rfl
   ·rw [if_neg g1] at hA
    simp only [hA, hz, z11, z10, wn1, wn2, wn3, wn4, j11, b11, q11, ww, simprocAttr]
    exact ih (by omega) _ _ (by simp only [kk, simprocAttr]) rfl
  ·have hS := fun d => e38 4000 d (by omega) c t self x n top hx
   unfold sentP at hS
   rw [if_pos g0] at hS
   by_cases g1 : (okN n && okN top) = true
   ·rw [if_pos g1] at hS
    have hg := sent_good (n := n) (to := top) g0
    obtain ⟨f1, f2, f3, f4, f5, f6, f7⟩ := gd_facts hg (sent_sm hx)
    generalize sentG t self x n top = y at *
    by_cases g2 : y.p > 0
    ·have f8 := f4 g2
     simp only [hS, f1, f2, f3, KA.e28, f8, f5, f6, f7, decide_eq_true g2, z00, wn1, wn2, wn3, wn4, j11, b11, q11, ww, simprocAttr]
     exact ih (by omega) _ _ (by simp only [kk, simprocAttr]) rfl
    ·simp only [hS, f1, f2, f3, f5, f6, f7, decide_eq_false g2, z00, wn1, wn2, wn3, wn4, j11, b11, q11, ww, simprocAttr]
     exact ih (by omega) _ _ (by simp only [kk, simprocAttr]) rfl
   ·rw [if_neg g1] at hS
    simp only [hS, hz, z11, z10, wn1, wn2, wn3, wn4, j11, b11, q11, ww, simprocAttr]
    exact ih (by omega) _ _ (by simp only [kk, simprocAttr]) rfl
  ·have hL := fun d => e39 4000 d (by omega) c t self x hx
   rw [if_pos g0, g0] at hL
   have hg := lost_good (o := 0) g0 rfl
   obtain ⟨f1, f2, f3, f4, f5, f6, f7⟩ := gd_facts hg (lost_sm hx)
   rw [show (⟨x.m, x.b, x.t, x.r, 0, 0, 0, 0, [], x.ks, x.s, x.q⟩ : Tp) = lostX x from rfl] at *
   generalize lostX x = y at *
   by_cases g2 : y.p > 0
   ·have f8 := f4 g2
    simp only [hL, f1, f2, f3, KA.e28, f8, f5, f6, f7, decide_eq_true g2, z00, wn1, wn2, wn3, wn4, j11, b11, q11, ww, simprocAttr]
    exact ih (by omega) _ _ (by simp only [kk, simprocAttr]) rfl
   ·simp only [hL, f1, f2, f3, f5, f6, f7, decide_eq_false g2, z00, wn1, wn2, wn3, wn4, j11, b11, q11, ww, simprocAttr]
    exact ih (by omega) _ _ (by simp only [kk, simprocAttr]) rfl
  ·clear ih
   simp only [hw, j11, b11, q11, ww, simprocAttr]
theorem e11r {A B C D E F G H I J K L : Prop} (c : Cf) (t self : Int) (x : Tp) (n inc top : Int) (m : Mg) (w0_ : A) (w1_ : B) (w2_ : C) (w3_ : D ∧ (E ∧ (F ∧ (G ∧ (wf8 x.p ∧ (wf8 x.a ∧ (wf8 x.o ∧ H))))))) (w4_ : I) (w5_ : J) (w6_ : K) (w7_ : L) : LA.TT 4000 20 11 [.agg (eC c), iV t, iV self, aX x, iV n, iV inc, iV top, aM m] = some (bV true, []) := e11 c t self x n inc top m (wf8_b w3_.2.2.2.2.1) (wf8_b w3_.2.2.2.2.2.1) (wf8_b w3_.2.2.2.2.2.2.1)
end Go.Proofs.YtdflglehippoiaaGreatDoor.GA
