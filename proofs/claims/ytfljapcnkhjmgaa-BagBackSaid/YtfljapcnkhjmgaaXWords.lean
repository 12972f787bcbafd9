/- Words of our own for the walks: calls through a function value. -/
import Derived.Test.YtfljapcnkhjmgaaWMore
import Derived.Lib.SlBytesConst
namespace Go.Proofs.YtfljapcnkhjmgaaX
open Go.RowKit Go.ChangeShapes Go.WideShapes Go.Proofs.YtfljapcnkhjmgaaW.PrintWords Go.Proofs.YtfljapcnkhjmgaaW.PrintLast Go.Proofs.YtfljapcnkhjmgaaW.PrintMore
theorem ba_ {w W : World} (h : Below w.heap.size w W) (o : Obj) : Below w.heap.size w (W.alloc o) := below_alloc h o
theorem bn_ {B : Nat} {w W : World} (h : Below B w W) (n : Nat) : Below B w (W.drewN n) := pw_below_drewN h n
theorem bd_ {base : Nat} {w W : World} (h : Below base w W) : Below base w W.drew := below_drew1 h
section
variable {α : Type} {d : Kd α} {e : Nat} {w : World} {base : Nat} {ok : Nat → Prop} {v : Value} {xs : List α}
theorem ra_ (h : d.R e w base ok v xs) (o : Obj) : d.R e (w.alloc o) base ok v xs := Kd.R_alloc h o
theorem rd_ (h : d.R e w base ok v xs) : d.R e w.drew base ok v xs := Kd.R_drew h
theorem rn_ (h : d.R e w base ok v xs) (m : Nat) : d.R e (w.drewN m) base ok v xs := Kd.R_drewN h m
end
section
variable {P : Program} {ops : Array Oper} {Q : Exit → Act → World → Prop} {rest : List Oper} {o : Oper} {a : Act} {W : World}
theorem gate_calleeF {t : Tmp} {as : Array Operand} {ts : Array TypeId} (_ho : o.op = .call { callee := .value (.tmp t), args := as, argTypes := ts }) (h : wpList P ops Q (o :: rest) a W) : wpList P ops Q (o :: rest) a W := h
theorem goesF_ {rest : List Oper} {oi : Oper} {a : Act} {w : World} (N : Option Tmp) (hd : oi.dst = N) (hg : oi.guard = none) {f : FuncId} {fn : Func} {as : Array Operand} {x : Operand} {ts : Array TypeId} (hf : P.funcs[f]? = some fn) (hname : (fn.name == "runtime.NumGoroutine") = false) (hb : fn.body.isSome = true) (args : Array Value)
    (hop : oi.op = .call { callee := .value x, args := as, argTypes := ts }) (hx : a.eval x = .func (.func f) #[] #[]) (hargs : as.map a.eval = args)
    (h : Calls P f args w fun e w' => ∃ v, e = .returned v ∧ wpList P ops Q rest (a.put N v) w') : wpList P ops Q (oi :: rest) a w := by
  refine wpList_plain hg fun K hK => ?_
  have he := enters_ hf hname hb args w
  have hrun : (execOp a.eval oi).run P w = .ok (.enter f args) w := by
    unfold execOp
    simp [hop, resolve, Deferred.ofValue, invoke, hx, hargs, he]
  unfold Oper.wp
  rw [hrun, Oper.upon_enter]
  refine h.mono fun e w'' hh => ?_
  obtain ⟨v, rfl, hk⟩ := hh
  subst hd
  exact hK _ _ hk
end
section
variable {P : Program} {ops : Array Oper} {Q : Exit → Act → World → Prop} {rest : List Oper} {o : Oper} {a : Act} {W w0 : World}
/-- '[]byte("..")' of a constant: the literal's row gets the run-time's mark; it is read on as it was. -/
theorem conv_event {base : Nat} {ok : Nat → Prop} {A : Option Addr} {n c : Nat} {xs : List Int} {t e : TypeId} {x : Operand} (N : Option Tmp) (hd : o.dst = N) (hg : o.guard = none) (hop : o.op = .convert t t x) (ht : P.underlying t = some (.slice e)) (he : P.underlying e = some (.int .u8))
    (hx : a.eval x = .slice A n c) (HR : (Kd.int .u8).R e W base ok (.slice A n c) xs) (hne : 0 < xs.length) (HB : Below base w0 W)
    (h : ∀ W', W.grownBy W' (Value.slice A n c).ownBlock → Below base w0 W' → (Kd.int .u8).C W' A xs.length xs → wpList P ops Q rest (a.put N (.slice A n c)) W') : wpList P ops Q (o :: rest) a W := by
  obtain ⟨A', c', hv, hlc, hC⟩ := Kd.R_reads HR
  injection hv with hA hn hc
  subst hA; subst hn; subst hc
  obtain ⟨_, inner, hown, _⟩ := HR
  rcases hown.2 with ⟨hv, _⟩ | ⟨g, cap, cur, hv, hbase, hblk, _⟩
  · injection hv with hA _ _
    subst hA
    obtain ⟨ad, had, _⟩ := hC.2.2 hne
    cases had
  · injection hv with hA _ _
    subst hA
    have hlt : g < W.heap.size := (Array.getElem?_eq_some_iff.1 hblk).1
    have hsh : W.shape? g = some (e, cur.size) := by unfold World.shape?; rw [hblk]
    have hheap : ∀ k, (W.freeze ⟨g, cur.size, none⟩ 1).heap[k]? = if g = k then some (.cells cur e (cur.size, cur.size + 1)) else W.heap[k]? := by
      intro k
      unfold World.freeze
      rw [if_neg (by decide)]
      show (W.heap.modify g _)[k]? = _
      rw [Array.getElem?_modify]
      by_cases hk : g = k
      · subst hk
        rw [if_pos rfl, if_pos rfl, hblk]
        rfl
      · rw [if_neg hk, if_neg hk]
    have hgb : W.grownBy (W.freeze ⟨g, cur.size, none⟩ 1) (some g) := by
      refine ⟨by unfold World.freeze; split <;> rfl, by unfold World.freeze; split <;> rfl, by unfold World.freeze; split <;> rfl, by unfold World.freeze; split <;> simp, fun k _ hk => ?_⟩
      rw [hheap k, if_neg (fun z => hk (by rw [z]))]
    have hrun : (convert t t (.slice (some ⟨g, 0, none⟩) xs.length c)).run P W = .ok (.slice (some ⟨g, 0, none⟩) xs.length c) (W.freeze ⟨g, cur.size, none⟩ 1) := by
      simp [convert, run_underlying ht, run_underlying he, markStringish, hsh]
    have hcells : ∀ (j : Nat) (ad : Addr), ad.block = g → (W.freeze ⟨g, cur.size, none⟩ 1).cell? ad = W.cell? ad := by
      intro j ad hb
      unfold World.cell?
      rw [hb, hheap g, if_pos rfl, hblk]
    refine wpList_plain hg fun K hK => ?_
    have hrun2 : (execOp a.eval o).run P W = .ok (.value (.slice (some ⟨g, 0, none⟩) xs.length c)) (W.freeze ⟨g, cur.size, none⟩ 1) := by
      unfold execOp
      rw [hop]
      simp [hx, hrun]
    unfold Oper.wp
    rw [hrun2]
    subst hd
    refine hK _ _ (h _ hgb (pw_below_grown HB (some g) ?_ hgb (fun k hk => by cases hk; exact hbase)) ?_)
    · exact Nat.le_trans hbase (Nat.le_of_lt hlt)
    · obtain ⟨h1, h2, h3⟩ := hC
      refine ⟨h1, h2, fun hn => ?_⟩
      obtain ⟨ad, had, hr⟩ := h3 hn
      refine ⟨ad, had, fun j p hp => ?_⟩
      obtain ⟨cc, q1, q2, q3⟩ := hr j p hp
      refine ⟨cc, q1, q2, fun i u hu => ?_⟩
      rw [hcells j]
      · exact q3 i u hu
      · rw [show (ad.add (j * (Kd.int .u8).sz + i)).block = ad.block from by unfold Addr.add; split <;> rfl]
        injection had with had
        rw [← had]
end
end Go.Proofs.YtfljapcnkhjmgaaX
