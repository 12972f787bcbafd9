/- The contract of script.errno. -/
import Derived.Test.YtbkemldecbcfhaaDoorXK
import Derived.Test.YtbkemldecbcfhaaDoorEB
set_option linter.unusedVariables false
set_option linter.unusedSimpArgs false
set_option maxRecDepth 100000
namespace Go.Proofs.YtbkemldecbcfhaaDoor.XE
open Go Go.RowKit Go.Proofs.YtbkemldecbcfhaaDoorR
open Go.Proofs.YtbkemldecbcfhaaDoor.EA (wV jV tV whys whys_get e35w e35j)

/-- The number of an error. -/
def errnoM : Model
  | [.one (.k .nilIface)] => some (iV 0, [])
  | [.one (.ifc 81 (.ptr [.k (.string _), .ifc 29 (.int .i64 e)]))] => some (iV e, [])
  | [.one (.ifc 78 (.ptr [.row xs]))] => match whys xs with
    | some (e :: l) => if l.length < 1000 then some (iV (if (e :: l).any (fun x => decide (x = 9)) then 9 else e), []) else none
    | _ => none
  | _ => none
theorem glob_cell {w : World} (h : GLW w) : w.cell? ⟨0, 0, none⟩ = some (RT 53) := by
  obtain ⟨t, fr, h0⟩ := h (0, #[RT 53]) (List.mem_singleton.2 rfl)
  have h0 : w.heap[0]? = some (.cells #[RT 53] t fr) := h0
  simp [World.cell?, h0]
theorem addr_some {w : World} {a : Addr} {v : Value} (h : w.cell? (a.add 0) = some v) : ∃ b o, a = ⟨b, o, none⟩ ∧ w.cell? ⟨b, o, none⟩ = some v := by
  have h0 : a.add 0 = a := rfl
  rw [h0] at h
  obtain ⟨b, o, sp⟩ := a
  cases sp with
  | none => exact ⟨b, o, rfl, h⟩
  | some s =>
    exfalso
    unfold World.cell? at h
    split at h
    · simp at h
    · cases h
theorem calls35 {w : World} {ok0 : Nat → Prop} {x : V} {v : Value} {n : Int} {b : Bool} {N d : Nat} (hm : IE.TT N d 35 [.one x, tV n, bV true] = some (bV b, [])) (hg : GLW w) (hok : ∀ b, ok0 b → b < w.heap.size) (hx : RV w ok0 (fun _ => none) x v) :
    Calls Tryd.prog 35 #[v, .iface 29 (.int .i64 n), .bool true] w fun e w' => e = .returned (.bool b) ∧ Below w.heap.size w w' := by
  have hr : RSs w ok0 (fun _ => none) [.one x, tV n, bV true] (#[v, .iface 29 (.int .i64 n), .bool true] : Array Value).toList :=
    rss_cons (a := .one x) hx (rss_cons (a := tV n) (show RV w ok0 _ _ _ from Rep.rv (loc := fun _ => none) (.ifc .int)) (rss_cons (a := bV true) (show RV w ok0 _ _ _ from Rep.rv (loc := fun _ => none) .bool) rss_nil))
  refine ((IE.TT_ok N d 35).closed hm rfl hg hok hr).2.mono fun e w' ⟨u, loc, h1, h2, _, h4⟩ => ?_
  cases (show Rep w' _ (.bool b) u from h4)
  exact ⟨h1, h2⟩
theorem wrong_cells {w : World} {ok : Nat → Prop} {s : ByteArray} {e : Int} {v : Value} (h : Rep w ok (wV s e) v) : ∃ pb po, v = .iface 81 (.pointer (some ⟨pb, po, none⟩)) ∧ w.cell? ⟨pb, po + 1, none⟩ = some (.iface 29 (.int .i64 e)) := by
  cases h with
  | ifc h => cases h with
    | ptr u ha hr hp =>
      have h1 := hr 1 _ rfl
      have h2 := hp 1 _ rfl
      generalize u 1 = z at h1 h2
      obtain ⟨b, o, rfl, _⟩ := addr_some (hr 0 _ rfl)
      rw [Addr.add_lit] at h1
      cases h2 with
      | ifc h2 =>
        cases h2
        exact ⟨b, o, rfl, h1⟩
theorem join_cells {w : World} {ok : Nat → Prop} {xs : List (List V)} {s : ByteArray} {e : Int} {v : Value} (h : Rep w ok (jV xs) v) (hx : xs[0]? = some [wV s e]) : ∃ qb qo bb bo pb po n c, v = .iface 78 (.pointer (some ⟨qb, qo, none⟩)) ∧ 0 < n ∧ w.cell? ⟨qb, qo, none⟩ = some (.slice (some ⟨bb, bo, none⟩) n c) ∧ w.cell? ⟨bb, bo, none⟩ = some (.iface 81 (.pointer (some ⟨pb, po, none⟩))) ∧ w.cell? ⟨pb, po + 1, none⟩ = some (.iface 29 (.int .i64 e)) := by
  cases h with
  | ifc h => cases h with
    | ptr u ha hr hp =>
      have h1 := hr 0 _ rfl
      have h2 := hp 0 _ rfl
      generalize u 0 = z at h1 h2
      cases h2 with
      | row0 A c => simp at hx
      | row u' hn hne hc ha' he' hr' hp' =>
        rename_i a' n c e'
        have h3 := hr' 0 0 _ _ hx rfl
        have h4 := hp' 0 0 _ _ hx rfl
        generalize u' 0 0 = z' at h3 h4
        obtain ⟨pb, po, rfl, h5⟩ := wrong_cells h4
        rw [Nat.zero_mul, Nat.zero_add] at h3
        obtain ⟨b, o, rfl, h6⟩ := addr_some h1
        obtain ⟨b', o', rfl, h7⟩ := addr_some h3
        exact ⟨b, o, b', o', pb, po, n, c, rfl, hne, h6, h7, h5⟩
theorem c28_wrong {w : World} {pb po : Nat} {e : Int} (hg : w.cell? ⟨0, 0, none⟩ = some (RT 53)) (hp : w.cell? ⟨pb, po + 1, none⟩ = some (.iface 29 (.int .i64 e))) : ∀ w', Below w.heap.size w w' → Calls Tryd.prog 28 #[.iface 81 (.pointer (some ⟨pb, po, none⟩)), .iface 59 (.pointer (some ⟨w'.heap.size, 0, none⟩))] (w'.alloc (.cells #[.int .i64 0] 29)) fun ev w2 => ev = .returned (.bool true) ∧ Below w.heap.size w w2 ∧ w2.cell? ⟨w'.heap.size, 0, none⟩ = some (.int .i64 e) := by
  intro w' hB
  have hgl := cell_lt hg
  have hpl := cell_lt hp
  have hs := hB.size
  have hg1 : (w'.alloc (.cells #[.int .i64 0] 29)).cell? ⟨0, 0, none⟩ = some (RT 53) := by rw [World.cell?_alloc_lt _ _ _ (Nat.lt_of_lt_of_le hgl hs), hB.cell hgl]; exact hg
  have hp1 : (w'.alloc (.cells #[.int .i64 0] 29)).cell? ⟨pb, po + 1, none⟩ = some (.iface 29 (.int .i64 e)) := by rw [World.cell?_alloc_lt _ _ _ (Nat.lt_of_lt_of_le hpl hs), hB.cell hpl]; exact hp
  have ht1 : (w'.alloc (.cells #[.int .i64 0] 29)).cell? ⟨w'.heap.size, 0, none⟩ = some (.int .i64 0) := by simp
  have hf1 : (w'.alloc (.cells #[.int .i64 0] 29)).frozen? ⟨w'.heap.size, 0, none⟩ = false := by simp
  refine (As_wrong pb po ⟨w'.heap.size, 0, none⟩ e _ _ hg1 hp1 ht1 hf1).mono fun ev w2 ⟨h1, h2⟩ => ⟨h1, ?_, ?_⟩
  · subst h2
    refine Below.setCell ?_ (by show w.heap.size ≤ w'.heap.size; exact hs) _
    refine Below.alloc (Below.alloc (Below.alloc (Below.alloc (hB.alloc hs _) ?_ _) ?_ _) ?_ _) ?_ _
    all_goals (simp; omega)
  · subst h2
    refine World.cell?_setCell_same (u := .int .i64 0) _ _ _ ?_
    rw [World.cell?_alloc_lt _ _ _ (by simp; omega), World.cell?_alloc_lt _ _ _ (by simp; omega), wA_old (by simp)]
    exact ht1
theorem c28_join {w : World} {qb qo bb bo pb po n c : Nat} {e : Int} (hn : 0 < n) (hg : w.cell? ⟨0, 0, none⟩ = some (RT 53)) (hq : w.cell? ⟨qb, qo, none⟩ = some (.slice (some ⟨bb, bo, none⟩) n c)) (hb : w.cell? ⟨bb, bo, none⟩ = some (.iface 81 (.pointer (some ⟨pb, po, none⟩)))) (hp : w.cell? ⟨pb, po + 1, none⟩ = some (.iface 29 (.int .i64 e))) : ∀ w', Below w.heap.size w w' → Calls Tryd.prog 28 #[.iface 78 (.pointer (some ⟨qb, qo, none⟩)), .iface 59 (.pointer (some ⟨w'.heap.size, 0, none⟩))] (w'.alloc (.cells #[.int .i64 0] 29)) fun ev w2 => ev = .returned (.bool true) ∧ Below w.heap.size w w2 ∧ w2.cell? ⟨w'.heap.size, 0, none⟩ = some (.int .i64 e) := by
  intro w' hB
  have hgl := cell_lt hg
  have hpl := cell_lt hp
  have hql := cell_lt hq
  have hbl := cell_lt hb
  have hs := hB.size
  have up : ∀ {a : Addr} {v : Value}, w.cell? a = some v → (w'.alloc (.cells #[.int .i64 0] 29)).cell? a = some v := fun h => by rw [World.cell?_alloc_lt _ _ _ (Nat.lt_of_lt_of_le (cell_lt h) hs), hB.cell (cell_lt h)]; exact h
  have ht1 : (w'.alloc (.cells #[.int .i64 0] 29)).cell? ⟨w'.heap.size, 0, none⟩ = some (.int .i64 0) := by simp
  have hf1 : (w'.alloc (.cells #[.int .i64 0] 29)).frozen? ⟨w'.heap.size, 0, none⟩ = false := by simp
  refine (As_join qb qo bb bo pb po n c hn ⟨w'.heap.size, 0, none⟩ e _ _ (up hg) (up hq) (up hb) (up hp) ht1 hf1).mono fun ev w2 ⟨h1, h2⟩ => ⟨h1, ?_, ?_⟩
  · subst h2
    refine Below.setCell ?_ (by show w.heap.size ≤ w'.heap.size; exact hs) _
    refine Below.alloc (Below.alloc (Below.alloc (Below.alloc (Below.alloc (hB.alloc hs _) ?_ _) ?_ _) ?_ _) ?_ _) ?_ _
    all_goals (simp; omega)
  · subst h2
    refine World.cell?_setCell_same (u := .int .i64 0) _ _ _ ?_
    rw [World.cell?_alloc_lt _ _ _ (by simp; omega), World.cell?_alloc_lt _ _ _ (by simp; omega), World.cell?_alloc_lt _ _ _ (by simp; omega), wA_old (by simp)]
    exact ht1
theorem errno_calls {w : World} {ok0 : Nat → Prop} {x : V} {v : Value} {n : Int} (hg : GLW w) (hok : ∀ b, ok0 b → b < w.heap.size) (hx : Rep w ok0 x v) (hm : errnoM [.one x] = some (iV n, [])) : Calls Tryd.prog 23 #[v] w fun e w' => e = .returned (.int .i64 n) ∧ Below w.heap.size w w' := by
  have hgc := glob_cell hg
  unfold errnoM at hm
  split at hm
  · rename_i heq
    cases hm
    cases heq
    cases hx
    exact errno_nil w
  · rename_i s e heq
    have hen : e = n := by cases hm; rfl
    subst hen
    cases heq
    have h35 := calls35 (e35w 0 0 s e 9) hg hok hx.rv
    obtain ⟨pb, po, rfl, hp⟩ := wrong_cells hx
    by_cases h9 : e = 9
    · subst h9
      exact errno_is _ w (Is_of81 _ 9 true w (by simpa using h35))
    · rw [decide_eq_false h9] at h35
      exact errno_as _ e w (Is_of81 _ 9 false w h35) (c28_wrong hgc hp)
  · rename_i xs heq
    cases heq
    split at hm
    · rename_i e l hw
      split at hm
      · rename_i hl
        cases hm
        obtain ⟨g1, g2⟩ := whys_get hw
        obtain ⟨s, hs⟩ := g2 0 e rfl
        have h35 := calls35 (e35j 1000 0 xs (e :: l) 9 hw (by simp; omega) (by simp; omega)) hg hok hx.rv
        obtain ⟨qb, qo, bb, bo, pb, po, m, c, rfl, hn, hq, hb, hp⟩ := join_cells hx hs
        cases h9 : (e :: l).any fun x => decide (x = 9) with
        | true =>
          rw [h9] at h35
          rw [if_pos rfl]
          exact errno_is _ w (Is_of78 _ 9 true w h35)
        | false =>
          rw [h9] at h35
          rw [if_neg (by decide)]
          exact errno_as _ e w (Is_of78 _ 9 false w h35) (c28_join hn hgc hq hb hp)
      · cases hm
    · cases hm
  · cases hm
theorem errno_shape {args : List S} {r : S} {hp : Hp} (h : errnoM args = some (r, hp)) : ∃ x n, args = [.one x] ∧ r = iV n ∧ hp = [] := by
  unfold errnoM at h
  split at h
  · cases h; exact ⟨_, _, rfl, rfl, rfl⟩
  · cases h; exact ⟨_, _, rfl, rfl, rfl⟩
  · split at h
    · split at h
      · cases h; exact ⟨_, _, rfl, rfl, rfl⟩
      · cases h
    · cases h
  · cases h
theorem errno_ok : Sound Tryd.prog 23 errnoM := by
  intro args r hp hr as_ h0 hsp w ok0 loc0 vs hgl hok hHp hargs
  obtain ⟨x, n, rfl, rfl, rfl⟩ := errno_shape hr
  cases hsp
  have hl0 : ∀ s, loc0 s = none := fun s => by
    have := hHp.dom s
    cases h : loc0 s with
    | none => rfl
    | some l => rw [h] at this; cases this
  have hl : loc0 = fun _ => none := funext hl0
  subst hl
  obtain ⟨h1, h2⟩ := hargs
  obtain ⟨v, hv⟩ : ∃ v, vs.toList = [v] := by
    match hq : vs.toList, h1 with
    | [v], _ => exact ⟨v, rfl⟩
  obtain rfl : vs = #[v] := by apply Array.toList_inj.1; rw [hv]
  have hx0 : RV w ok0 (fun _ => none) x v := h2 0 _ v rfl rfl
  have hx : Rep w ok0 x v := by
    cases x with
    | ref s i j => simp [errnoM] at hr
    | sl s i j => simp [errnoM] at hr
    | _ => exact hx0
  refine ⟨by kernel_rfl, (errno_calls hgl.1 (fun b hb => (hok b hb).1) hx hr).mono fun e w' ⟨h3, h4⟩ => ⟨_, fun _ => none, h3, ⟨h4.os, h4.tape, h4.output, h4.size, fun k hk _ => h4.block k hk⟩, ⟨fun s => rfl, fun s l B h => (by cases h), fun s s' l l' b h => (by cases h), fun s l b h => (by cases h)⟩, Rep.rv (loc := fun _ => none) .int, fun s b h => (by cases h)⟩⟩
end Go.Proofs.YtbkemldecbcfhaaDoor.XE
