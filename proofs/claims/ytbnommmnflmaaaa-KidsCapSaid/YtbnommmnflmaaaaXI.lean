/- slices.Insert of one element, ahead of another one: the walk, at elements of 3 cells. -/
import Derived.Test.YtbnommmnflmaaaaProg
import Derived.Test.YtbnommmnflmaaaaR21
import Derived.Shelf.Spec.SlicesInsertGrow
import Derived.WalkKit
set_option linter.unusedVariables false
set_option linter.unusedSimpArgs false
set_option maxRecDepth 100000
namespace Go.Proofs.Ytbnommmnflmaaaa.XI
open Go Go.RowKit Go.Lib Go.Shelf Go.Proofs Go.Proofs.YtbnommmnflmaaaaR

theorem run_copy_row {P : Program} (w : World) (dT sT ty elem : TypeId) {i : TypeInfo} (hu : P.underlying dT = some (.slice elem)) (hi : P.info? elem = some i) {b o dLen dCap : Nat} {t : TypeId} {cur : Array Value} (hb : w.heap[b]? = some (.cells cur t (0, 0))) {a : Addr} {sLen sCap : Nat} (src : List Value)
    (hn : src.length = Nat.min sLen dLen * i.size) (hsrc : ∀ (j : Nat) v, src[j]? = some v → w.cell? (a.add j) = some v) (hfit : o + src.length ≤ cur.size) (h1 : ∀ v ∈ src, v.oneCell' = true) :
    (Builtin.copy_ #[dT, sT] ty #[.slice (some ⟨b, o, none⟩) dLen dCap, .slice (some a) sLen sCap]).run P w = .ok (goInt (Nat.min sLen dLen)) (w.setRow b (cur.toList.take o ++ src ++ cur.toList.drop (o + src.length)).toArray) := by
  have hl := run_loadCells_list (P := P) w a src hsrc
  have hst := run_storeCells_at P b o t src 0 cur w hb (by simpa using hfit) h1
  simp only [Nat.add_zero] at hst
  simp [Builtin.copy_, run_underlying hu, Builtin.lenOf, Builtin.firstCells, sizeOf, typeInfo, hi, ← hn, hl, hst]

theorem m0 : Try.prog.follows .mixedOrders = true := by kernel_rfl
theorem t3 : Try.prog.underlying 3 = some (.int .i64) := by kernel_rfl
theorem t4 : Try.prog.underlying 4 = some .bool := by kernel_rfl
theorem tS : Try.prog.underlying 25 = some (.slice 35) := by kernel_rfl
theorem zS (w : World) : (sizeOf 25).run Try.prog w = .ok 1 w := by kernel_rfl
theorem zE (w : World) : (sizeOf 35).run Try.prog w = .ok 3 w := by kernel_rfl
theorem aS (w : World) : (isAgg 25).run Try.prog w = .ok false w := by kernel_rfl
theorem iE : ∃ i z, Try.prog.info? 35 = some i ∧ i.size = 3 ∧ i.bytes = 24 ∧ i.zero = some z ∧ z.cells.size = 3 := by
  have h1 : (Try.prog.info? 35).map (fun i => (i.size, i.bytes, i.zero.map fun z => z.cells.size)) = some (3, 24, some 3) := by kernel_rfl
  cases h : Try.prog.info? 35 with
  | none => rw [h] at h1; cases h1
  | some i =>
    rw [h] at h1
    simp only [Option.map_some, Option.some.injEq, Prod.mk.injEq] at h1
    obtain ⟨h2, h3, h4⟩ := h1
    rw [Option.map_eq_some_iff] at h4
    obtain ⟨z, h5, h6⟩ := h4
    exact ⟨i, z, rfl, h2, h3, h5, h6⟩

theorem shift_list {α : Type} (L D V : List α) (p e q : Nat) (h1 : p + e ≤ L.length) (hV : V.length = e) (hD : p + e + D.length = q) :
    (L.take (p + e) ++ D ++ L.drop (p + e + D.length)).take p ++ V ++ (L.take (p + e) ++ D ++ L.drop (p + e + D.length)).drop (p + V.length) = L.take p ++ V ++ D ++ L.drop q := by
  have hl : (L.take (p + e)).length = p + e := by rw [List.length_take]; omega
  have e1 : (L.take (p + e) ++ D ++ L.drop (p + e + D.length)).take p = L.take p := by
    rw [List.append_assoc, List.take_append_of_le_length (by omega), List.take_take]
    congr 1
    omega
  have e2 : (L.take (p + e) ++ D ++ L.drop (p + e + D.length)).drop (p + V.length) = D ++ L.drop q := by
    rw [hV, hD, List.append_assoc]
    have h3 := List.drop_append_of_le_length (l₁ := L.take (p + e)) (l₂ := D ++ L.drop q) (i := p + e) (by omega)
    rw [h3, List.drop_of_length_le (by omega), List.nil_append]
  rw [e1, e2]
  simp only [List.append_assoc]
set_option maxHeartbeats 4000000 in
/-- There is room. -/
theorem shift (b n c i vb m vc : Nat) (cs vcs : Array Value) (w : World) (hi : i < n) (hm : m = 1) (hroom : n + m ≤ c) (hc63 : c ≤ 9223372036854775807) (hvb : vb ≠ b) (hb : w.heap[b]? = some (.cells cs 35 (0, 0))) (hcs : cs.size = c * 3) (hvc : w.heap[vb]? = some (.cells vcs 35 (0, 0))) (hvs : 3 ≤ vcs.size)
    (h1c : ∀ v ∈ cs.toList.take (n * 3), v.oneCell' = true) (h1v : ∀ v ∈ vcs.toList.take 3, v.oneCell' = true) :
    Calls Try.prog 44 #[.slice (some ⟨b, 0, none⟩) n c, .int .i64 i, .slice (some ⟨vb, 0, none⟩) m vc] w fun e w' =>
      e = .returned (.slice (some ⟨b, 0, none⟩) (n + m) c) ∧ ∃ cs' : Array Value, w' = w.drew.setRow b cs' ∧ cs'.toList = cs.toList.take (i * 3) ++ vcs.toList.take 3 ++ (cs.toList.take (n * 3)).drop (i * 3) ++ cs.toList.drop ((n + 1) * 3) := by
  subst hm
  obtain ⟨ti, z, i1, i2, i3, i4, i5⟩ := iE
  have u3 := run_underlying t3
  have u4 := run_underlying t4
  have uS := run_underlying tS
  have zS := zS
  have zE := zE
  have aS := aS
  have mixed := m0
  have hz1 : ¬ ((1 : Int) = 0) := by omega
  have hz2 : ¬ ((i : Int) = (n : Int)) := by omega
  have hov : ∀ lb cb, (callFunc 50 #[.slice (some ⟨vb, 0, none⟩) 1 vc, .slice (some ⟨b, (i + 1) * 3, none⟩) lb cb]).run Try.prog w = .ok (.value (.bool false)) w := fun lb cb => by
    rw [run_callFunc_extern Try.func50 (by kernel_rfl) (by kernel_rfl) (by kernel_rfl) (e := Extern.SlicesOverlaps.overlaps #[25, 25] #[4]) (by kernel_rfl),
      Lib.run_overlaps_apart w 25 4 35 tS 3 zE ⟨vb, 0, none⟩ ⟨b, (i + 1) * 3, none⟩ 1 vc lb cb hvb _ _ _ _ (by simp [World.shape?, hvc]; exact ⟨rfl, rfl⟩) (by simp [World.shape?, hb]; exact ⟨rfl, rfl⟩) (by omega) (by simp [World.frozen?, hvc]) (by simp [World.frozen?, hvc])]
    rfl
  obtain ⟨D, hD⟩ : ∃ D, D = (cs.toList.take (n * 3)).drop (i * 3) := ⟨_, rfl⟩
  have hcl : cs.toList.length = c * 3 := by simp [hcs]
  have hDl : D.length = (n - i) * 3 := by rw [hD, List.length_drop, List.length_take, hcl]; omega
  have hw1 : IntKind.i64.wrap ((i : Int) + 1) = (i : Int) + 1 := by rw [IntKind.wrap_i64]; omega
  have hb1 : (0 : Int) ≤ (i : Int) + 1 := by omega
  have hin : i ≤ n := by omega
  have htn : ((i : Int) + 1).toNat = i + 1 := by omega
  have hb2 : ¬ (c = i + 1) := by omega
  have hb3 : (i : Int) ≤ (n : Int) + 1 := by omega
  have hb4 : ¬ (c = i) := by omega
  have hbd : w.drew.heap[b]? = some (.cells cs 35 (0, 0)) := hb
  have hcell : ∀ j, w.cell? ⟨b, j, none⟩ = cs[j]? := fun j => cell_of_row w b j cs _ (0, 0) hb
  obtain ⟨cs1, hcs1⟩ : ∃ cs1 : Array Value, cs1 = (cs.toList.take ((i + 1) * 3) ++ D ++ cs.toList.drop ((i + 1) * 3 + D.length)).toArray := ⟨_, rfl⟩
  have hDg : ∀ (j : Nat) v, D[j]? = some v → cs[i * 3 + j]? = some v := by
    intro j v hj
    rw [hD, List.getElem?_drop, List.getElem?_take] at hj
    split at hj
    · simpa using hj
    · cases hj
  have hcp1 : ∀ ty dc sc, (Builtin.copy_ #[25, 25] ty #[.slice (some ⟨b, (i + 1) * 3, none⟩) (n - i) dc, .slice (some ⟨b, i * 3, none⟩) (n + 1 - i) sc]).run Try.prog w.drew = .ok (goInt (Nat.min (n + 1 - i) (n - i))) (w.drew.setRow b cs1) := fun ty dc sc => by
    rw [hcs1]
    exact run_copy_row w.drew _ _ ty 35 tS i1 hbd D (by rw [hDl, i2]; simp only [Nat.min_def]; split <;> omega) (fun j v hj => by rw [Addr.add_lit]; exact (hcell _).trans (hDg j v hj)) (by rw [hDl, hcs]; omega) (fun v hv => h1c v (List.mem_of_mem_drop (by rw [hD] at hv; exact hv)))
  obtain ⟨V, hV⟩ : ∃ V, V = vcs.toList.take 3 := ⟨_, rfl⟩
  have hVl : V.length = 3 := by rw [hV, List.length_take]; simp; omega
  have hc1l : cs1.toList.length = c * 3 := by
    rw [hcs1]
    simp only [List.length_append, List.length_take, List.length_drop, hcl, hDl]
    omega
  have hb1d : (w.drew.setRow b cs1).heap[b]? = some (.cells cs1 35 (0, 0)) := setRow_heap w.drew b cs cs1 _ _ hbd
  obtain ⟨cs2, hcs2⟩ : ∃ cs2 : Array Value, cs2 = (cs1.toList.take (i * 3) ++ V ++ cs1.toList.drop (i * 3 + V.length)).toArray := ⟨_, rfl⟩
  have hcp2 : ∀ ty dc, (Builtin.copy_ #[25, 25] ty #[.slice (some ⟨b, i * 3, none⟩) (n + 1 - i) dc, .slice (some ⟨vb, 0, none⟩) 1 vc]).run Try.prog (w.drew.setRow b cs1) = .ok (goInt (Nat.min 1 (n + 1 - i))) ((w.drew.setRow b cs1).setRow b cs2) := fun ty dc => by
    rw [hcs2]
    exact run_copy_row _ _ _ ty 35 tS i1 hb1d V (by rw [hVl, i2]; simp only [Nat.min_def]; split <;> omega) (fun j v hj => by
      rw [Addr.add_lit, cell_of_row (w.drew.setRow b cs1) vb _ vcs _ (0, 0) (by rw [setRow_other _ _ _ _ hvb]; exact hvc)]
      rw [hV, List.getElem?_take] at hj
      split at hj
      · simpa using hj
      · cases hj) (by rw [hVl, ← Array.length_toList, hc1l]; omega) (fun v hv => h1v v (by rw [hV] at hv; exact hv))
  rw [setRow_setRow] at hcp2
  have H1 : Hid (cs1 = _) := hcs1
  have H2 : Hid (cs2 = _) := hcs2
  have HD : Hid (D = _) := hD
  have HV : Hid (V = _) := hV
  have HL : Hid (D.length = (n - i) * 3 ∧ V.length = 3 ∧ cs.toList.length = c * 3) := ⟨hDl, hVl, hcl⟩
  have HO : Hid (∀ lb cb, (callFunc 50 #[.slice (some ⟨vb, 0, none⟩) 1 vc, .slice (some ⟨b, (i + 1) * 3, none⟩) lb cb]).run Try.prog w = .ok (.value (.bool false)) w) := hov
  clear hcs1 hcs2 hD hV hDl hVl hcl hDg hcell hc1l hb1d hbd h1c h1v hvc hvs
  go_enter Try.func44, Try.ntmps44
  go_wp2_with (simp only [hov])
  go_region_law_o (refine step_copy_runI rfl _ _ 25 25 rfl _ _ (by simp [Act.eval, Act.put]) (by simp [Act.eval, Act.put]) (hcp1 _ _ _) ?_)
  go_wp2_with (at_builtin; refine wpList_copy_runI _ rfl _ _ 25 25 rfl _ _ rfl rfl (hcp2 _ _) ?_)
  go_ret
  refine ⟨rfl, cs2, rfl, ?_⟩
  obtain ⟨l1, l2, l3⟩ := HL.out
  rw [H2.out, H1.out, ← HD.out, ← HV.out]
  simp only [List.toList_toArray]
  have h5 := shift_list cs.toList D V (i * 3) 3 ((n + 1) * 3) (by omega) l2 (by omega)
  rw [show (i + 1) * 3 = i * 3 + 3 by omega]
  exact h5

theorem grow_list {α : Type} (L Z V D : List α) (p e : Nat) (hp : p ≤ L.length) (hV : V.length = e) (hZ : e + D.length ≤ Z.length) :
    ((((L.take p ++ Z).take p ++ V ++ (L.take p ++ Z).drop (p + V.length)).take (p + e) ++ D ++ ((L.take p ++ Z).take p ++ V ++ (L.take p ++ Z).drop (p + V.length)).drop (p + e + D.length))).take (p + e + D.length) = L.take p ++ V ++ D := by
  have hl : (L.take p).length = p := by rw [List.length_take]; omega
  have e1 : (L.take p ++ Z).take p = L.take p := by rw [List.take_append_of_le_length (by omega), List.take_take, Nat.min_self]
  have e2 : (L.take p ++ V ++ (L.take p ++ Z).drop (p + V.length)).take (p + e) = L.take p ++ V := by
    have h1 : (L.take p ++ V).length = p + e := by rw [List.length_append]; omega
    rw [← h1, List.take_left]
  rw [e1, e2]
  have h2 : (L.take p ++ V ++ D).length = p + e + D.length := by simp only [List.length_append]; omega
  rw [← h2, List.take_left]
set_option maxHeartbeats 4000000 in
/-- There is none. -/
theorem grow (b n c i vb m vc : Nat) (cs vcs : Array Value) (w : World) (hi : i < n) (hm : m = 1) (hnc : n ≤ c) (hroom : c < n + m) (hbig : (n + 1) * 24 ≤ 140737488355328) (hvb : vb ≠ b) (hb : w.heap[b]? = some (.cells cs 35 (0, 0))) (hcs : cs.size = c * 3) (hvc : w.heap[vb]? = some (.cells vcs 35 (0, 0))) (hvs : 3 ≤ vcs.size)
    (h1c : ∀ v ∈ cs.toList.take (n * 3), v.oneCell' = true) (h1v : ∀ v ∈ vcs.toList.take 3, v.oneCell' = true) :
    Calls Try.prog 44 #[.slice (some ⟨b, 0, none⟩) n c, .int .i64 i, .slice (some ⟨vb, 0, none⟩) m vc] w fun e w' =>
      ∃ G, n + m ≤ G ∧ G ≤ maxLen ∧ e = .returned (.slice (some ⟨w.heap.size, 0, none⟩) (n + m) G) ∧ ∃ cs' : Array Value, cs'.size = G * 3 ∧ cs'.toList.take ((n + 1) * 3) = cs.toList.take (i * 3) ++ vcs.toList.take 3 ++ (cs.toList.take (n * 3)).drop (i * 3) ∧
        Below w.heap.size w w' ∧ w'.heap[w.heap.size]? = some (.cells cs' 35 (0, 0)) ∧ w'.heap.size = w.heap.size + 1 := by
  subst hm
  obtain ⟨ti, z, i1, i2, i3, i4, i5⟩ := iE
  have u3 := run_underlying t3
  have u4 := run_underlying t4
  have uS := run_underlying tS
  have zS := zS
  have zE := zE
  have aS := aS
  have mixed := m0
  have hz1 : ¬ ((1 : Int) = 0) := by omega
  have hz2 : ¬ ((i : Int) = (n : Int)) := by omega
  have hz3 : (c : Int) < (n : Int) + 1 := by omega
  obtain ⟨D, hD⟩ : ∃ D, D = (cs.toList.take (n * 3)).drop (i * 3) := ⟨_, rfl⟩
  have hcl : cs.toList.length = c * 3 := by simp [hcs]
  have hDl : D.length = (n - i) * 3 := by rw [hD, List.length_drop, List.length_take, hcl]; omega
  obtain ⟨V, hV⟩ : ∃ V, V = vcs.toList.take 3 := ⟨_, rfl⟩
  have hVl : V.length = 3 := by rw [hV, List.length_take]; simp; omega
  have hbw : b < w.heap.size := by
    rcases Nat.lt_or_ge b w.heap.size with h | h
    · exact h
    · rw [Array.getElem?_eq_none h] at hb; cases hb
  have hvw : vb < w.heap.size := by
    rcases Nat.lt_or_ge vb w.heap.size with h | h
    · exact h
    · rw [Array.getElem?_eq_none h] at hvc; cases hvc
  have hkk : (n : Int) + 1 - (i : Int) = ((n + 1 - i : Nat) : Int) := by omega
  have hik : i + (n + 1 - i) = n + 1 := by omega
  have hcell : ∀ j, w.cell? ⟨b, j, none⟩ = cs[j]? := fun j => cell_of_row w b j cs _ (0, 0) hb
  have hold : (Builtin.firstCells ti.size i (.slice (some ⟨b, 0, none⟩) i c)).run Try.prog w.drew = .ok (cs.toList.take (i * 3)).toArray w.drew := by
    rw [i2]
    exact run_firstCells_some w.drew 3 i ⟨b, 0, none⟩ i c (cs.toList.take (i * 3)) (by rw [List.length_take, hcl]; omega) (fun j v hj => by
      rw [Addr.add_lit]
      rw [List.getElem?_take] at hj
      split at hj
      · refine (hcell _).trans ?_
        rw [Nat.zero_add]
        simpa using hj
      · cases hj)
  obtain ⟨G, hG⟩ : ∃ G, G = grownCap w (n + 1) c 35 := ⟨_, rfl⟩
  obtain ⟨Z, hZ⟩ : ∃ Z, Z = (Builtin.zeroCells z.cells (n + 1 - i)).toList ++ (Builtin.zeroCells z.cells (G - (n + 1))).toList := ⟨_, rfl⟩
  obtain ⟨ROW, hROW⟩ : ∃ ROW : Array Value, ROW = (cs.toList.take (i * 3) ++ Z).toArray := ⟨_, rfl⟩
  have hrz : ∀ ty, (Builtin.append_ #[25, 3] ty #[.slice (some ⟨b, 0, none⟩) i c, .int .i64 ((n : Int) + 1 - (i : Int))]).run Try.prog w =
      .ok (.slice (some ⟨w.heap.size, 0, none⟩) (n + 1) G) (w.drew.alloc (.cells ROW 35)) := fun ty => by
    have h := Lib.run_append_grow_zeros w 25 3 ty 35 ti z .i64 .i64 tS t3 i1 i4 (some ⟨b, 0, none⟩) i c (cs.toList.take (i * 3)) hold (n + 1 - i) (by omega) (by omega) (by omega) (by omega) (by rw [i3]; omega) (by rw [i3, hik]; exact growslice_fits hroom hbig)
    rw [hik, ← hG] at h
    rw [hkk, h, hROW, hZ]
    congr 3
    apply Array.toList_inj.1
    simp
  have hGn : n + 1 ≤ G := by rw [hG]; exact grownCap_ge w _ _ _
  have hGm : G ≤ maxLen := by rw [hG]; exact grownCap_le_maxLen w (n + 1) c 35 (by unfold maxLen; omega)
  have hG63 : G ≤ 9223372036854775807 := by unfold maxLen at hGm; omega
  have hZl : Z.length = (G - i) * 3 := by
    rw [hZ, List.length_append, Array.length_toList, Array.length_toList, size_zeroCells, size_zeroCells, i5, ← Nat.add_mul]
    congr 1
    omega
  have hRl : ROW.toList.length = G * 3 := by
    rw [hROW]
    simp only [List.length_append, List.length_take, hcl, hZl]
    omega
  obtain ⟨W1, hW1⟩ : ∃ W1, W1 = w.drew.alloc (.cells ROW 35) := ⟨_, rfl⟩
  have hW1b : W1.heap[w.heap.size]? = some (.cells ROW 35 (0, 0)) := by rw [hW1]; exact heap_alloc_new w.drew _
  obtain ⟨cs1, hcs1⟩ : ∃ cs1 : Array Value, cs1 = (ROW.toList.take (i * 3) ++ V ++ ROW.toList.drop (i * 3 + V.length)).toArray := ⟨_, rfl⟩
  have hc1l : cs1.toList.length = G * 3 := by
    rw [hcs1]
    simp only [List.length_append, List.length_take, List.length_drop, hRl, hVl]
    omega
  have hcpA : ∀ (W : World), W.heap = W1.heap → ∀ ty dc, (Builtin.copy_ #[25, 25] ty #[.slice (some ⟨w.heap.size, i * 3, none⟩) (n + 1 - i) dc, .slice (some ⟨vb, 0, none⟩) 1 vc]).run Try.prog W = .ok (goInt (Nat.min 1 (n + 1 - i))) (W.setRow w.heap.size cs1) := fun W hW ty dc => by
    rw [hcs1]
    refine run_copy_row W _ _ ty 35 tS i1 (by rw [hW]; exact hW1b) V (by rw [hVl, i2]; simp only [Nat.min_def]; split <;> omega) (fun j v hj => ?_) (by rw [hVl, ← Array.length_toList, hRl]; omega) (fun v hv => h1v v (by rw [hV] at hv; exact hv))
    rw [Addr.add_lit, cell_of_row W vb _ vcs _ (0, 0) (by rw [hW, hW1]; exact (Below.heap_alloc w.drew _ vb hvw).trans hvc)]
    rw [hV, List.getElem?_take] at hj
    split at hj
    · simpa using hj
    · cases hj
  obtain ⟨cs2, hcs2⟩ : ∃ cs2 : Array Value, cs2 = (cs1.toList.take ((i + 1) * 3) ++ D ++ cs1.toList.drop ((i + 1) * 3 + D.length)).toArray := ⟨_, rfl⟩
  have hcpB : ∀ (W : World), W.heap = (W1.setRow w.heap.size cs1).heap → ∀ ty dc sc, (Builtin.copy_ #[25, 25] ty #[.slice (some ⟨w.heap.size, (i + 1) * 3, none⟩) (n - i) dc, .slice (some ⟨b, i * 3, none⟩) (n - i) sc]).run Try.prog W = .ok (goInt (Nat.min (n - i) (n - i))) (W.setRow w.heap.size cs2) := fun W hW ty dc sc => by
    rw [hcs2]
    refine run_copy_row W _ _ ty 35 tS i1 (by rw [hW]; exact setRow_heap W1 w.heap.size ROW cs1 _ _ hW1b) D (by rw [hDl, i2]; simp only [Nat.min_def]; split <;> omega) (fun j v hj => ?_) (by rw [hDl, ← Array.length_toList, hc1l]; omega) (fun v hv => h1c v (List.mem_of_mem_drop (by rw [hD] at hv; exact hv)))
    rw [Addr.add_lit, cell_of_row W b _ cs _ (0, 0) (by rw [hW, setRow_other _ _ _ _ (by omega), hW1]; exact (Below.heap_alloc w.drew _ b hbw).trans hb)]
    rw [hD, List.getElem?_drop, List.getElem?_take] at hj
    split at hj
    · simpa using hj
    · cases hj
  have hGi : ¬ (G = i) := by omega
  have hGim : ¬ (G = i + 1) := by omega
  have hci : ¬ (c = i) := by omega
  have hbN : b ≠ w.heap.size := by omega
  have hw1 : IntKind.i64.wrap ((i : Int) + 1) = (i : Int) + 1 := by rw [IntKind.wrap_i64]; omega
  have hb1 : (0 : Int) ≤ (i : Int) + 1 := by omega
  have hin : i ≤ n := by omega
  have htn : ((i : Int) + 1).toNat = i + 1 := by omega
  have hb3 : (i : Int) ≤ (n : Int) := by omega
  have hE1 : ((w.alloc (.cells ROW 35)).drew).heap = W1.heap := by rw [hW1]; rfl
  have hF1 : (((w.alloc (.cells ROW 35)).drew.setRow w.heap.size cs1).drew).heap = (W1.setRow w.heap.size cs1).heap := by rw [hW1]; rfl
  have H1 : Hid (cs1 = _) := hcs1
  have H2 : Hid (cs2 = _) := hcs2
  have HD : Hid (D = _) := hD
  have HV : Hid (V = _) := hV
  have HR : Hid (ROW = _) := hROW
  have HL : Hid (D.length = (n - i) * 3 ∧ V.length = 3 ∧ cs.toList.length = c * 3 ∧ Z.length = (G - i) * 3 ∧ cs1.toList.length = G * 3 ∧ G ≤ maxLen) := ⟨hDl, hVl, hcl, hZl, hc1l, hGm⟩
  subst hW1
  clear hcs1 hcs2 hD hV hDl hVl hcl hcell hc1l h1c h1v hvc hvs hkk hik hold hROW hG hRl hZ hZl hGm
  go_enter Try.func44, Try.ntmps44
  go_wp2_with (first
    | (at_builtin; refine Lib.wpList_append_run _ rfl _ _ _ _ rfl _ _ rfl rfl _ _ (hrz _) ?_)
    | (at_builtin; refine wpList_copy_runI _ rfl _ _ 25 25 rfl _ _ rfl rfl (hcpA _ hE1 _ _) ?_))
  go_region_law_o (refine step_copy_runI rfl _ _ 25 25 rfl (.slice (some ⟨w.heap.size, (i + 1) * 3, none⟩) (n - i) (G - (i + 1))) (.slice (some ⟨b, i * 3, none⟩) (n - i) (c - i)) (by simp [Act.eval, Act.put]) (by simp [Act.eval, Act.put]) (hcpB _ hF1 3 (G - (i + 1)) (c - i)) ?_)
  go_wp2
  go_ret
  obtain ⟨l1, l2, l3, l4, l5, l6⟩ := HL.out
  refine ⟨G, hGn, l6, rfl, cs2, ?_, ?_, ?_, ?_, ?_⟩
  · rw [← Array.length_toList, H2.out]
    simp only [List.length_append, List.length_take, List.length_drop, l5, l1]
    omega
  · rw [H2.out, H1.out, HR.out, ← HD.out, ← HV.out]
    simp only [List.toList_toArray]
    have h5 := grow_list cs.toList Z V D (i * 3) 3 (by omega) l2 (by omega)
    rw [show (i + 1) * 3 = i * 3 + 3 by omega]
    rw [show (n + 1) * 3 = i * 3 + 3 + D.length by omega]
    exact h5
  · refine ⟨rfl, rfl, rfl, by simp [World.setRow], fun k hk => ?_⟩
    rw [setRow_other _ _ _ _ (by omega)]
    show ((w.alloc (.cells ROW 35)).drew.setRow w.heap.size cs1).heap[k]? = _
    rw [setRow_other _ _ _ _ (by omega)]
    exact Below.heap_alloc w _ k hk
  · refine setRow_heap _ w.heap.size cs1 cs2 _ _ ?_
    show ((w.alloc (.cells ROW 35)).drew.setRow w.heap.size cs1).heap[w.heap.size]? = _
    exact setRow_heap _ w.heap.size ROW cs1 _ _ (heap_alloc_new w _)
  · simp [World.setRow]
end Go.Proofs.Ytbnommmnflmaaaa.XI
