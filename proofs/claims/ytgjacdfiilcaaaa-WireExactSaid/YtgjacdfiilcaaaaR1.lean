/- A small evaluator over plain values for Go functions in the form of the model: the definitions alone. -/
import Derived.ProofKit
import Derived.Deep.Quiet
import Derived.Laws.AppendOwn
set_option linter.unusedVariables false
set_option linter.unusedSimpArgs false
namespace Go.Proofs.YtgjacdfiilcaaaaR
open Go

/-- What stands in one cell, told plainly: a number, a bool, a constant, a slice that is only read (its elements, each as its cells), a pointer that is only read, a function value; a pointer into, a slice of, a block of one's own (by its site); nothing known. -/
inductive V where
  | int (k : IntKind) (n : Int)
  | bool (b : Bool)
  | k (v : Value)
  | row (xs : List (List V))
  | ptr (cs : List V)
  | fn (f : FuncId) (cs : List V)
  | ref (s i j : Nat)
  | sl (s off len : Nat)
  | dead
  | ifc (t : Nat) (v : V)
  deriving Inhabited
/-- The package's variables that are told: their blocks. -/
def glob : List (Nat × Array Value) := []
/-- What stands in a slot. -/
inductive S where
  | undef
  | one (v : V)
  | agg (vs : List V)
  | tup (xs : List S)
  deriving Inhabited
/-- A block of one's own: a variable, or the array behind a slice (its element's type, the cells of an element, the elements). -/
inductive Blk where
  | box (vs : List V)
  | rows (el e : Nat) (xs : List (List V))
  deriving Inhabited
structure St where
  sl : List (Nat × S)
  hp : List (Nat × Blk)
def look {α : Type} : List (Nat × α) → Nat → Option α
  | [], _ => none
  | (m, v) :: r, n => if m = n then some v else look r n
/-- An operand. -/
inductive X where
  | t (n : Nat)
  | c (v : V)
  | ca (vs : List V)
def X.ev (g : Nat → Option S) : X → Option S
  | .t n => g n
  | .c v => some (.one v)
  | .ca vs => some (.agg vs)
inductive I where
  | mov (x : X)
  | nilsl (el e k : Nat)
  | pick (c a b : X)
  | bin (op : BinOp) (x y : X)
  | eqb (neg : Bool) (x y : X)
  | eqs (neg : Bool) (ks : List Bool) (x y : X)
  | isnil (neg : Bool) (x : X)
  | un (op : UnOp) (x : X)
  | conv (k : IntKind) (x : X)
  | alloc (zs : List V)
  | box (x : X)
  | build (zs : List V) (ps : List (Nat × Nat × X))
  | bsl (el e n : Nat) (zs : List V) (ps : List (Nat × X))
  | load (ag : Bool) (n : Nat) (a : X)
  | nck (x : X)
  | mks (el e by_ : Nat) (zs : List V) (l c : X)
  | cut (e : Nat) (x : X) (lo hi : Option X)
  | fad (off : Nat) (x : X)
  | fld (ag : Bool) (off n : Nat) (x : X)
  | iad (e : Nat) (x i : X)
  | iada (e len : Nat) (x i : X)
  | idx (ag : Bool) (e len : Nat) (x i : X)
  | ext (x : X) (i : Nat)
  | call (own : Bool) (f : Nat) (args : List X)
  | callv (own : Bool) (x : X) (args : List X)
  | len (x : X)
  | mx (x y : X)
  | mn (x y : X)
  | mkf (f : Nat) (cs : List X)
  | stop
  | kln (x : X)
  | kct (x hi : X)
  | apz (el e by_ : Nat) (zs : List V) (x n : X)
  | cu0 (e : Nat) (x hi : X)
  | kow (el e : Nat) (x : X)
  | store (key : Option Nat) (n : Nat) (a v : X)
  | app (el e by_ : Nat) (x y : X)
  | clr (el e : Nat) (x : X)
  | callo (f : Nat) (args : List X)
  | alo (zs : List V) (ps : List (Nat × Nat × Nat))
  | apn (el e by_ : Nat) (x y : X)
  | apk (el e by_ : Nat) (x y : X)
  | apl (el e by_ : Nat) (zs : List V) (x m : X)
  | cvb (x : X)
  | mki (t : Nat) (x : X)
  | mkp (t : Nat) (x : X)
  | ifn (neg : Bool) (x : X)
  | ieq (tbl : List Nat) (x y : X)
  | tas (T : Nat) (tbl : List (Nat × Bool)) (x : X)
  | inv (own : Bool) (tbl : List (Nat × Nat)) (x : X) (args : List X)
  | mkz (el e by_ : Nat) (zs : List V) (c : X)
  | bsr (el e n : Nat) (zs : List V) (ps : List (Nat × X))
/-- An operation in its place: where its answer goes, its guard (the slot asked, what is wanted), the slots that it does not look at, the operations that come ahead of it whatever the order. -/
structure IO where
  dst : Option Nat
  i : I
  guard : Option (Nat × Bool)
  fb : List Nat
  anc : List Nat
inductive C where
  | skip
  | region (ops : List IO) (draw : Bool)
  | seq (a b : C)
  | cond (c : X) (a b : C)
  | block (id : Nat) (a : C)
  | loop (a : C)
  | exit (id : Nat)
  | ret
  | keep (l : List Nat) (a : C)
  | frz (l : List Nat) (a : C)
inductive Out where
  | norm
  | exit (id : Nat)
  | ret

abbrev Hp := List (Nat × Blk)
abbrev Model := List S → Option (S × Hp)

/-! ### Values -/
/-- Only read: what is one's own is told as what it holds now. -/
def V.pur1 (h : Nat → Option Blk) : V → Option V
  | .sl s off len => match h s with
    | some (.rows _ _ xs) => if off + len ≤ xs.length then some (.row ((xs.drop off).take len)) else none
    | _ => none
  | .ref _ _ _ => none
  | v => some v
def pur1s (h : Nat → Option Blk) : List V → Option (List V)
  | [] => some []
  | v :: r => match v.pur1 h with
    | some v' => match pur1s h r with
      | some r' => some (v' :: r')
      | none => none
    | none => none
def V.pur (h : Nat → Option Blk) : V → Option V
  | .ref s i j => match h s with
    | some (.box vs) => if i = 0 then match pur1s h vs with
      | some vs' => some (.ptr (vs'.drop j))
      | none => none else none
    | some (.rows _ _ xs) => match xs[i]? with
      | some x => some (.ptr (x.drop j))
      | none => none
    | none => none
  | v => v.pur1 h
def purs (h : Nat → Option Blk) : List V → Option (List V)
  | [] => some []
  | v :: r => match v.pur h with
    | some v' => match purs h r with
      | some r' => some (v' :: r')
      | none => none
    | none => none
def S.pur (h : Nat → Option Blk) : S → Option S
  | .one v => match v.pur h with
    | some v' => some (.one v')
    | none => none
  | .agg vs => match purs h vs with
    | some vs' => some (.agg vs')
    | none => none
  | _ => none
/-- Does it speak of a site? -/
def V.ment : V → Option Nat
  | .ref s _ _ => some s
  | .sl s _ _ => some s
  | _ => none
def ments : List V → List Nat
  | [] => []
  | v :: r => match v.ment with
    | some s => s :: ments r
    | none => ments r
def S.ment : S → List Nat
  | .one v => ments [v]
  | .agg vs => ments vs
  | .tup xs => smt xs
  | .undef => []
where smt : List S → List Nat
  | [] => []
  | x :: r => S.ment x ++ smt r
/-- A cell that shares nothing with what came in. -/
def V.self : V → Bool
  | .int _ _ | .bool _ | .k _ | .sl _ _ _ | .ref _ _ _ | .dead => true
  | .row [] => true
  | _ => false
def selfs : List V → Bool
  | [] => true
  | v :: r => v.self && selfs r
def S.self : S → Bool
  | .one v => v.self
  | .agg vs => selfs vs
  | .tup xs => sself xs
  | .undef => true
where sself : List S → Bool
  | [] => true
  | x :: r => S.self x && sself r
/-- Elements that hold numbers and bools alone. -/
def Hp.self : Hp → Bool
  | [] => true
  | (_, .rows _ _ xs) :: r => xs.all selfs && Hp.self r
  | (_, .box vs) :: r => selfs vs && Hp.self r
/-- Sites by other names. -/
def V.ren (d : Nat) : V → V
  | .ref s i j => .ref (64 * d + s) i j
  | .sl s off len => .sl (64 * d + s) off len
  | v => v
def S.ren (d : Nat) : S → S
  | .undef => .undef
  | .one v => .one (v.ren d)
  | .agg vs => .agg (vs.map (V.ren d))
  | .tup xs => .tup (sren d xs)
where sren (d : Nat) : List S → List S
  | [] => []
  | x :: r => S.ren d x :: sren d r
def Blk.ren (d : Nat) : Blk → Blk
  | .box vs => .box (vs.map (V.ren d))
  | .rows el e xs => .rows el e xs
def Hp.ren (d : Nat) (hp : Hp) : Hp := hp.map fun p => (64 * d + p.1, p.2.ren d)
def Hp.ok64 (hp : Hp) : Bool := hp.all fun p => p.1 < 64
def S.purT (h : Nat → Option Blk) : S → Option S
  | .tup xs => match sp h xs with
    | some xs' => some (.tup xs')
    | none => none
  | s => s.pur h
where sp (h : Nat → Option Blk) : List S → Option (List S)
  | [] => some []
  | x :: r => match x.pur h with
    | some x' => match sp h r with
      | some r' => some (x' :: r')
      | none => none
    | none => none
/-- A block behind what is no longer to be spoken of. -/
def V.kill (s : Nat) (v : V) : V := match v with
  | .ref s' _ _ => if s' = s then .dead else v
  | .sl s' _ _ => if s' = s then .dead else v
  | _ => v
def S.kill (s : Nat) : S → S
  | .undef => .undef
  | .one v => .one (v.kill s)
  | .agg vs => .agg (vs.map (V.kill s))
  | .tup xs => .tup (sk s xs)
where sk (s : Nat) : List S → List S
  | [] => []
  | x :: r => S.kill s x :: sk s r
def Blk.kill (s : Nat) : Blk → Blk
  | .box vs => .box (vs.map (V.kill s))
  | b => b

/-! ### Operations -/
def ibin (op : BinOp) (k : IntKind) (a : Int) (k' : IntKind) (b : Int) : Option V :=
  match op with
  | .shl => if 0 ≤ b ∧ b ≤ k.bits then some (.int k (k.wrap (a * 2 ^ b.toNat))) else none
  | .shr => if 0 ≤ b ∧ b ≤ k.bits then some (.int k (a / 2 ^ b.toNat)) else none
  | _ => if k = k' then match op with
    | .add => some (.int k (k.wrap (a + b)))
    | .sub => some (.int k (k.wrap (a - b)))
    | .mul => some (.int k (k.wrap (a * b)))
    | .quo => if b = 0 then none else some (.int k (k.wrap (a.tdiv b)))
    | .rem => if b = 0 then none else some (.int k (a.tmod b))
    | .and => some (.int k (bits .and k a b))
    | .or => some (.int k (bits .or k a b))
    | .xor => some (.int k (bits .xor k a b))
    | .andNot => some (.int k (bits .andNot k a b))
    | .eql => some (.bool (decide (a = b)))
    | .neq => some (.bool (!decide (a = b)))
    | .lss => some (.bool (decide (a < b)))
    | .leq => some (.bool (decide (a ≤ b)))
    | .gtr => some (.bool (decide (b < a)))
    | .geq => some (.bool (decide (b ≤ a)))
    | _ => none
    else none
def bin (op : BinOp) : V → V → Option V
  | .int k a, .int k' b => ibin op k a k' b
  | _, _ => none
/-- Are the cells (numbers: true, bools: false) the same? -/
def eqvs : List Bool → List V → List V → Option Bool
  | [], [], [] => some true
  | true :: q, .int k a :: r, .int k' b :: r' => if k = k' then match eqvs q r r' with
    | some t => some (decide (a = b) && t)
    | none => none else none
  | false :: q, .bool a :: r, .bool b :: r' => match eqvs q r r' with
    | some t => some ((a == b) && t)
    | none => none
  | _, _, _ => none
def S.cells : S → Option (List V)
  | .one v => some [v]
  | .agg vs => some vs
  | _ => none
/-- So many cells of a row, put to another place. -/
def setAt (vs : List V) (off : Nat) : List V → List V
  | [] => vs
  | x :: r => setAt (vs.set off x) (off + 1) r
def fillV (g : Nat → Option S) (cs : List V) : List (Nat × Nat × X) → Option (List V)
  | [] => some cs
  | (off, n, x) :: r => match (x.ev g).bind S.cells with
    | some vs => if vs.length = n ∧ off + n ≤ cs.length then fillV g (setAt cs off vs) r else none
    | none => none
def V.live : V → Bool
  | .dead => false
  | _ => true
def lives : List V → Bool
  | [] => true
  | v :: r => v.live && lives r
def fillR (g : Nat → Option S) (e : Nat) (xs : List (List V)) : List (Nat × X) → Option (List (List V))
  | [] => some xs
  | (i, x) :: r => match (x.ev g).bind S.cells with
    | some vs => if (ments vs).isEmpty ∧ vs.length = e ∧ i < xs.length ∧ lives vs = true then fillR g e (xs.set i vs) r else none
    | none => none
def shape (ag : Bool) (vs : List V) : Option S :=
  if ag then some (.agg vs) else match vs with
    | [v] => some (.one v)
    | _ => none
/-- So many cells from a place on. -/
def sub (vs : List V) (off n : Nat) : Option (List V) := if off + n ≤ vs.length then some ((vs.drop off).take n) else none
def rd (h : Nat → Option Blk) (n : Nat) : V → Option (List V)
  | .ref s i j => match h s with
    | some (.box vs) => if i = 0 then sub vs j n else none
    | some (.rows _ _ xs) => match xs[i]? with
      | some x => sub x j n
      | none => none
    | none => none
  | .ptr cs => sub cs 0 n
  | _ => none
def asI : Option S → Option Int
  | some (.one (.int _ n)) => some n
  | _ => none
def bnd (g : Nat → Option S) (dflt : Int) : Option X → Option Int
  | none => some dflt
  | some x => asI (x.ev g)
def evs (g : Nat → Option S) : List X → Option (List S)
  | [] => some []
  | x :: r => match x.ev g with
    | some v => match evs g r with
      | some r' => some (v :: r')
      | none => none
    | none => none
def ones : List S → Option (List V)
  | [] => some []
  | .one v :: r => match ones r with
    | some r' => some (v :: r')
    | none => none
  | _ => none
def purS (h : Nat → Option Blk) : List S → Option (List S)
  | [] => some []
  | x :: r => match x.pur h with
    | some v => match purS h r with
      | some r' => some (v :: r')
      | none => none
    | none => none
def mentS : List S → List Nat
  | [] => []
  | x :: r => x.ment ++ mentS r
/-- A call, its arguments told as what is only read. -/
def callI (E : Nat → Model) (d : Nat) (h : Nat → Option Blk) (own : Bool) (f : Nat) (as : List S) : Option (S × Hp) :=
  match purS h as with
  | some as' => match E f as' with
    | some (r, hp) =>
      if mentS as = [] ∨ (r.self && Hp.self hp) = true then
        if own then (if Hp.ok64 hp then some (r.ren d, Hp.ren d hp) else none)
        else if Hp.ok64 hp then match r.purT (look hp) with
          | some r' => some (r', [])
          | none => none
        else none
      else none
    | none => none
  | none => none
/-- What is appended: elements that are only read; none. -/
def asRow : V → Option (List (List V))
  | .row ys => some ys
  | .k (.slice _ 0 _) => some []
  | _ => none
/-! A variable some of whose slices are one's own, empty yet. -/
def aloOk (zs : List V) : List (Nat × Nat × Nat) → Bool
  | [] => true
  | (off, _, _) :: r => (match zs[off]? with
    | some (.row []) => aloOk (zs.set off .dead) r
    | _ => false)
def aloV (d : Nat) (k : Nat) (zs : List V) : List (Nat × Nat × Nat) → List V
  | [] => zs
  | (off, _, _) :: r => aloV d (k + 1) (zs.set off (.sl (64 * d + k) 0 0)) r
def aloB (d : Nat) (k : Nat) : List (Nat × Nat × Nat) → Hp
  | [] => []
  | (_, el, e) :: r => (64 * d + k, .rows el e []) :: aloB d (k + 1) r
/-- A store's block is the one that is told, if one is told. -/
def okKey (key : Option Nat) (s : Nat) : Bool := match key with
  | none => true
  | some k => s / 64 == k
/-- An operation's answer, and the blocks that it makes. -/
def ev (E : Nat → Model) (d : Nat) (g : Nat → Option S) (h : Nat → Option Blk) : I → Option (S × Hp)
  | .mov x => (x.ev g).map (·, [])
  | .nilsl el e k => if k < 64 then some (.one (.sl (64 * d + k) 0 0), [(64 * d + k, .rows el e [])]) else none
  | .pick c a b => match c.ev g with
    | some (.one (.bool t)) => match a.ev g, b.ev g with
      | some x, some y => some (if t then x else y, [])
      | _, _ => none
    | _ => none
  | .bin op x y => match x.ev g, y.ev g with
    | some (.one a), some (.one b) => (bin op a b).map fun v => (.one v, [])
    | _, _ => none
  | .eqb neg x y => match x.ev g, y.ev g with
    | some (.one (.bool a)), some (.one (.bool b)) => some (.one (.bool (if neg then !(a == b) else a == b)), [])
    | _, _ => none
  | .eqs neg ks x y => match x.ev g, y.ev g with
    | some (.agg a), some (.agg b) => (eqvs ks a b).map fun t => (.one (.bool (if neg then !t else t)), [])
    | _, _ => none
  | .isnil neg x => match x.ev g with
    | some (.one (.row (_ :: _))) => some (.one (.bool neg), [])
    | some (.one (.k (.slice (some _) _ _))) => some (.one (.bool neg), [])
    | some (.one (.k (.slice none _ _))) => some (.one (.bool (!neg)), [])
    | _ => none
  | .un op x => match x.ev g with
    | some (.one (.bool b)) => match op with
      | .not => some (.one (.bool (!b)), [])
      | _ => none
    | some (.one (.int k n)) => match op with
      | .neg => some (.one (.int k (k.wrap (0 - n))), [])
      | .xor => some (.one (.int k (bits .xor k (if k.signed then -1 else k.max) n)), [])
      | _ => none
    | _ => none
  | .conv k x => match x.ev g with
    | some (.one (.int _ n)) => some (.one (.int k (k.wrap n)), [])
    | _ => none
  | .alloc zs => some (.one (.ref (64 * d) 0 0), [(64 * d, .box zs)])
  | .box x => match (x.ev g).bind S.cells with
    | some vs => some (.one (.ref (64 * d) 0 0), [(64 * d, .box vs)])
    | none => none
  | .build zs ps => (fillV g zs ps).map fun vs => (.agg vs, [])
  | .bsl el e n zs ps => match fillR g e (List.replicate n zs) ps with
    | some xs => some (.one (.sl (64 * d) 0 n), [(64 * d, .rows el e xs)])
    | none => none
  | .load ag n a => match a.ev g with
    | some (.one p) => match rd h n p with
      | some vs => (shape ag vs).map (·, [])
      | none => none
    | _ => none
  | .nck x => match x.ev g with
    | some (.one (.ref s i j)) => some (.one (.ref s i j), [])
    | some (.one (.ptr cs)) => some (.one (.ptr cs), [])
    | some (.one (.fn f cs)) => some (.one (.fn f cs), [])
    | _ => none
  | .stop => none
  | .kow el e x => match x.ev g with
    | some (.one (.k (.slice none 0 0))) => some (.one (.sl (64 * d) 0 0), [(64 * d, .rows el e [])])
    | some s => some (s, [])
    | none => none
  | .kln x => match x.ev g with
    | some (.one (.k (.slice none 0 0))) => some (.one (.int .i64 0), [])
    | _ => none
  | .kct x hi => match x.ev g, asI (hi.ev g) with
    | some (.one (.k (.slice none 0 0))), some u => if u = 0 then some (.one (.k (.slice none 0 0)), []) else none
    | _, _ => none
  | .apz el e by_ zs x m => match x.ev g, asI (m.ev g) with
    | some (.one (.k (.slice none 0 0))), some l => if 0 < l ∧ l * by_ ≤ 140737488355328 then some (.one (.sl (64 * d) 0 l.toNat), [(64 * d, .rows el e (List.replicate l.toNat zs))]) else none
    | _, _ => none
  | .cu0 e x hi => match x.ev g, asI (hi.ev g) with
    | some (.one (.sl s off len)), some u => if 0 ≤ u ∧ u ≤ len then some (.one (.sl s off u.toNat), []) else none
    | _, _ => none
  | .mks el e by_ zs l c => match asI (l.ev g), asI (c.ev g) with
    | some l, some c => if 0 ≤ l ∧ l = c ∧ l * by_ ≤ 140737488355328 then some (.one (.sl (64 * d) 0 l.toNat), [(64 * d, .rows el e (List.replicate l.toNat zs))]) else none
    | _, _ => none
  | .cut e x lo hi => match x.ev g with
    | some (.one (.row xs)) => match bnd g 0 lo, bnd g xs.length hi with
      | some l, some u => if 0 ≤ l ∧ l ≤ u ∧ u ≤ xs.length then (if l = u then some (.one (.row []), []) else if xs.all (·.length == e) then some (.one (.row ((xs.take u.toNat).drop l.toNat)), []) else none) else none
      | _, _ => none
    | some (.one (.sl s off len)) => match h s with
      | some (.rows _ e' _) => match bnd g 0 lo, bnd g len hi with
        | some l, some u => if 0 ≤ l ∧ l ≤ u ∧ u ≤ len then (if l = u then some (.one (.row []), []) else if e' = e then some (.one (.sl s (off + l.toNat) (u.toNat - l.toNat)), []) else none) else none
        | _, _ => none
      | _ => none
    | _ => none
  | .fad off x => match x.ev g with
    | some (.one (.ref s i j)) => some (.one (.ref s i (j + off)), [])
    | some (.one (.ptr cs)) => some (.one (.ptr (cs.drop off)), [])
    | _ => none
  | .fld ag off n x => match x.ev g with
    | some (.agg vs) => match sub vs off n with
      | some ws => (shape ag ws).map (·, [])
      | none => none
    | _ => none
  | .iad e x i => match x.ev g, asI (i.ev g) with
    | some (.one (.row xs)), some n => if 0 ≤ n ∧ n < xs.length then match xs[n.toNat]? with
      | some y => if y.length = e then some (.one (.ptr y), []) else none
      | none => none else none
    | some (.one (.sl s off len)), some n => match h s with
      | some (.rows _ e' _) => if e' = e ∧ 0 ≤ n ∧ n < len then some (.one (.ref s (off + n.toNat) 0), []) else none
      | _ => none
    | _, _ => none
  | .iada e len x i => match x.ev g, asI (i.ev g) with
    | some (.one (.ref s i j)), some n => match h s with
      | some (.box _) => if 0 ≤ n ∧ n < len then some (.one (.ref s i (j + n.toNat * e)), []) else none
      | _ => none
    | some (.one (.ptr cs)), some n => if 0 ≤ n ∧ n < len then some (.one (.ptr (cs.drop (n.toNat * e))), []) else none
    | _, _ => none
  | .idx ag e len x i => match x.ev g, asI (i.ev g) with
    | some (.agg vs), some n => if 0 ≤ n ∧ n < len then match sub vs (n.toNat * e) e with
      | some ws => (shape ag ws).map (·, [])
      | none => none else none
    | _, _ => none
  | .ext x i => match x.ev g with
    | some (.tup xs) => xs[i]?.map (·, [])
    | _ => none
  | .call own f args => match evs g args with
    | some as => callI E d h own f as
    | none => none
  | .callv own x args => match x.ev g with
    | some (.one (.fn f cs)) => match evs g args with
      | some as => callI E d h own f (as ++ cs.map .one)
      | none => none
    | _ => none
  | .len x => match x.ev g with
    | some (.one (.row xs)) => some (.one (.int .i64 xs.length), [])
    | some (.one (.sl _ _ n)) => some (.one (.int .i64 n), [])
    | _ => none
  | .mx x y => match x.ev g, y.ev g with
    | some (.one (.int k a)), some (.one (.int k' b)) => if k = k' then some (.one (.int k (if b > a then b else a)), []) else none
    | _, _ => none
  | .mn x y => match x.ev g, y.ev g with
    | some (.one (.int k a)), some (.one (.int k' b)) => if k = k' then some (.one (.int k (if b < a then b else a)), []) else none
    | _, _ => none
  | .mkf f cs => match evs g cs with
    | some ss => match ones ss with
      | some vs => if (ments vs).isEmpty then some (.one (.fn f vs), []) else none
      | none => none
    | none => none
  | .store key n a v => match a.ev g, (v.ev g).bind S.cells with
    | some (.one (.ref s i j)), some vs => if vs.length = n ∧ okKey key s = true then match h s with
      | some (.box ws) => if i = 0 ∧ j + n ≤ ws.length then some (.undef, [(s, .box (setAt ws j vs))]) else none
      | some (.rows el e xs) => match xs[i]? with
        | some x => if (ments vs).isEmpty ∧ j + n ≤ x.length then some (.undef, [(s, .rows el e (xs.set i (setAt x j vs)))]) else none
        | none => none
      | none => none else none
    | _, _ => none
  | .app _ _ _ _ _ => none
  | .clr _ _ _ => none
  | .callo _ _ => none
  | .apn el e by_ x y => match x.ev g, y.ev g with
    | some (.one (.k (.slice none 0 0))), some (.one y) => match (y.pur1 h).bind asRow with
      | some ys => if ys.all (·.length == e) = true ∧ ys.length * by_ ≤ 140737488355328 then some (.one (.sl (64 * d) 0 ys.length), [(64 * d, .rows el e ys)]) else none
      | none => none
    | _, _ => none
  | .alo zs ps => if aloOk zs ps = true then some (.one (.ref (64 * d) 0 0), (64 * d, .box (aloV d 1 zs ps)) :: aloB d 1 ps) else none
  | .apk _ _ _ _ _ => none
  | .apl _ _ _ _ _ _ => none
  | .cvb _ => none
  | .mki t x => match x.ev g with
    | some (.one v) => if (ments [v]).isEmpty then some (.one (.ifc t v), []) else none
    | _ => none
  | .mkp _ _ => none
  | .ifn neg x => match x.ev g with
    | some (.one (.ifc _ _)) => some (.one (.bool neg), [])
    | some (.one (.k .nilIface)) => some (.one (.bool (!neg)), [])
    | _ => none
  | .ieq tbl x y => match x.ev g, y.ev g with
    | some (.one (.ifc t v)), some (.one (.ifc t' v')) => if t = t' then (match v, v' with
        | .int .i64 a, .int .i64 b => if tbl.contains t = true then some (.one (.bool (decide (a = b))), []) else none
        | _, _ => none) else some (.one (.bool false), [])
    | _, _ => none
  | .tas _ tbl x => match x.ev g with
    | some (.one (.ifc t v)) => match look tbl t with
      | some true => some (.tup [.one (.ifc t v), .one (.bool true)], [])
      | some false => some (.tup [.one (.k .nilIface), .one (.bool false)], [])
      | none => none
    | _ => none
  | .inv own tbl x args => match x.ev g with
    | some (.one (.ifc t v)) => match look tbl t with
      | some f => match evs g args with
        | some as => callI E d h own f (.one v :: as)
        | none => none
      | none => none
    | _ => none
  | .bsr el e n zs ps => match fillR g e (List.replicate n zs) ps with
    | some xs => some (.one (.row xs), [])
    | none => none
  | .mkz el e by_ zs c => match asI (c.ev g) with
    | some c => if 0 ≤ c ∧ c * by_ ≤ 140737488355328 then some (.one (.sl (64 * d) 0 0), [(64 * d, .rows el e [])]) else none
    | none => none
def I.eff : I → Bool
  | .app _ _ _ _ _ => true
  | .clr _ _ _ => true
  | .callo _ _ => true
  | .apk _ _ _ _ _ => true
  | .apl _ _ _ _ _ _ => true
  | .cvb _ => true
  | .mkp _ _ => true
  | _ => false
/-- Does it change a block (of this number), by a store? -/
def I.stk : I → Option Nat
  | .store key _ _ _ => some (key.getD 0)
  | _ => none
/-- Does it change a block that isn't told? -/
def I.wild : I → Bool
  | .app _ _ _ _ _ => true
  | .clr _ _ _ => true
  | .callo _ _ => true
  | .apk _ _ _ _ _ => true
  | .apl _ _ _ _ _ _ => true
  | .cvb _ => true
  | .mkp _ _ => true
  | .alo _ _ => true
  | .store none _ _ _ => true
  | _ => false
def fresh (st : St) (hp : Hp) : Bool := hp.all fun p => (look st.hp p.1).isNone
/-! Open calls: the callee is handed blocks of one's own, under the numbers 0, 1, 2 .. -/
/-- Blocks handed over, behind the arguments. -/
def encB : Blk → S
  | .box vs => .agg vs
  | .rows el e xs => .tup [.one (.ref el e 0), .one (.row xs)]
def decB : S → Option Blk
  | .agg vs => some (.box vs)
  | .tup [.one (.ref el e _), .one (.row xs)] => some (.rows el e xs)
  | _ => none
def decH : Nat → List S → Option Hp
  | _, [] => some []
  | i, x :: r => match decB x with
    | some B => match decH (i + 1) r with
      | some h => some ((i, B) :: h)
      | none => none
    | none => none
/-- The arguments, and the blocks that came with them. -/
def splitA : List S → Option (List S × Hp)
  | [] => some ([], [])
  | .tup l :: r => match r with
    | [] => match decH 0 l with
      | some h => some ([], h)
      | none => none
    | _ :: _ => none
  | x :: r => match splitA r with
    | some (as, h) => some (x :: as, h)
    | none => none
def dedup (seen : List Nat) : List Nat → List Nat
  | [] => []
  | s :: r => if seen.contains s = true then dedup seen r else s :: dedup (s :: seen) r
def Blk.mentB : Blk → List Nat
  | .box vs => ments vs
  | .rows _ _ _ => []
def blkMents (h : Nat → Option Blk) : List Nat → List Nat
  | [] => []
  | s :: r => match h s with
    | some B => B.mentB ++ blkMents h r
    | none => blkMents h r
/-- The sites that are handed over. -/
def names (h : Nat → Option Blk) (as : List S) : List Nat := dedup [] (mentS as ++ blkMents h (mentS as))
def idxOf (ns : List Nat) (s : Nat) : Nat := match ns with
  | [] => 0
  | n :: r => if n = s then 0 else idxOf r s + 1
def V.mapS (f : Nat → Nat) : V → V
  | .ref s i j => .ref (f s) i j
  | .sl s off len => .sl (f s) off len
  | v => v
def S.mapS (f : Nat → Nat) : S → S
  | .undef => .undef
  | .one v => .one (v.mapS f)
  | .agg vs => .agg (vs.map (V.mapS f))
  | .tup xs => .tup (smapS f xs)
where smapS (f : Nat → Nat) : List S → List S
  | [] => []
  | x :: r => S.mapS f x :: smapS f r
def Blk.mapS (f : Nat → Nat) : Blk → Blk
  | .box vs => .box (vs.map (V.mapS f))
  | b => b
def encs (h : Nat → Option Blk) (f : Nat → Nat) : List Nat → Option (List S)
  | [] => some []
  | s :: r => match h s with
    | some B => match encs h f r with
      | some q => some (encB (B.mapS f) :: q)
      | none => none
    | none => none
def isBox : Option Blk → Bool
  | some (.box _) => true
  | _ => false
/-- Which of the caller's sites one of the callee's is. -/
def backN (ns : List Nat) (d k : Nat) : Nat := match ns[k]? with
  | some s => s
  | none => 64 * d + (k - 64)
def hpBack (ns : List Nat) (d : Nat) : Hp → Hp
  | [] => []
  | (k, B) :: r => (backN ns d k, B.mapS (backN ns d)) :: hpBack ns d r
def killsV (ns : List Nat) : V → V
  | .ref s i j => if ns.contains s = true then .dead else .ref s i j
  | .sl s off len => if ns.contains s = true then .dead else .sl s off len
  | v => v
def killsS (ns : List Nat) : S → S
  | .undef => .undef
  | .one v => .one (killsV ns v)
  | .agg vs => .agg (vs.map (killsV ns))
  | .tup xs => .tup (ks ns xs)
where ks (ns : List Nat) : List S → List S
  | [] => []
  | x :: r => killsS ns x :: ks ns r
def killsB (ns : List Nat) : Blk → Blk
  | .box vs => .box (vs.map (killsV ns))
  | b => b
/-- The sites among these that hold no variable. -/
def rowsOf (h : Nat → Option Blk) : List Nat → List Nat
  | [] => []
  | s :: r => if isBox (h s) = true then rowsOf h r else s :: rowsOf h r
/-- Blocks that are not among these. -/
def without (ns : List Nat) : Hp → Hp
  | [] => []
  | (k, B) :: r => if ns.contains k = true then without ns r else (k, B) :: without ns r
/-- The callee's blocks: those handed over (their variables are all there yet), new ones from 64 on. -/
def keysOk (ns : List Nat) (d m : Nat) : Hp → Bool
  | [] => true
  | (k, _) :: r => (decide (k < m) || (decide (64 ≤ k) && decide (k < 128) && !ns.contains (64 * d + (k - 64)))) && keysOk ns d m r
def noTup : List S → Bool
  | [] => true
  | .tup _ :: _ => false
  | _ :: r => noTup r
def boxesOk (h : Nat → Option Blk) (hp : Nat → Option Blk) : Nat → List Nat → Bool
  | _, [] => true
  | i, s :: r => (!isBox (h s) || isBox (hp i)) && boxesOk h hp (i + 1) r
def callU (d : Nat) (st : St) (ns : List Nat) : Option (S × Hp) → Option (S × St)
  | some (r, hp) =>
    if (decide (ns.length ≤ 64) && keysOk ns d ns.length hp && (blkMents (look st.hp) ns).all (fun s => ns.contains s) && boxesOk (look st.hp) (look hp) 0 ns) = true then
      if fresh ⟨[], without ns st.hp⟩ (hpBack ns d hp) = true then
        some (r.mapS (backN ns d), { sl := st.sl.map (fun p => (p.1, killsS (rowsOf (look st.hp) ns) p.2)), hp := hpBack ns d hp ++ (without ns st.hp).map (fun p => (p.1, killsB (rowsOf (look st.hp) ns) p.2)) })
      else none
    else none
  | none => none
def callT (E : Nat → Model) (d : Nat) (f : Nat) (st : St) (as : List S) (ns : List Nat) : Option (S × St) :=
  match (if noTup as = true then encs (look st.hp) (idxOf ns) ns else none) with
  | some bs => callU d st ns (E f (S.mapS.smapS (idxOf ns) as ++ [.tup bs]))
  | none => none
def callS (E : Nat → Model) (d : Nat) (f : Nat) (st : St) (as : List S) : Option (S × St) := callT E d f st as (names (look st.hp) as)
def V.frz (s : Nat) (b : Option Blk) : V → V
  | .sl s' off len => if s' = s then match b with
    | some (.rows _ _ xs) => if off + len ≤ xs.length then .row ((xs.drop off).take len) else .dead
    | _ => .dead else .sl s' off len
  | .ref s' i j => if s' = s then match b with
    | some (.box vs) => if i = 0 ∧ (ments vs).isEmpty then .ptr (vs.drop j) else .dead
    | some (.rows _ _ xs) => match xs[i]? with
      | some x => .ptr (x.drop j)
      | none => .dead
    | none => .dead else .ref s' i j
  | v => v
def S.frz (s : Nat) (b : Option Blk) : S → S
  | .undef => .undef
  | .one v => .one (v.frz s b)
  | .agg vs => .agg (vs.map (V.frz s b))
  | .tup xs => .tup (sf s b xs)
where sf (s : Nat) (b : Option Blk) : List S → List S
  | [] => []
  | x :: r => S.frz s b x :: sf s b r
def Blk.frz (s : Nat) (b : Option Blk) : Blk → Blk
  | .box vs => .box (vs.map (V.frz s b))
  | b => b
def drop1 (s : Nat) : List (Nat × Blk) → List (Nat × Blk)
  | [] => []
  | p :: r => if p.1 = s then drop1 s r else p :: drop1 s r
def freeze (s : Nat) (st : St) : St :=
  let b := look st.hp s
  { sl := st.sl.map fun p => (p.1, p.2.frz s b), hp := (drop1 s st.hp).map fun p => (p.1, p.2.frz s b) }
def freezes : List Nat → St → St
  | [], st => st
  | s :: r, st => if s < 64 then freezes r st else freezes r (freeze s st)
/-- An operation that changes a block: the answer's slot value, the state's slots and blocks. -/
def evE (E : Nat → Model) (d : Nat) (st : St) : I → Option (S × St)
  | .app el e by_ x y => match x.ev (look st.sl), y.ev (look st.sl) with
    | some (.one (.sl s 0 n)), some (.one y) => match look st.hp s, (y.pur1 (look st.hp)).bind asRow with
      | some (.rows el' e' xs), some ys => if el' = el ∧ e' = e ∧ n ≤ xs.length ∧ ys.all (·.length == e) = true ∧ ((n + ys.length) * by_ ≤ 140737488355328) then
          some (.one (.sl s 0 (n + ys.length)), { sl := st.sl.map (fun p => (p.1, p.2.kill s)), hp := (s, .rows el e (xs.take n ++ ys)) :: st.hp.map (fun p => (p.1, p.2.kill s)) })
        else none
      | _, _ => none
    | _, _ => none
  | .clr el e x => match x.ev (look st.sl) with
    | some (.one (.row [])) => some (.tup [], st)
    | some (.one (.sl s off len)) => match look st.hp s with
      | some (.rows el' e' xs) => if el' = el ∧ e' = e ∧ off + len = xs.length then some (.tup [], { sl := st.sl, hp := (s, .rows el e (xs.take off)) :: st.hp }) else none
      | _ => none
    | _ => none
  | .callo f args => match evs (look st.sl) args with
    | some as => callS E d f st as
    | none => none
  | .apk el e by_ x y => match x.ev (look st.sl), y.ev (look st.sl) with
    | some (.one (.sl s 0 n)), some (.one y) => match look st.hp s, (y.pur1 (look st.hp)).bind asRow with
      | some (.rows el' e' xs), some ys => if el' = el ∧ e' = e ∧ n = xs.length ∧ ys.all (·.length == e) = true ∧ ((n + ys.length) * by_ ≤ 140737488355328) ∧ 64 ≤ s then
          some (.one (.row (xs ++ ys)), freeze s st)
        else none
      | _, _ => none
    | _, _ => none
  | .apl el e by_ zs x m => match x.ev (look st.sl), asI (m.ev (look st.sl)) with
    | some (.one (.sl s 0 n)), some l => match look st.hp s with
      | some (.rows el' e' xs) => if el' = el ∧ e' = e ∧ n = xs.length ∧ 0 < l ∧ ((n : Int) + l) * by_ ≤ 140737488355328 ∧ 64 ≤ s then
          some (.one (.row (xs ++ List.replicate l.toNat zs)), freeze s st)
        else none
      | _ => none
    | _, _ => none
  | .mkp t x => match x.ev (look st.sl) with
    | some (.one (.ref s0 _ _)) => match x.ev (look (freezes (blkMents (look st.hp) [s0]) st).sl) with
      | some (.one (.ref s 0 0)) => match look (freezes (blkMents (look st.hp) [s0]) st).hp s with
        | some (.box vs) => if 64 ≤ s ∧ (ments vs).isEmpty = true then some (.one (.ifc t (.ptr vs)), freeze s (freezes (blkMents (look st.hp) [s0]) st)) else none
        | _ => none
      | _ => none
    | _ => none
  | .cvb x => match x.ev (look st.sl) with
    | some (.one (.sl s 0 n)) => match look st.hp s with
      | some (.rows el e xs) => if n = xs.length ∧ 0 < n then
          some (.one (.row xs), { sl := st.sl.map (fun p => (p.1, p.2.kill s)), hp := (s, .rows el e []) :: st.hp.map (fun p => (p.1, p.2.kill s)) })
        else none
      | _ => none
    | _ => none
  | _ => none
def St.put (st : St) (d : Option Nat) (v : S) : St := match d with
  | some d => { st with sl := (d, v) :: st.sl }
  | none => st
def vG (fb : List Nat) (st : St) : Nat → Option S := fun t => if fb.contains t then none else look st.sl t
def vH (fb : List Nat) (st : St) : Nat → Option Blk := fun s => if fb.contains (s / 64) then none else look st.hp s
/-- What an operation that changes no block tells: its answer, its blocks; a guard may skip it. -/
def core (E : Nat → Model) (o : IO) (g : Nat → Option S) (h : Nat → Option Blk) : Option (S × Hp) :=
  match o.guard with
  | none => ev E (o.dst.getD 0) g h o.i
  | some (t, want) => match g t with
    | some (.one (.bool b)) => if b = want then ev E (o.dst.getD 0) g h o.i else some (.undef, [])
    | some .undef => some (.undef, [])
    | _ => none
/-- An operation in its place, guard and all. -/
def step (E : Nat → Model) (o : IO) (st : St) : Option St :=
  if o.i.eff then
    match o.guard with
    | none => (evE E (o.dst.getD 0) st o.i).map fun r => r.2.put o.dst r.1
    | some (t, want) => match look st.sl t with
      | some (.one (.bool b)) => if b = want then (evE E (o.dst.getD 0) st o.i).map fun r => r.2.put o.dst r.1 else some (st.put o.dst .undef)
      | some .undef => some (st.put o.dst .undef)
      | _ => none
  else match core E o (vG o.fb st) (vH o.fb st) with
    | some (v, news) => if (o.i.stk.isSome || fresh st news) = true then some { sl := (st.put o.dst v).sl, hp := news ++ st.hp } else none
    | none => none
def steps (E : Nat → Model) : List IO → St → Option St
  | [], st => some st
  | o :: r, st => match step E o st with
    | some st' => steps E r st'
    | none => none
/-- What is kept of a state: some slots, and the blocks that they speak of. -/
def pickL {α : Type} (l : List (Nat × α)) : List Nat → List (Nat × α)
  | [] => []
  | n :: r => match look l n with
    | some v => (n, v) :: pickL l r
    | none => pickL l r
def slMent : List (Nat × S) → List Nat
  | [] => []
  | (_, v) :: r => v.ment ++ slMent r
def hpMent : List (Nat × Blk) → List Nat
  | [] => []
  | (_, .box vs) :: r => ments vs ++ hpMent r
  | (_, .rows _ _ _) :: r => hpMent r
/-- The variables that were handed in: they stay. -/
def lowB (seen : List Nat) : Hp → List Nat
  | [] => []
  | (k, B) :: r => if 64 ≤ k then lowB seen r else if seen.contains k = true then lowB seen r else match B with
    | .box _ => k :: lowB (k :: seen) r
    | .rows _ _ _ => lowB (k :: seen) r
def gcK (l : List Nat) (st : St) : Option St :=
  let sl := pickL st.sl l
  let h1 := pickL st.hp (slMent sl ++ lowB [] st.hp)
  let hp := pickL st.hp (slMent sl ++ lowB [] st.hp ++ hpMent h1)
  if (hpMent hp).all (fun s => (look hp s).isSome) && (slMent sl).all (fun s => (look hp s).isSome) then some ⟨sl, hp⟩ else none
def frzL (l : List Nat) (st : St) : St := freezes (slMent (pickL st.sl l)) st
def iter (N : Nat) (f : St → Option (Out × St)) (st : St) : Option (Out × St) := match N with
  | 0 => none
  | n + 1 => match f st with
    | some (.norm, st') => iter n f st'
    | r => r
def C.ev (E : Nat → Model) (N : Nat) : C → St → Option (Out × St)
  | .skip, st => some (.norm, st)
  | .region ops _, st => match steps E ops st with
    | some st' => some (.norm, st')
    | none => none
  | .seq a b, st => match a.ev E N st with
    | some (.norm, st') => b.ev E N st'
    | r => r
  | .cond c a b, st => match c.ev (look st.sl) with
    | some (.one (.bool t)) => if t then a.ev E N st else b.ev E N st
    | _ => none
  | .block id a, st => match a.ev E N st with
    | some (.exit i, st') => if i = id then some (.norm, st') else some (.exit i, st')
    | r => r
  | .loop a, st => iter N (a.ev E N) st
  | .exit id, st => some (.exit id, st)
  | .ret, st => some (.ret, st)
  | .keep l a, st => match gcK l st with
    | some st' => a.ev E N st'
    | none => none
  | .frz l a, st => a.ev E N (frzL l st)
/-- Where an answer is found. -/
inductive R where
  | t (n : Nat)
  | c (p n : Nat) (ag : Bool)
structure F where
  np : Nat
  nt : Nat
  body : C
  res : List R
def R.ev (st : St) : R → Option S
  | .t n => look st.sl n
  | .c p n ag => match look st.sl p with
    | some (.one v) => match rd (look st.hp) n v with
      | some vs => shape ag vs
      | none => none
    | _ => none
def Rs.ev (st : St) : List R → Option (List S)
  | [] => some []
  | r :: q => match r.ev st with
    | some v => match Rs.ev st q with
      | some q' => some (v :: q')
      | none => none
    | none => none
/-- An answer's cells, handed over: what is one's own is the caller's from now on, under the numbers k, k + 1 .. in order; what was handed in (the sites below m) keeps its number. -/
def handV (h : Nat → Option Blk) (m : Nat) (used : List Nat) (k : Nat) : V → Option (V × List Nat × Hp)
  | .sl s off len => if s < m then some (.sl s off len, used, []) else if off = 0 ∧ used.contains s = false then match h s with
    | some (.rows el e xs) => if len ≤ xs.length then some (.sl k 0 len, s :: used, [(k, .rows el e (xs.take len))]) else none
    | _ => none else none
  | .ref s i j => if s < m then some (.ref s i j, used, []) else none
  | v => some (v, used, [])
def handVs (h : Nat → Option Blk) (m : Nat) : List Nat → Nat → List V → Option (List V × List Nat × Nat × Hp)
  | used, k, [] => some ([], used, k, [])
  | used, k, v :: r => match handV h m used k v with
    | some (v', used', hp) => match handVs h m used' (k + 1) r with
      | some (r', used'', k', hp') => some (v' :: r', used'', k', hp ++ hp')
      | none => none
    | none => none
/-- A part of an answer; a new variable whole, behind what it holds. -/
def handS (h : Nat → Option Blk) (m : Nat) (used : List Nat) (k : Nat) : S → Option (S × List Nat × Nat × Hp)
  | .one (.ref s i j) => if s < m then some (.one (.ref s i j), used, k, []) else if i = 0 ∧ j = 0 then match h s with
    | some (.box vs) => match handVs h m used k vs with
      | some (vs', used', k', hp) => if used'.contains s = false then some (.one (.ref k' 0 0), s :: used', k' + 1, hp ++ [(k', .box vs')]) else none
      | none => none
    | _ => none else none
  | .one v => match handVs h m used k [v] with
    | some ([v'], used', k', hp) => some (.one v', used', k', hp)
    | _ => none
  | .agg vs => match handVs h m used k vs with
    | some (vs', used', k', hp) => some (.agg vs', used', k', hp)
    | none => none
  | _ => none
def handSs (h : Nat → Option Blk) (m : Nat) : List Nat → Nat → List S → Option (List S × List Nat × Nat × Hp)
  | used, k, [] => some ([], used, k, [])
  | used, k, v :: r => match handS h m used k v with
    | some (v', used', k', hp) => match handSs h m used' k' r with
      | some (r', used'', k'', hp') => some (v' :: r', used'', k'', hp ++ hp')
      | none => none
    | none => none
/-- What was handed in, as it is now. -/
def handBs (h : Nat → Option Blk) (m : Nat) : List Nat → Nat → List Nat → Option (Hp × Hp)
  | used, k, [] => some ([], [])
  | used, k, s :: r => match h s with
    | some (.box vs) => match handVs h m used k vs with
      | some (vs', used', k', hpN) => match handBs h m used' k' r with
        | some (hpE, hpN') => some ((s, .box vs') :: hpE, hpN ++ hpN')
        | none => none
      | none => none
    | some (.rows el e xs) => match handBs h m used k r with
      | some (hpE, hpN) => some ((s, .rows el e xs) :: hpE, hpN)
      | none => none
    | none => handBs h m used k r
def upTo : Nat → Nat → List Nat
  | _, 0 => []
  | k, n + 1 => k :: upTo (k + 1) n
def one1 : List S → S
  | [s] => s
  | l => .tup l
def hand (m : Nat) (h : Nat → Option Blk) (l : List S) : Option (S × Hp) :=
  match handSs h m [] (if m = 0 then 0 else 64) l with
  | some (l', used, k, hp) => match handBs h m used k (upTo 0 m) with
    | some (hpE, hpN) => some (one1 l', hpE ++ (hp ++ hpN))
    | none => none
  | none => none
def params : Nat → List S → List (Nat × S)
  | _, [] => []
  | n, x :: r => (n, x) :: params (n + 1) r
def F.ev (E : Nat → Model) (N : Nat) (fn : F) (args : List S) : Option (S × Hp) :=
  match splitA args with
  | some (as, h0) =>
    if as.length = fn.np ∧ h0.length ≤ 64 then
      match fn.body.ev E N ⟨params 0 as, h0⟩ with
      | some (.norm, st) | some (.ret, st) => match Rs.ev st fn.res with
        | some l => hand h0.length (look st.hp) l
        | none => none
      | _ => none
    else none
  | none => none
end Go.Proofs.YtgjacdfiilcaaaaR
