/- Texts joined: R1 R2 R3 R4 R5 R6 R7 R8 R9 R9O R10. -/
import Derived.ProofKit
import Derived.Deep.Quiet
import Derived.Laws.AppendOwn
import Derived.Laws.StructEq
import Derived.Lib.SliceRun
set_option linter.unusedVariables false
set_option linter.unusedSimpArgs false
namespace Go.Proofs.YtdflglehippoiaaGreatDoorR
open Go

inductive V where
 | int (k : IntKind) (n : Int)
 | bool (b : Bool)
 | k (v : Value)
 | row (xs : List (List V))
 | ptr (cs : List V)
 | fn (f : FuncId) (cs : List V)
 | ref (s i j : Nat)
 | sl (s off len : Nat)
 | dead
 | ifc (t : Nat) (v : V)
 deriving Inhabited
def glob : List (Nat × Array Value) := [(0, #[.iface 199 (.agg #[.pointer (some ⟨1, 119, none⟩)])])]
inductive S where
 | undef
 | one (v : V)
 | agg (vs : List V)
 | tup (xs : List S)
 deriving Inhabited
inductive Blk where
 | box (vs : List V)
 | rows (el e : Nat) (xs : List (List V))
 deriving Inhabited
structure St where
 sl : List (Nat × S)
 hp : List (Nat × Blk)
def look {α : Type} : List (Nat × α) → Nat → Option α
 | [], _ => none
 | (m, v) :: r, n => if m = n then some v else look r n
inductive X where
 | t (n : Nat)
 | c (v : V)
 | ca (vs : List V)
def X.ev (g : Nat → Option S) : X → Option S
 | .t n => g n
 | .c v => some (.one v)
 | .ca vs => some (.agg vs)
inductive I where
 | mov (x : X)
 | nilsl (el e k : Nat)
 | pick (c a b : X)
 | bin (op : BinOp) (x y : X)
 | eqb (neg : Bool) (x y : X)
 | eqs (neg : Bool) (ks : List Bool) (x y : X)
 | isnil (neg : Bool) (x : X)
 | un (op : UnOp) (x : X)
 | conv (k : IntKind) (x : X)
 | alloc (zs : List V)
 | box (x : X)
 | build (zs : List V) (ps : List (Nat × Nat × X))
 | bsl (el e n : Nat) (zs : List V) (ps : List (Nat × X))
 | load (ag : Bool) (n : Nat) (a : X)
 | ldb (ag : Bool) (n : Nat) (a : X)
 | nck (x : X)
 | mks (el e by_ : Nat) (zs : List V) (l c : X)
 | cut (e : Nat) (x : X) (lo hi : Option X)
 | fad (off : Nat) (x : X)
 | fld (ag : Bool) (off n : Nat) (x : X)
 | iad (e : Nat) (x i : X)
 | iada (e len : Nat) (x i : X)
 | idx (ag : Bool) (e len : Nat) (x i : X)
 | ext (x : X) (i : Nat)
 | call (own : Bool) (f : Nat) (args : List X)
 | callv (own : Bool) (x : X) (args : List X)
 | len (x : X)
 | mx (x y : X)
 | mx3 (x y z : X)
 | mn (x y : X)
 | mkf (f : Nat) (cs : List X)
 | stop
 | kln (x : X)
 | kct (x hi : X)
 | apz (el e by_ : Nat) (zs : List V) (x n : X)
 | cu0 (e : Nat) (x hi : X)
 | kow (el e : Nat) (x : X)
 | store (key : Option Nat) (n : Nat) (a v : X)
 | app (el e by_ : Nat) (x y : X)
 | clr (el e : Nat) (x : X)
 | callo (f : Nat) (args : List X)
 | alo (zs : List V) (ps : List (Nat × Nat × Nat))
 | bxo (x : X) (ps : List (Nat × Nat × Nat))
 | apn (el e by_ : Nat) (x y : X)
 | apk (el e by_ : Nat) (x y : X)
 | apl (el e by_ : Nat) (zs : List V) (x m : X)
 | cvb (x : X)
 | mki (t : Nat) (x : X)
 | mkp (t : Nat) (x : X)
 | ifn (neg : Bool) (x : X)
 | ieq (tbl : List Nat) (x y : X)
 | tas (T : Nat) (tbl : List (Nat × Bool)) (x : X)
 | inv (own : Bool) (tbl : List (Nat × Nat)) (x : X) (args : List X)
 | mkz (el e by_ : Nat) (zs : List V) (c : X)
 | bsr (el e n : Nat) (zs : List V) (ps : List (Nat × X))
structure IO where
 dst : Option Nat
 i : I
 guard : Option (Nat × Bool)
 fb : List Nat
 anc : List Nat
inductive C where
 | skip
 | region (ops : List IO) (draw : Bool)
 | seq (a b : C)
 | cond (c : X) (a b : C)
 | block (id : Nat) (a : C)
 | loop (a : C)
 | exit (id : Nat)
 | ret
 | keep (l : List Nat) (a : C)
 | frz (l : List Nat) (a : C)
inductive Out where
 | norm
 | exit (id : Nat)
 | ret

abbrev Hp := List (Nat × Blk)
abbrev Model := List S → Option (S × Hp)

def V.pur1 (h : Nat → Option Blk) : V → Option V
 | .sl s off len => match h s with
  | some (.rows _ _ xs) => if off + len ≤ xs.length then some (.row ((xs.drop off).take len)) else none
  | _ => none
 | .ref _ _ _ => none
 | v => some v
def pur1s (h : Nat → Option Blk) : List V → Option (List V)
 | [] => some []
 | v :: r => match v.pur1 h with
  | some v' => match pur1s h r with
   | some r' => some (v' :: r')
   | none => none
  | none => none
def V.pur (h : Nat → Option Blk) : V → Option V
 | .ref s i j => match h s with
  | some (.box vs) => if i = 0 then match pur1s h vs with
   | some vs' => some (.ptr (vs'.drop j))
   | none => none else none
  | some (.rows _ _ xs) => match xs[i]? with
   | some x => some (.ptr (x.drop j))
   | none => none
  | none => none
 | v => v.pur1 h
def purs (h : Nat → Option Blk) : List V → Option (List V)
 | [] => some []
 | v :: r => match v.pur h with
  | some v' => match purs h r with
   | some r' => some (v' :: r')
   | none => none
  | none => none
def S.pur (h : Nat → Option Blk) : S → Option S
 | .one v => match v.pur h with
  | some v' => some (.one v')
  | none => none
 | .agg vs => match purs h vs with
  | some vs' => some (.agg vs')
  | none => none
 | _ => none
def V.ment : V → Option Nat
 | .ref s _ _ => some s
 | .sl s _ _ => some s
 | _ => none
def ments : List V → List Nat
 | [] => []
 | v :: r => match v.ment with
  | some s => s :: ments r
  | none => ments r
def S.ment : S → List Nat
 | .one v => ments [v]
 | .agg vs => ments vs
 | .tup xs => smt xs
 | .undef => []
where smt : List S → List Nat
 | [] => []
 | x :: r => S.ment x ++ smt r
def V.self : V → Bool
 | .int _ _ | .bool _ | .k _ | .sl _ _ _ | .ref _ _ _ | .dead => true
 | .row [] => true
 | _ => false
def selfs : List V → Bool
 | [] => true
 | v :: r => v.self && selfs r
def S.self : S → Bool
 | .one v => v.self
 | .agg vs => selfs vs
 | .tup xs => sself xs
 | .undef => true
where sself : List S → Bool
 | [] => true
 | x :: r => S.self x && sself r
def Hp.self : Hp → Bool
 | [] => true
 | (_, .rows _ _ xs) :: r => xs.all selfs && Hp.self r
 | (_, .box vs) :: r => selfs vs && Hp.self r
def V.ren (d : Nat) : V → V
 | .ref s i j => .ref (64 * d + s) i j
 | .sl s off len => .sl (64 * d + s) off len
 | v => v
def S.ren (d : Nat) : S → S
 | .undef => .undef
 | .one v => .one (v.ren d)
 | .agg vs => .agg (vs.map (V.ren d))
 | .tup xs => .tup (sren d xs)
where sren (d : Nat) : List S → List S
 | [] => []
 | x :: r => S.ren d x :: sren d r
def Blk.ren (d : Nat) : Blk → Blk
 | .box vs => .box (vs.map (V.ren d))
 | .rows el e xs => .rows el e xs
def Hp.ren (d : Nat) (hp : Hp) : Hp := hp.map fun p => (64 * d + p.1, p.2.ren d)
def Hp.ok64 (hp : Hp) : Bool := hp.all fun p => p.1 < 64
def S.purT (h : Nat → Option Blk) : S → Option S
 | .tup xs => match sp h xs with
  | some xs' => some (.tup xs')
  | none => none
 | s => s.pur h
where sp (h : Nat → Option Blk) : List S → Option (List S)
 | [] => some []
 | x :: r => match x.pur h with
  | some x' => match sp h r with
   | some r' => some (x' :: r')
   | none => none
  | none => none
def V.kill (s : Nat) (v : V) : V := match v with
 | .ref s' _ _ => if s' = s then .dead else v
 | .sl s' _ _ => if s' = s then .dead else v
 | _ => v
def S.kill (s : Nat) : S → S
 | .undef => .undef
 | .one v => .one (v.kill s)
 | .agg vs => .agg (vs.map (V.kill s))
 | .tup xs => .tup (sk s xs)
where sk (s : Nat) : List S → List S
 | [] => []
 | x :: r => S.kill s x :: sk s r
def Blk.kill (s : Nat) : Blk → Blk
 | .box vs => .box (vs.map (V.kill s))
 | b => b

def ibin (op : BinOp) (k : IntKind) (a : Int) (k' : IntKind) (b : Int) : Option V :=
 match op with
 | .shl => if 0 ≤ b ∧ b ≤ k.bits then some (.int k (k.wrap (a * 2 ^ b.toNat))) else none
 | .shr => if 0 ≤ b ∧ b ≤ k.bits then some (.int k (a / 2 ^ b.toNat)) else none
 | _ => if k = k' then match op with
  | .add => some (.int k (k.wrap (a + b)))
  | .sub => some (.int k (k.wrap (a - b)))
  | .mul => some (.int k (k.wrap (a * b)))
  | .quo => if b = 0 then none else some (.int k (k.wrap (a.tdiv b)))
  | .rem => if b = 0 then none else some (.int k (a.tmod b))
  | .and => some (.int k (bits .and k a b))
  | .or => some (.int k (bits .or k a b))
  | .xor => some (.int k (bits .xor k a b))
  | .andNot => some (.int k (bits .andNot k a b))
  | .eql => some (.bool (decide (a = b)))
  | .neq => some (.bool (!decide (a = b)))
  | .lss => some (.bool (decide (a < b)))
  | .leq => some (.bool (decide (a ≤ b)))
  | .gtr => some (.bool (decide (b < a)))
  | .geq => some (.bool (decide (b ≤ a)))
  | _ => none
  else none
def bin (op : BinOp) : V → V → Option V
 | .int k a, .int k' b => ibin op k a k' b
 | _, _ => none
def eqvs : List Bool → List V → List V → Option Bool
 | [], [], [] => some true
 | true :: q, .int k a :: r, .int k' b :: r' => if k = k' then match eqvs q r r' with
  | some t => some (decide (a = b) && t)
  | none => none else none
 | false :: q, .bool a :: r, .bool b :: r' => match eqvs q r r' with
  | some t => some ((a == b) && t)
  | none => none
 | _, _, _ => none
def S.cells : S → Option (List V)
 | .one v => some [v]
 | .agg vs => some vs
 | _ => none
def setAt (vs : List V) (off : Nat) : List V → List V
 | [] => vs
 | x :: r => setAt (vs.set off x) (off + 1) r
def fillV (g : Nat → Option S) (cs : List V) : List (Nat × Nat × X) → Option (List V)
 | [] => some cs
 | (off, n, x) :: r => match (x.ev g).bind S.cells with
  | some vs => if vs.length = n ∧ off + n ≤ cs.length then fillV g (setAt cs off vs) r else none
  | none => none
def V.live : V → Bool
 | .dead => false
 | _ => true
def lives : List V → Bool
 | [] => true
 | v :: r => v.live && lives r
def fillR (g : Nat → Option S) (e : Nat) (xs : List (List V)) : List (Nat × X) → Option (List (List V))
 | [] => some xs
 | (i, x) :: r => match (x.ev g).bind S.cells with
  | some vs => if (ments vs).isEmpty ∧ vs.length = e ∧ i < xs.length ∧ lives vs = true then fillR g e (xs.set i vs) r else none
  | none => none
def shape (ag : Bool) (vs : List V) : Option S :=
 if ag then some (.agg vs) else match vs with
  | [v] => some (.one v)
  | _ => none
def sub (vs : List V) (off n : Nat) : Option (List V) := if off + n ≤ vs.length then some ((vs.drop off).take n) else none
def rd (h : Nat → Option Blk) (n : Nat) : V → Option (List V)
 | .ref s i j => match h s with
  | some (.box vs) => if i = 0 then sub vs j n else none
  | some (.rows _ _ xs) => match xs[i]? with
   | some x => sub x j n
   | none => none
  | none => none
 | .ptr cs => sub cs 0 n
 | _ => none
def rdb (h : Nat → Option Blk) (n : Nat) : V → Option (List V)
 | .ref s i j => match h s with
  | some (.box vs) => if i = 0 then sub vs j n else none
  | _ => none
 | _ => none
theorem rdb_rd {h : Nat → Option Blk} {n : Nat} {p : V} {ws : List V} (e : rdb h n p = some ws) : rd h n p = some ws := by
 unfold rdb at e
 split at e
 ·rename_i s i j
  split at e
  ·rename_i vs hb
   simp only [rd, hb]
   exact e
  ·cases e
 ·cases e
def asI : Option S → Option Int
 | some (.one (.int _ n)) => some n
 | _ => none
def bnd (g : Nat → Option S) (dflt : Int) : Option X → Option Int
 | none => some dflt
 | some x => asI (x.ev g)
def evs (g : Nat → Option S) : List X → Option (List S)
 | [] => some []
 | x :: r => match x.ev g with
  | some v => match evs g r with
   | some r' => some (v :: r')
   | none => none
  | none => none
def ones : List S → Option (List V)
 | [] => some []
 | .one v :: r => match ones r with
  | some r' => some (v :: r')
  | none => none
 | _ => none
def purS (h : Nat → Option Blk) : List S → Option (List S)
 | [] => some []
 | x :: r => match x.pur h with
  | some v => match purS h r with
   | some r' => some (v :: r')
   | none => none
  | none => none
def mentS : List S → List Nat
 | [] => []
 | x :: r => x.ment ++ mentS r
def callI (E : Nat → Model) (d : Nat) (h : Nat → Option Blk) (own : Bool) (f : Nat) (as : List S) : Option (S × Hp) :=
 match purS h as with
 | some as' => match E f as' with
  | some (r, hp) =>
   if mentS as = [] ∨ (r.self && Hp.self hp) = true then
    if own then (if Hp.ok64 hp then some (r.ren d, Hp.ren d hp) else none)
    else if Hp.ok64 hp then match r.purT (look hp) with
     | some r' => some (r', [])
     | none => none
    else none
   else none
  | none => none
 | none => none
def asRow : V → Option (List (List V))
 | .row ys => some ys
 | .k (.slice _ 0 _) => some []
 | _ => none
def aloOk (zs : List V) : List (Nat × Nat × Nat) → Bool
 | [] => true
 | (off, _, _) :: r => (match zs[off]? with
  | some (.row []) => aloOk (zs.set off .dead) r
  | _ => false)
def aloV (d : Nat) (k : Nat) (zs : List V) : List (Nat × Nat × Nat) → List V
 | [] => zs
 | (off, _, _) :: r => aloV d (k + 1) (zs.set off (.sl (64 * d + k) 0 0)) r
def aloB (d : Nat) (k : Nat) : List (Nat × Nat × Nat) → Hp
 | [] => []
 | (_, el, e) :: r => (64 * d + k, .rows el e []) :: aloB d (k + 1) r
def nilV : V → V
 | .k (.slice none 0 0) => .row []
 | _ => .dead
def okKey (key : Option Nat) (s : Nat) : Bool := match key with
 | none => true
 | some k => s / 64 == k
def ev (E : Nat → Model) (d : Nat) (g : Nat → Option S) (h : Nat → Option Blk) : I → Option (S × Hp)
 | .mov x => (x.ev g).map (·, [])
 | .nilsl el e k => if k < 64 then some (.one (.sl (64 * d + k) 0 0), [(64 * d + k, .rows el e [])]) else none
 | .pick c a b => match c.ev g with
  | some (.one (.bool t)) => match a.ev g, b.ev g with
   | some x, some y => some (if t then x else y, [])
   | _, _ => none
  | _ => none
 | .bin op x y => match x.ev g, y.ev g with
  | some (.one a), some (.one b) => (bin op a b).map fun v => (.one v, [])
  | _, _ => none
 | .eqb neg x y => match x.ev g, y.ev g with
  | some (.one (.bool a)), some (.one (.bool b)) => some (.one (.bool (if neg then !(a == b) else a == b)), [])
  | _, _ => none
 | .eqs neg ks x y => match x.ev g, y.ev g with
  | some (.agg a), some (.agg b) => (eqvs ks a b).map fun t => (.one (.bool (if neg then !t else t)), [])
  | _, _ => none
 | .isnil neg x => match x.ev g with
  | some (.one (.row (_ :: _))) => some (.one (.bool neg), [])
  | some (.one (.k (.slice (some _) _ _))) => some (.one (.bool neg), [])
  | some (.one (.k (.slice none _ _))) => some (.one (.bool (!neg)), [])
  | _ => none
 | .un op x => match x.ev g with
  | some (.one (.bool b)) => match op with
   | .not => some (.one (.bool (!b)), [])
   | _ => none
  | some (.one (.int k n)) => match op with
   | .neg => some (.one (.int k (k.wrap (0 - n))), [])
   | .xor => some (.one (.int k (bits .xor k (if k.signed then -1 else k.max) n)), [])
   | _ => none
  | _ => none
 | .conv k x => match x.ev g with
  | some (.one (.int _ n)) => some (.one (.int k (k.wrap n)), [])
  | _ => none
 | .alloc zs => some (.one (.ref (64 * d) 0 0), [(64 * d, .box zs)])
 | .box x => match (x.ev g).bind S.cells with
  | some vs => some (.one (.ref (64 * d) 0 0), [(64 * d, .box vs)])
  | none => none
 | .build zs ps => (fillV g zs ps).map fun vs => (.agg vs, [])
 | .bsl el e n zs ps => match fillR g e (List.replicate n zs) ps with
  | some xs => some (.one (.sl (64 * d) 0 n), [(64 * d, .rows el e xs)])
  | none => none
 | .load ag n a => match a.ev g with
  | some (.one p) => match rd h n p with
   | some vs => (shape ag vs).map (·, [])
   | none => none
  | _ => none
 | .ldb ag n a => match a.ev g with
  | some (.one p) => match rdb h n p with
   | some vs => (shape ag vs).map (·, [])
   | none => none
  | _ => none
 | .nck x => match x.ev g with
  | some (.one (.ref s i j)) => some (.one (.ref s i j), [])
  | some (.one (.ptr cs)) => some (.one (.ptr cs), [])
  | some (.one (.fn f cs)) => some (.one (.fn f cs), [])
  | _ => none
 | .stop => none
 | .kow el e x => match x.ev g with
  | some (.one (.k (.slice none 0 0))) => some (.one (.sl (64 * d) 0 0), [(64 * d, .rows el e [])])
  | some s => some (s, [])
  | none => none
 | .kln x => match x.ev g with
  | some (.one (.k (.slice none 0 0))) => some (.one (.int .i64 0), [])
  | _ => none
 | .kct x hi => match x.ev g, asI (hi.ev g) with
  | some (.one (.k (.slice none 0 0))), some u => if u = 0 then some (.one (.k (.slice none 0 0)), []) else none
  | _, _ => none
 | .apz el e by_ zs x m => match x.ev g, asI (m.ev g) with
  | some (.one (.k (.slice none 0 0))), some l => if 0 < l ∧ l * by_ ≤ 140737488355328 then some (.one (.sl (64 * d) 0 l.toNat), [(64 * d, .rows el e (List.replicate l.toNat zs))]) else none
  | _, _ => none
 | .cu0 e x hi => match x.ev g, asI (hi.ev g) with
  | some (.one (.sl s off len)), some u => if 0 ≤ u ∧ u ≤ len then some (.one (.sl s off u.toNat), []) else none
  | _, _ => none
 | .mks el e by_ zs l c => match asI (l.ev g), asI (c.ev g) with
  | some l, some c => if 0 ≤ l ∧ l = c ∧ l * by_ ≤ 140737488355328 then some (.one (.sl (64 * d) 0 l.toNat), [(64 * d, .rows el e (List.replicate l.toNat zs))]) else none
  | _, _ => none
 | .cut e x lo hi => match x.ev g with
  | some (.one (.row xs)) => match bnd g 0 lo, bnd g xs.length hi with
   | some l, some u => if 0 ≤ l ∧ l ≤ u ∧ u ≤ xs.length then (if l = u then some (.one (.row []), []) else if xs.all (·.length == e) then some (.one (.row ((xs.take u.toNat).drop l.toNat)), []) else none) else none
   | _, _ => none
  | some (.one (.sl s off len)) => match h s with
   | some (.rows _ e' _) => match bnd g 0 lo, bnd g len hi with
    | some l, some u => if 0 ≤ l ∧ l ≤ u ∧ u ≤ len then (if l = u then some (.one (.row []), []) else if e' = e then some (.one (.sl s (off + l.toNat) (u.toNat - l.toNat)), []) else none) else none
    | _, _ => none
   | _ => none
  | _ => none
 | .fad off x => match x.ev g with
  | some (.one (.ref s i j)) => some (.one (.ref s i (j + off)), [])
  | some (.one (.ptr cs)) => some (.one (.ptr (cs.drop off)), [])
  | _ => none
 | .fld ag off n x => match x.ev g with
  | some (.agg vs) => match sub vs off n with
   | some ws => (shape ag ws).map (·, [])
   | none => none
  | _ => none
 | .iad e x i => match x.ev g, asI (i.ev g) with
  | some (.one (.row xs)), some n => if 0 ≤ n ∧ n < xs.length then match xs[n.toNat]? with
   | some y => if y.length = e then some (.one (.ptr y), []) else none
   | none => none else none
  | some (.one (.sl s off len)), some n => match h s with
   | some (.rows _ e' _) => if e' = e ∧ 0 ≤ n ∧ n < len then some (.one (.ref s (off + n.toNat) 0), []) else none
   | _ => none
  | _, _ => none
 | .iada e len x i => match x.ev g, asI (i.ev g) with
  | some (.one (.ref s i j)), some n => match h s with
   | some (.box _) => if 0 ≤ n ∧ n < len then some (.one (.ref s i (j + n.toNat * e)), []) else none
   | _ => none
  | some (.one (.ptr cs)), some n => if 0 ≤ n ∧ n < len then some (.one (.ptr (cs.drop (n.toNat * e))), []) else none
  | _, _ => none
 | .idx ag e len x i => match x.ev g, asI (i.ev g) with
  | some (.agg vs), some n => if 0 ≤ n ∧ n < len then match sub vs (n.toNat * e) e with
   | some ws => (shape ag ws).map (·, [])
   | none => none else none
  | _, _ => none
 | .ext x i => match x.ev g with
  | some (.tup xs) => xs[i]?.map (·, [])
  | _ => none
 | .call own f args => match evs g args with
  | some as => callI E d h own f as
  | none => none
 | .callv own x args => match x.ev g with
  | some (.one (.fn f cs)) => match evs g args with
   | some as => callI E d h own f (as ++ cs.map .one)
   | none => none
  | _ => none
 | .len x => match x.ev g with
  | some (.one (.row xs)) => some (.one (.int .i64 xs.length), [])
  | some (.one (.sl _ _ n)) => some (.one (.int .i64 n), [])
  | _ => none
 | .mx x y => match x.ev g, y.ev g with
  | some (.one (.int k a)), some (.one (.int k' b)) => if k = k' then some (.one (.int k (if b > a then b else a)), []) else none
  | _, _ => none
 | .mx3 x y z => match x.ev g, y.ev g, z.ev g with
  | some (.one (.int k a)), some (.one (.int k' b)), some (.one (.int k2 c)) => if k = k' ∧ k = k2 then some (.one (.int k (if c > (if b > a then b else a) then c else (if b > a then b else a))), []) else none
  | _, _, _ => none
 | .mn x y => match x.ev g, y.ev g with
  | some (.one (.int k a)), some (.one (.int k' b)) => if k = k' then some (.one (.int k (if b < a then b else a)), []) else none
  | _, _ => none
 | .mkf f cs => match evs g cs with
  | some ss => match ones ss with
   | some vs => if (ments vs).isEmpty then some (.one (.fn f vs), []) else none
   | none => none
  | none => none
 | .store key n a v => match a.ev g, (v.ev g).bind S.cells with
  | some (.one (.ref s i j)), some vs => if vs.length = n ∧ okKey key s = true then match h s with
   | some (.box ws) => if i = 0 ∧ j + n ≤ ws.length then some (.undef, [(s, .box (setAt ws j vs))]) else none
   | some (.rows el e xs) => match xs[i]? with
    | some x => if (ments vs).isEmpty ∧ j + n ≤ x.length then some (.undef, [(s, .rows el e (xs.set i (setAt x j vs)))]) else none
    | none => none
   | none => none else none
  | _, _ => none
 | .app _ _ _ _ _ => none
 | .clr _ _ _ => none
 | .callo _ _ => none
 | .apn el e by_ x y => match x.ev g, y.ev g with
  | some (.one (.k (.slice none 0 0))), some (.one y) => match (y.pur1 h).bind asRow with
   | some ys => if ys.all (·.length == e) = true ∧ ys.length * by_ ≤ 140737488355328 then some (.one (.sl (64 * d) 0 ys.length), [(64 * d, .rows el e ys)]) else none
   | none => none
  | _, _ => none
 | .bxo x ps => match (x.ev g).bind S.cells with
  | some vs => if (aloOk (vs.map nilV) ps && decide (ps.length < 63)) = true then some (.one (.ref (64 * d) 0 0), (64 * d, .box (aloV d 1 vs ps)) :: aloB d 1 ps) else none
  | none => none
 | .alo zs ps => if aloOk zs ps = true then some (.one (.ref (64 * d) 0 0), (64 * d, .box (aloV d 1 zs ps)) :: aloB d 1 ps) else none
 | .apk _ _ _ _ _ => none
 | .apl _ _ _ _ _ _ => none
 | .cvb _ => none
 | .mki t x => match x.ev g with
  | some (.one v) => if (ments [v]).isEmpty then some (.one (.ifc t v), []) else none
  | _ => none
 | .mkp _ _ => none
 | .ifn neg x => match x.ev g with
  | some (.one (.ifc _ _)) => some (.one (.bool neg), [])
  | some (.one (.k .nilIface)) => some (.one (.bool (!neg)), [])
  | _ => none
 | .ieq tbl x y => match x.ev g, y.ev g with
  | some (.one (.ifc t v)), some (.one (.ifc t' v')) => if t = t' then (match v, v' with
    | .int .i64 a, .int .i64 b => if tbl.contains t = true then some (.one (.bool (decide (a = b))), []) else none
    | _, _ => none) else some (.one (.bool false), [])
  | _, _ => none
 | .tas _ tbl x => match x.ev g with
  | some (.one (.ifc t v)) => match look tbl t with
   | some true => some (.tup [.one (.ifc t v), .one (.bool true)], [])
   | some false => some (.tup [.one (.k .nilIface), .one (.bool false)], [])
   | none => none
  | _ => none
 | .inv own tbl x args => match x.ev g with
  | some (.one (.ifc t v)) => match look tbl t with
   | some f => match evs g args with
    | some as => callI E d h own f (.one v :: as)
    | none => none
   | none => none
  | _ => none
 | .bsr el e n zs ps => match fillR g e (List.replicate n zs) ps with
  | some xs => some (.one (.row xs), [])
  | none => none
 | .mkz el e by_ zs c => match asI (c.ev g) with
  | some c => if 0 ≤ c ∧ c * by_ ≤ 140737488355328 then some (.one (.sl (64 * d) 0 0), [(64 * d, .rows el e [])]) else none
  | none => none
def I.eff : I → Bool
 | .app _ _ _ _ _ => true
 | .clr _ _ _ => true
 | .callo _ _ => true
 | .apk _ _ _ _ _ => true
 | .apl _ _ _ _ _ _ => true
 | .cvb _ => true
 | .mkp _ _ => true
 | _ => false
def I.stk : I → Option Nat
 | .store key _ _ _ => some (key.getD 0)
 | _ => none
def I.wild : I → Bool
 | .app _ _ _ _ _ => true
 | .clr _ _ _ => true
 | .callo _ _ => true
 | .apk _ _ _ _ _ => true
 | .apl _ _ _ _ _ _ => true
 | .cvb _ => true
 | .mkp _ _ => true
 | .alo _ _ => true
 | .store none _ _ _ => true
 | _ => false
def fresh (st : St) (hp : Hp) : Bool := hp.all fun p => (look st.hp p.1).isNone
def encB : Blk → S
 | .box vs => .agg vs
 | .rows el e xs => .tup [.one (.ref el e 0), .one (.row xs)]
def decB : S → Option Blk
 | .agg vs => some (.box vs)
 | .tup [.one (.ref el e _), .one (.row xs)] => some (.rows el e xs)
 | _ => none
def decH : Nat → List S → Option Hp
 | _, [] => some []
 | i, x :: r => match decB x with
  | some B => match decH (i + 1) r with
   | some h => some ((i, B) :: h)
   | none => none
  | none => none
def splitA : List S → Option (List S × Hp)
 | [] => some ([], [])
 | .tup l :: r => match r with
  | [] => match decH 0 l with
   | some h => some ([], h)
   | none => none
  | _ :: _ => none
 | x :: r => match splitA r with
  | some (as, h) => some (x :: as, h)
  | none => none
def dedup (seen : List Nat) : List Nat → List Nat
 | [] => []
 | s :: r => if seen.contains s = true then dedup seen r else s :: dedup (s :: seen) r
def Blk.mentB : Blk → List Nat
 | .box vs => ments vs
 | .rows _ _ _ => []
def blkMents (h : Nat → Option Blk) : List Nat → List Nat
 | [] => []
 | s :: r => match h s with
  | some B => B.mentB ++ blkMents h r
  | none => blkMents h r
def names (h : Nat → Option Blk) (as : List S) : List Nat := dedup [] (mentS as ++ blkMents h (mentS as))
def idxOf (ns : List Nat) (s : Nat) : Nat := match ns with
 | [] => 0
 | n :: r => if n = s then 0 else idxOf r s + 1
def V.mapS (f : Nat → Nat) : V → V
 | .ref s i j => .ref (f s) i j
 | .sl s off len => .sl (f s) off len
 | v => v
def S.mapS (f : Nat → Nat) : S → S
 | .undef => .undef
 | .one v => .one (v.mapS f)
 | .agg vs => .agg (vs.map (V.mapS f))
 | .tup xs => .tup (smapS f xs)
where smapS (f : Nat → Nat) : List S → List S
 | [] => []
 | x :: r => S.mapS f x :: smapS f r
def Blk.mapS (f : Nat → Nat) : Blk → Blk
 | .box vs => .box (vs.map (V.mapS f))
 | b => b
def encs (h : Nat → Option Blk) (f : Nat → Nat) : List Nat → Option (List S)
 | [] => some []
 | s :: r => match h s with
  | some B => match encs h f r with
   | some q => some (encB (B.mapS f) :: q)
   | none => none
  | none => none
def isBox : Option Blk → Bool
 | some (.box _) => true
 | _ => false
def backN (ns : List Nat) (d k : Nat) : Nat := match ns[k]? with
 | some s => s
 | none => 64 * d + (k - 64)
def hpBack (ns : List Nat) (d : Nat) : Hp → Hp
 | [] => []
 | (k, B) :: r => (backN ns d k, B.mapS (backN ns d)) :: hpBack ns d r
def killsV (ns : List Nat) : V → V
 | .ref s i j => if ns.contains s = true then .dead else .ref s i j
 | .sl s off len => if ns.contains s = true then .dead else .sl s off len
 | v => v
def killsS (ns : List Nat) : S → S
 | .undef => .undef
 | .one v => .one (killsV ns v)
 | .agg vs => .agg (vs.map (killsV ns))
 | .tup xs => .tup (ks ns xs)
where ks (ns : List Nat) : List S → List S
 | [] => []
 | x :: r => killsS ns x :: ks ns r
def killsB (ns : List Nat) : Blk → Blk
 | .box vs => .box (vs.map (killsV ns))
 | b => b
def rowsOf (h : Nat → Option Blk) : List Nat → List Nat
 | [] => []
 | s :: r => if isBox (h s) = true then rowsOf h r else s :: rowsOf h r
def without (ns : List Nat) : Hp → Hp
 | [] => []
 | (k, B) :: r => if ns.contains k = true then without ns r else (k, B) :: without ns r
def keysOk (ns : List Nat) (d m : Nat) : Hp → Bool
 | [] => true
 | (k, _) :: r => (decide (k < m) || (decide (64 ≤ k) && decide (k < 128) && !ns.contains (64 * d + (k - 64)))) && keysOk ns d m r
def noTup : List S → Bool
 | [] => true
 | .tup _ :: _ => false
 | _ :: r => noTup r
def boxesOk (h : Nat → Option Blk) (hp : Nat → Option Blk) : Nat → List Nat → Bool
 | _, [] => true
 | i, s :: r => (!isBox (h s) || isBox (hp i)) && boxesOk h hp (i + 1) r
def callU (d : Nat) (st : St) (ns : List Nat) : Option (S × Hp) → Option (S × St)
 | some (r, hp) =>
  if (decide (ns.length ≤ 64) && keysOk ns d ns.length hp && (blkMents (look st.hp) ns).all (fun s => ns.contains s) && boxesOk (look st.hp) (look hp) 0 ns) = true then
   if fresh ⟨[], without ns st.hp⟩ (hpBack ns d hp) = true then
    some (r.mapS (backN ns d), { sl := st.sl.map (fun p => (p.1, killsS (rowsOf (look st.hp) ns) p.2)), hp := hpBack ns d hp ++ (without ns st.hp).map (fun p => (p.1, killsB (rowsOf (look st.hp) ns) p.2)) })
   else none
  else none
 | none => none
def callT (E : Nat → Model) (d : Nat) (f : Nat) (st : St) (as : List S) (ns : List Nat) : Option (S × St) :=
 match (if noTup as = true then encs (look st.hp) (idxOf ns) ns else none) with
 | some bs => callU d st ns (E f (S.mapS.smapS (idxOf ns) as ++ [.tup bs]))
 | none => none
def callS (E : Nat → Model) (d : Nat) (f : Nat) (st : St) (as : List S) : Option (S × St) := callT E d f st as (names (look st.hp) as)
def V.frz (s : Nat) (b : Option Blk) : V → V
 | .sl s' off len => if s' = s then match b with
  | some (.rows _ _ xs) => if off + len ≤ xs.length then .row ((xs.drop off).take len) else .dead
  | _ => .dead else .sl s' off len
 | .ref s' i j => if s' = s then match b with
  | some (.box vs) => if i = 0 ∧ (ments vs).isEmpty then .ptr (vs.drop j) else .dead
  | some (.rows _ _ xs) => match xs[i]? with
   | some x => .ptr (x.drop j)
   | none => .dead
  | none => .dead else .ref s' i j
 | v => v
def S.frz (s : Nat) (b : Option Blk) : S → S
 | .undef => .undef
 | .one v => .one (v.frz s b)
 | .agg vs => .agg (vs.map (V.frz s b))
 | .tup xs => .tup (sf s b xs)
where sf (s : Nat) (b : Option Blk) : List S → List S
 | [] => []
 | x :: r => S.frz s b x :: sf s b r
def Blk.frz (s : Nat) (b : Option Blk) : Blk → Blk
 | .box vs => .box (vs.map (V.frz s b))
 | b => b
def drop1 (s : Nat) : List (Nat × Blk) → List (Nat × Blk)
 | [] => []
 | p :: r => if p.1 = s then drop1 s r else p :: drop1 s r
def freeze (s : Nat) (st : St) : St :=
 let b := look st.hp s
 { sl := st.sl.map fun p => (p.1, p.2.frz s b), hp := (drop1 s st.hp).map fun p => (p.1, p.2.frz s b) }
def freezes : List Nat → St → St
 | [], st => st
 | s :: r, st => if s < 64 then freezes r st else freezes r (freeze s st)
def evE (E : Nat → Model) (d : Nat) (st : St) : I → Option (S × St)
 | .app el e by_ x y => match x.ev (look st.sl), y.ev (look st.sl) with
  | some (.one (.sl s 0 n)), some (.one y) => match look st.hp s, (y.pur1 (look st.hp)).bind asRow with
   | some (.rows el' e' xs), some ys => if el' = el ∧ e' = e ∧ n ≤ xs.length ∧ ys.all (·.length == e) = true ∧ ((n + ys.length) * by_ ≤ 140737488355328) then
     some (.one (.sl s 0 (n + ys.length)), { sl := st.sl.map (fun p => (p.1, p.2.kill s)), hp := (s, .rows el e (xs.take n ++ ys)) :: st.hp.map (fun p => (p.1, p.2.kill s)) })
    else none
   | _, _ => none
  | _, _ => none
 | .clr el e x => match x.ev (look st.sl) with
  | some (.one (.row [])) => some (.tup [], st)
  | some (.one (.sl s off len)) => match look st.hp s with
   | some (.rows el' e' xs) => if el' = el ∧ e' = e ∧ off + len = xs.length then some (.tup [], { sl := st.sl, hp := (s, .rows el e (xs.take off)) :: st.hp }) else none
   | _ => none
  | _ => none
 | .callo f args => match evs (look st.sl) args with
  | some as => callS E d f st as
  | none => none
 | .apk el e by_ x y => match x.ev (look st.sl), y.ev (look st.sl) with
  | some (.one (.sl s 0 n)), some (.one y) => match look st.hp s, (y.pur1 (look st.hp)).bind asRow with
   | some (.rows el' e' xs), some ys => if el' = el ∧ e' = e ∧ n = xs.length ∧ ys.all (·.length == e) = true ∧ ((n + ys.length) * by_ ≤ 140737488355328) ∧ 64 ≤ s then
     some (.one (.row (xs ++ ys)), freeze s st)
    else none
   | _, _ => none
  | _, _ => none
 | .apl el e by_ zs x m => match x.ev (look st.sl), asI (m.ev (look st.sl)) with
  | some (.one (.sl s 0 n)), some l => match look st.hp s with
   | some (.rows el' e' xs) => if el' = el ∧ e' = e ∧ n = xs.length ∧ 0 < l ∧ ((n : Int) + l) * by_ ≤ 140737488355328 ∧ 64 ≤ s then
     some (.one (.row (xs ++ List.replicate l.toNat zs)), freeze s st)
    else none
   | _ => none
  | _, _ => none
 | .mkp t x => match x.ev (look st.sl) with
  | some (.one (.ref s0 _ _)) => match x.ev (look (freezes (blkMents (look st.hp) [s0]) st).sl) with
   | some (.one (.ref s 0 0)) => match look (freezes (blkMents (look st.hp) [s0]) st).hp s with
    | some (.box vs) => if 64 ≤ s ∧ (ments vs).isEmpty = true then some (.one (.ifc t (.ptr vs)), freeze s (freezes (blkMents (look st.hp) [s0]) st)) else none
    | _ => none
   | _ => none
  | _ => none
 | .cvb x => match x.ev (look st.sl) with
  | some (.one (.sl s 0 n)) => match look st.hp s with
   | some (.rows el e xs) => if n = xs.length ∧ 0 < n then
     some (.one (.row xs), { sl := st.sl.map (fun p => (p.1, p.2.kill s)), hp := (s, .rows el e []) :: st.hp.map (fun p => (p.1, p.2.kill s)) })
    else none
   | _ => none
  | _ => none
 | _ => none
def St.put (st : St) (d : Option Nat) (v : S) : St := match d with
 | some d => { st with sl := (d, v) :: st.sl }
 | none => st
def vG (fb : List Nat) (st : St) : Nat → Option S := fun t => if fb.contains t then none else look st.sl t
def vH (fb : List Nat) (st : St) : Nat → Option Blk := fun s => if fb.contains (s / 64) then none else look st.hp s
def core (E : Nat → Model) (o : IO) (g : Nat → Option S) (h : Nat → Option Blk) : Option (S × Hp) :=
 match o.guard with
 | none => ev E (o.dst.getD 0) g h o.i
 | some (t, want) => match g t with
  | some (.one (.bool b)) => if b = want then ev E (o.dst.getD 0) g h o.i else some (.undef, [])
  | some .undef => some (.undef, [])
  | _ => none
def step (E : Nat → Model) (o : IO) (st : St) : Option St :=
 if o.i.eff then
  match o.guard with
  | none => (evE E (o.dst.getD 0) st o.i).map fun r => r.2.put o.dst r.1
  | some (t, want) => match look st.sl t with
   | some (.one (.bool b)) => if b = want then (evE E (o.dst.getD 0) st o.i).map fun r => r.2.put o.dst r.1 else some (st.put o.dst .undef)
   | some .undef => some (st.put o.dst .undef)
   | _ => none
 else match core E o (vG o.fb st) (vH o.fb st) with
  | some (v, news) => if (o.i.stk.isSome || fresh st news) = true then some { sl := (st.put o.dst v).sl, hp := news ++ st.hp } else none
  | none => none
def steps (E : Nat → Model) : List IO → St → Option St
 | [], st => some st
 | o :: r, st => match step E o st with
  | some st' => steps E r st'
  | none => none
def pickL {α : Type} (l : List (Nat × α)) : List Nat → List (Nat × α)
 | [] => []
 | n :: r => match look l n with
  | some v => (n, v) :: pickL l r
  | none => pickL l r
def slMent : List (Nat × S) → List Nat
 | [] => []
 | (_, v) :: r => v.ment ++ slMent r
def hpMent : List (Nat × Blk) → List Nat
 | [] => []
 | (_, .box vs) :: r => ments vs ++ hpMent r
 | (_, .rows _ _ _) :: r => hpMent r
def lowB (seen : List Nat) : Hp → List Nat
 | [] => []
 | (k, B) :: r => if 64 ≤ k then lowB seen r else if seen.contains k = true then lowB seen r else match B with
  | .box _ => k :: lowB (k :: seen) r
  | .rows _ _ _ => lowB (k :: seen) r
def gcK (l : List Nat) (st : St) : Option St :=
 let sl := pickL st.sl l
 let h1 := pickL st.hp (slMent sl ++ lowB [] st.hp)
 let hp := pickL st.hp (slMent sl ++ lowB [] st.hp ++ hpMent h1)
 if (hpMent hp).all (fun s => (look hp s).isSome) && (slMent sl).all (fun s => (look hp s).isSome) then some ⟨sl, hp⟩ else none
def frzL (l : List Nat) (st : St) : St := freezes (slMent (pickL st.sl l)) st
def iter (N : Nat) (f : St → Option (Out × St)) (st : St) : Option (Out × St) := match N with
 | 0 => none
 | n + 1 => match f st with
  | some (.norm, st') => iter n f st'
  | r => r
def C.ev (E : Nat → Model) (N : Nat) : C → St → Option (Out × St)
 | .skip, st => some (.norm, st)
 | .region ops _, st => match steps E ops st with
  | some st' => some (.norm, st')
  | none => none
 | .seq a b, st => match a.ev E N st with
  | some (.norm, st') => b.ev E N st'
  | r => r
 | .cond c a b, st => match c.ev (look st.sl) with
  | some (.one (.bool t)) => if t then a.ev E N st else b.ev E N st
  | _ => none
 | .block id a, st => match a.ev E N st with
  | some (.exit i, st') => if i = id then some (.norm, st') else some (.exit i, st')
  | r => r
 | .loop a, st => iter N (a.ev E N) st
 | .exit id, st => some (.exit id, st)
 | .ret, st => some (.ret, st)
 | .keep l a, st => match gcK l st with
  | some st' => a.ev E N st'
  | none => none
 | .frz l a, st => a.ev E N (frzL l st)
inductive R where
 | t (n : Nat)
 | c (p n : Nat) (ag : Bool)
structure F where
 np : Nat
 nt : Nat
 body : C
 res : List R
def R.ev (st : St) : R → Option S
 | .t n => look st.sl n
 | .c p n ag => match look st.sl p with
  | some (.one v) => match rd (look st.hp) n v with
   | some vs => shape ag vs
   | none => none
  | _ => none
def Rs.ev (st : St) : List R → Option (List S)
 | [] => some []
 | r :: q => match r.ev st with
  | some v => match Rs.ev st q with
   | some q' => some (v :: q')
   | none => none
  | none => none
def handV (h : Nat → Option Blk) (m : Nat) (used : List Nat) (k : Nat) : V → Option (V × List Nat × Hp)
 | .sl s off len => if s < m then some (.sl s off len, used, []) else if off = 0 ∧ used.contains s = false then match h s with
  | some (.rows el e xs) => if len ≤ xs.length then some (.sl k 0 len, s :: used, [(k, .rows el e (xs.take len))]) else none
  | _ => none else none
 | .ref s i j => if s < m then some (.ref s i j, used, []) else none
 | v => some (v, used, [])
def handVs (h : Nat → Option Blk) (m : Nat) : List Nat → Nat → List V → Option (List V × List Nat × Nat × Hp)
 | used, k, [] => some ([], used, k, [])
 | used, k, v :: r => match handV h m used k v with
  | some (v', used', hp) => match handVs h m used' (k + 1) r with
   | some (r', used'', k', hp') => some (v' :: r', used'', k', hp ++ hp')
   | none => none
  | none => none
def handS (h : Nat → Option Blk) (m : Nat) (used : List Nat) (k : Nat) : S → Option (S × List Nat × Nat × Hp)
 | .one (.ref s i j) => if s < m then some (.one (.ref s i j), used, k, []) else if i = 0 ∧ j = 0 then match h s with
  | some (.box vs) => match handVs h m used k vs with
   | some (vs', used', k', hp) => if used'.contains s = false then some (.one (.ref k' 0 0), s :: used', k' + 1, hp ++ [(k', .box vs')]) else none
   | none => none
  | _ => none else none
 | .one v => match handVs h m used k [v] with
  | some ([v'], used', k', hp) => some (.one v', used', k', hp)
  | _ => none
 | .agg vs => match handVs h m used k vs with
  | some (vs', used', k', hp) => some (.agg vs', used', k', hp)
  | none => none
 | _ => none
def handSs (h : Nat → Option Blk) (m : Nat) : List Nat → Nat → List S → Option (List S × List Nat × Nat × Hp)
 | used, k, [] => some ([], used, k, [])
 | used, k, v :: r => match handS h m used k v with
  | some (v', used', k', hp) => match handSs h m used' k' r with
   | some (r', used'', k'', hp') => some (v' :: r', used'', k'', hp ++ hp')
   | none => none
  | none => none
def handBs (h : Nat → Option Blk) (m : Nat) : List Nat → Nat → List Nat → Option (Hp × Hp)
 | used, k, [] => some ([], [])
 | used, k, s :: r => match h s with
  | some (.box vs) => match handVs h m used k vs with
   | some (vs', used', k', hpN) => match handBs h m used' k' r with
    | some (hpE, hpN') => some ((s, .box vs') :: hpE, hpN ++ hpN')
    | none => none
   | none => none
  | some (.rows el e xs) => match handBs h m used k r with
   | some (hpE, hpN) => some ((s, .rows el e xs) :: hpE, hpN)
   | none => none
  | none => handBs h m used k r
def upTo : Nat → Nat → List Nat
 | _, 0 => []
 | k, n + 1 => k :: upTo (k + 1) n
def one1 : List S → S
 | [s] => s
 | l => .tup l
def hand (m : Nat) (h : Nat → Option Blk) (l : List S) : Option (S × Hp) :=
 match handSs h m [] (if m = 0 then 0 else 64) l with
 | some (l', used, k, hp) => match handBs h m used k (upTo 0 m) with
  | some (hpE, hpN) => some (one1 l', hpE ++ (hp ++ hpN))
  | none => none
 | none => none
def params : Nat → List S → List (Nat × S)
 | _, [] => []
 | n, x :: r => (n, x) :: params (n + 1) r
def F.ev (E : Nat → Model) (N : Nat) (fn : F) (args : List S) : Option (S × Hp) :=
 match splitA args with
 | some (as, h0) =>
  if as.length = fn.np ∧ h0.length ≤ 64 then
   match fn.body.ev E N ⟨params 0 as, h0⟩ with
   | some (.norm, st) | some (.ret, st) => match Rs.ev st fn.res with
    | some l => hand h0.length (look st.hp) l
    | none => none
   | _ => none
  else none
 | none => none
end Go.Proofs.YtdflglehippoiaaGreatDoorR
namespace Go.Proofs.YtdflglehippoiaaGreatDoorR
open Go Go.RowKit

inductive Loc where
 | virt
 | box (b : Nat)
 | rows (b el e cap : Nat)
def Loc.blk : Loc → Option Nat
 | .virt => none
 | .box b => some b
 | .rows b _ _ _ => some b
abbrev Locs := Nat → Option Loc

inductive Rep (w : World) (ok : Nat → Prop) : V → Value → Prop where
 | int {k : IntKind} {n : Int} : Rep w ok (.int k n) (.int k n)
 | bool {b : Bool} : Rep w ok (.bool b) (.bool b)
 | k {v : Value} (h : v.oneCell' = true) : Rep w ok (.k v) v
 | row0 (A : Option Addr) (c : Nat) : Rep w ok (.row []) (.slice A 0 c)
 | row {xs : List (List V)} {a : Addr} {n c e : Nat} (u : Nat → Nat → Value) (hn : xs.length = n) (hne : 0 < n) (hc : n ≤ c) (ha : ok a.block) (he : ∀ x ∈ xs, x.length = e)
   (hr : ∀ i j x p, xs[i]? = some x → x[j]? = some p → w.cell? (a.add (i * e + j)) = some (u i j)) (hp : ∀ i j x p, xs[i]? = some x → x[j]? = some p → Rep w ok p (u i j)) : Rep w ok (.row xs) (.slice (some a) n c)
 | ptr {cs : List V} {a : Addr} (u : Nat → Value) (ha : ok a.block) (hr : ∀ j p, cs[j]? = some p → w.cell? (a.add j) = some (u j)) (hp : ∀ j p, cs[j]? = some p → Rep w ok p (u j)) : Rep w ok (.ptr cs) (.pointer (some a))
 | fn {f : FuncId} {cs : List V} {vs : Array Value} (u : Nat → Value) (hn : vs.size = cs.length) (hr : ∀ j p, cs[j]? = some p → vs[j]? = some (u j)) (hp : ∀ j p, cs[j]? = some p → Rep w ok p (u j)) : Rep w ok (.fn f cs) (.func (.func f) #[] vs)
 | dead {v : Value} (h : v.oneCell' = true) : Rep w ok .dead v
 | ifc {t : Nat} {v : V} {x : Value} (h : Rep w ok v x) : Rep w ok (.ifc t v) (.iface t x)

theorem cell_same {w w' : World} {a : Addr} (h : w'.heap[a.block]? = w.heap[a.block]?) : w'.cell? a = w.cell? a := by simp [World.cell?, h]
theorem add_block (a : Addr) (n : Nat) : (a.add n).block = a.block := by unfold Addr.add; split <;> rfl

theorem Rep.mono {w w' : World} {ok ok' : Nat → Prop} {v : V} {x : Value} (h : Rep w ok v x) (hok : ∀ b, ok b → ok' b ∧ w'.heap[b]? = w.heap[b]?) : Rep w' ok' v x := by
 induction h with
 | int => exact .int
 | bool => exact .bool
 | k h => exact .k h
 | row0 A c => exact .row0 A c
 | row u hn hne hc ha he hr hp ih =>
  refine .row u hn hne hc (hok _ ha).1 he (fun i j x p h1 h2 => ?_) ih
  rw [cell_same (w := w) (w' := w') (by rw [add_block]; exact (hok _ ha).2)]
  exact hr i j x p h1 h2
 | ptr u ha hr hp ih =>
  refine .ptr u (hok _ ha).1 (fun j p h1 => ?_) ih
  rw [cell_same (w := w) (w' := w') (by rw [add_block]; exact (hok _ ha).2)]
  exact hr j p h1
 | fn u hn hr hp ih => exact .fn u hn hr ih
 | dead h => exact .dead h
 | ifc h ih => exact .ifc ih

theorem Rep.one {w : World} {ok : Nat → Prop} {v : V} {x : Value} (h : Rep w ok v x) : x.oneCell' = true := by
 cases h <;> first | rfl | assumption

def RV (w : World) (ok : Nat → Prop) (loc : Locs) : V → Value → Prop
 | .ref s i j, x => (∃ b, loc s = some (.box b) ∧ i = 0 ∧ x = .pointer (some ⟨b, j, none⟩)) ∨ (∃ b el e cap, loc s = some (.rows b el e cap) ∧ x = .pointer (some ⟨b, i * e + j, none⟩))
 | .sl s off len, x => (∃ b el e cap, loc s = some (.rows b el e cap) ∧ off + len ≤ cap ∧ x = .slice (some ⟨b, off * e, none⟩) len (cap - off)) ∨ (loc s = some .virt ∧ off = 0 ∧ len = 0 ∧ x = .slice none 0 0)
 | v, x => Rep w ok v x

theorem Rep.rv {w : World} {ok : Nat → Prop} {loc : Locs} {v : V} {x : Value} (h : Rep w ok v x) : RV w ok loc v x := by
 cases h <;> first | exact .int | exact .bool | exact .row0 _ _ | (exact Rep.ifc ‹_›) | (exact Rep.k ‹_›) | (exact Rep.dead ‹_›) | (exact Rep.row _ ‹_› ‹_› ‹_› ‹_› ‹_› ‹_› ‹_›) | (exact Rep.ptr _ ‹_› ‹_› ‹_›) | (exact Rep.fn _ ‹_› ‹_› ‹_›)

theorem RV.one {w : World} {ok : Nat → Prop} {loc : Locs} {v : V} {x : Value} (h : RV w ok loc v x) : x.oneCell' = true := by
 cases v with
 | ref s i j => rcases h with ⟨b, _, _, rfl⟩ | ⟨b, el, e, cap, _, rfl⟩ <;> rfl
 | sl s off len => rcases h with ⟨b, el, e, cap, _, _, rfl⟩ | ⟨_, _, _, rfl⟩ <;> rfl
 | _ => exact Rep.one h

theorem RV.mono {w w' : World} {ok ok' : Nat → Prop} {loc loc' : Locs} {v : V} {x : Value} (h : RV w ok loc v x) (hok : ∀ b, ok b → ok' b ∧ w'.heap[b]? = w.heap[b]?) (hl : ∀ s l, v.ment = some s → loc s = some l → loc' s = some l) : RV w' ok' loc' v x := by
 cases v with
 | ref s i j =>
  rcases h with ⟨b, h1, h2, h3⟩ | ⟨b, el, e, cap, h1, h3⟩
  ·exact .inl ⟨b, hl _ _ rfl h1, h2, h3⟩
  ·exact .inr ⟨b, el, e, cap, hl _ _ rfl h1, h3⟩
 | sl s off len =>
  rcases h with ⟨b, el, e, cap, h1, h2, h3⟩ | ⟨h1, h2, h3, h4⟩
  ·exact .inl ⟨b, el, e, cap, hl _ _ rfl h1, h2, h3⟩
  ·exact .inr ⟨hl _ _ rfl h1, h2, h3, h4⟩
 | _ => exact Rep.mono h hok

def RVs (w : World) (ok : Nat → Prop) (loc : Locs) (vs : List V) (cs : List Value) : Prop :=
 vs.length = cs.length ∧ ∀ (j : Nat) v c, vs[j]? = some v → cs[j]? = some c → RV w ok loc v c
def RS0 (w : World) (ok : Nat → Prop) (loc : Locs) : S → Value → Prop
 | .undef, x => x = undef
 | .one v, x => RV w ok loc v x
 | .agg vs, x => ∃ cs, x = .agg cs ∧ RVs w ok loc vs cs.toList
 | .tup _, _ => False
def RS (w : World) (ok : Nat → Prop) (loc : Locs) : S → Value → Prop
 | .tup xs, x => ∃ us, x = .tuple us ∧ us.size = xs.length ∧ ∀ (j : Nat) s u, xs[j]? = some s → us[j]? = some u → RS0 w ok loc s u
 | s, x => RS0 w ok loc s x
def RSs (w : World) (ok : Nat → Prop) (loc : Locs) (as : List S) (vs : List Value) : Prop :=
 as.length = vs.length ∧ ∀ (j : Nat) s u, as[j]? = some s → vs[j]? = some u → RS0 w ok loc s u

theorem mem_ments {vs : List V} {v : V} {s : Nat} (h : v ∈ vs) (hm : v.ment = some s) : s ∈ ments vs := by
 induction vs with
 | nil => cases h
 | cons a r ih =>
  unfold ments
  rcases List.mem_cons.1 h with rfl | h
  ·rw [hm]; exact List.mem_cons_self ..
  ·cases a.ment with
   | none => exact ih h
   | some t => exact List.mem_cons_of_mem _ (ih h)
theorem RVs.mono {w w' : World} {ok ok' : Nat → Prop} {loc loc' : Locs} {vs : List V} {cs : List Value} (h : RVs w ok loc vs cs) (hok : ∀ b, ok b → ok' b ∧ w'.heap[b]? = w.heap[b]?) (hl : ∀ s l, s ∈ ments vs → loc s = some l → loc' s = some l) : RVs w' ok' loc' vs cs :=
 ⟨h.1, fun j v c h1 h2 => (h.2 j v c h1 h2).mono hok fun s l hm hs => hl s l (mem_ments (List.mem_of_getElem? h1) hm) hs⟩
theorem RS0.mono {w w' : World} {ok ok' : Nat → Prop} {loc loc' : Locs} {s : S} {x : Value} (h : RS0 w ok loc s x) (hok : ∀ b, ok b → ok' b ∧ w'.heap[b]? = w.heap[b]?) (hl : ∀ t l, t ∈ s.ment → loc t = some l → loc' t = some l) : RS0 w' ok' loc' s x := by
 cases s with
 | undef => exact h
 | one v => exact RV.mono h hok fun s l hm hs => hl s l (mem_ments (List.mem_singleton.2 rfl) hm) hs
 | agg vs =>
  obtain ⟨cs, h1, h2⟩ := h
  exact ⟨cs, h1, h2.mono hok hl⟩
 | tup xs => exact h
theorem mem_smt {xs : List S} {s : S} {t : Nat} (h : s ∈ xs) (hm : t ∈ s.ment) : t ∈ S.ment.smt xs := by
 induction xs with
 | nil => cases h
 | cons a r ih =>
  unfold S.ment.smt
  rcases List.mem_cons.1 h with rfl | h
  ·exact List.mem_append_left _ hm
  ·exact List.mem_append_right _ (ih h)
theorem RS.mono {w w' : World} {ok ok' : Nat → Prop} {loc loc' : Locs} {s : S} {x : Value} (h : RS w ok loc s x) (hok : ∀ b, ok b → ok' b ∧ w'.heap[b]? = w.heap[b]?) (hl : ∀ t l, t ∈ s.ment → loc t = some l → loc' t = some l) : RS w' ok' loc' s x := by
 cases s with
 | tup xs =>
  obtain ⟨us, h1, h2, h3⟩ := h
  exact ⟨us, h1, h2, fun j s u h4 h5 => (h3 j s u h4 h5).mono hok fun t l hm hs => hl t l (mem_smt (List.mem_of_getElem? h4) hm) hs⟩
 | undef => exact h
 | one v => exact RS0.mono (s := .one v) (w := w) (ok := ok) (loc := loc) h hok hl
 | agg vs => exact RS0.mono (s := .agg vs) (w := w) (ok := ok) (loc := loc) h hok hl

def HB (w : World) (ok : Nat → Prop) (loc : Locs) : Loc → Blk → Prop
 | .box b, .box vs => ∃ cs el, w.heap[b]? = some (.cells cs el (0, 0)) ∧ RVs w ok loc vs cs.toList
 | .rows b el e cap, .rows el' e' xs => el' = el ∧ e' = e ∧ cap ≤ maxLen ∧ xs.length ≤ cap ∧ (∀ x ∈ xs, x.length = e) ∧
   ∃ cs, w.heap[b]? = some (.cells cs el (0, 0)) ∧ cs.size = cap * e ∧ ∀ i j x p, xs[i]? = some x → x[j]? = some p → ∃ u, cs[i * e + j]? = some u ∧ Rep w ok p u
 | .virt, .rows _ _ xs => xs = []
 | _, _ => False
def Blk.ment : Blk → List Nat
 | .box vs => ments vs
 | .rows _ _ _ => []
theorem HB.mono {w w' : World} {ok ok' : Nat → Prop} {loc loc' : Locs} {l : Loc} {B : Blk} (h : HB w ok loc l B) (hok : ∀ b, ok b → ok' b ∧ w'.heap[b]? = w.heap[b]?) (hb : ∀ b, l.blk = some b → w'.heap[b]? = w.heap[b]?)
  (hl : ∀ t m, t ∈ B.ment → loc t = some m → loc' t = some m) : HB w' ok' loc' l B := by
 cases l with
 | virt => cases B with
  | box vs => exact h
  | rows el e xs => exact h
 | box b => cases B with
  | box vs =>
   obtain ⟨cs, el, h1, h2⟩ := h
   exact ⟨cs, el, by rw [hb b rfl]; exact h1, h2.mono hok hl⟩
  | rows el e xs => exact h
 | rows b el e cap => cases B with
  | box vs => exact h
  | rows el' e' xs =>
   obtain ⟨h1, h2, h3, h4, h5, cs, h6, h7, h8⟩ := h
   refine ⟨h1, h2, h3, h4, h5, cs, by rw [hb b rfl]; exact h6, h7, fun i j x p a c => ?_⟩
   obtain ⟨u, hu, hr⟩ := h8 i j x p a c
   exact ⟨u, hu, hr.mono hok⟩

def okI (w0 : World) (ok0 : Nat → Prop) (w : World) (loc : Locs) (b : Nat) : Prop :=
 (ok0 b ∨ w0.heap.size ≤ b) ∧ b < w.heap.size ∧ ∀ s l, loc s = some l → l.blk ≠ some b

structure Ent where
 own : Nat → Prop
 lb : Nat → Option Nat
structure Frm (own : Nat → Prop) (w w' : World) : Prop where
 os : w'.os = w.os
 tape : w'.tape = w.tape
 output : w'.output = w.output
 size : w.heap.size ≤ w'.heap.size
 block : ∀ k, k < w.heap.size → ¬ own k → w'.heap[k]? = w.heap[k]?
theorem Frm.refl (own : Nat → Prop) (w : World) : Frm own w w := ⟨rfl, rfl, rfl, Nat.le_refl _, fun _ _ _ => rfl⟩
theorem Frm.below {own : Nat → Prop} {w w' : World} (h : Frm own w w') (ho : ∀ k, ¬ own k) : Below w.heap.size w w' := ⟨h.os, h.tape, h.output, h.size, fun k hk => h.block k hk (ho k)⟩
theorem Frm.then {own : Nat → Prop} {w0 w w' : World} (h : Frm own w0 w) (hb : Below w.heap.size w w') : Frm own w0 w' :=
 ⟨hb.os.trans h.os, hb.tape.trans h.tape, hb.output.trans h.output, Nat.le_trans h.size hb.size, fun k hk ho => (hb.block k (Nat.lt_of_lt_of_le hk h.size)).trans (h.block k hk ho)⟩
structure HpRel (own : Nat → Prop) (base : Nat) (w : World) (ok : Nat → Prop) (loc : Locs) (hp : Hp) : Prop where
 dom : ∀ s, (loc s).isSome = (look hp s).isSome
 blk : ∀ s l B, loc s = some l → look hp s = some B → HB w ok loc l B
 inj : ∀ s s' l l' b, loc s = some l → loc s' = some l' → l.blk = some b → l'.blk = some b → s = s'
 lo : ∀ s l b, loc s = some l → l.blk = some b → (own b ∨ base ≤ b) ∧ b < w.heap.size

def GLW (w : World) : Prop := ∀ p ∈ glob, ∃ t fr, w.heap[p.1]? = some (.cells p.2 t fr)
def GL (own : Nat → Prop) (w : World) : Prop := GLW w ∧ ∀ p ∈ glob, ¬ own p.1
theorem GLW.lt {w : World} (h : GLW w) {p : Nat × Array Value} (hp : p ∈ glob) : p.1 < w.heap.size := by
 obtain ⟨t, fr, h1⟩ := h p hp
 exact (Array.getElem?_eq_some_iff.1 h1).1
theorem GL.now {own : Nat → Prop} {w w' : World} (h : GL own w) (f : Frm own w w') : GLW w' := fun p hp => by
 rw [f.block p.1 (h.1.lt hp) (h.2 p hp)]
 exact h.1 p hp
structure Inv (n : Nat) (Γ : Ent) (w0 : World) (ok0 : Nat → Prop) (loc : Locs) (st : St) (a : Act) (w : World) : Prop where
 below : Frm Γ.own w0 w
 okb : (∀ b, ok0 b → b < w0.heap.size) ∧ GL Γ.own w0
 hp : HpRel Γ.own w0.heap.size w (okI w0 ok0 w loc) loc st.hp
 oko : ∀ b, Γ.own b → ok0 b
 bx : ∀ s b, Γ.lb s = some b → s < 64 ∧ loc s = some (.box b)
 sz : a.tmps.size = n
 sl : ∀ t s, look st.sl t = some s → t < n ∧ RS w (okI w0 ok0 w loc) loc s (a.tmps.getD t undef)
 df : a.defers = []

def Locs.or (loc locN : Locs) : Locs := fun s => match locN s with
 | some l => some l
 | none => loc s
theorem Locs.or_none (loc : Locs) : loc.or (fun _ => none) = loc := rfl

theorem look_append {α : Type} (a b : List (Nat × α)) (n : Nat) : look (a ++ b) n = match look a n with | some v => some v | none => look b n := by
 induction a with
 | nil => rfl
 | cons p r ih =>
  obtain ⟨m, v⟩ := p
  simp only [List.cons_append, look]
  split
  ·rfl
  ·exact ih

theorem put_size (a : Act) (d : Option Nat) (v : Value) : (a.put d v).tmps.size = a.tmps.size := by
 cases d <;> simp [Act.put]
theorem put_defers (a : Act) (d : Option Nat) (v : Value) : (a.put d v).defers = a.defers := by
 cases d <;> rfl
theorem put_get (a : Act) (d : Nat) (v : Value) (t : Nat) (hd : d < a.tmps.size) : (a.put (some d) v).tmps.getD t undef = if d = t then v else a.tmps.getD t undef := by
 simp only [Act.put]
 rw [Array.getD_eq_getD_getElem?, Array.getElem?_setIfInBounds]
 split
 ·rename_i h; subst h; simp [hd]
 ·rw [← Array.getD_eq_getD_getElem?]

theorem Inv.ext {n : Nat} {Γ : Ent} {w0 : World} {ok0 : Nat → Prop} {loc : Locs} {st : St} {a : Act} {w w' : World} (I : Inv n Γ w0 ok0 loc st a w) (hb : Below w.heap.size w w') (locN : Locs) (news : Hp)
  (hdom : ∀ s, (locN s).isSome = (look news s).isSome) (hfresh : ∀ s, (look news s).isSome = true → (look st.hp s).isSome = false)
  (hlo : ∀ s l b, locN s = some l → l.blk = some b → w.heap.size ≤ b ∧ b < w'.heap.size)
  (hinj : ∀ s s' l l' b, locN s = some l → locN s' = some l' → l.blk = some b → l'.blk = some b → s = s')
  (hblk : ∀ s l B, locN s = some l → look news s = some B → HB w' (okI w0 ok0 w' (loc.or locN)) (loc.or locN) l B)
  (d : Option Nat) (hd : ∀ t, d = some t → t < n) (s : S) (v : Value) (hs : RS w' (okI w0 ok0 w' (loc.or locN)) (loc.or locN) s v) :
  Inv n Γ w0 ok0 (loc.or locN) { sl := (st.put d s).sl, hp := news ++ st.hp } (a.put d v) w' := by
 have hsz : w.heap.size ≤ w'.heap.size := hb.size
 have hno : ∀ s, (loc s).isSome = true → locN s = none := by
  intro s h
  have h1 := hfresh s
  rw [← hdom, ← I.hp.dom] at h1
  cases hq : locN s with
  | none => rfl
  | some l => rw [hq] at h1; rw [h1 rfl] at h; cases h
 have hor : ∀ s l, loc s = some l → loc.or locN s = some l := by
  intro s l h
  show (match locN s with | some l => some l | none => loc s) = some l
  rw [hno s (by rw [h]; rfl)]
  exact h
 have hor' : ∀ s l, loc.or locN s = some l → locN s = some l ∨ (locN s = none ∧ loc s = some l) := by
  intro s l h
  change (match locN s with | some l => some l | none => loc s) = some l at h
  cases hq : locN s with
  | some m => rw [hq] at h; exact .inl h
  | none => rw [hq] at h; exact .inr ⟨rfl, h⟩
 have hok : ∀ b, okI w0 ok0 w loc b → okI w0 ok0 w' (loc.or locN) b ∧ w'.heap[b]? = w.heap[b]? := by
  intro b h
  refine ⟨⟨h.1, by have := h.2.1; omega, fun s l hl hbk => ?_⟩, hb.block b h.2.1⟩
  rcases hor' s l hl with h1 | ⟨_, h1⟩
  ·have := (hlo s l b h1 hbk).1
   have := h.2.1
   omega
  ·exact h.2.2 s l h1 hbk
 have hbase : w0.heap.size ≤ w.heap.size := I.below.size
 refine ⟨I.below.then hb, I.okb, ⟨fun s => ?_, fun s l B hl hB => ?_, fun s s' l l' b h1 h2 h3 h4 => ?_, fun s l b h1 h2 => ?_⟩, I.oko, fun s b h => ⟨(I.bx s b h).1, hor _ _ (I.bx s b h).2⟩, by rw [put_size]; exact I.sz, ?_, by rw [put_defers]; exact I.df⟩
 ·rw [look_append]
  show (match locN s with | some l => some l | none => loc s).isSome = _
  have h1 := hdom s
  have h2 := I.hp.dom s
  cases h3 : locN s with
  | some l =>
   rw [h3] at h1
   cases h4 : look news s with
   | some B => rfl
   | none => rw [h4] at h1; cases h1
  | none =>
   rw [h3] at h1
   cases h4 : look news s with
   | some B => rw [h4] at h1; cases h1
   | none => exact h2
 ·rw [look_append] at hB
  rcases hor' s l hl with h1 | ⟨h0, h1⟩
  ·have h2 := hdom s
   rw [h1] at h2
   cases h4 : look news s with
   | none => rw [h4] at h2; cases h2
   | some B' =>
    rw [h4] at hB
    cases hB
    exact hblk s l B h1 h4
  ·have h2 := hdom s
   rw [h0] at h2
   cases h4 : look news s with
   | some B' => rw [h4] at h2; cases h2
   | none =>
    rw [h4] at hB
    refine (I.hp.blk s l B h1 hB).mono hok (fun b hbk => hb.block b (I.hp.lo s l b h1 hbk).2) (fun t m _ => hor t m)
 ·rcases hor' s l h1 with g1 | ⟨_, g1⟩ <;> rcases hor' s' l' h2 with g2 | ⟨_, g2⟩
  ·exact hinj s s' l l' b g1 g2 h3 h4
  ·have := (hlo s l b g1 h3).1
   have := (I.hp.lo s' l' b g2 h4).2
   omega
  ·have := (hlo s' l' b g2 h4).1
   have := (I.hp.lo s l b g1 h3).2
   omega
  ·exact I.hp.inj s s' l l' b g1 g2 h3 h4
 ·rcases hor' s l h1 with g1 | ⟨_, g1⟩
  ·have := hlo s l b g1 h2
   exact ⟨.inr (by omega), this.2⟩
  ·have := I.hp.lo s l b g1 h2
   exact ⟨this.1, by have := this.2; omega⟩
 ·intro t q hq
  cases d with
  | none =>
   obtain ⟨h1, h2⟩ := I.sl t q hq
   exact ⟨h1, h2.mono hok (fun t m _ => hor t m)⟩
  | some d =>
   have hdn := hd d rfl
   rw [put_get a d v t (by rw [I.sz]; exact hdn)]
   simp only [St.put, look] at hq
   split at hq
   ·rename_i h
    subst h
    cases hq
    rw [if_pos rfl]
    exact ⟨hdn, hs⟩
   ·rename_i h
    rw [if_neg h]
    obtain ⟨h1, h2⟩ := I.sl t q hq
    exact ⟨h1, h2.mono hok (fun t m _ => hor t m)⟩
theorem Inv.val {n : Nat} {Γ : Ent} {w0 : World} {ok0 : Nat → Prop} {loc : Locs} {st : St} {a : Act} {w : World} (I : Inv n Γ w0 ok0 loc st a w) (d : Option Nat) (hd : ∀ t, d = some t → t < n) (s : S) (v : Value) (hs : RS w (okI w0 ok0 w loc) loc s v) :
  Inv n Γ w0 ok0 loc (st.put d s) (a.put d v) w := by
 have h := I.ext (Below.refl _ _) (fun _ => none) [] (fun s => rfl) (fun s h => by cases h) (fun s l b h => by cases h) (fun s s' l l' b h => by cases h) (fun s l B h => by cases h) d hd s v (by rw [Locs.or_none]; exact hs)
 rw [Locs.or_none] at h
 cases d <;> exact h

def fnOk (P : Program) (f : FuncId) : Bool := match P.funcs[f]? with
 | some fn => !(fn.name == "runtime.NumGoroutine") && fn.body.isSome
 | none => false
def ownL (loc0 : Locs) (b : Nat) : Prop := ∃ s l, loc0 s = some l ∧ l.blk = some b
theorem ownL_none {b : Nat} : ¬ ownL (fun _ => none) b := fun ⟨_, _, h, _⟩ => by cases h
def Sound (P : Program) (f : FuncId) (m : Model) : Prop :=
 ∀ args r hp, m args = some (r, hp) → ∀ as h0, splitA args = some (as, h0) → ∀ (w : World) (ok0 : Nat → Prop) (loc0 : Locs) (vs : Array Value), GL (ownL loc0) w → (∀ b, ok0 b → b < w.heap.size ∧ ¬ ownL loc0 b) →
  HpRel (ownL loc0) w.heap.size w ok0 loc0 h0 → RSs w ok0 loc0 as vs.toList →
  fnOk P f = true ∧ Calls P f vs w fun e w' => ∃ v loc, e = .returned v ∧ Frm (ownL loc0) w w' ∧ HpRel (ownL loc0) w.heap.size w' (okI w (fun b => ok0 b ∨ ownL loc0 b) w' loc) loc hp ∧ RS w' (okI w (fun b => ok0 b ∨ ownL loc0 b) w' loc) loc r v ∧
   ∀ s b, loc0 s = some (.box b) → loc s = some (.box b)
theorem Sound.closed {P : Program} {f : FuncId} {m : Model} (h : Sound P f m) {args : List S} {r : S} {hp : Hp} (hm : m args = some (r, hp)) (hs : splitA args = some (args, [])) {w : World} {ok0 : Nat → Prop} {vs : Array Value} (hg : GLW w) (hok : ∀ b, ok0 b → b < w.heap.size) (hr : RSs w ok0 (fun _ => none) args vs.toList) :
  fnOk P f = true ∧ Calls P f vs w fun e w' => ∃ v loc, e = .returned v ∧ Below w.heap.size w w' ∧ HpRel (fun _ => False) w.heap.size w' (okI w ok0 w' loc) loc hp ∧ RS w' (okI w ok0 w' loc) loc r v := by
 obtain ⟨h1, h2⟩ := h args r hp hm args [] hs w ok0 (fun _ => none) vs ⟨hg, fun _ _ => ownL_none⟩ (fun b hb => ⟨hok b hb, ownL_none⟩) ⟨fun s => rfl, fun s l B h => (by cases h), fun s s' l l' b h => (by cases h), fun s l b h => (by cases h)⟩ hr
 have e1 : (fun b => ok0 b ∨ ownL (fun _ => none) b) = ok0 := by funext b; exact propext ⟨fun h => h.resolve_right ownL_none, .inl⟩
 have e2 : ownL (fun _ => none) = fun _ => False := by funext b; exact propext ⟨fun h => (ownL_none h).elim, False.elim⟩
 rw [e1, e2] at h2
 exact ⟨h1, h2.mono fun e w' ⟨v, loc, k1, k2, k3, k4, _⟩ => ⟨v, loc, k1, k2.below (fun _ h => h), k3, k4⟩⟩
theorem Sound.of_le {P : Program} {f : FuncId} {m m' : Model} (h : Sound P f m) (hl : ∀ args r, m' args = some r → m args = some r) : Sound P f m' :=
 fun args r hp hm => h args r hp (hl _ _ hm)
theorem Sound.no {P : Program} {f : FuncId} : Sound P f fun _ => none := fun _ _ _ h => by cases h
theorem Sound.or {P : Program} {f : FuncId} {m m' : Model} (h : Sound P f m) (h' : Sound P f m') : Sound P f fun as => match m as with | some r => some r | none => m' as := by
 intro args r hp hm
 cases hq : m args with
 | some q =>
  simp only [hq] at hm
  cases hm
  exact h args r hp hq
 | none =>
  simp only [hq] at hm
  exact h' args r hp hm
end Go.Proofs.YtdflglehippoiaaGreatDoorR
namespace Go.Proofs.YtdflglehippoiaaGreatDoorR
open Go Go.RowKit

def vok : Value → V → Bool
 | .int k n, .int k' n' => k == k' && n == n'
 | .bool b, .bool b' => b == b'
 | .slice none 0 0, .row [] => true
 | .slice none 0 0, .k (.slice none 0 0) => true
 | .string s, .k (.string s') => decide (s = s')
 | .pointer none, .k (.pointer none) => true
 | .nilIface, .k .nilIface => true
 | .nilFunc, .k .nilFunc => true
 | _, _ => false
def voks : List Value → List V → Bool
 | [], [] => true
 | v :: r, x :: q => vok v x && voks r q
 | _, _ => false
def xok : Operand → X → Bool
 | .tmp t, .t n => t == n
 | .const (.agg cs), .ca vs => voks cs.toList vs
 | .const v, .c v' => vok v v'
 | .func f, .c (.fn f' []) => f == f'
 | _, _ => false
def xoks : List Operand → List X → Bool
 | [], [] => true
 | v :: r, x :: q => xok v x && xoks r q
 | _, _ => false

section
variable {w : World} {ok : Nat → Prop} {loc : Locs}
theorem vok_rep {v : Value} {x : V} (h : vok v x = true) : Rep w ok x v := by
 unfold vok at h
 split at h <;> first
  | (simp only [Bool.and_eq_true, beq_iff_eq] at h; obtain ⟨rfl, rfl⟩ := h; exact .int)
  | (simp only [beq_iff_eq] at h; subst h; exact .bool)
  | (have h := of_decide_eq_true h; subst h; exact .k rfl)
  | exact .row0 _ _
  | exact .k rfl
  | cases h
theorem voks_rvs : ∀ {cs : List Value} {vs : List V}, voks cs vs = true → RVs w ok loc vs cs
 | [], [], _ => ⟨rfl, fun j v c h => by cases h⟩
 | c :: r, v :: q, h => by
  simp only [voks, Bool.and_eq_true] at h
  obtain ⟨h1, h2⟩ := voks_rvs (cs := r) (vs := q) h.2
  refine ⟨by simp [h1], fun j v' c' g1 g2 => ?_⟩
  cases j with
  | zero => simp at g1 g2; subst g1; subst g2; exact (vok_rep h.1).rv
  | succ j => exact h2 j v' c' (by simpa using g1) (by simpa using g2)
 | [], _ :: _, h => by cases h
 | _ :: _, [], h => by cases h
theorem xok_rs {a : Act} {g : Nat → Option S} {o : Operand} {x : X} {s : S} (h : xok o x = true) (hg : ∀ t s, g t = some s → RS w ok loc s (a.tmps.getD t undef)) (hs : x.ev g = some s) : RS w ok loc s (a.eval o) := by
 unfold xok at h
 split at h
 ·simp only [beq_iff_eq] at h; subst h
  exact hg _ _ hs
 ·simp only [X.ev, Option.some.injEq] at hs; subst hs
  exact ⟨_, rfl, voks_rvs h⟩
 ·simp only [X.ev, Option.some.injEq] at hs; subst hs
  exact (vok_rep h).rv
 ·simp only [X.ev, Option.some.injEq] at hs; subst hs
  simp only [beq_iff_eq] at h; subst h
  exact Rep.rv (loc := loc) (.fn (fun _ => undef) rfl (fun j p h => by cases h) (fun j p h => by cases h))
 ·cases h
end

def aggT (P : Program) (t : TypeId) (ag : Bool) : Bool := match P.underlying t with
 | some (.struct _) | some (.array _ _) => ag
 | some _ => !ag
 | none => false
def sizeT (P : Program) (t : TypeId) (n : Nat) : Bool := match P.info? t with
 | some i => i.size == n
 | none => false
def zeroT (P : Program) (t : TypeId) (zs : List V) : Bool := match P.info? t with
 | some i => match i.zero with
  | some z => voks z.cells.toList zs
  | none => false
 | none => false
def sliceT (P : Program) (t el : TypeId) : Bool := match P.underlying t with
 | some (.slice e) => e == el
 | _ => false
def arrT (P : Program) (t : TypeId) (n : Nat) (e : Nat) : Bool := match P.underlying t with
 | some (.array m el) => m == n && sizeT P el e
 | _ => false
theorem sizeT_spec {P : Program} {t : TypeId} {n : Nat} (h : sizeT P t n = true) : ∃ i, P.info? t = some i ∧ i.size = n := by
 unfold sizeT at h
 split at h
 ·exact ⟨_, ‹_›, by simpa using h⟩
 ·cases h
theorem run_sizeOf {P : Program} {t : TypeId} {n : Nat} (h : sizeT P t n = true) (w : World) : (sizeOf t).run P w = .ok n w := by
 obtain ⟨i, h1, h2⟩ := sizeT_spec h
 simp [sizeOf, typeInfo, h1, h2]
theorem zeroT_spec {P : Program} {t : TypeId} {zs : List V} (h : zeroT P t zs = true) : ∃ i z, P.info? t = some i ∧ i.zero = some z ∧ voks z.cells.toList zs = true := by
 unfold zeroT at h
 split at h
 ·split at h
  ·exact ⟨_, _, ‹_›, ‹_›, h⟩
  ·cases h
 ·cases h
theorem run_isAgg {P : Program} {t : TypeId} {ag : Bool} (h : aggT P t ag = true) (w : World) : (isAgg t).run P w = .ok ag w := by
 unfold aggT at h
 split at h
 ·rename_i q; subst h; simp [isAgg, run_underlying q]
 ·rename_i q; subst h; simp [isAgg, run_underlying q]
 ·rename_i d q1 q2 q
  have : ag = false := by simpa using h
  subst this
  unfold isAgg
  rw [Sem.run_bind, run_underlying q]
  cases d <;> first | rfl | (exact absurd rfl (q1 _)) | (exact absurd rfl (q2 _ _))
 ·cases h
theorem sliceT_spec {P : Program} {t el : TypeId} (h : sliceT P t el = true) : P.underlying t = some (.slice el) := by
 unfold sliceT at h
 split at h
 ·rename_i q; rw [q]; simp only [beq_iff_eq] at h; subst h; rfl
 ·cases h
theorem arrT_spec {P : Program} {t : TypeId} {n e : Nat} (h : arrT P t n e = true) : ∃ el, P.underlying t = some (.array n el) ∧ sizeT P el e = true := by
 unfold arrT at h
 split at h
 ·rename_i q
  simp only [Bool.and_eq_true, beq_iff_eq] at h
  obtain ⟨rfl, h⟩ := h
  exact ⟨_, q, h⟩
 ·cases h

theorem sub_spec {vs ws : List V} {off n : Nat} (h : sub vs off n = some ws) : ws.length = n ∧ off + n ≤ vs.length ∧ ∀ j, j < n → ws[j]? = vs[off + j]? := by
 unfold sub at h
 split at h
 ·rename_i hl
  cases h
  refine ⟨by simp; omega, hl, fun j hj => ?_⟩
  rw [List.getElem?_take, if_pos hj, List.getElem?_drop]
 ·cases h
theorem run_loadVar {P : Program} {w : World} {ok : Nat → Prop} {loc : Locs} {t : TypeId} {ag : Bool} {n : Nat} {ws : List V} {s : S} {ad : Addr} (ha : aggT P t ag = true) (hn : (if ag then sizeT P t n else n == 1) = true) (hw : ws.length = n) (hs : shape ag ws = some s)
  (hc : ∀ j p, ws[j]? = some p → ∃ u, w.cell? (ad.add j) = some u ∧ RV w ok loc p u) : ∃ v, (loadVar t ad).run P w = .ok v w ∧ RS w ok loc s v := by
 cases ag with
 | true =>
  simp only [if_true] at hn
  simp only [shape, if_true, Option.some.injEq] at hs
  subst hs
  have hc' : ∀ j, j < n → (w.cell? (ad.add j)).isSome = true := fun j hj => by
   obtain ⟨u, hu, _⟩ := hc j ws[j] (by simp)
   rw [hu]; rfl
  have hl := run_loadCells (P := P) w ad n (fun j => (w.cell? (ad.add j)).getD undef) (fun j hj => by
   have := hc' j hj
   cases h : w.cell? (ad.add j) with
   | none => rw [h] at this; cases this
   | some u => rfl)
  refine ⟨.agg (List.map (fun j => (w.cell? (ad.add j)).getD undef) (List.range n)).toArray, by simp only [loadVar, Sem.run_bind, run_isAgg ha, Result.andThen_ok, if_true, run_sizeOf hn, hl, Sem.run_pure], ⟨_, rfl, by simp [hw], fun j v c h1 h2 => ?_⟩⟩
  have hj : j < n := by rw [← hw]; exact (List.getElem?_eq_some_iff.1 h1).1
  obtain ⟨u, hu, hr⟩ := hc j v h1
  simp [List.getElem?_range hj, hu] at h2
  subst h2
  exact hr
 | false =>
  have hn1 : n = 1 := by simpa using hn
  subst hn1
  match ws, hw with
  | [p], _ =>
   simp only [shape, Bool.false_eq_true, if_false, Option.some.injEq] at hs
   subst hs
   obtain ⟨u, hu, hr⟩ := hc 0 p rfl
   rw [show ad.add 0 = ad from rfl] at hu
   refine ⟨u, ?_, hr⟩
   simp only [loadVar, Sem.run_bind, run_isAgg ha, Result.andThen_ok, Bool.false_eq_true, if_false, run_load, hu]
theorem run_part {P : Program} {w : World} {ok : Nat → Prop} {loc : Locs} {t : TypeId} {ag : Bool} {n off : Nat} {vs ws : List V} {cs : Array Value} {s : S} (ha : aggT P t ag = true) (hn : (if ag then sizeT P t n else n == 1) = true) (hw : sub vs off n = some ws) (hs : shape ag ws = some s)
  (hc : RVs w ok loc vs cs.toList) : ∃ v, (part t cs off).run P w = .ok v w ∧ RS w ok loc s v := by
 obtain ⟨h1, h2, h3⟩ := sub_spec hw
 have hlen : vs.length = cs.size := by simpa using hc.1
 cases ag with
 | true =>
  simp only [if_true] at hn
  simp only [shape, if_true, Option.some.injEq] at hs
  subst hs
  refine ⟨.agg (cs.extract off (off + n)), by simp only [part, Sem.run_bind, run_isAgg ha, Result.andThen_ok, if_true, run_sizeOf hn, Sem.run_pure], ⟨_, rfl, by simp [h1]; omega, fun j v c g1 g2 => ?_⟩⟩
  have hj : j < n := by rw [← h1]; exact (List.getElem?_eq_some_iff.1 g1).1
  rw [h3 j hj] at g1
  refine hc.2 (off + j) v c g1 ?_
  simp only [Array.getElem?_toList] at g2 ⊢
  rw [Array.getElem?_extract] at g2
  split at g2
  ·exact g2
  ·cases g2
 | false =>
  have hn1 : n = 1 := by simpa using hn
  subst hn1
  match ws, h1 with
  | [p], _ =>
   simp only [shape, Bool.false_eq_true, if_false, Option.some.injEq] at hs
   subst hs
   have g1 : vs[off]? = some p := by have := h3 0 (by omega); simpa using this.symm
   have hlt : off < cs.size := by omega
   refine ⟨cs[off], ?_, hc.2 off p cs[off] g1 (by simp [hlt])⟩
   simp only [part, Sem.run_bind, run_isAgg ha, Result.andThen_ok, Bool.false_eq_true, if_false]
   simp [hlt]
end Go.Proofs.YtdflglehippoiaaGreatDoorR
namespace Go.Proofs.YtdflglehippoiaaGreatDoorR
open Go Go.RowKit

section
variable {P : Program} {w : World} {ok : Nat → Prop} {loc : Locs} {a : Act} {g : Nat → Option S} {h : Nat → Option Blk}
def GOk (w : World) (ok : Nat → Prop) (loc : Locs) (a : Act) (g : Nat → Option S) : Prop := ∀ t s, g t = some s → RS w ok loc s (a.tmps.getD t undef)
def HOk (w : World) (ok : Nat → Prop) (loc : Locs) (h : Nat → Option Blk) : Prop := ∀ s l B, loc s = some l → h s = some B → HB w ok loc l B
def Yld (P : Program) (w : World) (ok : Nat → Prop) (loc : Locs) (a : Act) (o : Oper) (v : S) : Prop := ∃ x, (execOp a.eval o).run P w = .ok (.value x) w ∧ RS w ok loc v x

theorem rs_int {k : IntKind} {n : Int} {x : Value} (h : RS w ok loc (.one (.int k n)) x) : x = .int k n := by cases (h : Rep w ok (.int k n) x); rfl
theorem rs_bool {b : Bool} {x : Value} (h : RS w ok loc (.one (.bool b)) x) : x = .bool b := by cases (h : Rep w ok (.bool b) x); rfl
theorem to_int {k : IntKind} {n : Int} : RS w ok loc (.one (.int k n)) (.int k n) := Rep.int
theorem to_bool {b : Bool} : RS w ok loc (.one (.bool b)) (.bool b) := Rep.bool

theorem y_mov {o : Oper} {x : Operand} {y : X} {s : S} (ho : o.op = .move x ∨ o.op = .assign x) (hx : xok x y = true) (hg : GOk w ok loc a g) (he : y.ev g = some s) : Yld P w ok loc a o s := by
 refine ⟨a.eval x, ?_, xok_rs hx hg he⟩
 unfold execOp
 rcases ho with ho | ho <;> rw [ho] <;> rfl

theorem y_pick {o : Oper} {c x y : Operand} {c' x' y' : X} {t : Bool} {s s' : S} (ho : o.op = .pick c x y) (hc : xok c c' = true) (hx : xok x x' = true) (hy : xok y y' = true) (hg : GOk w ok loc a g) (ec : c'.ev g = some (.one (.bool t))) (ex : x'.ev g = some s) (ey : y'.ev g = some s') :
  Yld P w ok loc a o (if t then s else s') := by
 have h1 := rs_bool (xok_rs hc hg ec)
 refine ⟨if t then a.eval x else a.eval y, ?_, ?_⟩
 ·unfold execOp
  rw [ho]
  simp [h1, asBool]
 ·cases t with
  | true => simp only [if_true]; exact xok_rs hx hg ex
  | false => exact xok_rs hy hg ey

theorem run_ibin {op : BinOp} {k k' : IntKind} {m n : Int} {v : V} (t : TypeId) (h : ibin op k m k' n = some v) : ∃ x, (binOp op t (.int k m) (.int k' n)).run P w = .ok x w ∧ Rep w ok v x := by
  unfold ibin at h
  split at h
  · split at h
    · rename_i hb
      cases h
      refine ⟨_, ?_, .int⟩
      rw [binOp_shl, shift_shl _ _ _ _ hb.1 hb.2]
      rfl
    · cases h
  · split at h
    · rename_i hb
      cases h
      refine ⟨_, ?_, .int⟩
      rw [binOp_shr, shift_shr _ _ _ _ hb.1 hb.2]
      rfl
    · cases h
  · split at h
    · rename_i hk
      subst hk
      split at h <;> first
        | (cases h; exact ⟨_, by simp [binOp_add, binOp_sub, binOp_mul, Op.intArith], .int⟩)
        | (cases h; exact ⟨_, by simp [binOp_and, binOp_or, binOp_xor, binOp_andNot, intBits_and, intBits_or, intBits_xor, intBits_andNot], .int⟩)
        | (split at h
           · cases h
           · rename_i hb
             cases h
             exact ⟨_, by simp [binOp_quo, binOp_rem, Op.intDiv, hb], .int⟩)
        | (cases h; exact ⟨_, by simp only [binOp_eql, binOp_neq, binOp_lss, binOp_leq, binOp_gtr, binOp_geq, Sem.run_pure]; rfl, by first | exact .bool | (rw [show (m == n) = decide (m = n) from rfl]; exact .bool) | (rw [show (m != n) = !decide (m = n) from rfl]; exact .bool)⟩)
        | cases h
    · cases h

theorem y_bin {o : Oper} {op : BinOp} {t u : TypeId} {x y : Operand} {x' y' : X} {p q v : V} (ho : o.op = .binOp op t x y u) (hx : xok x x' = true) (hy : xok y y' = true) (hg : GOk w ok loc a g)
  (ex : x'.ev g = some (.one p)) (ey : y'.ev g = some (.one q)) (hb : bin op p q = some v) : Yld P w ok loc a o (.one v) := by
 unfold bin at hb
 split at hb
 ·rename_i k m k' n
  have h1 := rs_int (xok_rs hx hg ex)
  have h2 := rs_int (xok_rs hy hg ey)
  obtain ⟨z, hz, hr⟩ := run_ibin (P := P) (w := w) (ok := ok) t hb
  refine ⟨z, ?_, hr.rv⟩
  unfold execOp
  rw [ho]
  simp [h1, h2, eqGuard_at_int, hz]
 ·cases hb

theorem run_equalIn_bool (d : Nat) {t : TypeId} (p q : Bool) (ht : P.underlying t = some .bool) : (Op.equalIn (d + 1) t (.bool p) (.bool q)).run P w = .ok (p == q) w := by
 simp [Op.equalIn, run_underlying ht]
theorem run_eql_bool {t : TypeId} (p q : Bool) (ht : P.underlying t = some .bool) : (binOp .eql t (.bool p) (.bool q)).run P w = .ok (.bool (p == q)) w := by
 have h := run_equalIn_bool (w := w) 9999 p q ht
 simp only [binOp]
 simp [Op.equal, Op.maxDepth, h]
theorem run_neq_bool {t : TypeId} (p q : Bool) (ht : P.underlying t = some .bool) : (binOp .neq t (.bool p) (.bool q)).run P w = .ok (.bool (!(p == q))) w := by
 have h := run_equalIn_bool (w := w) 9999 p q ht
 simp only [binOp]
 simp [Op.equal, Op.maxDepth, h]
theorem y_eqb {o : Oper} {op : BinOp} {t u : TypeId} {x y : Operand} {x' y' : X} {p q : Bool} (neg : Bool) (ho : o.op = .binOp op t x y u) (hop : op = if neg then .neq else .eql) (ht : P.underlying t = some .bool) (hx : xok x x' = true) (hy : xok y y' = true) (hg : GOk w ok loc a g)
  (ex : x'.ev g = some (.one (.bool p))) (ey : y'.ev g = some (.one (.bool q))) : Yld P w ok loc a o (.one (.bool (if neg then !(p == q) else p == q))) := by
 have h1 := rs_bool (xok_rs hx hg ex)
 have h2 := rs_bool (xok_rs hy hg ey)
 refine ⟨_, ?_, to_bool⟩
 unfold execOp
 rw [ho]
 subst hop
 cases neg
 ·simp only [h1, h2, eqGuard_at_bool, Bool.false_eq_true, if_false, Sem.run_bind, Sem.run_pure, Result.andThen_ok, run_eql_bool p q ht]
 ·simp only [h1, h2, eqGuard_at_bool, if_true, Sem.run_bind, Sem.run_pure, Result.andThen_ok, run_neq_bool p q ht]

theorem run_equalIn_nil (d : Nat) {t el : TypeId} (A : Option Addr) (n c : Nat) (ht : P.underlying t = some (.slice el)) : (Op.equalIn (d + 1) t (.slice A n c) (.slice none 0 0)).run P w = .ok A.isNone w := by
 cases A <;> simp [Op.equalIn, run_underlying ht]
theorem run_eql_nil {t el : TypeId} (A : Option Addr) (n c : Nat) (ht : P.underlying t = some (.slice el)) : (binOp .eql t (.slice A n c) (.slice none 0 0)).run P w = .ok (.bool A.isNone) w := by
 have h := run_equalIn_nil (w := w) 9999 A n c ht
 simp only [binOp]
 simp [Op.equal, Op.maxDepth, h]
theorem run_neq_nil {t el : TypeId} (A : Option Addr) (n c : Nat) (ht : P.underlying t = some (.slice el)) : (binOp .neq t (.slice A n c) (.slice none 0 0)).run P w = .ok (.bool (!A.isNone)) w := by
 have h := run_equalIn_nil (w := w) 9999 A n c ht
 simp only [binOp]
 simp [Op.equal, Op.maxDepth, h]
theorem y_isnil {o : Oper} {op : BinOp} {t u el : TypeId} {x : Operand} {A : Option Addr} {n c : Nat} (neg : Bool) (ho : o.op = .binOp op t x (.const (.slice none 0 0)) u) (hop : op = if neg then .neq else .eql) (ht : P.underlying t = some (.slice el)) (hx : a.eval x = .slice A n c) : Yld P w ok loc a o (.one (.bool (if neg then !A.isNone else A.isNone))) := by
 have hcon : a.eval (.const (.slice none 0 0)) = .slice none 0 0 := rfl
 refine ⟨_, ?_, to_bool⟩
 unfold execOp
 rw [ho]
 subst hop
 cases neg
 ·simp only [hx, hcon, eqGuard_at_slice, Bool.false_eq_true, if_false, Sem.run_bind, Sem.run_pure, Result.andThen_ok, run_eql_nil A n c ht]
 ·simp only [hx, hcon, eqGuard_at_slice, if_true, Sem.run_bind, Sem.run_pure, Result.andThen_ok, run_neq_nil A n c ht]
theorem y_not {o : Oper} {t : TypeId} {x : Operand} {x' : X} {b : Bool} (ho : o.op = .unOp .not t x) (hx : xok x x' = true) (hg : GOk w ok loc a g) (ex : x'.ev g = some (.one (.bool b))) : Yld P w ok loc a o (.one (.bool (!b))) := by
 have h1 := rs_bool (xok_rs hx hg ex)
 refine ⟨_, ?_, to_bool⟩
 unfold execOp
 rw [ho]
 simp [h1, Op.unary]
theorem y_neg {o : Oper} {t : TypeId} {x : Operand} {x' : X} {k : IntKind} {n : Int} (ho : o.op = .unOp .neg t x) (hx : xok x x' = true) (hg : GOk w ok loc a g) (ex : x'.ev g = some (.one (.int k n))) : Yld P w ok loc a o (.one (.int k (k.wrap (0 - n)))) := by
 have h1 := rs_int (xok_rs hx hg ex)
 refine ⟨_, ?_, to_int⟩
 unfold execOp
 rw [ho]
 simp [h1, Op.unary, Op.intArith]
theorem y_xor {o : Oper} {t : TypeId} {x : Operand} {x' : X} {k : IntKind} {n : Int} (ho : o.op = .unOp .xor t x) (hx : xok x x' = true) (hg : GOk w ok loc a g) (ex : x'.ev g = some (.one (.int k n))) : Yld P w ok loc a o (.one (.int k (bits .xor k (if k.signed then -1 else k.max) n))) := by
 have h1 := rs_int (xok_rs hx hg ex)
 refine ⟨_, ?_, to_int⟩
 unfold execOp
 rw [ho]
 simp [h1, Op.unary, intBits_xor]
theorem y_conv {o : Oper} {src dst : TypeId} {x : Operand} {x' : X} {k k' : IntKind} {n : Int} (ho : o.op = .convert src dst x) (hs : (P.underlying src).isSome = true) (ht : P.underlying dst = some (.int k)) (hx : xok x x' = true) (hg : GOk w ok loc a g) (ex : x'.ev g = some (.one (.int k' n))) : Yld P w ok loc a o (.one (.int k (k.wrap n))) := by
 have h1 := rs_int (xok_rs hx hg ex)
 refine ⟨_, ?_, to_int⟩
 obtain ⟨d, hd⟩ := Option.isSome_iff_exists.mp hs
 unfold execOp
 rw [ho]
 simp [h1, convert, run_underlying hd, run_underlying ht, Conv.intToInt]

theorem rd_spec {p : V} {n : Nat} {ws : List V} {x : Value} (hh : HOk w ok loc h) (hr : rd h n p = some ws) (hx : RV w ok loc p x) :
  ∃ ad, x = .pointer (some ad) ∧ ws.length = n ∧ ∀ j q, ws[j]? = some q → ∃ u, w.cell? (ad.add j) = some u ∧ RV w ok loc q u := by
 unfold rd at hr
 split at hr
 ·rename_i s i j
  split at hr
  ·rename_i vs hq
   split at hr
   ·rename_i hi
    subst hi
    obtain ⟨h1, h2, h3⟩ := sub_spec hr
    rcases hx with ⟨b, g1, _, rfl⟩ | ⟨b, el, e, cap, g1, rfl⟩
    ·obtain ⟨cs, el, g2, g3⟩ := hh _ _ _ g1 hq
     refine ⟨_, rfl, h1, fun m q hm => ?_⟩
     have hmn : m < n := by rw [← h1]; exact (List.getElem?_eq_some_iff.1 hm).1
     rw [h3 m hmn] at hm
     have hlt : j + m < cs.toList.length := by rw [← g3.1]; exact (List.getElem?_eq_some_iff.1 hm).1
     refine ⟨cs.toList[j + m], ?_, g3.2 _ _ _ hm (List.getElem?_eq_getElem hlt)⟩
     rw [Addr.add_lit, cell_of_row w b (j + m) cs el (0, 0) g2]
     simp at hlt ⊢
    ·exact (hh _ _ _ g1 hq).elim
   ·cases hr
  ·rename_i el e xs hq
   split at hr
   ·rename_i y hy
    obtain ⟨h1, h2, h3⟩ := sub_spec hr
    rcases hx with ⟨b, g1, _, rfl⟩ | ⟨b, el', e', cap, g1, rfl⟩
    ·exact (hh _ _ _ g1 hq).elim
    ·obtain ⟨e1, e2, _, _, _, cs, g2, g4, g3⟩ := hh _ _ _ g1 hq
     subst e1; subst e2
     refine ⟨_, rfl, h1, fun m q hm => ?_⟩
     have hmn : m < n := by rw [← h1]; exact (List.getElem?_eq_some_iff.1 hm).1
     rw [h3 m hmn] at hm
     obtain ⟨u, hu, hq'⟩ := g3 i (j + m) y q hy hm
     refine ⟨u, ?_, hq'.rv⟩
     rw [Addr.add_lit, cell_of_row w b _ cs _ (0, 0) g2, Nat.add_assoc]
     exact hu
   ·cases hr
  ·cases hr
 ·rename_i cs
  obtain ⟨h1, h2, h3⟩ := sub_spec hr
  cases (hx : Rep w ok (.ptr cs) x) with
  | ptr u ha hr' hp =>
   refine ⟨_, rfl, h1, fun m q hm => ?_⟩
   have hmn : m < n := by rw [← h1]; exact (List.getElem?_eq_some_iff.1 hm).1
   rw [h3 m hmn, Nat.zero_add] at hm
   exact ⟨u m, hr' m q hm, (hp m q hm).rv⟩
 ·cases hr

theorem y_load {o : Oper} {t : TypeId} {x : Operand} {x' : X} {ag : Bool} {n : Nat} {p : V} {ws : List V} {s : S} (ho : o.op = .load t x) (ha : aggT P t ag = true) (hn : (if ag then sizeT P t n else n == 1) = true) (hx : xok x x' = true) (hg : GOk w ok loc a g) (hh : HOk w ok loc h)
  (ex : x'.ev g = some (.one p)) (hr : rd h n p = some ws) (hs : shape ag ws = some s) : Yld P w ok loc a o s := by
 obtain ⟨ad, h1, h2, h3⟩ := rd_spec hh hr (xok_rs hx hg ex)
 obtain ⟨v, hv, hr'⟩ := run_loadVar (P := P) (w := w) ha hn h2 hs h3
 refine ⟨v, ?_, hr'⟩
 unfold execOp
 rw [ho]
 simp [h1, Instr.loadAt, Instr.sureAddr, hv]

theorem y_nck {o : Oper} {x : Operand} {x' : X} {p : V} (ho : o.op = .nilCheck x) (hx : xok x x' = true) (hg : GOk w ok loc a g) (ex : x'.ev g = some (.one p)) (hp : (match p with | .ref _ _ _ | .ptr _ | .fn _ _ => true | _ => false) = true) : Yld P w ok loc a o (.one p) := by
 have h1 := xok_rs hx hg ex
 refine ⟨a.eval x, ?_, h1⟩
 unfold execOp
 rw [ho]
 have h2 : RV w ok loc p (a.eval x) := h1
 dsimp only
 generalize a.eval x = z at h2
 cases p <;> simp at hp
 ·cases (h2 : Rep w ok (.ptr _) z); rfl
 ·cases (h2 : Rep w ok (.fn _ _) z); rfl
 ·rcases h2 with ⟨b, _, _, rfl⟩ | ⟨b, el, e, cap, _, rfl⟩ <;> rfl

theorem addr_add (ad : Addr) (m n : Nat) : (ad.add m).add n = ad.add (m + n) := by
 unfold Addr.add
 by_cases hm : m = 0 <;> by_cases hn : n = 0 <;> simp [hm, hn, Nat.add_assoc]
theorem rep_drop {cs : List V} {ad : Addr} {m : Nat} (hr : Rep w ok (.ptr cs) (.pointer (some ad))) : Rep w ok (.ptr (cs.drop m)) (.pointer (some (ad.add m))) := by
 cases hr with
 | ptr u ha hr hp =>
  refine .ptr (fun j => u (m + j)) (by rw [add_block]; exact ha) (fun j p h1 => ?_) (fun j p h1 => ?_)
  ·rw [List.getElem?_drop] at h1
   rw [addr_add]
   exact hr _ _ h1
  ·rw [List.getElem?_drop] at h1
   exact hp _ _ h1

theorem y_fad {o : Oper} {t : TypeId} {x : Operand} {x' : X} {f off : Nat} {fs : Array Field} {fd : Field} {p q : V} (ho : o.op = .fieldAddr t x f) (ht : P.underlying t = some (.struct fs)) (hf : fs[f]? = some fd) (hoff : fd.offset = off) {m : Nat} (hm : sizeT P fd.type (m + 1) = true) (hx : xok x x' = true) (hg : GOk w ok loc a g)
  (ex : x'.ev g = some (.one p)) (hq : (match p with | .ref s i j => some (V.ref s i (j + off)) | .ptr cs => some (V.ptr (cs.drop off)) | _ => none) = some q) : Yld P w ok loc a o (.one q) := by
 have h1 : RV w ok loc p (a.eval x) := xok_rs hx hg ex
 have key : ∀ ad, a.eval x = .pointer (some ad) → (execOp a.eval o).run P w = .ok (.value (.pointer (some (ad.add off)))) w := by
  intro ad had
  unfold execOp
  rw [ho]
  simp [had, Instr.fieldAt, Instr.sureAddr, run_underlying ht, hf, fieldPlace, run_sizeOf hm, hoff]
 cases p with
 | ref s i j =>
  cases hq
  rcases h1 with ⟨b, g1, g2, g3⟩ | ⟨b, el, e, cap, g1, g3⟩
  ·exact ⟨_, key _ g3, .inl ⟨b, g1, g2, by rw [Addr.add_lit]⟩⟩
  ·exact ⟨_, key _ g3, .inr ⟨b, el, e, cap, g1, by rw [Addr.add_lit, Nat.add_assoc]⟩⟩
 | ptr cs =>
  cases hq
  generalize hz : a.eval x = z at h1
  cases (h1 : Rep w ok (.ptr cs) z) with
  | ptr u ha hr hp => exact ⟨_, key _ hz, Rep.rv (loc := loc) (rep_drop (.ptr u ha hr hp))⟩
 | _ => cases hq

theorem y_fld {o : Oper} {t : TypeId} {x : Operand} {x' : X} {f off n : Nat} {ag : Bool} {fs : Array Field} {fd : Field} {vs ws : List V} {s : S} (ho : o.op = .field t x f) (ht : P.underlying t = some (.struct fs)) (hf : fs[f]? = some fd) (hoff : fd.offset = off) (ha : aggT P fd.type ag = true) (hn : (if ag then sizeT P fd.type n else n == 1) = true) (hx : xok x x' = true) (hg : GOk w ok loc a g)
  (ex : x'.ev g = some (.agg vs)) (hw : sub vs off n = some ws) (hs : shape ag ws = some s) : Yld P w ok loc a o s := by
 obtain ⟨cs, h1, h2⟩ := xok_rs hx hg ex
 obtain ⟨v, hv, hr⟩ := run_part (P := P) ha hn hw hs h2
 refine ⟨v, ?_, hr⟩
 unfold execOp
 rw [ho]
 simp [h1, Instr.field, run_underlying ht, hf, asAgg, hoff, hv]

theorem asI_spec {i : Operand} {i' : X} {n : Int} (hi : xok i i' = true) (hg : GOk w ok loc a g) (ei : asI (i'.ev g) = some n) : ∃ k, a.eval i = .int k n := by
 unfold asI at ei
 split at ei
 ·rename_i k m hq
  cases ei
  exact ⟨k, rs_int (xok_rs hi hg hq)⟩
 ·cases ei

theorem y_iad_row {o : Oper} {t el : TypeId} {x i : Operand} {x' i' : X} {e : Nat} {n : Int} {xs : List (List V)} {y : List V} (ho : o.op = .indexAddr t x i) (ht : P.underlying t = some (.slice el)) (hs : sizeT P el e = true) (hx : xok x x' = true) (hi : xok i i' = true) (hg : GOk w ok loc a g)
  (ex : x'.ev g = some (.one (.row xs))) (ei : asI (i'.ev g) = some n) (h0 : 0 ≤ n) (h1 : n < xs.length) (hy : xs[n.toNat]? = some y) (hl : y.length = e) : Yld P w ok loc a o (.one (.ptr y)) := by
 obtain ⟨k, hk⟩ := asI_spec hi hg ei
 have hr : Rep w ok (.row xs) (a.eval x) := xok_rs hx hg ex
 generalize hz : a.eval x = z at hr
 cases hr with
 | row0 A c => simp at h1; omega
 | row u hn hne hc ha he hr hp =>
  rename_i ad n' c e'
  have hee : e' = e := by rw [← he y (List.mem_of_getElem? hy)]; exact hl
  subst hee
  refine ⟨.pointer (some (ad.add (n.toNat * e'))), ?_, Rep.rv (loc := loc) (.ptr (fun j => u n.toNat j) (by rw [add_block]; exact ha) (fun j p hj => ?_) (fun j p hj => hp _ _ _ _ hy hj))⟩
  ·unfold execOp
   rw [ho]
   have h2 : (n' : Int) = xs.length := by rw [hn]
   simp [hz, hk, Instr.indexAt, asIntOf, run_underlying ht, h0, h2, h1, run_sizeOf hs]
  ·rw [addr_add]
   exact hr _ _ _ _ hy hj

theorem y_iad_sl {o : Oper} {t el : TypeId} {x i : Operand} {x' i' : X} {e : Nat} {n : Int} {s off len el' : Nat} {xs : List (List V)} (ho : o.op = .indexAddr t x i) (ht : P.underlying t = some (.slice el)) (hs : sizeT P el e = true) (hx : xok x x' = true) (hi : xok i i' = true) (hg : GOk w ok loc a g) (hh : HOk w ok loc h)
  (ex : x'.ev g = some (.one (.sl s off len))) (ei : asI (i'.ev g) = some n) (hq : h s = some (.rows el' e xs)) (h0 : 0 ≤ n) (h1 : n < len) : Yld P w ok loc a o (.one (.ref s (off + n.toNat) 0)) := by
 obtain ⟨k, hk⟩ := asI_spec hi hg ei
 rcases (xok_rs hx hg ex : RV w ok loc (.sl s off len) (a.eval x)) with ⟨b, el2, e2, cap, g1, g2, g3⟩ | ⟨g1, g2, g3, g4⟩
 ·obtain ⟨e1, e2', _⟩ := hh _ _ _ g1 hq
  subst e2'
  refine ⟨.pointer (some ⟨b, (off + n.toNat) * e + 0, none⟩), ?_, .inr ⟨b, el2, e, cap, g1, rfl⟩⟩
  unfold execOp
  rw [ho]
  simp [g3, hk, Instr.indexAt, asIntOf, run_underlying ht, h0, h1, run_sizeOf hs, Addr.add_lit, Nat.add_mul]
 ·subst g3; omega

theorem y_iada_ref {o : Oper} {t el : TypeId} {x i : Operand} {x' i' : X} {e len : Nat} {n : Int} {s j c : Nat} {vs : List V} (ho : o.op = .indexAddr t x i) (ht : P.underlying t = some (.array len el)) (hs : sizeT P el e = true) (hx : xok x x' = true) (hi : xok i i' = true) (hg : GOk w ok loc a g) (hh : HOk w ok loc h)
  (ex : x'.ev g = some (.one (.ref s c j))) (ei : asI (i'.ev g) = some n) (hq : h s = some (.box vs)) (h0 : 0 ≤ n) (h1 : n < len) : Yld P w ok loc a o (.one (.ref s c (j + n.toNat * e))) := by
 obtain ⟨k, hk⟩ := asI_spec hi hg ei
 rcases (xok_rs hx hg ex : RV w ok loc (.ref s c j) (a.eval x)) with ⟨b, g1, g2, g3⟩ | ⟨b, el', e', cap, g1, g3⟩
 ·refine ⟨.pointer (some ⟨b, j + n.toNat * e, none⟩), ?_, .inl ⟨b, g1, g2, rfl⟩⟩
  unfold execOp
  rw [ho]
  simp [g3, hk, Instr.indexAt, asIntOf, run_underlying ht, Instr.sureAddr, h0, h1, run_sizeOf hs, Addr.add_lit]
 ·exact (hh _ _ _ g1 hq).elim
theorem y_iada_ptr {o : Oper} {t el : TypeId} {x i : Operand} {x' i' : X} {e len : Nat} {n : Int} {cs : List V} (ho : o.op = .indexAddr t x i) (ht : P.underlying t = some (.array len el)) (hs : sizeT P el e = true) (hx : xok x x' = true) (hi : xok i i' = true) (hg : GOk w ok loc a g)
  (ex : x'.ev g = some (.one (.ptr cs))) (ei : asI (i'.ev g) = some n) (h0 : 0 ≤ n) (h1 : n < len) : Yld P w ok loc a o (.one (.ptr (cs.drop (n.toNat * e)))) := by
 obtain ⟨k, hk⟩ := asI_spec hi hg ei
 have hr : Rep w ok (.ptr cs) (a.eval x) := xok_rs hx hg ex
 generalize hz : a.eval x = z at hr
 cases hr with
 | ptr u ha hr hp =>
  rename_i ad
  refine ⟨_, ?_, Rep.rv (loc := loc) (rep_drop (.ptr u ha hr hp))⟩
  unfold execOp
  rw [ho]
  simp [hz, hk, Instr.indexAt, asIntOf, run_underlying ht, Instr.sureAddr, h0, h1, run_sizeOf hs]

theorem y_idx {o : Oper} {t el : TypeId} {x i : Operand} {x' i' : X} {ag : Bool} {e len : Nat} {n : Int} {vs ws : List V} {s : S} (ho : o.op = .index t x i) (ht : P.underlying t = some (.array len el)) (hs : sizeT P el e = true) (ha : aggT P el ag = true) (hn : (if ag then sizeT P el e else e == 1) = true) (hx : xok x x' = true) (hi : xok i i' = true) (hg : GOk w ok loc a g)
  (ex : x'.ev g = some (.agg vs)) (ei : asI (i'.ev g) = some n) (h0 : 0 ≤ n) (h1 : n < len) (hw : sub vs (n.toNat * e) e = some ws) (hsh : shape ag ws = some s) : Yld P w ok loc a o s := by
 obtain ⟨k, hk⟩ := asI_spec hi hg ei
 obtain ⟨cs, g1, g2⟩ := xok_rs hx hg ex
 obtain ⟨v, hv, hr⟩ := run_part (P := P) ha hn hw hsh g2
 refine ⟨v, ?_, hr⟩
 unfold execOp
 rw [ho]
 simp [g1, hk, Instr.index, asIntOf, run_underlying ht, h0, h1, run_sizeOf hs, hv]

theorem y_ext {o : Oper} {x : Operand} {x' : X} {i : Nat} {xs : List S} {s : S} (ho : o.op = .extract x i) (hx : xok x x' = true) (hg : GOk w ok loc a g) (ex : x'.ev g = some (.tup xs)) (hs : xs[i]? = some s) : Yld P w ok loc a o s := by
 obtain ⟨us, h1, h2, h3⟩ := xok_rs hx hg ex
 have hlt : i < us.size := by rw [h2]; exact (List.getElem?_eq_some_iff.1 hs).1
 have h4 := h3 i s us[i] hs (by simp [hlt])
 refine ⟨us[i], ?_, ?_⟩
 ·unfold execOp
  rw [ho]
  simp [h1, Instr.extract, hlt]
 ·cases s <;> first | exact h4 | exact h4.elim

theorem y_len {o : Oper} {t el : TypeId} {x : Operand} {x' : X} {ts : Array TypeId} {p : V} {n : Nat} (ho : o.op = .call { callee := .builtin .len, args := #[x], argTypes := #[t] }) (ht : P.underlying t = some (.slice el)) (hx : xok x x' = true) (hg : GOk w ok loc a g) (ex : x'.ev g = some (.one p))
  (hp : (match p with | .row xs => some xs.length | .sl _ _ m => some m | _ => none) = some n) : Yld P w ok loc a o (.one (.int .i64 n)) := by
 have hr : RV w ok loc p (a.eval x) := xok_rs hx hg ex
 have key : ∃ A c, a.eval x = .slice A n c := by
  cases p with
  | row xs =>
   cases hp
   generalize a.eval x = z at hr
   cases (hr : Rep w ok (.row xs) z) with
   | row0 A c => exact ⟨_, _, rfl⟩
   | row u hn _ _ _ _ _ _ => exact ⟨_, _, by rw [hn]⟩
  | sl s off m =>
   cases hp
   rcases hr with ⟨b, el2, e2, cap, g1, g2, g3⟩ | ⟨g1, g2, g3, g4⟩
   ·exact ⟨_, _, g3⟩
   ·exact ⟨_, _, by rw [g4, g3]⟩
  | _ => cases hp
 obtain ⟨A, c, hz⟩ := key
 refine ⟨_, ?_, to_int⟩
 unfold execOp
 rw [ho]
 simp [resolve, invoke, builtin, hz, Builtin.len_, run_underlying ht, goInt]

theorem y_mx {o : Oper} {x y : Operand} {x' y' : X} {ts : Array TypeId} {k : IntKind} {m n : Int} (ho : o.op = .call { callee := .builtin .max, args := #[x, y], argTypes := ts }) (hx : xok x x' = true) (hy : xok y y' = true) (hg : GOk w ok loc a g)
  (ex : x'.ev g = some (.one (.int k m))) (ey : y'.ev g = some (.one (.int k n))) : Yld P w ok loc a o (.one (.int k (if n > m then n else m))) := by
 have h1 := rs_int (xok_rs hx hg ex)
 have h2 := rs_int (xok_rs hy hg ey)
 refine ⟨_, ?_, to_int⟩
 unfold execOp
 rw [ho]
 simp [resolve, invoke, builtin, h1, h2, Builtin.max_, Builtin.max2, List.foldlM]
theorem y_mx3 {o : Oper} {x y z : Operand} {x' y' z' : X} {ts : Array TypeId} {k : IntKind} {m n q : Int} (ho : o.op = .call { callee := .builtin .max, args := #[x, y, z], argTypes := ts }) (hx : xok x x' = true) (hy : xok y y' = true) (hz : xok z z' = true) (hg : GOk w ok loc a g)
  (ex : x'.ev g = some (.one (.int k m))) (ey : y'.ev g = some (.one (.int k n))) (ez : z'.ev g = some (.one (.int k q))) : Yld P w ok loc a o (.one (.int k (if q > (if n > m then n else m) then q else (if n > m then n else m)))) := by
 have h1 := rs_int (xok_rs hx hg ex)
 have h2 := rs_int (xok_rs hy hg ey)
 have h3 := rs_int (xok_rs hz hg ez)
 refine ⟨_, ?_, to_int⟩
 unfold execOp
 rw [ho]
 simp [resolve, invoke, builtin, h1, h2, h3, Builtin.max_, Builtin.max2, List.foldlM]
theorem y_mn {o : Oper} {x y : Operand} {x' y' : X} {ts : Array TypeId} {k : IntKind} {m n : Int} (ho : o.op = .call { callee := .builtin .min, args := #[x, y], argTypes := ts }) (hx : xok x x' = true) (hy : xok y y' = true) (hg : GOk w ok loc a g)
  (ex : x'.ev g = some (.one (.int k m))) (ey : y'.ev g = some (.one (.int k n))) : Yld P w ok loc a o (.one (.int k (if n < m then n else m))) := by
 have h1 := rs_int (xok_rs hx hg ex)
 have h2 := rs_int (xok_rs hy hg ey)
 refine ⟨_, ?_, to_int⟩
 unfold execOp
 rw [ho]
 simp [resolve, invoke, builtin, h1, h2, Builtin.min_, Builtin.min2, List.foldlM]
end
end Go.Proofs.YtdflglehippoiaaGreatDoorR
namespace Go.Proofs.YtdflglehippoiaaGreatDoorR
open Go Go.RowKit

section
variable {P : Program} {w w' : World} {ok0 : Nat → Prop} {loc locN : Locs} {w0 : World}
theorem or_some {s : Nat} {l : Loc} (h : loc.or locN s = some l) : locN s = some l ∨ (locN s = none ∧ loc s = some l) := by
 change (match locN s with | some l => some l | none => loc s) = some l at h
 cases hq : locN s with
 | some m => rw [hq] at h; exact .inl h
 | none => rw [hq] at h; exact .inr ⟨rfl, h⟩
theorem okx (hb : Below w.heap.size w w') (hlo : ∀ s l b, locN s = some l → l.blk = some b → w.heap.size ≤ b) (b : Nat) (h : okI w0 ok0 w loc b) : okI w0 ok0 w' (loc.or locN) b ∧ w'.heap[b]? = w.heap[b]? := by
 refine ⟨⟨h.1, by have := h.2.1; have := hb.size; omega, fun s l hl hbk => ?_⟩, hb.block b h.2.1⟩
 rcases or_some hl with h1 | ⟨_, h1⟩
 ·have := hlo s l b h1 hbk
  have := h.2.1
  omega
 ·exact h.2.2 s l h1 hbk
end

section
variable {P : Program} {n : Nat} {Γ : Ent} {w0 : World} {ok0 : Nat → Prop} {loc : Locs} {st : St} {a : Act} {w : World} {o : Oper} {next : Act → World → Prop} {Q : Exit → Act → World → Prop}

theorem look_one {α : Type} (k : Nat) (v : α) (s : Nat) : look [(k, v)] s = if k = s then some v else none := rfl

theorem Inv.new1 (I : Inv n Γ w0 ok0 loc st a w) (k : Nat) (B : Blk) (l : Loc) (hk : (look st.hp k).isSome = false) (w' : World) (hb : Below w.heap.size w w') (hlo : ∀ b, l.blk = some b → w.heap.size ≤ b ∧ b < w'.heap.size)
  (hB : HB w' (okI w0 ok0 w' (loc.or fun s => if s = k then some l else none)) (loc.or fun s => if s = k then some l else none) l B) (d : Option Nat) (hd : ∀ t, d = some t → t < n) (s : S) (v : Value)
  (hs : RS w' (okI w0 ok0 w' (loc.or fun s => if s = k then some l else none)) (loc.or fun s => if s = k then some l else none) s v) :
  Inv n Γ w0 ok0 (loc.or fun s => if s = k then some l else none) { sl := (st.put d s).sl, hp := [(k, B)] ++ st.hp } (a.put d v) w' := by
 refine I.ext hb _ _ (fun s => ?_) (fun s h => ?_) (fun s m b h1 h2 => ?_) (fun s s' m m' b h1 h2 _ _ => ?_) (fun s m B' h1 h2 => ?_) d hd s v hs
 ·rw [look_one]
  by_cases h : s = k
  ·subst h; simp
  ·rw [if_neg h, if_neg (fun e => h e.symm)]; rfl
 ·rw [look_one] at h
  split at h
  ·rename_i e; subst e; exact hk
  ·cases h
 ·(try dsimp only at h1)
  split at h1
  ·cases h1; exact hlo b h2
  ·cases h1
 ·(try dsimp only at h1); (try dsimp only at h2)
  split at h1
  ·split at h2
   ·rename_i e1 e2; rw [e1, e2]
   ·cases h2
  ·cases h1
 ·(try dsimp only at h1)
  split at h1
  ·rename_i e
   subst e
   cases h1
   rw [look_one, if_pos rfl] at h2
   cases h2
   exact hB
  ·cases h1

theorem below_new (w : World) (x : Obj) : Below w.heap.size w (w.alloc x) := (Below.refl _ _).alloc (Nat.le_refl _) _

theorem or_at (l : Loc) (k : Nat) : (loc.or fun s => if s = k then some l else none) k = some l := by
 show (match (if k = k then some l else none : Option Loc) with | some l => some l | none => loc k) = some l
 rw [if_pos rfl]
theorem or_old (I : Inv n Γ w0 ok0 loc st a w) {k : Nat} (hk : (look st.hp k).isSome = false) (l : Loc) {s : Nat} {m : Loc} (h : loc s = some m) : (loc.or fun s => if s = k then some l else none) s = some m := by
 show (match (if s = k then some l else none : Option Loc) with | some l => some l | none => loc s) = some m
 have hne : s ≠ k := by
  intro e
  subst e
  have := I.hp.dom s
  rw [h, hk] at this
  cases this
 rw [if_neg hne]
 exact h

theorem Inv.newbox (I : Inv n Γ w0 ok0 loc st a w) (k : Nat) (hk : (look st.hp k).isSome = false) (vs : List V) (cs : Array Value) (el : TypeId) (hr : RVs w (okI w0 ok0 w loc) loc vs cs.toList) (d : Option Nat) (hd : ∀ t, d = some t → t < n) :
  Inv n Γ w0 ok0 (loc.or fun s => if s = k then some (.box w.heap.size) else none) { sl := (st.put d (.one (.ref k 0 0))).sl, hp := [(k, .box vs)] ++ st.hp } (a.put d (.pointer (some ⟨w.heap.size, 0, none⟩))) (w.alloc (.cells cs el)) := by
 have hb := below_new w (.cells cs el)
 have hlo : ∀ b, (Loc.box w.heap.size).blk = some b → w.heap.size ≤ b ∧ b < (w.alloc (.cells cs el)).heap.size := by
  intro b h; cases h; exact ⟨Nat.le_refl _, by simp⟩
 refine I.new1 k (.box vs) (.box w.heap.size) hk _ hb hlo ⟨cs, el, heap_alloc_new w _, hr.mono (fun b h => okx hb (fun s l b h1 h2 => ?_) b h) (fun s m _ h => or_old I hk _ h)⟩ d hd _ _ (.inl ⟨_, or_at _ _, rfl, rfl⟩)
 split at h1
 ·cases h1; exact (hlo b h2).1
 ·cases h1

def Els (w : World) (ok : Nat → Prop) (e : Nat) (xs : List (List V)) (cs : List Value) : Prop :=
 (∀ x ∈ xs, x.length = e) ∧ cs.length = xs.length * e ∧ (∀ i j x p, xs[i]? = some x → x[j]? = some p → ∃ u, cs[i * e + j]? = some u ∧ Rep w ok p u) ∧ ∀ c ∈ cs, c.oneCell' = true
theorem Els.mono {w w' : World} {ok ok' : Nat → Prop} {e : Nat} {xs : List (List V)} {cs : List Value} (h : Els w ok e xs cs) (hok : ∀ b, ok b → ok' b ∧ w'.heap[b]? = w.heap[b]?) : Els w' ok' e xs cs :=
 ⟨h.1, h.2.1, fun i j x p h1 h2 => let ⟨u, hu, hr⟩ := h.2.2.1 i j x p h1 h2; ⟨u, hu, hr.mono hok⟩, h.2.2.2⟩

theorem Inv.newrows (I : Inv n Γ w0 ok0 loc st a w) (k : Nat) (hk : (look st.hp k).isSome = false) (el e : Nat) (xs : List (List V)) (cs : Array Value) (hr : Els w (okI w0 ok0 w loc) e xs cs.toList) (hm : xs.length ≤ maxLen) (d : Option Nat) (hd : ∀ t, d = some t → t < n) :
  Inv n Γ w0 ok0 (loc.or fun s => if s = k then some (.rows w.heap.size el e xs.length) else none) { sl := (st.put d (.one (.sl k 0 xs.length))).sl, hp := [(k, .rows el e xs)] ++ st.hp } (a.put d (.slice (some ⟨w.heap.size, 0, none⟩) xs.length xs.length)) (w.alloc (.cells cs el)) := by
 have hb := below_new w (.cells cs el)
 have hlo : ∀ b, (Loc.rows w.heap.size el e xs.length).blk = some b → w.heap.size ≤ b ∧ b < (w.alloc (.cells cs el)).heap.size := by
  intro b h; cases h; exact ⟨Nat.le_refl _, by simp⟩
 have hr' := hr.mono (fun b h => okx (w0 := w0) (ok0 := ok0) (loc := loc) (locN := fun s => if s = k then some (.rows w.heap.size el e xs.length) else none) hb (fun s l b h1 h2 => by
  (try dsimp only at h1)
  split at h1
  ·cases h1; exact (hlo b h2).1
  ·cases h1) b h)
 refine I.new1 k (.rows el e xs) (.rows w.heap.size el e xs.length) hk _ hb hlo ⟨rfl, rfl, hm, Nat.le_refl _, hr'.1, cs, heap_alloc_new w _, by have := hr'.2.1; simpa using this, fun i j x p h1 h2 => ?_⟩ d hd _ _ (.inl ⟨_, el, e, xs.length, or_at _ _, by omega, by rw [Nat.zero_mul, Nat.sub_zero]⟩)
 obtain ⟨u, hu, hq⟩ := hr'.2.2.1 i j x p h1 h2
 exact ⟨u, by simpa using hu, hq⟩

theorem Inv.newroom (I : Inv n Γ w0 ok0 loc st a w) (k : Nat) (hk : (look st.hp k).isSome = false) (el e : Nat) (xs : List (List V)) (cs : Array Value) (cap : Nat) {w' : World} (hb : Below w.heap.size w w') (hw' : w'.heap[w.heap.size]? = some (.cells cs el (0, 0))) (hsz : w.heap.size < w'.heap.size)
  (hx : ∀ x ∈ xs, x.length = e) (hcs : cs.size = cap * e) (hr : ∀ i j x p, xs[i]? = some x → x[j]? = some p → ∃ u, cs[i * e + j]? = some u ∧ Rep w (okI w0 ok0 w loc) p u) (hm : xs.length ≤ cap) (hcm : cap ≤ maxLen) (d : Option Nat) (hd : ∀ t, d = some t → t < n) :
  Inv n Γ w0 ok0 (loc.or fun s => if s = k then some (.rows w.heap.size el e cap) else none) { sl := (st.put d (.one (.sl k 0 xs.length))).sl, hp := [(k, .rows el e xs)] ++ st.hp } (a.put d (.slice (some ⟨w.heap.size, 0, none⟩) xs.length cap)) w' := by
 have hlo : ∀ b, (Loc.rows w.heap.size el e cap).blk = some b → w.heap.size ≤ b ∧ b < w'.heap.size := by
  intro b h; cases h; exact ⟨Nat.le_refl _, hsz⟩
 have hok : ∀ b, okI w0 ok0 w loc b → okI w0 ok0 w' (loc.or fun s => if s = k then some (.rows w.heap.size el e cap) else none) b ∧ w'.heap[b]? = w.heap[b]? := fun b h => okx (w0 := w0) (ok0 := ok0) (loc := loc) (locN := fun s => if s = k then some (.rows w.heap.size el e cap) else none) hb (fun s l b h1 h2 => by
  (try dsimp only at h1)
  split at h1
  ·cases h1; exact (hlo b h2).1
  ·cases h1) b h
 refine I.new1 k (.rows el e xs) (.rows w.heap.size el e cap) hk _ hb hlo ⟨rfl, rfl, hcm, hm, hx, cs, hw', hcs, fun i j x p h1 h2 => ?_⟩ d hd _ _ (.inl ⟨_, el, e, cap, or_at _ _, by omega, by rw [Nat.zero_mul, Nat.sub_zero]⟩)
 obtain ⟨u, hu, hq⟩ := hr i j x p h1 h2
 exact ⟨u, hu, hq.mono hok⟩

theorem Inv.newnil (I : Inv n Γ w0 ok0 loc st a w) (k : Nat) (hk : (look st.hp k).isSome = false) (el e : Nat) (d : Option Nat) (hd : ∀ t, d = some t → t < n) :
  Inv n Γ w0 ok0 (loc.or fun s => if s = k then some .virt else none) { sl := (st.put d (.one (.sl k 0 0))).sl, hp := [(k, .rows el e [])] ++ st.hp } (a.put d (.slice none 0 0)) w :=
 I.new1 k (.rows el e []) .virt hk _ (Below.refl _ _) (fun b h => by cases h) rfl d hd _ _ (.inr ⟨or_at _ _, rfl, rfl, rfl⟩)

theorem Inv.gok (I : Inv n Γ w0 ok0 loc st a w) {g : Nat → Option S} (hg : ∀ t s, g t = some s → look st.sl t = some s) : GOk w (okI w0 ok0 w loc) loc a g := fun t s h => (I.sl t s (hg t s h)).2
theorem Inv.hok (I : Inv n Γ w0 ok0 loc st a w) {h : Nat → Option Blk} (hh : ∀ s B, h s = some B → look st.hp s = some B) : HOk w (okI w0 ok0 w loc) loc h := fun s l B h1 h2 => I.hp.blk s l B h1 (hh s B h2)
end

section
variable {P : Program} {w : World} {ok : Nat → Prop} {loc : Locs} {a : Act} {g : Nat → Option S}
theorem cells_rvs {s : S} {vs : List V} {x : Value} (h : RS w ok loc s x) (hc : s.cells = some vs) : RVs w ok loc vs x.cells.toList ∧ ∀ c ∈ x.cells.toList, c.oneCell' = true := by
 cases s with
 | one v =>
  simp only [S.cells, Option.some.injEq] at hc
  subst hc
  have h1 : x.oneCell' = true := RV.one h
  have hx : x.cells = #[x] := by cases x <;> first | rfl | cases h1
  rw [hx]
  refine ⟨⟨rfl, fun j v' c g1 g2 => ?_⟩, fun c hc => by simp at hc; subst hc; exact h1⟩
  cases j with
  | zero => simp at g1 g2; subst g1; subst g2; exact h
  | succ j => simp at g1
 | agg ws =>
  simp only [S.cells, Option.some.injEq] at hc
  subst hc
  obtain ⟨cs, rfl, h2⟩ := h
  refine ⟨h2, fun c hc => ?_⟩
  obtain ⟨j, hj⟩ := List.getElem?_of_mem hc
  have hlt : j < ws.length := by rw [h2.1]; exact (List.getElem?_eq_some_iff.1 hj).1
  exact RV.one (h2.2 j _ c (List.getElem?_eq_getElem hlt) hj)
 | undef => cases hc
 | tup xs => cases hc
theorem setAt_length : ∀ (ws vs : List V) (off : Nat), (setAt vs off ws).length = vs.length
 | [], _, _ => rfl
 | x :: r, vs, off => by rw [setAt, setAt_length r, List.length_set]
theorem setAt_get : ∀ (ws vs : List V) (off : Nat), off + ws.length ≤ vs.length → ∀ j, (setAt vs off ws)[j]? = if off ≤ j ∧ j < off + ws.length then ws[j - off]? else vs[j]?
 | [], vs, off, _, j => by rw [setAt, if_neg (by simp only [List.length_nil]; omega)]
 | x :: r, vs, off, h, j => by
  simp only [List.length_cons] at h
  rw [setAt, setAt_get r _ _ (by rw [List.length_set]; omega) j]
  by_cases h1 : off + 1 ≤ j ∧ j < off + 1 + r.length
  ·rw [if_pos h1, if_pos (by simp only [List.length_cons]; omega), show j - off = (j - (off + 1)) + 1 by omega, List.getElem?_cons_succ]
  ·rw [if_neg h1, List.getElem?_set]
   by_cases h2 : off = j
   ·subst h2
    rw [if_pos rfl, if_pos (by omega), if_pos (by simp), Nat.sub_self, List.getElem?_cons_zero]
   ·rw [if_neg h2, if_neg (by simp only [List.length_cons]; omega)]
theorem fold_set : ∀ (cs : List Value) (k off : Nat) (A : Array Value), (((cs.zipIdx k).foldl (fun (cs : Array Value) (p : Value × Nat) => cs.setIfInBounds (off + p.2) p.1) A).toList) = (cs.zipIdx k).foldl (fun (l : List Value) p => l.set (off + p.2) p.1) A.toList
 | [], _, _, _ => rfl
 | c :: r, k, off, A => by
  simp only [List.zipIdx_cons, List.foldl_cons]
  rw [fold_set r (k + 1) off, Array.toList_setIfInBounds]
def setAtL (vs : List Value) (off : Nat) : List Value → List Value
 | [] => vs
 | x :: r => setAtL (vs.set off x) (off + 1) r
theorem fold_setL : ∀ (cs : List Value) (k off : Nat) (l : List Value), (cs.zipIdx k).foldl (fun (l : List Value) p => l.set (off + p.2) p.1) l = setAtL l (off + k) cs
 | [], _, _, _ => rfl
 | c :: r, k, off, l => by
  simp only [List.zipIdx_cons, List.foldl_cons, setAtL]
  rw [fold_setL r (k + 1) off, Nat.add_assoc]
theorem setAtL_length : ∀ (ws vs : List Value) (off : Nat), (setAtL vs off ws).length = vs.length
 | [], _, _ => rfl
 | x :: r, vs, off => by rw [setAtL, setAtL_length r, List.length_set]
theorem setAtL_get : ∀ (ws vs : List Value) (off : Nat), off + ws.length ≤ vs.length → ∀ j, (setAtL vs off ws)[j]? = if off ≤ j ∧ j < off + ws.length then ws[j - off]? else vs[j]?
 | [], vs, off, _, j => by rw [setAtL, if_neg (by simp only [List.length_nil]; omega)]
 | x :: r, vs, off, h, j => by
  simp only [List.length_cons] at h
  rw [setAtL, setAtL_get r _ _ (by rw [List.length_set]; omega) j]
  by_cases h1 : off + 1 ≤ j ∧ j < off + 1 + r.length
  ·rw [if_pos h1, if_pos (by simp only [List.length_cons]; omega), show j - off = (j - (off + 1)) + 1 by omega, List.getElem?_cons_succ]
  ·rw [if_neg h1, List.getElem?_set]
   by_cases h2 : off = j
   ·subst h2
    rw [if_pos rfl, if_pos (by omega), if_pos (by simp), Nat.sub_self, List.getElem?_cons_zero]
   ·rw [if_neg h2, if_neg (by simp only [List.length_cons]; omega)]
theorem setAtL_mem {c : Value} : ∀ (ws vs : List Value) (off : Nat), c ∈ setAtL vs off ws → c ∈ vs ∨ c ∈ ws
 | [], _, _, h => .inl h
 | x :: r, vs, off, h => by
  rcases setAtL_mem r _ _ h with h1 | h1
  ·rcases List.mem_or_eq_of_mem_set h1 with h2 | h2
   ·exact .inl h2
   ·exact .inr (by rw [h2]; exact List.mem_cons_self ..)
  ·exact .inr (List.mem_cons_of_mem _ h1)
theorem fold_toList (A : Array Value) (off : Nat) (x : Value) : (x.cells.zipIdx.foldl (fun (cs : Array Value) (p : Value × Nat) => cs.setIfInBounds (off + p.2) p.1) A).toList = setAtL A.toList off x.cells.toList := by
 rw [← Array.foldl_toList, Array.toList_zipIdx]
 have h := fold_set x.cells.toList 0 off A
 rw [fold_setL] at h
 exact h
theorem setAt_rvs {vs ws : List V} {cs ds : List Value} {off : Nat} (h : RVs w ok loc vs cs) (h' : RVs w ok loc ws ds) (hl : off + ws.length ≤ vs.length) : RVs w ok loc (setAt vs off ws) (setAtL cs off ds) := by
 refine ⟨by rw [setAt_length, setAtL_length, h.1], fun j v c h1 h2 => ?_⟩
 rw [setAt_get ws vs off hl] at h1
 rw [setAtL_get ds cs off (by rw [← h.1, ← h'.1]; exact hl), ← h'.1] at h2
 split at h1
 ·rename_i hc
  rw [if_pos hc] at h2
  exact h'.2 _ _ _ h1 h2
 ·rename_i hc
  rw [if_neg hc] at h2
  exact h.2 _ _ _ h1 h2
def partOk (place : Nat → Option (Nat × Nat)) : List (Nat × Operand) → List (Nat × Nat × X) → Bool
 | [], [] => true
 | (i, x) :: r, (off, n, y) :: q => (match place i with | some (o, m) => o == off && m == n | none => false) && xok x y && partOk place r q
 | _, _ => false
theorem fill_rvs (hg : GOk w ok loc a g) (place : Nat → Option (Nat × Nat)) : ∀ (ps : List (Nat × Operand)) (qs : List (Nat × Nat × X)) (A : Array Value) (vs ws : List V), partOk place ps qs = true → RVs w ok loc vs A.toList → fillV g vs qs = some ws →
  ∃ B : Array Value, Instr.fill place A (ps.map fun p => (p.1, a.eval p.2)) = some B ∧ RVs w ok loc ws B.toList
 | [], [], A, vs, ws, _, h, hf => by cases hf; exact ⟨A, rfl, h⟩
 | (i, x) :: r, (off, n, y) :: q, A, vs, ws, hc, h, hf => by
  simp only [partOk, Bool.and_eq_true] at hc
  obtain ⟨⟨hp, hx⟩, hr⟩ := hc
  split at hp
  ·rename_i o m hpl
   simp only [Bool.and_eq_true, beq_iff_eq] at hp
   obtain ⟨rfl, rfl⟩ := hp
   simp only [fillV] at hf
   split at hf
   ·rename_i us hus
    split at hf
    ·rename_i hl
     rw [Option.bind_eq_some_iff] at hus
     obtain ⟨s, hs1, hs2⟩ := hus
     obtain ⟨h1, h2⟩ := cells_rvs (xok_rs hx hg hs1) hs2
     have hsz : (a.eval x).cells.size = m := by have := h1.1; simp at this; omega
     have hlen : A.size = vs.length := by have := h.1; simp at this; omega
     obtain ⟨B, hB, hr'⟩ := fill_rvs hg place r q ((a.eval x).cells.zipIdx.foldl (fun (cs : Array Value) (p : Value × Nat) => cs.setIfInBounds (o + p.2) p.1) A) (setAt vs o us) ws hr (by rw [fold_toList]; exact setAt_rvs h h1 (by omega)) hf
     refine ⟨B, ?_, hr'⟩
     simp only [List.map_cons, Instr.fill, hpl]
     rw [if_neg (by simp [hsz]; omega)]
     exact hB
    ·cases hf
   ·cases hf
  ·cases hp
 | [], _ :: _, _, _, _, hc, _, _ => by cases hc
 | _ :: _, [], _, _, _, hc, _, _ => by cases hc
end
end Go.Proofs.YtdflglehippoiaaGreatDoorR
namespace Go.Proofs.YtdflglehippoiaaGreatDoorR
open Go Go.RowKit

section
variable {w : World} {ok : Nat → Prop} {loc : Locs}
theorem rv_rep {v : V} {x : Value} (h : RV w ok loc v x) (hm : v.ment = none) : Rep w ok v x := by
 cases v <;> first | exact h | (simp [V.ment] at hm)
theorem ments_nil : ∀ {vs : List V}, (ments vs).isEmpty = true → ∀ v ∈ vs, v.ment = none
 | [], _, v, h => by cases h
 | a :: r, hm, v, h => by
  unfold ments at hm
  cases ha : a.ment with
  | some s => rw [ha] at hm; cases hm
  | none =>
   rw [ha] at hm
   rcases List.mem_cons.1 h with rfl | h
   ·exact ha
   ·exact ments_nil hm v h

theorem idx_lt {i j e m : Nat} (hi : i < m) (hj : j < e) : i * e + j < m * e := by
 have h1 : (i + 1) * e ≤ m * e := Nat.mul_le_mul_right e hi
 rw [Nat.add_mul, Nat.one_mul] at h1
 omega
theorem idx_apart {i i' j e : Nat} (hne : i ≠ i') (hj : j < e) : i' * e + j < i * e ∨ i * e + e ≤ i' * e + j := by
 rcases Nat.lt_or_gt_of_ne hne with h | h
 ·have h1 : (i + 1) * e ≤ i' * e := Nat.mul_le_mul_right e h
  rw [Nat.add_mul, Nat.one_mul] at h1
  omega
 ·have h1 : (i' + 1) * e ≤ i * e := Nat.mul_le_mul_right e h
  rw [Nat.add_mul, Nat.one_mul] at h1
  omega

theorem els_set {e i : Nat} {xs : List (List V)} {vs : List V} {cs ds : List Value} (h : Els w ok e xs cs) (hv : RVs w ok loc vs ds) (hd : ∀ c ∈ ds, c.oneCell' = true) (hm : (ments vs).isEmpty = true) (hl : vs.length = e) (hi : i < xs.length) : Els w ok e (xs.set i vs) (setAtL cs (i * e) ds) := by
 have hfit : i * e + ds.length ≤ cs.length := by
  rw [h.2.1, ← hv.1, hl]
  have : (i + 1) * e ≤ xs.length * e := Nat.mul_le_mul_right e hi
  rwa [Nat.add_mul, Nat.one_mul] at this
 refine ⟨fun x hx => ?_, by rw [setAtL_length, List.length_set]; exact h.2.1, fun i' j x p h1 h2 => ?_, fun c hc => ?_⟩
 ·rcases List.mem_or_eq_of_mem_set hx with h1 | h1
  ·exact h.1 x h1
  ·rw [h1]; exact hl
 ·rw [setAtL_get ds cs _ hfit, ← hv.1, hl]
  rw [List.getElem?_set] at h1
  by_cases hii : i = i'
  ·subst hii
   rw [if_pos rfl, if_pos hi] at h1
   cases h1
   have hj : j < e := by rw [← hl]; exact (List.getElem?_eq_some_iff.1 h2).1
   rw [if_pos (by omega), show i * e + j - i * e = j by omega]
   have hj' : j < ds.length := by rw [← hv.1, hl]; exact hj
   exact ⟨ds[j], List.getElem?_eq_getElem hj', rv_rep (hv.2 j p _ h2 (List.getElem?_eq_getElem hj')) (ments_nil hm p (List.mem_of_getElem? h2))⟩
  ·rw [if_neg hii] at h1
   have hj : j < e := by rw [← h.1 x (List.mem_of_getElem? h1)]; exact (List.getElem?_eq_some_iff.1 h2).1
   have := idx_apart hii hj
   rw [if_neg (by omega)]
   exact h.2.2.1 i' j x p h1 h2
 ·rcases setAtL_mem ds cs _ hc with h1 | h1
  ·exact h.2.2.2 c h1
  ·exact hd c h1

theorem els_zero {e n : Nat} {zs : List V} {z : Array Value} (hz : voks z.toList zs = true) (hl : zs.length = e) : Els w ok e (List.replicate n zs) (((Array.range (n * e)).map fun i => z[i % z.size]!).toList) := by
 have hr : RVs w ok (fun _ => none) zs z.toList := voks_rvs hz
 have hsz : z.size = e := by have := hr.1; simp at this; omega
 have hv : ∀ v ∈ zs, v.ment = none := by
  clear hr hsz hl
  generalize z.toList = cs at hz
  induction zs generalizing cs with
  | nil => intro v h; cases h
  | cons a r ih =>
   cases cs with
   | nil => cases hz
   | cons c q =>
    simp only [voks, Bool.and_eq_true] at hz
    intro v h
    rcases List.mem_cons.1 h with rfl | h
    ·have := hz.1
     unfold vok at this
     split at this <;> first | rfl | cases this
    ·exact ih q hz.2 v h
 have hone : ∀ q, q < n * e → ∃ p, zs[q % e]? = some p ∧ Rep w ok p (z[q % e]!) := by
  intro q hq
  have he : 0 < e := by
   rcases Nat.eq_zero_or_pos e with h | h
   ·subst h; simp at hq
   ·exact h
  have hlt : q % e < zs.length := by rw [hl]; exact Nat.mod_lt _ he
  refine ⟨zs[q % e], List.getElem?_eq_getElem hlt, rv_rep (hr.2 (q % e) _ _ (List.getElem?_eq_getElem hlt) ?_) (hv _ (List.getElem_mem hlt))⟩
  have : q % e < z.size := Nat.lt_of_lt_of_eq hlt (hl.trans hsz.symm)
  simp [this]
 refine ⟨fun x hx => by rw [List.eq_of_mem_replicate hx]; exact hl, by simp, fun i j x p h1 h2 => ?_, fun c hc => ?_⟩
 ·have hi : i < n := by have := (List.getElem?_eq_some_iff.1 h1).1; simpa using this
  rw [List.getElem?_replicate, if_pos hi] at h1
  cases h1
  have hj : j < e := by rw [← hl]; exact (List.getElem?_eq_some_iff.1 h2).1
  have hq := idx_lt hi hj
  obtain ⟨p', h3, h4⟩ := hone _ hq
  have hmod : (i * e + j) % e = j := by rw [Nat.add_comm, Nat.add_mul_mod_self_right, Nat.mod_eq_of_lt hj]
  rw [hmod] at h3 h4
  rw [h2] at h3
  cases h3
  refine ⟨z[j]!, ?_, h4⟩
  simp [hq, hsz, hmod]
 ·simp only [Array.toList_map, List.mem_map] at hc
  obtain ⟨q, hq, rfl⟩ := hc
  have hq' : q < n * e := by simpa using hq
  obtain ⟨p, _, h4⟩ := hone q hq'
  rw [hsz]
  exact h4.one

def partsR : List (Nat × Operand) → List (Nat × X) → Bool
 | [], [] => true
 | (i, x) :: r, (i', y) :: q => i == i' && xok x y && partsR r q
 | _, _ => false
theorem fill_els {a : Act} {g : Nat → Option S} (hg : GOk w ok loc a g) {e : Nat} : ∀ (ps : List (Nat × Operand)) (qs : List (Nat × X)) (A : Array Value) (xs ys : List (List V)), partsR ps qs = true → Els w ok e xs A.toList → fillR g e xs qs = some ys →
  ∃ B : Array Value, Instr.fill (fun i => some (i * e, e)) A (ps.map fun p => (p.1, a.eval p.2)) = some B ∧ Els w ok e ys B.toList
 | [], [], A, xs, ys, _, h, hf => by cases hf; exact ⟨A, rfl, h⟩
 | (i, x) :: r, (i', y) :: q, A, xs, ys, hc, h, hf => by
  simp only [partsR, Bool.and_eq_true, beq_iff_eq] at hc
  obtain ⟨⟨rfl, hx⟩, hr⟩ := hc
  simp only [fillR] at hf
  split at hf
  ·rename_i us hus
   split at hf
   ·rename_i hl
    rw [Option.bind_eq_some_iff] at hus
    obtain ⟨s, hs1, hs2⟩ := hus
    obtain ⟨h1, h2⟩ := cells_rvs (xok_rs hx hg hs1) hs2
    have hsz : (a.eval x).cells.size = e := by have := h1.1; simp at this; omega
    have hfit : i * e + e ≤ A.size := by
     have h3 := h.2.1
     simp at h3
     rw [h3]
     have : (i + 1) * e ≤ xs.length * e := Nat.mul_le_mul_right e hl.2.2.1
     rwa [Nat.add_mul, Nat.one_mul] at this
    obtain ⟨B, hB, hr'⟩ := fill_els hg r q ((a.eval x).cells.zipIdx.foldl (fun (cs : Array Value) (p : Value × Nat) => cs.setIfInBounds (i * e + p.2) p.1) A) (xs.set i us) ys hr (by rw [fold_toList]; exact els_set h h1 h2 hl.1 hl.2.1 hl.2.2.1) hf
    refine ⟨B, ?_, hr'⟩
    simp only [List.map_cons, Instr.fill]
    rw [if_neg (by simp [hsz]; omega)]
    exact hB
   ·cases hf
  ·cases hf
 | [], _ :: _, _, _, _, hc, _, _ => by cases hc
 | _ :: _, [], _, _, _, hc, _, _ => by cases hc

theorem pur1_rep {h : Nat → Option Blk} {ok2 : Nat → Prop} {v v' : V} {x : Value} (hh : HOk w ok loc h) (h2 : ∀ b, ok b → ok2 b) (h3 : ∀ s l b, v.ment = some s → loc s = some l → l.blk = some b → ok2 b) (hv : RV w ok loc v x) (hp : v.pur1 h = some v') : Rep w ok2 v' x := by
 cases v with
 | sl s off len =>
  simp only [V.pur1] at hp
  split at hp
  ·rename_i el e xs hq
   split at hp
   ·rename_i hl
    cases hp
    rcases hv with ⟨b, el2, e2, cap, g1, g2, rfl⟩ | ⟨g1, rfl, rfl, rfl⟩
    ·obtain ⟨e1, e2', hm, hxc, hlen, cs, hb, hcs, hr⟩ := hh _ _ _ g1 hq
     subst e2'
     cases len with
     | zero => rw [List.take_zero]; exact .row0 _ _
     | succ len =>
      have hget : ∀ (i : Nat) x, ((xs.drop off).take (len + 1))[i]? = some x → xs[off + i]? = some x := by
       intro i x hx
       rw [List.getElem?_take] at hx
       split at hx
       ·rwa [List.getElem?_drop] at hx
       ·cases hx
      refine .row (fun i j => (cs[(off + i) * e + j]?).getD undef) (by rw [List.length_take, List.length_drop]; omega) (by omega) (by omega) (h3 _ _ _ rfl g1 rfl) (fun x hx => hlen x (List.mem_of_mem_drop (List.mem_of_mem_take hx))) (fun i j x p a1 a2 => ?_) (fun i j x p a1 a2 => ?_)
      ·obtain ⟨u, hu, _⟩ := hr _ _ _ _ (hget i x a1) a2
       rw [Addr.add_lit, cell_of_row w b _ cs _ (0, 0) hb, ← Nat.add_assoc, ← Nat.add_mul]
       rw [hu]; rfl
      ·obtain ⟨u, hu, hq'⟩ := hr _ _ _ _ (hget i x a1) a2
       rw [hu]
       exact hq'.mono fun b hb => ⟨h2 b hb, rfl⟩
    ·rw [List.take_zero]; exact .row0 _ _
   ·cases hp
  ·cases hp
 | ref s i j => cases hp
 | _ => cases hp; exact Rep.mono hv fun b hb => ⟨h2 b hb, rfl⟩
theorem pur1s_rep {h : Nat → Option Blk} {ok2 : Nat → Prop} (hh : HOk w ok loc h) (h2 : ∀ b, ok b → ok2 b) (h3 : ∀ s l b, loc s = some l → l.blk = some b → ok2 b) : ∀ {vs vs' : List V} {cs : List Value}, RVs w ok loc vs cs → pur1s h vs = some vs' → vs'.length = vs.length ∧ ∀ (j : Nat) v' c, vs'[j]? = some v' → cs[j]? = some c → Rep w ok2 v' c
 | [], vs', cs, hv, hp => by cases hp; exact ⟨rfl, fun j v c h => by cases h⟩
 | a :: r, vs', [], hv, hp => by cases hv.1
 | a :: r, vs', c :: q, hv, hp => by
  simp only [pur1s] at hp
  split at hp
  ·rename_i a' ha
   split at hp
   ·rename_i r' hr
    cases hp
    obtain ⟨g1, g2⟩ := pur1s_rep hh h2 h3 (vs := r) (cs := q) ⟨by have := hv.1; simpa using this, fun j v c a1 a2 => hv.2 (j + 1) v c (by simpa using a1) (by simpa using a2)⟩ hr
    refine ⟨by simp [g1], fun j v' c' a1 a2 => ?_⟩
    cases j with
    | zero => simp at a1 a2; subst a1; subst a2; exact pur1_rep hh h2 (fun s l b _ => h3 s l b) (hv.2 0 a c rfl rfl) ha
    | succ j => exact g2 j v' c' (by simpa using a1) (by simpa using a2)
   ·cases hp
  ·cases hp
theorem pur_rep {h : Nat → Option Blk} {ok2 : Nat → Prop} (hh : HOk w ok loc h) (h2 : ∀ b, ok b → ok2 b) (h3 : ∀ s l b, loc s = some l → l.blk = some b → ok2 b) {v v' : V} {x : Value} (hv : RV w ok loc v x) (hp : v.pur h = some v') : Rep w ok2 v' x := by
 cases v with
 | ref s i j =>
  simp only [V.pur] at hp
  split at hp
  ·rename_i vs hq
   split at hp
   ·rename_i hi
    subst hi
    split at hp
    ·rename_i vs' hvs
     cases hp
     rcases hv with ⟨b, g1, _, rfl⟩ | ⟨b, el, e, cap, g1, rfl⟩
     ·obtain ⟨cs, el, hb, hr⟩ := hh _ _ _ g1 hq
      obtain ⟨k1, k2⟩ := pur1s_rep hh h2 h3 hr hvs
      have hcs : vs'.length = cs.size := by rw [k1, hr.1]; simp
      refine .ptr (fun m => (cs[j + m]?).getD undef) (h3 _ _ _ g1 rfl) (fun m p a1 => ?_) (fun m p a1 => ?_)
      ·rw [List.getElem?_drop] at a1
       have hlt : j + m < cs.size := by rw [← hcs]; exact (List.getElem?_eq_some_iff.1 a1).1
       rw [Addr.add_lit, cell_of_row w b _ cs _ (0, 0) hb]
       simp [hlt]
      ·rw [List.getElem?_drop] at a1
       have hlt : j + m < cs.size := by rw [← hcs]; exact (List.getElem?_eq_some_iff.1 a1).1
       refine k2 (j + m) p _ a1 ?_
       simp [hlt]
     ·exact (hh _ _ _ g1 hq).elim
    ·cases hp
   ·cases hp
  ·rename_i el e xs hq
   split at hp
   ·rename_i y hy
    cases hp
    rcases hv with ⟨b, g1, _, rfl⟩ | ⟨b, el', e', cap, g1, rfl⟩
    ·exact (hh _ _ _ g1 hq).elim
    ·obtain ⟨e1, e2', hm, hxc, hlen, cs, hb, hcs, hr⟩ := hh _ _ _ g1 hq
     subst e2'
     refine .ptr (fun m => (cs[i * e + (j + m)]?).getD undef) (h3 _ _ _ g1 rfl) (fun m p a1 => ?_) (fun m p a1 => ?_)
     ·rw [List.getElem?_drop] at a1
      obtain ⟨u, hu, _⟩ := hr _ _ _ _ hy a1
      rw [Addr.add_lit, cell_of_row w b _ cs _ (0, 0) hb, Nat.add_assoc, hu]
      rfl
     ·rw [List.getElem?_drop] at a1
      obtain ⟨u, hu, hq'⟩ := hr _ _ _ _ hy a1
      rw [hu]
      exact hq'.mono fun b hb => ⟨h2 b hb, rfl⟩
   ·cases hp
  ·cases hp
 | sl s off len => exact pur1_rep hh h2 (fun s l b _ => h3 s l b) hv hp
 | _ => exact pur1_rep hh h2 (fun s l b _ => h3 s l b) hv hp
theorem purs_rep {h : Nat → Option Blk} {ok2 : Nat → Prop} (hh : HOk w ok loc h) (h2 : ∀ b, ok b → ok2 b) (h3 : ∀ s l b, loc s = some l → l.blk = some b → ok2 b) (loc2 : Locs) : ∀ {vs vs' : List V} {cs : List Value}, RVs w ok loc vs cs → purs h vs = some vs' → RVs w ok2 loc2 vs' cs
 | [], vs', cs, hv, hp => by cases hp; exact ⟨hv.1, fun j v c h => by cases h⟩
 | a :: r, vs', [], hv, hp => by cases hv.1
 | a :: r, vs', c :: q, hv, hp => by
  simp only [purs] at hp
  split at hp
  ·rename_i a' ha
   split at hp
   ·rename_i r' hr
    cases hp
    obtain ⟨g1, g2⟩ := purs_rep hh h2 h3 loc2 (vs := r) (cs := q) ⟨by have := hv.1; simpa using this, fun j v c a1 a2 => hv.2 (j + 1) v c (by simpa using a1) (by simpa using a2)⟩ hr
    refine ⟨by simp [g1], fun j v' c' a1 a2 => ?_⟩
    cases j with
    | zero => simp at a1 a2; subst a1; subst a2; exact (pur_rep hh h2 h3 (hv.2 0 a c rfl rfl) ha).rv
    | succ j => exact g2 j v' c' (by simpa using a1) (by simpa using a2)
   ·cases hp
  ·cases hp
theorem spur_rs {h : Nat → Option Blk} {ok2 : Nat → Prop} (hh : HOk w ok loc h) (h2 : ∀ b, ok b → ok2 b) (h3 : ∀ s l b, loc s = some l → l.blk = some b → ok2 b) (loc2 : Locs) {s s' : S} {x : Value} (hv : RS w ok loc s x) (hp : s.pur h = some s') : RS0 w ok2 loc2 s' x := by
 cases s with
 | one v =>
  simp only [S.pur] at hp
  split at hp
  ·cases hp; exact (pur_rep hh h2 h3 hv ‹_›).rv
  ·cases hp
 | agg vs =>
  simp only [S.pur] at hp
  split at hp
  ·cases hp
   obtain ⟨cs, rfl, h4⟩ := hv
   exact ⟨cs, rfl, purs_rep hh h2 h3 loc2 h4 ‹_›⟩
  ·cases hp
 | undef => cases hp
 | tup xs => cases hp
theorem RS0.rs {s : S} {x : Value} (h : RS0 w ok loc s x) : RS w ok loc s x := by
 cases s <;> first | exact h | exact h.elim
theorem spurT_rs {h : Nat → Option Blk} {ok2 : Nat → Prop} (hh : HOk w ok loc h) (h2 : ∀ b, ok b → ok2 b) (h3 : ∀ s l b, loc s = some l → l.blk = some b → ok2 b) (loc2 : Locs) {s s' : S} {x : Value} (hv : RS w ok loc s x) (hp : s.purT h = some s') : RS w ok2 loc2 s' x := by
 cases s with
 | tup xs =>
  simp only [S.purT] at hp
  split at hp
  ·rename_i xs' hq
   cases hp
   obtain ⟨us, rfl, h4, h5⟩ := hv
   have key : ∀ (xs xs' : List S), S.purT.sp h xs = some xs' → xs'.length = xs.length ∧ ∀ (j : Nat) s', xs'[j]? = some s' → ∃ s, xs[j]? = some s ∧ s.pur h = some s' := by
    intro xs
    induction xs with
    | nil => intro xs' hq; cases hq; exact ⟨rfl, fun j s' h => by cases h⟩
    | cons a r ih =>
     intro xs' hq
     simp only [S.purT.sp] at hq
     split at hq
     ·rename_i a' ha
      split at hq
      ·rename_i r' hr
       cases hq
       obtain ⟨g1, g2⟩ := ih r' hr
       refine ⟨by simp [g1], fun j s' hj => ?_⟩
       cases j with
       | zero => simp at hj; subst hj; exact ⟨a, rfl, ha⟩
       | succ j => exact g2 j s' (by simpa using hj)
      ·cases hq
     ·cases hq
   obtain ⟨g1, g2⟩ := key xs xs' hq
   refine ⟨us, rfl, by rw [h4, g1], fun j s' u a1 a2 => ?_⟩
   obtain ⟨s, b1, b2⟩ := g2 j s' a1
   exact spur_rs hh h2 h3 loc2 (h5 j s u b1 a2).rs b2
  ·cases hp
 | undef => cases hp
 | one v => exact (spur_rs hh h2 h3 loc2 (s := .one v) hv hp).rs
 | agg vs => exact (spur_rs hh h2 h3 loc2 (s := .agg vs) hv hp).rs

theorem RV.self' {ok2 : Nat → Prop} {v : V} {x : Value} (h : RV w ok loc v x) (hs : v.self = true) : RV w ok2 loc v x := by
 cases v with
 | row xs =>
  cases xs with
  | nil =>
   cases (h : Rep w ok (.row []) x) with
   | row0 A c => exact Rep.row0 A c
   | row u hn hne => simp at hn; omega
  | cons a r => cases hs
 | int k n => cases (h : Rep w ok (.int k n) x); exact Rep.int
 | bool b => cases (h : Rep w ok (.bool b) x); exact Rep.bool
 | k v => cases (h : Rep w ok (.k v) x) with | k h => exact Rep.k h
 | dead => cases (h : Rep w ok .dead x) with | dead h => exact Rep.dead h
 | sl s off len => exact h
 | ref s i j => exact h
 | ptr cs => cases hs
 | fn f cs => cases hs
 | ifc t v => cases hs
theorem selfs_mem : ∀ {vs : List V}, selfs vs = true → ∀ v ∈ vs, v.self = true
 | [], _, v, h => by cases h
 | a :: r, hm, v, h => by
  simp only [selfs, Bool.and_eq_true] at hm
  rcases List.mem_cons.1 h with rfl | h
  ·exact hm.1
  ·exact selfs_mem hm.2 v h
theorem RS0.self' {ok2 : Nat → Prop} {s : S} {x : Value} (h : RS0 w ok loc s x) (hs : s.self = true) : RS0 w ok2 loc s x := by
 cases s with
 | undef => exact h
 | one v => exact RV.self' h hs
 | agg vs =>
  obtain ⟨cs, h1, h2⟩ := h
  exact ⟨cs, h1, h2.1, fun j v c a1 a2 => (h2.2 j v c a1 a2).self' (selfs_mem hs v (List.mem_of_getElem? a1))⟩
 | tup xs => exact h.elim
theorem sself_mem : ∀ {xs : List S}, S.self.sself xs = true → ∀ x ∈ xs, x.self = true
 | [], _, v, h => by cases h
 | a :: r, hm, v, h => by
  simp only [S.self.sself, Bool.and_eq_true] at hm
  rcases List.mem_cons.1 h with rfl | h
  ·exact hm.1
  ·exact sself_mem hm.2 v h
theorem RS.self' {ok2 : Nat → Prop} {s : S} {x : Value} (h : RS w ok loc s x) (hs : s.self = true) : RS w ok2 loc s x := by
 cases s with
 | tup xs =>
  obtain ⟨us, h1, h2, h3⟩ := h
  exact ⟨us, h1, h2, fun j s u a1 a2 => (h3 j s u a1 a2).self' (sself_mem hs s (List.mem_of_getElem? a1))⟩
 | undef => exact h
 | one v => exact RS0.self' (s := .one v) h hs
 | agg vs => exact RS0.self' (s := .agg vs) h hs
theorem Rep.self' {ok2 : Nat → Prop} {v : V} {x : Value} (h : Rep w ok v x) (hs : v.self = true) : Rep w ok2 v x := by
 have h1 := RV.self' (ok2 := ok2) (h.rv (loc := fun _ => none)) hs
 refine rv_rep h1 ?_
 cases h <;> rfl
theorem HB.selfb {ok2 : Nat → Prop} {l : Loc} {vs : List V} (h : HB w ok loc l (.box vs)) (hs : selfs vs = true) : HB w ok2 loc l (.box vs) := by
 cases l with
 | virt => exact h
 | rows b el' e' cap => exact h
 | box b =>
  obtain ⟨cs, el, h1, h2, h3⟩ := h
  exact ⟨cs, el, h1, h2, fun j v c a1 a2 => (h3 j v c a1 a2).self' (selfs_mem hs v (List.mem_of_getElem? a1))⟩
theorem HB.self' {ok2 : Nat → Prop} {l : Loc} {el e : Nat} {xs : List (List V)} (h : HB w ok loc l (.rows el e xs)) (hs : xs.all selfs = true) : HB w ok2 loc l (.rows el e xs) := by
 cases l with
 | virt => exact h
 | box b => exact h
 | rows b el' e' cap =>
  obtain ⟨h1, h2, h3, h4, h5, cs, h6, h7, h8⟩ := h
  refine ⟨h1, h2, h3, h4, h5, cs, h6, h7, fun i j x p a1 a2 => ?_⟩
  obtain ⟨u, hu, hr⟩ := h8 i j x p a1 a2
  exact ⟨u, hu, hr.self' (selfs_mem (List.all_eq_true.1 hs x (List.mem_of_getElem? a1)) p (List.mem_of_getElem? a2))⟩
end
end Go.Proofs.YtdflglehippoiaaGreatDoorR
namespace Go.Proofs.YtdflglehippoiaaGreatDoorR
open Go Go.RowKit

section
variable {P : Program} {n : Nat} {Γ : Ent} {w0 : World} {ok0 : Nat → Prop} {loc : Locs} {st : St} {a : Act} {w : World} {o : Oper}

def Locs.set (loc : Locs) (s : Nat) (l : Loc) : Locs := fun t => if t = s then some l else loc t

theorem RV.kill {ok ok' : Nat → Prop} {w w' : World} {loc loc' : Locs} {s : Nat} {v : V} {x : Value} (h : RV w ok loc v x) (hok : ∀ b, ok b → ok' b ∧ w'.heap[b]? = w.heap[b]?) (hl : ∀ t l, t ≠ s → loc t = some l → loc' t = some l) : RV w' ok' loc' (v.kill s) x := by
 have h1 := h.one
 cases v with
 | ref s' i j =>
  simp only [V.kill]
  split
  ·exact Rep.dead h1
  ·rename_i hne
   refine h.mono hok fun t l ht hs => hl t l ?_ hs
   cases ht; exact hne
 | sl s' off len =>
  simp only [V.kill]
  split
  ·exact Rep.dead h1
  ·rename_i hne
   refine h.mono hok fun t l ht hs => hl t l ?_ hs
   cases ht; exact hne
 | _ => exact RV.mono h hok fun t l ht hs => by cases ht
theorem RVs.kill {ok ok' : Nat → Prop} {w w' : World} {loc loc' : Locs} {s : Nat} {vs : List V} {cs : List Value} (h : RVs w ok loc vs cs) (hok : ∀ b, ok b → ok' b ∧ w'.heap[b]? = w.heap[b]?) (hl : ∀ t l, t ≠ s → loc t = some l → loc' t = some l) : RVs w' ok' loc' (vs.map (V.kill s)) cs := by
 refine ⟨by rw [List.length_map]; exact h.1, fun j v c h1 h2 => ?_⟩
 rw [List.getElem?_map, Option.map_eq_some_iff] at h1
 obtain ⟨v', h3, rfl⟩ := h1
 exact (h.2 j v' c h3 h2).kill hok hl
theorem RS0.kill {ok ok' : Nat → Prop} {w w' : World} {loc loc' : Locs} {s : Nat} {v : S} {x : Value} (h : RS0 w ok loc v x) (hok : ∀ b, ok b → ok' b ∧ w'.heap[b]? = w.heap[b]?) (hl : ∀ t l, t ≠ s → loc t = some l → loc' t = some l) : RS0 w' ok' loc' (v.kill s) x := by
 cases v with
 | undef => exact h
 | one v => exact RV.kill h hok hl
 | agg vs =>
  obtain ⟨cs, h1, h2⟩ := h
  exact ⟨cs, h1, h2.kill hok hl⟩
 | tup xs => exact h.elim
theorem sk_get (s : Nat) : ∀ (xs : List S) (j : Nat) (x : S), (S.kill.sk s xs)[j]? = some x → ∃ y, xs[j]? = some y ∧ x = y.kill s
 | [], j, x, h => by cases h
 | a :: r, j, x, h => by
  cases j with
  | zero => simp [S.kill.sk] at h; exact ⟨a, rfl, h.symm⟩
  | succ j => exact sk_get s r j x (by simpa [S.kill.sk] using h)
theorem sk_length (s : Nat) : ∀ (xs : List S), (S.kill.sk s xs).length = xs.length
 | [] => rfl
 | a :: r => by simp [S.kill.sk, sk_length s r]
theorem RS.kill {ok ok' : Nat → Prop} {w w' : World} {loc loc' : Locs} {s : Nat} {v : S} {x : Value} (h : RS w ok loc v x) (hok : ∀ b, ok b → ok' b ∧ w'.heap[b]? = w.heap[b]?) (hl : ∀ t l, t ≠ s → loc t = some l → loc' t = some l) : RS w' ok' loc' (v.kill s) x := by
 cases v with
 | tup xs =>
  obtain ⟨us, h1, h2, h3⟩ := h
  refine ⟨us, h1, by rw [h2, sk_length], fun j q u a1 a2 => ?_⟩
  obtain ⟨y, b1, rfl⟩ := sk_get s xs j q a1
  exact (h3 j y u b1 a2).kill hok hl
 | undef => exact h
 | one v => exact RS0.kill (v := .one v) h hok hl
 | agg vs => exact RS0.kill (v := .agg vs) h hok hl
theorem look_map {α β : Type} (f : α → β) : ∀ (l : List (Nat × α)) (k : Nat), look (l.map fun p => (p.1, f p.2)) k = (look l k).map f
 | [], _ => rfl
 | (m, v) :: r, k => by
  simp only [List.map_cons, look]
  split
  ·rfl
  ·exact look_map f r k

theorem RVs.kill' {ok ok' : Nat → Prop} {w w' : World} {loc loc' : Locs} {s : Nat} {l : Loc} {B : Blk} (h : HB w ok loc l B) (hok : ∀ b, ok b → ok' b ∧ w'.heap[b]? = w.heap[b]?) (hb : ∀ b, l.blk = some b → w'.heap[b]? = w.heap[b]?) (hl : ∀ t l, t ≠ s → loc t = some l → loc' t = some l) : HB w' ok' loc' l (B.kill s) := by
 cases l with
 | virt => cases B with
  | box vs => exact h
  | rows el e xs => exact h
 | box b => cases B with
  | box vs =>
   obtain ⟨cs, el, h1, h2⟩ := h
   exact ⟨cs, el, by rw [hb b rfl]; exact h1, h2.kill hok hl⟩
  | rows el e xs => exact h
 | rows b el e cap => cases B with
  | box vs => exact h
  | rows el' e' xs =>
   obtain ⟨h1, h2, h3, h4, h5, cs, h6, h7, h8⟩ := h
   refine ⟨h1, h2, h3, h4, h5, cs, by rw [hb b rfl]; exact h6, h7, fun i j x p a c => ?_⟩
   obtain ⟨u, hu, hr⟩ := h8 i j x p a c
   exact ⟨u, hu, hr.mono hok⟩

theorem Inv.upd (I : Inv n Γ w0 ok0 loc st a w) {s : Nat} {l : Loc} {b : Nat} (hl : loc s = some l) (hlb : l.blk = some b) (w' : World) (hos : w'.os = w.os) (htp : w'.tape = w.tape) (hout : w'.output = w.output) (hsz : w'.heap.size = w.heap.size) (hoth : ∀ b', b' ≠ b → w'.heap[b']? = w.heap[b']?)
  (B : Blk) (hB : HB w' (okI w0 ok0 w loc) loc l B) : Inv n Γ w0 ok0 loc { st with hp := (s, B) :: st.hp } a w' := by
 have hlo := I.hp.lo s l b hl hlb
 have hokeq : okI w0 ok0 w' loc = okI w0 ok0 w loc := by funext b'; simp only [okI, hsz]
 have hok : ∀ b', okI w0 ok0 w loc b' → okI w0 ok0 w loc b' ∧ w'.heap[b']? = w.heap[b']? := fun b' h => ⟨h, hoth b' fun e => h.2.2 s l hl (by rw [e]; exact hlb)⟩
 refine ⟨⟨by rw [hos]; exact I.below.os, by rw [htp]; exact I.below.tape, by rw [hout]; exact I.below.output, by rw [hsz]; exact I.below.size, fun k hk ho => by rw [hoth k (fun e => by subst e; rcases hlo.1 with h | h; exact ho h; omega)]; exact I.below.block k hk ho⟩, I.okb, ⟨fun t => ?_, fun t m C h1 h2 => ?_, I.hp.inj, fun t m c h1 h2 => by rw [hsz]; exact I.hp.lo t m c h1 h2⟩, I.oko, I.bx, I.sz, fun t q h => ?_, I.df⟩
 ·simp only [look]
  split
  ·rename_i e; subst e; rw [hl]; rfl
  ·exact I.hp.dom t
 ·simp only [look] at h2
  rw [hokeq]
  split at h2
  ·rename_i e
   subst e
   cases h2
   rw [hl] at h1
   cases h1
   exact hB
  ·rename_i hne
   refine (I.hp.blk t m C h1 h2).mono hok (fun c hc => hoth c fun e => hne ?_) (fun _ _ _ h => h)
   subst e
   exact I.hp.inj s t l m c hl h1 hlb hc
 ·obtain ⟨h1, h2⟩ := I.sl t q h
  rw [hokeq]
  exact ⟨h1, h2.mono hok fun _ _ _ h => h⟩

theorem set_one (I : Inv n Γ w0 ok0 loc st a w) {s : Nat} {l : Loc} {b : Nat} (hl : loc s = some l) (hlb : l.blk = some b) (cs : Array Value) (el : TypeId) (hb : w.heap[b]? = some (.cells cs el (0, 0))) (cs' : Array Value) (B : Blk)
  (hB : HB (w.setRow b cs') (okI w0 ok0 w loc) loc l B) : Inv n Γ w0 ok0 loc { st with hp := (s, B) :: st.hp } a (w.setRow b cs') :=
 I.upd hl hlb (w.setRow b cs') rfl rfl rfl (by simp [World.setRow]) (fun b' hne => setRow_other w b b' cs' hne) B hB

theorem setAtL_eq (vs ws : List Value) (off : Nat) (h : off + ws.length ≤ vs.length) : setAtL vs off ws = vs.take off ++ ws ++ vs.drop (off + ws.length) := by
 apply List.ext_getElem?
 intro j
 rw [setAtL_get ws vs off h j]
 by_cases h1 : j < off
 ·rw [if_neg (by omega), List.append_assoc, List.getElem?_append_left (by simp; omega), List.getElem?_take, if_pos h1]
 ·by_cases h2 : j < off + ws.length
  ·rw [if_pos (by omega), List.getElem?_append_left (by simp; omega), List.getElem?_append_right (by simp; omega)]
   congr 1
   simp
   omega
  ·rw [if_neg (by omega), List.getElem?_append_right (by simp; omega), List.getElem?_drop]
   congr 1
   simp
   omega

theorem run_store {t : TypeId} {m : Nat} {x : Value} (hs : sizeT P t m = true) (hx : x.cells.size = m) (h1 : ∀ c ∈ x.cells.toList, c.oneCell' = true) {b off : Nat} {cs : Array Value} {el : TypeId} (hb : w.heap[b]? = some (.cells cs el (0, 0))) (hfit : off + m ≤ cs.size) :
  (storeVar t ⟨b, off, none⟩ x).run P w = .ok () (w.setRow b (setAtL cs.toList off x.cells.toList).toArray) := by
 have h := run_storeCells_at P b off el x.cells.toList 0 cs w hb (by simp; omega) h1
 rw [setAtL_eq _ _ _ (by simp; omega)]
 simp only [Nat.add_zero] at h
 simp only [storeVar, Sem.run_bind, run_sizeOf hs, Result.andThen_ok]
 rw [if_neg (by simp [hx])]
 simp [h]

theorem o_store (I : Inv n Γ w0 ok0 loc st a w) {t : TypeId} {ad v : Operand} {ad' v' : X} {key : Option Nat} {m : Nat} (ho : o.op = .store t ad v) (hs : sizeT P t m = true) (hx : xok ad ad' = true) (hv : xok v v' = true) {E : Nat → Model} {d : Nat} {s : S} {news : Hp} {g : Nat → Option S} {h : Nat → Option Blk} (hgl : ∀ t s, g t = some s → look st.sl t = some s) (hhl : ∀ s B, h s = some B → look st.hp s = some B) (he : ev E d g h (.store key m ad' v') = some (s, news)) :
  ∃ w', (execOp a.eval o).run P w = .ok .skip w' ∧ s = .undef ∧ Inv n Γ w0 ok0 loc { sl := st.sl, hp := news ++ st.hp } a w' := by
 simp only [ev] at he
 split at he
 ·rename_i st0 i j vs hp hvs
  split at he
  ·rename_i hm
   rw [Option.bind_eq_some_iff] at hvs
   obtain ⟨sv, hsv, hcv⟩ := hvs
   have hg : GOk w (okI w0 ok0 w loc) loc a g := I.gok hgl
   have hm' := hm.1
   obtain ⟨r1, r2⟩ := cells_rvs (xok_rs hv hg hsv) hcv
   have hsz : (a.eval v).cells.size = m := by have := r1.1; simp at this; omega
   have hpv : RV w (okI w0 ok0 w loc) loc (.ref st0 i j) (a.eval ad) := xok_rs hx hg hp
   split at he
   ·rename_i ws hq0
    have hq := hhl _ _ hq0
    split at he
    ·rename_i hc
     cases he
     rcases hpv with ⟨b, g1, g2, g3⟩ | ⟨b, el, e, cap, g1, g3⟩
     ·obtain ⟨cs, el, hb, hr⟩ := I.hp.blk _ _ _ g1 hq
      have hlen : ws.length = cs.size := by have := hr.1; simpa using this
      have hrun := run_store (P := P) hs hsz r2 hb (off := j) (by omega)
      refine ⟨w.setRow b (setAtL cs.toList j (a.eval v).cells.toList).toArray, ?_, rfl, set_one I g1 rfl cs el hb (setAtL cs.toList j (a.eval v).cells.toList).toArray (.box (setAt ws j vs)) ⟨(setAtL cs.toList j (a.eval v).cells.toList).toArray, el, setRow_heap w b cs _ el _ hb, ?_⟩⟩
      ·unfold execOp
       rw [ho]
       simp [g3, Instr.storeAt, Instr.sureAddr, hrun]
      ·have hst := setAt_rvs hr r1 (off := j) (by omega)
       exact hst.mono (fun b' hb' => ⟨hb', setRow_other w b b' _ fun e => hb'.2.2 _ _ g1 (by rw [e]; rfl)⟩) (fun _ _ _ h => h)
     ·exact (I.hp.blk _ _ _ g1 hq).elim
    ·cases he
   ·rename_i el e xs hq0
    have hq := hhl _ _ hq0
    split at he
    ·rename_i x hx'
     split at he
     ·rename_i hc
      cases he
      rcases hpv with ⟨b, g1, g2, g3⟩ | ⟨b, el2, e2, cap, g1, g3⟩
      ·exact (I.hp.blk _ _ _ g1 hq).elim
      ·obtain ⟨e1, e2', k1, k2, k3, cs, hb, hcs, hr⟩ := I.hp.blk _ _ _ g1 hq
       subst e1; subst e2'
       have hi : i < xs.length := (List.getElem?_eq_some_iff.1 hx').1
       have hxl : x.length = e := k3 x (List.mem_of_getElem? hx')
       have hfit : i * e + j + m ≤ cs.size := by
        rw [hcs]
        have h1 : (i + 1) * e ≤ cap * e := Nat.mul_le_mul_right e (by omega)
        rw [Nat.add_mul, Nat.one_mul] at h1
        omega
       have hrun := run_store (P := P) hs hsz r2 hb (off := i * e + j) hfit
       refine ⟨w.setRow b (setAtL cs.toList (i * e + j) (a.eval v).cells.toList).toArray, ?_, rfl, set_one I g1 rfl cs _ hb (setAtL cs.toList (i * e + j) (a.eval v).cells.toList).toArray (.rows el e (xs.set i (setAt x j vs))) ⟨rfl, rfl, k1, by rw [List.length_set]; exact k2, fun y hy => ?_, (setAtL cs.toList (i * e + j) (a.eval v).cells.toList).toArray, setRow_heap w b cs _ _ _ hb, by simp [setAtL_length, hcs], fun i' j' y p h1 h2 => ?_⟩⟩
       ·unfold execOp
        rw [ho]
        simp [g3, Instr.storeAt, Instr.sureAddr, hrun]
       ·rcases List.mem_or_eq_of_mem_set hy with h1 | h1
        ·exact k3 y h1
        ·rw [h1, setAt_length]; exact hxl
       ·have hds : (a.eval v).cells.toList.length = m := by simpa using hsz
        have hup : ∀ {p : V} {u : Value}, Rep w (okI w0 ok0 w loc) p u → Rep (w.setRow b (setAtL cs.toList (i * e + j) (a.eval v).cells.toList).toArray) (okI w0 ok0 w loc) p u := fun h => h.mono fun b' hb' => ⟨hb', setRow_other w b b' _ fun e => hb'.2.2 _ _ g1 (by rw [e]; rfl)⟩
        rw [List.getElem?_set] at h1
        simp only [List.getElem?_toArray]
        rw [setAtL_get _ _ _ (by rw [hds]; simpa using hfit), hds]
        by_cases hii : i = i'
        ·subst hii
         rw [if_pos rfl, if_pos hi] at h1
         cases h1
         rw [setAt_get _ _ _ (by omega)] at h2
         by_cases hin : j ≤ j' ∧ j' < j + m
         ·rw [if_pos (by omega)] at h2
          rw [if_pos (by omega), show i * e + j' - (i * e + j) = j' - j by omega]
          have hlt : j' - j < (a.eval v).cells.toList.length := by omega
          refine ⟨_, List.getElem?_eq_getElem hlt, hup (rv_rep (r1.2 _ _ _ h2 (List.getElem?_eq_getElem hlt)) (ments_nil hc.1 p (List.mem_of_getElem? h2)))⟩
         ·rw [if_neg (by omega)] at h2
          rw [if_neg (by omega)]
          obtain ⟨u, hu, hru⟩ := hr i j' x p hx' h2
          exact ⟨u, by simpa using hu, hup hru⟩
        ·rw [if_neg hii] at h1
         have hj' : j' < e := by rw [← k3 y (List.mem_of_getElem? h1)]; exact (List.getElem?_eq_some_iff.1 h2).1
         have := idx_apart hii hj'
         rw [if_neg (by omega)]
         obtain ⟨u, hu, hru⟩ := hr i' j' y p h1 h2
         exact ⟨u, by simpa using hu, hup hru⟩
     ·cases he
    ·cases he
   ·cases he
  ·cases he
 ·cases he

theorem row_cells {ok2 : Nat → Prop} {ys : List (List V)} {x : Value} {e : Nat} (h : Rep w ok2 (.row ys) x) (he : ∀ y ∈ ys, y.length = e) :
  ∃ A c, x = .slice A ys.length c ∧ (ys = [] ∨ ∃ (ad : Addr) (news : List Value), A = some ad ∧ news.length = ys.length * e ∧ (∀ (j : Nat) u, news[j]? = some u → w.cell? (ad.add j) = some u) ∧ (∀ u ∈ news, u.oneCell' = true) ∧
   ∀ i j y p, ys[i]? = some y → y[j]? = some p → ∃ u, news[i * e + j]? = some u ∧ Rep w ok2 p u) := by
 cases h with
 | row0 A c => exact ⟨A, c, rfl, .inl rfl⟩
 | row u hn hne hc ha he' hr hp =>
  rename_i ad m c e'
  have hee : e' = e := by
   cases ys with
   | nil => simp at hn; omega
   | cons y r => rw [← he' y (List.mem_cons_self ..), he y (List.mem_cons_self ..)]
  subst hee
  refine ⟨some ad, c, by rw [hn], .inr ⟨ad, (List.range (ys.length * e')).map fun q => u (q / e') (q % e'), rfl, by simp, fun j v hj => ?_, fun v hv => ?_, fun i j y p h1 h2 => ?_⟩⟩
  ·rw [List.getElem?_map, Option.map_eq_some_iff] at hj
   obtain ⟨q, hq, rfl⟩ := hj
   have hlt : j < ys.length * e' := by have := (List.getElem?_eq_some_iff.1 hq).1; simpa using this
   rw [List.getElem?_range hlt] at hq
   cases hq
   have hpos : 0 < e' := by
    rcases Nat.eq_zero_or_pos e' with h | h
    ·subst h; simp at hlt
    ·exact h
   have hi : j / e' < ys.length := by rw [Nat.div_lt_iff_lt_mul hpos]; exact hlt
   have hy := he' ys[j / e'] (List.getElem_mem hi)
   have hjm : j % e' < (ys[j / e']).length := by rw [hy]; exact Nat.mod_lt _ hpos
   have := hr (j / e') (j % e') ys[j / e'] (ys[j / e'])[j % e'] (List.getElem?_eq_getElem hi) (List.getElem?_eq_getElem hjm)
   rwa [Nat.div_add_mod' j e'] at this
  ·rw [List.mem_map] at hv
   obtain ⟨j, hj, rfl⟩ := hv
   have hlt : j < ys.length * e' := by simpa using hj
   have hpos : 0 < e' := by
    rcases Nat.eq_zero_or_pos e' with h | h
    ·subst h; simp at hlt
    ·exact h
   have hi : j / e' < ys.length := by rw [Nat.div_lt_iff_lt_mul hpos]; exact hlt
   have hy := he' ys[j / e'] (List.getElem_mem hi)
   have hjm : j % e' < (ys[j / e']).length := by rw [hy]; exact Nat.mod_lt _ hpos
   exact (hp (j / e') (j % e') ys[j / e'] (ys[j / e'])[j % e'] (List.getElem?_eq_getElem hi) (List.getElem?_eq_getElem hjm)).one
  ·have hi : i < ys.length := (List.getElem?_eq_some_iff.1 h1).1
   have hj : j < e' := by rw [← he' y (List.mem_of_getElem? h1)]; exact (List.getElem?_eq_some_iff.1 h2).1
   have hq := idx_lt hi hj
   refine ⟨u i j, ?_, hp i j y p h1 h2⟩
   rw [List.getElem?_map, List.getElem?_range hq]
   have h3 : (i * e' + j) / e' = i := by rw [Nat.add_comm, Nat.add_mul_div_right _ _ (by omega), Nat.div_eq_of_lt hj, Nat.zero_add]
   have h4 : (i * e' + j) % e' = j := by rw [Nat.add_comm, Nat.add_mul_mod_self_right, Nat.mod_eq_of_lt hj]
   simp [h3, h4]
end
end Go.Proofs.YtdflglehippoiaaGreatDoorR
namespace Go.Proofs.YtdflglehippoiaaGreatDoorR
open Go Go.RowKit

section
variable {P : Program} {n : Nat} {Γ : Ent} {w0 : World} {ok0 : Nat → Prop} {loc : Locs} {st : St} {a : Act} {w : World} {o : Oper}

theorem set_same (loc : Locs) (s : Nat) (l : Loc) : loc.set s l s = some l := by unfold Locs.set; rw [if_pos rfl]
theorem set_other (loc : Locs) {s t : Nat} (l : Loc) (h : t ≠ s) : loc.set s l t = loc t := by unfold Locs.set; rw [if_neg h]

theorem Inv.appd (I : Inv n Γ w0 ok0 loc st a w) {s : Nat} {l l' : Loc} (hl : loc s = some l) (hnb : ∀ b, l ≠ .box b) (w' : World) (hos : w'.os = w.os) (htp : w'.tape = w.tape) (hout : w'.output = w.output) (hsz : w.heap.size ≤ w'.heap.size)
  (hl' : ∀ b, l'.blk = some b → l.blk = some b ∨ (w.heap.size ≤ b ∧ b < w'.heap.size)) (hoth : ∀ k, k < w.heap.size → l.blk ≠ some k → w'.heap[k]? = w.heap[k]?) (B : Blk)
  (hB : HB w' (okI w0 ok0 w' (loc.set s l')) (loc.set s l') l' B) : Inv n Γ w0 ok0 (loc.set s l') { sl := st.sl.map (fun p => (p.1, p.2.kill s)), hp := (s, B) :: st.hp.map (fun p => (p.1, p.2.kill s)) } a w' := by
 have hbase : w0.heap.size ≤ w.heap.size := I.below.size
 have hnew : ∀ b, l'.blk = some b → (Γ.own b ∨ w0.heap.size ≤ b) ∧ b < w'.heap.size := by
  intro b hb
  rcases hl' b hb with h | h
  ·have := I.hp.lo s l b hl h; exact ⟨this.1, by have := this.2; omega⟩
  ·exact ⟨.inr (by omega), h.2⟩
 have hok : ∀ b, okI w0 ok0 w loc b → okI w0 ok0 w' (loc.set s l') b ∧ w'.heap[b]? = w.heap[b]? := by
  intro b h
  refine ⟨⟨h.1, by have := h.2.1; omega, fun t m ht hm => ?_⟩, hoth b h.2.1 (h.2.2 s l hl)⟩
  by_cases hts : t = s
  ·subst hts
   rw [set_same] at ht
   cases ht
   rcases hl' b hm with h1 | h1
   ·exact h.2.2 _ l hl h1
   ·have := h.2.1; omega
  ·rw [set_other _ _ hts] at ht
   exact h.2.2 t m ht hm
 have hk : ∀ t m, t ≠ s → loc t = some m → loc.set s l' t = some m := fun t m h1 h2 => by rw [set_other _ _ h1]; exact h2
 refine ⟨⟨by rw [hos]; exact I.below.os, by rw [htp]; exact I.below.tape, by rw [hout]; exact I.below.output, by omega, fun k hk' ho => ?_⟩, I.okb, ⟨fun t => ?_, fun t m C h1 h2 => ?_, fun t t' m m' b h1 h2 h3 h4 => ?_, fun t m b h1 h2 => ?_⟩, I.oko, fun t b h => ⟨(I.bx t b h).1, ?_⟩, I.sz, fun t q h => ?_, I.df⟩
 ·rw [hoth k (by omega) fun e => ?_]
  ·exact I.below.block k hk' ho
  ·rcases (I.hp.lo s l k hl e).1 with h | h
   ·exact ho h
   ·omega
 ·simp only [look]
  by_cases hts : t = s
  ·subst hts; rw [set_same, if_pos rfl]; rfl
  ·rw [set_other _ _ hts, if_neg (fun e => hts e.symm), look_map, I.hp.dom t]
   cases look st.hp t <;> rfl
 ·simp only [look] at h2
  by_cases hts : t = s
  ·subst hts
   rw [set_same] at h1
   rw [if_pos rfl] at h2
   cases h1; cases h2
   exact hB
  ·rw [set_other _ _ hts] at h1
   rw [if_neg (fun e => hts e.symm), look_map, Option.map_eq_some_iff] at h2
   obtain ⟨C', h2, rfl⟩ := h2
   refine RVs.kill' (I.hp.blk t m C' h1 h2) hok (fun b hb => hoth b (I.hp.lo t m b h1 hb).2 fun e => hts ?_) hk
   exact I.hp.inj t s m l b h1 hl hb e
 ·by_cases hts : t = s
  ·by_cases hts' : t' = s
   ·rw [hts, hts']
   ·subst hts
    rw [set_same] at h1
    cases h1
    rw [set_other _ _ hts'] at h2
    rcases hl' b h3 with h5 | h5
    ·exact I.hp.inj _ _ _ _ b hl h2 h5 h4
    ·have := I.hp.lo t' m' b h2 h4; omega
  ·rw [set_other _ _ hts] at h1
   by_cases hts' : t' = s
   ·subst hts'
    rw [set_same] at h2
    cases h2
    rcases hl' b h4 with h5 | h5
    ·exact I.hp.inj _ _ _ _ b h1 hl h3 h5
    ·have := I.hp.lo t m b h1 h3; omega
   ·rw [set_other _ _ hts'] at h2
    exact I.hp.inj _ _ _ _ b h1 h2 h3 h4
 ·by_cases hts : t = s
  ·subst hts
   rw [set_same] at h1
   cases h1
   exact hnew b h2
  ·rw [set_other _ _ hts] at h1
   have := I.hp.lo t m b h1 h2
   exact ⟨this.1, by have := this.2; omega⟩
 ·have h1 := (I.bx t b h).2
  rw [set_other _ _ (fun e => by subst e; rw [hl] at h1; cases h1; exact hnb _ rfl)]
  exact h1
 ·rw [look_map, Option.map_eq_some_iff] at h
  obtain ⟨q', h, rfl⟩ := h
  obtain ⟨h1, h2⟩ := I.sl t q' h
  exact ⟨h1, h2.kill hok hk⟩

theorem row_src {ok : Nat → Prop} {h : Nat → Option Blk} {v : V} {ys : List (List V)} {x : Value} {e : Nat} (hh : HOk w ok loc h) (hv : RV w ok loc v x) (hp : (v.pur1 h).bind asRow = some ys) (he : ∀ y ∈ ys, y.length = e) :
  ∃ A c, x = .slice A ys.length c ∧ (ys = [] ∨ ∃ (ad : Addr) (news : List Value), A = some ad ∧ news.length = ys.length * e ∧ (∀ (j : Nat) u, news[j]? = some u → w.cell? (ad.add j) = some u) ∧ (∀ u ∈ news, u.oneCell' = true) ∧
   ∀ i j y p, ys[i]? = some y → y[j]? = some p → ∃ u, news[i * e + j]? = some u ∧ Rep w ok p u) := by
 cases v with
 | row zs => cases hp; exact row_cells hv he
 | k z =>
  cases (hv : Rep w ok (.k z) x) with
  | k h1 =>
   simp only [V.pur1, Option.bind_some] at hp
   cases x with
   | slice A n c =>
    cases n with
    | zero => cases hp; exact ⟨A, c, rfl, .inl rfl⟩
    | succ n => cases hp
   | _ => cases hp
 | sl s off len =>
  simp only [V.pur1] at hp
  split at hp
  ·rename_i el e' xs hq
   split at hp
   ·rename_i hl
    cases hp
    rcases hv with ⟨b, el2, e2, cap, g1, g2, rfl⟩ | ⟨g1, rfl, rfl, rfl⟩
    ·obtain ⟨e1, e2', hm, hxc, hlen, cs, hb, hcs, hr⟩ := hh _ _ _ g1 hq
     subst e2'
     have hylen : ((xs.drop off).take len).length = len := by rw [List.length_take, List.length_drop]; omega
     refine ⟨_, _, by rw [hylen], ?_⟩
     rcases Nat.eq_zero_or_pos len with h0 | h0
     ·subst h0; exact .inl (List.take_zero ..)
     ·have hget : ∀ (i : Nat) x, ((xs.drop off).take len)[i]? = some x → xs[off + i]? = some x := by
       intro i x hx
       rw [List.getElem?_take] at hx
       split at hx
       ·rwa [List.getElem?_drop] at hx
       ·cases hx
      have hee : e' = e := by
       have h1 : 0 < ((xs.drop off).take len).length := by omega
       have h2 := he _ (List.getElem_mem h1)
       rw [← h2]
       exact (hlen _ (List.mem_of_mem_drop (List.mem_of_mem_take (List.getElem_mem h1)))).symm
      subst hee
      have hsize : off * e' + len * e' ≤ cs.toList.length := by
       have h1 : (off + len) * e' ≤ cap * e' := Nat.mul_le_mul_right e' g2
       rw [Nat.add_mul] at h1
       simp [hcs]; omega
      have hnl : ((cs.toList.drop (off * e')).take (len * e')).length = len * e' := by rw [List.length_take, List.length_drop]; omega
      have hng : ∀ (j : Nat) u, ((cs.toList.drop (off * e')).take (len * e'))[j]? = some u → j < len * e' ∧ cs[off * e' + j]? = some u := by
       intro j u hu
       rw [List.getElem?_take] at hu
       split at hu
       ·rw [List.getElem?_drop] at hu; exact ⟨‹_›, by simpa using hu⟩
       ·cases hu
      refine .inr ⟨_, _, rfl, by rw [hnl, hylen], fun j u hu => ?_, fun u hu => ?_, fun i j y p h1 h2 => ?_⟩
      ·rw [Addr.add_lit, cell_of_row w b _ cs _ (0, 0) hb]
       exact (hng j u hu).2
      ·obtain ⟨j, hj⟩ := List.getElem?_of_mem hu
       obtain ⟨hj1, hj2⟩ := hng j u hj
       have hpos : 0 < e' := by
        rcases Nat.eq_zero_or_pos e' with h | h
        ·subst h; simp at hj1
        ·exact h
       have hi : j / e' < ((xs.drop off).take len).length := by rw [hylen, Nat.div_lt_iff_lt_mul hpos]; exact hj1
       have hx := hget _ _ (List.getElem?_eq_getElem hi)
       have hxl := hlen _ (List.mem_of_getElem? hx)
       have hjm : j % e' < (((xs.drop off).take len)[j / e']).length := by rw [hxl]; exact Nat.mod_lt _ hpos
       obtain ⟨u', hu', hr'⟩ := hr _ _ _ _ hx (List.getElem?_eq_getElem hjm)
       rw [show (off + j / e') * e' + j % e' = off * e' + j by rw [Nat.add_mul, Nat.add_assoc, Nat.div_add_mod']] at hu'
       rw [hj2] at hu'
       cases hu'
       exact hr'.one
      ·have hx := hget i y h1
       obtain ⟨u, hu, hr'⟩ := hr _ _ _ _ hx h2
       have hi : i < len := by rw [← hylen]; exact (List.getElem?_eq_some_iff.1 h1).1
       have hj : j < e' := by rw [← hlen y (List.mem_of_getElem? hx)]; exact (List.getElem?_eq_some_iff.1 h2).1
       refine ⟨u, ?_, hr'⟩
       rw [List.getElem?_take, if_pos (idx_lt hi hj), List.getElem?_drop]
       rw [Nat.add_mul, Nat.add_assoc] at hu
       simpa using hu
    ·exact ⟨none, 0, by rw [List.take_zero]; rfl, .inl (List.take_zero ..)⟩
   ·cases hp
  ·cases hp
 | _ => cases hp

def appT (P : Program) (el e by_ : Nat) : Bool := match P.info? el with
 | some i => i.size == e && i.bytes == by_ && (match i.zero with | some z => z.cells.size == e | none => false) && decide (0 < e) && decide (0 < by_)
 | none => false

theorem rows_app {ok : Nat → Prop} {e n : Nat} {xs ys : List (List V)} {cs1 cs2 : List Value} (hx : ∀ x ∈ xs, x.length = e) (hn : n ≤ xs.length) (hc1 : cs1.length = n * e) (h1 : ∀ i j x p, i < n → xs[i]? = some x → x[j]? = some p → ∃ u, cs1[i * e + j]? = some u ∧ Rep w ok p u)
  (h2 : ∀ i j y p, ys[i]? = some y → y[j]? = some p → ∃ u, cs2[i * e + j]? = some u ∧ Rep w ok p u) (rest : List Value) (i j : Nat) (x : List V) (p : V) (a1 : (xs.take n ++ ys)[i]? = some x) (a2 : x[j]? = some p) : ∃ u, (cs1 ++ cs2 ++ rest)[i * e + j]? = some u ∧ Rep w ok p u := by
 by_cases hi : i < n
 ·rw [List.getElem?_append_left (by rw [List.length_take]; omega), List.getElem?_take, if_pos hi] at a1
  have hj : j < e := by rw [← hx x (List.mem_of_getElem? a1)]; exact (List.getElem?_eq_some_iff.1 a2).1
  have hlt := idx_lt hi hj
  obtain ⟨u, hu, hr⟩ := h1 i j x p hi a1 a2
  refine ⟨u, ?_, hr⟩
  rw [List.append_assoc, List.getElem?_append_left (by rw [hc1]; exact hlt)]
  exact hu
 ·rw [List.getElem?_append_right (by rw [List.length_take]; omega), List.length_take, Nat.min_eq_left hn] at a1
  obtain ⟨u, hu, hr⟩ := h2 (i - n) j x p a1 a2
  refine ⟨u, ?_, hr⟩
  have hge : n * e ≤ i * e := Nat.mul_le_mul_right e (by omega)
  have hsub : i * e + j - n * e = (i - n) * e + j := by rw [Nat.sub_mul]; omega
  rw [List.append_assoc, List.getElem?_append_right (by rw [hc1]; omega), hc1, hsub, List.getElem?_append_left (List.getElem?_eq_some_iff.1 hu).1]
  exact hu

theorem run_append_none {t e : TypeId} {i : TypeInfo} (ty : TypeId) (ht : P.underlying t = some (.slice e)) (hi : P.info? e = some i) (base A : Option Addr) (m cap c : Nat) (h : m ≤ cap) :
  (Builtin.append_ #[t, t] ty #[.slice base m cap, .slice A 0 c]).run P w = .ok (.slice base m cap) w := by
 cases A <;> cases base <;> simp [Builtin.append_, run_underlying ht, sizeOf, typeInfo, hi, Builtin.lenOf, Builtin.firstCells, loadCells, loadCellsFrom, storeCells, h]

theorem o_app (I : Inv n Γ w0 ok0 loc st a w) {t : TypeId} {x y : Operand} {x' y' : X} {el e by_ : Nat} (ho : o.op = .call { callee := .builtin .append, args := #[x, y], argTypes := #[t, t] }) (ht : P.underlying t = some (.slice el)) (hT : appT P el e by_ = true) (hx : xok x x' = true) (hy : xok y y' = true)
  {E : Nat → Model} {d : Nat} {s' : S} {st' : St} (he : evE E d st (.app el e by_ x' y') = some (s', st')) :
  ∃ v w' loc', (execOp a.eval o).run P w = .ok (.value v) w' ∧ Inv n Γ w0 ok0 loc' st' a w' ∧ RS w' (okI w0 ok0 w' loc') loc' s' v := by
 unfold appT at hT
 split at hT
 ·rename_i ti hti
  simp only [Bool.and_eq_true, beq_iff_eq, decide_eq_true_eq] at hT
  obtain ⟨⟨⟨⟨t1, t2⟩, t3⟩, t4⟩, t5⟩ := hT
  split at t3
  ·rename_i z hz
   simp only [beq_iff_eq] at t3
   simp only [evE] at he
   split at he
   ·rename_i s m y0 ex ey
    split at he
    ·rename_i el' e' xs ys hq hpur
     split at he
     ·rename_i hc
      obtain ⟨rfl, rfl, hm, hall, hbytes⟩ := hc
      cases he
      have hg : GOk w (okI w0 ok0 w loc) loc a (look st.sl) := I.gok fun _ _ h => h
      have hh : HOk w (okI w0 ok0 w loc) loc (look st.hp) := I.hok fun _ _ h => h
      have hlen : ∀ y ∈ ys, y.length = e' := fun y hy => by have := List.all_eq_true.1 hall y hy; simpa using this
      have hxv : RV w (okI w0 ok0 w loc) loc (.sl s 0 m) (a.eval x) := xok_rs hx hg ex
      have hyv : RV w (okI w0 ok0 w loc) loc y0 (a.eval y) := xok_rs hy hg ey
      obtain ⟨A, c, hya, hsrc⟩ := row_src hh hyv hpur hlen
      have hmod : m + ys.length ≤ 140737488355328 := Nat.le_trans (Nat.le_mul_of_pos_right _ t5) hbytes
      have hexec : ∀ v w', (Builtin.append_ #[t, t] o.type #[a.eval x, a.eval y]).run P w = .ok v w' → (execOp a.eval o).run P w = .ok (.value v) w' := by
       intro v w' h
       unfold execOp
       rw [ho]
       simp [resolve, invoke, builtin, h]
      rcases hxv with ⟨b, el2, e2, cap, g1, g2, g3⟩ | ⟨g1, _, hm0, g3⟩
      ·obtain ⟨e1, e2', k1, k2, k3, cs, hb, hcs, hr⟩ := I.hp.blk _ _ _ g1 hq
       subst e1; subst e2'
       rw [Nat.zero_mul, Nat.sub_zero] at g3
       have hmcs : m * e' ≤ cs.toList.length := by
        have h1 : m * e' ≤ cap * e' := Nat.mul_le_mul_right e' (by omega)
        simp [hcs]; omega
       have hold : ∀ i j x p, i < m → xs[i]? = some x → x[j]? = some p → ∃ u, (cs.toList.take (m * e'))[i * e' + j]? = some u ∧ Rep w (okI w0 ok0 w loc) p u := by
        intro i j x p hi h1 h2
        obtain ⟨u, hu, hr'⟩ := hr i j x p h1 h2
        have hj : j < e' := by rw [← k3 x (List.mem_of_getElem? h1)]; exact (List.getElem?_eq_some_iff.1 h2).1
        exact ⟨u, by rw [List.getElem?_take, if_pos (idx_lt hi hj)]; simpa using hu, hr'⟩
       have htl : (cs.toList.take (m * e')).length = m * e' := by rw [List.length_take]; omega
       by_cases h0 : ys = []
       ·subst h0
        have hrun := run_append_none (P := P) (w := w) (i := ti) o.type ht hti (some ⟨b, 0, none⟩) A m cap c (by omega)
        refine ⟨_, w, loc.set s (.rows b _ e' cap), hexec _ _ (by rw [g3, hya]; exact hrun), I.appd g1 (fun _ h => by cases h) w rfl rfl rfl (Nat.le_refl _) (fun b' h => .inl h) (fun _ _ _ => rfl) _ ?_, .inl ⟨b, _, e', cap, set_same _ _ _, by simp; omega, by rw [Nat.zero_mul, Nat.sub_zero]; simp⟩⟩
        have hse : loc.set s (.rows b el' e' cap) = loc := by
         funext q
         unfold Locs.set
         split
         ·rename_i h; rw [h]; exact g1.symm
         ·rfl
        rw [hse, List.append_nil]
        refine ⟨rfl, rfl, k1, by rw [List.length_take]; omega, fun x hx => k3 x (List.mem_of_mem_take hx), cs, hb, hcs, fun i j x p h1 h2 => ?_⟩
        rw [List.getElem?_take] at h1
        split at h1
        ·exact hr i j x p h1 h2
        ·cases h1
       ·obtain ⟨ad, news, hA, hnl, hnews, hone, hnr⟩ := hsrc.resolve_left h0
        subst hA
        by_cases hroom : m + ys.length ≤ cap
        ·have hfit : m * ti.size + news.length ≤ cs.size := by
          rw [hnl, hcs, t1, ← Nat.add_mul]
          exact Nat.mul_le_mul_right _ hroom
         have hrun := run_append_room (P := P) w t o.type el' ti ht hti b m cap cs hb ad ys.length c news (by rw [hnl, t1]) hnews hone hroom hfit
         rw [t1] at hrun
         have hlt : b < w.heap.size := (I.hp.lo _ _ _ g1 rfl).2
         have hse : loc.set s (.rows b el' e' cap) = loc := by
          funext q
          unfold Locs.set
          split
          ·rename_i h; rw [h]; exact g1.symm
          ·rfl
         have hsz : (w.setRow b (cs.toList.take (m * e') ++ news ++ cs.toList.drop (m * e' + news.length)).toArray).heap.size = w.heap.size := by simp [World.setRow]
         refine ⟨_, _, loc.set s (.rows b el' e' cap), hexec _ _ (by rw [g3, hya]; exact hrun), I.appd g1 (fun _ h => by cases h) (w.setRow b (cs.toList.take (m * e') ++ news ++ cs.toList.drop (m * e' + news.length)).toArray) rfl rfl rfl (by rw [hsz]; exact Nat.le_refl _) (fun b' h => .inl h) (fun k _ hk => setRow_other w b k (cs.toList.take (m * e') ++ news ++ cs.toList.drop (m * e' + news.length)).toArray fun e => hk (by rw [e]; rfl)) _ ?_, .inl ⟨b, el', e', cap, set_same _ _ _, by omega, by rw [Nat.zero_mul, Nat.sub_zero]⟩⟩
         have hmono : ∀ {p : V} {u : Value}, Rep w (okI w0 ok0 w loc) p u → Rep (w.setRow b (cs.toList.take (m * e') ++ news ++ cs.toList.drop (m * e' + news.length)).toArray) (okI w0 ok0 (w.setRow b (cs.toList.take (m * e') ++ news ++ cs.toList.drop (m * e' + news.length)).toArray) (loc.set s (.rows b el' e' cap))) p u := by
          intro p u h
          rw [hse]
          refine h.mono fun b' hb' => ⟨⟨hb'.1, by rw [hsz]; exact hb'.2.1, hb'.2.2⟩, setRow_other w b b' _ fun e => hb'.2.2 _ _ g1 (by rw [e]; rfl)⟩
         refine ⟨rfl, rfl, k1, by rw [List.length_append, List.length_take]; omega, fun x hx => ?_, _, setRow_heap w b cs _ _ _ hb, ?_, fun i j x p h1 h2 => ?_⟩
         ·rcases List.mem_append.1 hx with h | h
          ·exact k3 x (List.mem_of_mem_take h)
          ·exact hlen x h
         ·simp only [List.size_toArray, List.length_append, htl, List.length_drop, hnl, Array.length_toList, hcs]
          rw [t1, hnl, hcs] at hfit
          omega
         ·obtain ⟨u, hu, hr'⟩ := rows_app (w := w) k3 hm htl hold hnr (cs.toList.drop (m * e' + news.length)) i j x p h1 h2
          exact ⟨u, by simpa using hu, hmono hr'⟩
        ·have hholds : ∀ (j : Nat) u, (cs.toList.take (m * e'))[j]? = some u → w.cell? ((⟨b, 0, none⟩ : Addr).add j) = some u := by
          intro j u hu
          rw [Addr.add_lit, Nat.zero_add, cell_of_row w b j cs _ (0, 0) hb]
          rw [List.getElem?_take] at hu
          split at hu
          ·simpa using hu
          ·cases hu
         have hrun := run_append_grow (P := P) w t o.type el' ti z ht hti hz ⟨b, 0, none⟩ m cap (cs.toList.take (m * e')) (by rw [htl, t1]) hholds ad ys.length c news (by rw [hnl, t1]) hnews (by omega) (by omega) (by rw [t2]; exact growslice_fits (by omega) hbytes)
         have hge := grownCap_ge w (m + ys.length) cap el'
         have hcm := grownCap_le_maxLen w (m + ys.length) cap el' (by unfold maxLen; omega)
         generalize grownCap w (m + ys.length) cap el' = cap' at hrun hge hcm
         have hlo' : ∀ b', (Loc.rows w.heap.size el' e' cap').blk = some b' → w.heap.size ≤ b' := fun b' h => by cases h; exact Nat.le_refl _
         generalize hcells : ((cs.toList.take (m * e')).toArray ++ news.toArray ++ Builtin.zeroCells z.cells (cap' - (m + ys.length))) = cells at hrun
         have hcl : cells.toList = cs.toList.take (m * e') ++ news ++ (Builtin.zeroCells z.cells (cap' - (m + ys.length))).toList := by rw [← hcells]; simp
         have hsize : cells.size = cap' * e' := by
          rw [← hcells]
          simp only [Array.size_append, List.size_toArray, htl, hnl, size_zeroCells, t3, ← Nat.add_mul]
          congr 1
          omega
         have hmono : ∀ {p : V} {u : Value}, Rep w (okI w0 ok0 w loc) p u → Rep (w.drew.alloc (.cells cells el')) (okI w0 ok0 (w.drew.alloc (.cells cells el')) (loc.set s (.rows w.heap.size el' e' cap'))) p u := by
          intro p u h
          refine h.mono fun b' hb' => ⟨⟨hb'.1, by have := hb'.2.1; show b' < (w.heap.push _).size; simp; omega, fun q l hq hl => ?_⟩, heap_alloc_old w.drew _ b' hb'.2.1⟩
          by_cases hqs : q = s
          ·subst hqs
           rw [set_same] at hq
           cases hq
           cases hl
           have := hb'.2.1
           omega
          ·rw [set_other _ _ hqs] at hq
           exact hb'.2.2 q l hq hl
         refine ⟨_, _, loc.set s (.rows w.heap.size el' e' cap'), hexec _ _ (by rw [g3, hya]; exact hrun), I.appd g1 (fun _ h => by cases h) (w.drew.alloc (.cells cells el')) rfl rfl rfl (by show _ ≤ (w.heap.push _).size; simp) (fun b' h => .inr (by cases h; exact ⟨Nat.le_refl _, by show _ < (w.heap.push _).size; simp⟩)) (fun k hk _ => heap_alloc_old w.drew _ k hk) _ ?_, .inl ⟨w.heap.size, el', e', cap', set_same _ _ _, by omega, by rw [Nat.zero_mul, Nat.sub_zero]⟩⟩
         refine ⟨rfl, rfl, hcm, by rw [List.length_append, List.length_take]; omega, fun x hx => ?_, cells, heap_alloc_new w.drew _, hsize, fun i j x p h1 h2 => ?_⟩
         ·rcases List.mem_append.1 hx with h | h
          ·exact k3 x (List.mem_of_mem_take h)
          ·exact hlen x h
         ·obtain ⟨u, hu, hr'⟩ := rows_app (w := w) k3 hm htl hold hnr (Builtin.zeroCells z.cells (cap' - (m + ys.length))).toList i j x p h1 h2
          rw [← hcl] at hu
          exact ⟨u, by simpa using hu, hmono hr'⟩
      ·have hxs : xs = [] := I.hp.blk _ _ _ g1 hq
       subst hm0
       subst hxs
       by_cases h0 : ys = []
       ·subst h0
        have hrun := run_append_none (P := P) (w := w) (i := ti) o.type ht hti none A 0 0 c (Nat.le_refl _)
        exact ⟨_, w, loc.set s .virt, hexec _ _ (by rw [g3, hya]; exact hrun), I.appd g1 (fun _ h => by cases h) w rfl rfl rfl (Nat.le_refl _) (fun b' h => by cases h) (fun _ _ _ => rfl) _ rfl, .inr ⟨set_same _ _ _, rfl, rfl, rfl⟩⟩
       ·obtain ⟨ad, news, hA, hnl, hnews, hone, hnr⟩ := hsrc.resolve_left h0
        subst hA
        have hys : 0 < ys.length := List.length_pos_iff.2 h0
        rw [Nat.zero_add] at hbytes
        have hrun := run_append_nil (P := P) w t o.type el' ti z ht hti hz ad ys.length c news (by rw [hnl, t1]) hnews hys (by omega) (by rw [t2]; omega)
        have hge := grownCap_ge w ys.length 0 el'
        have hcm := grownCap_le_maxLen w ys.length 0 el' (by unfold maxLen; omega)
        generalize grownCap w ys.length 0 el' = cap' at hrun hge hcm
        generalize hcells : (news.toArray ++ Builtin.zeroCells z.cells (cap' - ys.length)) = cells at hrun
        have hcl : cells.toList = [] ++ news ++ (Builtin.zeroCells z.cells (cap' - ys.length)).toList := by rw [← hcells]; simp
        have hsize : cells.size = cap' * e' := by
         rw [← hcells]
         simp only [Array.size_append, List.size_toArray, hnl, size_zeroCells, t3, ← Nat.add_mul]
         congr 1
         omega
        have hmono : ∀ {p : V} {u : Value}, Rep w (okI w0 ok0 w loc) p u → Rep (w.drew.alloc (.cells cells el')) (okI w0 ok0 (w.drew.alloc (.cells cells el')) (loc.set s (.rows w.heap.size el' e' cap'))) p u := by
         intro p u h
         refine h.mono fun b' hb' => ⟨⟨hb'.1, by have := hb'.2.1; show b' < (w.heap.push _).size; simp; omega, fun q l hq hl => ?_⟩, heap_alloc_old w.drew _ b' hb'.2.1⟩
         by_cases hqs : q = s
         ·subst hqs
          rw [set_same] at hq
          cases hq
          cases hl
          have := hb'.2.1
          omega
         ·rw [set_other _ _ hqs] at hq
          exact hb'.2.2 q l hq hl
        refine ⟨_, _, loc.set s (.rows w.heap.size el' e' cap'), hexec _ _ (by rw [g3, hya]; exact hrun), I.appd g1 (fun _ h => by cases h) (w.drew.alloc (.cells cells el')) rfl rfl rfl (by show _ ≤ (w.heap.push _).size; simp) (fun b' h => .inr (by cases h; exact ⟨Nat.le_refl _, by show _ < (w.heap.push _).size; simp⟩)) (fun k hk _ => heap_alloc_old w.drew _ k hk) _ ?_, .inl ⟨w.heap.size, el', e', cap', set_same _ _ _, by omega, by rw [Nat.zero_mul, Nat.sub_zero, Nat.zero_add]⟩⟩
        refine ⟨rfl, rfl, hcm, by simpa using hge, fun x hx => hlen x (by simpa using hx), cells, heap_alloc_new w.drew _, hsize, fun i j x p h1 h2 => ?_⟩
        obtain ⟨u, hu, hr'⟩ := rows_app (w := w) (n := 0) (xs := []) (ys := ys) (cs1 := []) (cs2 := news) (e := e') (fun x hx => by cases hx) (Nat.le_refl _) (by simp) (fun i j x p hi => absurd hi (Nat.not_lt_zero _)) hnr (Builtin.zeroCells z.cells (cap' - ys.length)).toList i j x p h1 h2
        rw [← hcl] at hu
        exact ⟨u, by simpa using hu, hmono hr'⟩
     ·cases he
    ·cases he
   ·cases he
  ·cases t3
 ·cases hT
theorem append_nil (I : Inv n Γ w0 ok0 loc st a w) {t : TypeId} {el e by_ : Nat} (ht : P.underlying t = some (.slice el)) (hT : appT P el e by_ = true) {h : Nat → Option Blk} (hh : HOk w (okI w0 ok0 w loc) loc h) {y0 : V} {Y : Value} (hyv : RV w (okI w0 ok0 w loc) loc y0 Y) {ys : List (List V)} (hpur : (y0.pur1 h).bind asRow = some ys)
  (hall : ys.all (·.length == e) = true) (hbytes : ys.length * by_ ≤ 140737488355328) {k : Nat} (hk : (look st.hp k).isSome = false) (ty : TypeId) (d : Option Nat) (hd : ∀ t, d = some t → t < n) :
  ∃ v w' loc', (Builtin.append_ #[t, t] ty #[.slice none 0 0, Y]).run P w = .ok v w' ∧ Inv n Γ w0 ok0 loc' { sl := (st.put d (.one (.sl k 0 ys.length))).sl, hp := [(k, .rows el e ys)] ++ st.hp } (a.put d v) w' := by
 unfold appT at hT
 split at hT
 ·rename_i ti hti
  simp only [Bool.and_eq_true, beq_iff_eq, decide_eq_true_eq] at hT
  obtain ⟨⟨⟨⟨t1, t2⟩, t3⟩, t4⟩, t5⟩ := hT
  split at t3
  ·rename_i z hz
   simp only [beq_iff_eq] at t3
   have hlen : ∀ y ∈ ys, y.length = e := fun y hy => by have := List.all_eq_true.1 hall y hy; simpa using this
   obtain ⟨A, c, hya, hsrc⟩ := row_src hh hyv hpur hlen
   have hmod : ys.length ≤ 140737488355328 := Nat.le_trans (Nat.le_mul_of_pos_right _ t5) hbytes
   by_cases h0 : ys = []
   ·subst h0
    have hrun := run_append_none (P := P) (w := w) (i := ti) ty ht hti none A 0 0 c (Nat.le_refl _)
    exact ⟨_, w, _, by rw [hya]; exact hrun, I.newnil k hk el e d hd⟩
   ·obtain ⟨ad, news, hA, hnl, hnews, hone, hnr⟩ := hsrc.resolve_left h0
    subst hA
    have hys : 0 < ys.length := List.length_pos_iff.2 h0
    have hrun := run_append_nil (P := P) w t ty el ti z ht hti hz ad ys.length c news (by rw [hnl, t1]) hnews hys (by omega) (by rw [t2]; omega)
    have hge := grownCap_ge w ys.length 0 el
    have hcm := grownCap_le_maxLen w ys.length 0 el (by unfold maxLen; omega)
    generalize grownCap w ys.length 0 el = cap' at hrun hge hcm
    generalize hcells : (news.toArray ++ Builtin.zeroCells z.cells (cap' - ys.length)) = cells at hrun
    have hcl : cells.toList = news ++ (Builtin.zeroCells z.cells (cap' - ys.length)).toList := by rw [← hcells]; simp
    have hsize : cells.size = cap' * e := by
     rw [← hcells]
     simp only [Array.size_append, List.size_toArray, hnl, size_zeroCells, t3, ← Nat.add_mul]
     congr 1
     omega
    refine ⟨_, w.drew.alloc (.cells cells el), _, by rw [hya]; exact hrun, I.newroom k hk el e ys cells cap' ((Below.refl _ w).drew.alloc (Nat.le_refl _) _) (heap_alloc_new w.drew _) (by show _ < (w.heap.push _).size; simp) hlen hsize (fun i j x p h1 h2 => ?_) hge hcm d hd⟩
    obtain ⟨u, hu, hr⟩ := hnr i j x p h1 h2
    refine ⟨u, ?_, hr⟩
    have : cells.toList[i * e + j]? = some u := by rw [hcl, List.getElem?_append_left (List.getElem?_eq_some_iff.1 hu).1]; exact hu
    simpa using this
  ·cases t3
 ·cases hT
end
end Go.Proofs.YtdflglehippoiaaGreatDoorR
namespace Go.Proofs.YtdflglehippoiaaGreatDoorR
open Go Go.RowKit

section
variable {P : Program} {n : Nat} {Γ : Ent} {w0 : World} {ok0 : Nat → Prop} {loc : Locs} {st : St} {a : Act} {w : World} {o : Oper}

theorem run_callFunc {f : FuncId} (h : fnOk P f = true) (args : Array Value) (w : World) : (callFunc f args).run P w = .ok (.enter f args) w := by
 unfold fnOk at h
 split at h
 ·rename_i fn hf
  simp only [Bool.and_eq_true, Bool.not_eq_true'] at h
  unfold callFunc
  have h1 : (fn.name == "runtime.NumGoroutine") = false := h.1
  have h2 : fn.body.isNone = false := by cases hb : fn.body with
   | none => rw [hb] at h; cases h.2
   | some b => rfl
  simp only [Sem.run_bind, run_program, Result.andThen_ok, hf, h1, h2, Bool.false_eq_true, if_false, Sem.run_pure]
 ·cases h

theorem noment_pur {h : Nat → Option Blk} {v v' : V} (hm : v.ment = none) (hp : v.pur h = some v') : v' = v := by
 cases v <;> first | (simp [V.ment] at hm; done) | (cases hp; rfl)
theorem noment_purs {h : Nat → Option Blk} : ∀ {vs vs' : List V}, ments vs = [] → purs h vs = some vs' → vs' = vs
 | [], vs', _, hp => by cases hp; rfl
 | v :: r, vs', hm, hp => by
  unfold ments at hm
  cases hv : v.ment with
  | some s => rw [hv] at hm; cases hm
  | none =>
   rw [hv] at hm
   simp only [purs] at hp
   split at hp
   ·rename_i v' hv'
    split at hp
    ·rename_i r' hr
     cases hp
     rw [noment_pur hv hv', noment_purs hm hr]
    ·cases hp
   ·cases hp
theorem noment_spur {h : Nat → Option Blk} {s s' : S} (hm : s.ment = []) (hp : s.pur h = some s') : s' = s := by
 cases s with
 | one v =>
  simp only [S.pur] at hp
  split at hp
  ·rename_i v' hv
   cases hp
   rw [noment_pur (v := v) ?_ hv]
   simp only [S.ment, ments] at hm
   cases h : v.ment with
   | some s => rw [h] at hm; cases hm
   | none => rfl
  ·cases hp
 | agg vs =>
  simp only [S.pur] at hp
  split at hp
  ·rename_i vs' hv
   cases hp
   rw [noment_purs hm hv]
  ·cases hp
 | undef => cases hp
 | tup xs => cases hp

theorem args_rs {h : Nat → Option Blk} {ok ok2 : Nat → Prop} (hh : HOk w ok loc h) (h2 : ∀ b, ok b → ok2 b) (h3 : ∀ s l b, loc s = some l → l.blk = some b → ok2 b) : ∀ {as as' : List S} {vs : List Value}, as.length = vs.length → (∀ (j : Nat) s u, as[j]? = some s → vs[j]? = some u → RS w ok loc s u) → purS h as = some as' → RSs w ok2 (fun _ => none) as' vs
 | [], as', [], _, _, hp => by cases hp; exact ⟨rfl, fun j s u h => by cases h⟩
 | x :: r, as', v :: q, hl, hr, hp => by
  simp only [purS] at hp
  split at hp
  ·rename_i x' hx
   split at hp
   ·rename_i r' hr'
    cases hp
    obtain ⟨g1, g2⟩ := args_rs hh h2 h3 (as := r) (vs := q) (by simpa using hl) (fun j s u a1 a2 => hr (j + 1) s u (by simpa using a1) (by simpa using a2)) hr'
    refine ⟨by simp [g1], fun j s u a1 a2 => ?_⟩
    cases j with
    | zero => simp at a1 a2; subst a1; subst a2; exact spur_rs hh h2 h3 _ (hr 0 x v rfl rfl) hx
    | succ j => exact g2 j s u (by simpa using a1) (by simpa using a2)
   ·cases hp
  ·cases hp
 | [], _, _ :: _, hl, _, _ => by cases hl
 | _ :: _, _, [], hl, _, _ => by cases hl
theorem args_rs0 {h : Nat → Option Blk} {ok : Nat → Prop} : ∀ {as as' : List S} {vs : List Value}, mentS as = [] → as.length = vs.length → (∀ (j : Nat) s u, as[j]? = some s → vs[j]? = some u → RS w ok loc s u) → purS h as = some as' → RSs w ok (fun _ => none) as' vs
 | [], as', [], _, _, _, hp => by cases hp; exact ⟨rfl, fun j s u h => by cases h⟩
 | x :: r, as', v :: q, hm, hl, hr, hp => by
  simp only [mentS, List.append_eq_nil_iff] at hm
  simp only [purS] at hp
  split at hp
  ·rename_i x' hx
   split at hp
   ·rename_i r' hr'
    cases hp
    obtain ⟨g1, g2⟩ := args_rs0 (as := r) (vs := q) hm.2 (by simpa using hl) (fun j s u a1 a2 => hr (j + 1) s u (by simpa using a1) (by simpa using a2)) hr'
    refine ⟨by simp [g1], fun j s u a1 a2 => ?_⟩
    cases j with
    | zero =>
     simp at a1 a2; subst a1; subst a2
     have hxx := noment_spur hm.1 hx
     subst hxx
     have h0 := (hr 0 x' v rfl rfl).mono (w' := w) (ok' := ok) (loc' := fun _ => none) (fun b hb => ⟨hb, rfl⟩) (fun t l ht => by rw [hm.1] at ht; cases ht)
     cases x' with
     | tup xs => cases hx
     | undef => cases hx
     | one v => exact h0
     | agg vs => exact h0
    | succ j => exact g2 j s u (by simpa using a1) (by simpa using a2)
   ·cases hp
  ·cases hp
 | [], _, _ :: _, _, hl, _, _ => by cases hl
 | _ :: _, _, [], _, hl, _, _ => by cases hl

theorem RV.ren {w' : World} {ok ok' : Nat → Prop} {loc' : Locs} {d : Nat} {v : V} {x : Value} (h : RV w ok loc v x) (hok : ∀ b, ok b → ok' b) (hl : ∀ s l, loc s = some l → loc' (64 * d + s) = some l) : RV w ok' loc' (v.ren d) x := by
 cases v with
 | ref s i j =>
  rcases h with ⟨b, h1, h2, h3⟩ | ⟨b, el, e, cap, h1, h3⟩
  ·exact .inl ⟨b, hl _ _ h1, h2, h3⟩
  ·exact .inr ⟨b, el, e, cap, hl _ _ h1, h3⟩
 | sl s off len =>
  rcases h with ⟨b, el, e, cap, h1, h2, h3⟩ | ⟨h1, h2, h3, h4⟩
  ·exact .inl ⟨b, el, e, cap, hl _ _ h1, h2, h3⟩
  ·exact .inr ⟨hl _ _ h1, h2, h3, h4⟩
 | _ => exact Rep.mono h fun b hb => ⟨hok b hb, rfl⟩
theorem RS0.ren {ok ok' : Nat → Prop} {loc' : Locs} {d : Nat} {s : S} {x : Value} (h : RS0 w ok loc s x) (hok : ∀ b, ok b → ok' b) (hl : ∀ s l, loc s = some l → loc' (64 * d + s) = some l) : RS0 w ok' loc' (s.ren d) x := by
 cases s with
 | undef => exact h
 | one v => exact RV.ren (w' := w) h hok hl
 | agg vs =>
  obtain ⟨cs, h1, h2⟩ := h
  refine ⟨cs, h1, by rw [List.length_map]; exact h2.1, fun j v c a1 a2 => ?_⟩
  rw [List.getElem?_map, Option.map_eq_some_iff] at a1
  obtain ⟨v', b1, rfl⟩ := a1
  exact RV.ren (w' := w) (h2.2 j v' c b1 a2) hok hl
 | tup xs => exact h.elim
theorem sren_get (d : Nat) : ∀ (xs : List S) (j : Nat) (x : S), (S.ren.sren d xs)[j]? = some x → ∃ y, xs[j]? = some y ∧ x = y.ren d
 | [], j, x, h => by cases h
 | a :: r, j, x, h => by
  cases j with
  | zero => simp [S.ren.sren] at h; exact ⟨a, rfl, h.symm⟩
  | succ j => exact sren_get d r j x (by simpa [S.ren.sren] using h)
theorem sren_length (d : Nat) : ∀ (xs : List S), (S.ren.sren d xs).length = xs.length
 | [] => rfl
 | a :: r => by simp [S.ren.sren, sren_length d r]
theorem RS.ren {ok ok' : Nat → Prop} {loc' : Locs} {d : Nat} {s : S} {x : Value} (h : RS w ok loc s x) (hok : ∀ b, ok b → ok' b) (hl : ∀ s l, loc s = some l → loc' (64 * d + s) = some l) : RS w ok' loc' (s.ren d) x := by
 cases s with
 | tup xs =>
  obtain ⟨us, h1, h2, h3⟩ := h
  refine ⟨us, h1, by rw [h2, sren_length], fun j q u a1 a2 => ?_⟩
  obtain ⟨y, b1, rfl⟩ := sren_get d xs j q a1
  exact (h3 j y u b1 a2).ren hok hl
 | undef => exact h
 | one v => exact RS0.ren (s := .one v) h hok hl
 | agg vs => exact RS0.ren (s := .agg vs) h hok hl

theorem look_ren (d : Nat) : ∀ (hp : Hp) (s : Nat), look (Hp.ren d hp) (64 * d + s) = (look hp s).map (Blk.ren d)
 | [], s => rfl
 | (k, B) :: r, s => by
  show (if 64 * d + k = 64 * d + s then some (B.ren d) else look (Hp.ren d r) (64 * d + s)) = _
  simp only [look]
  by_cases h : k = s
  ·rw [if_pos h, if_pos (by omega)]; rfl
  ·rw [if_neg h, if_neg (by omega)]; exact look_ren d r s
theorem look_ren_lo (d : Nat) : ∀ (hp : Hp) (s : Nat), s < 64 * d → look (Hp.ren d hp) s = none
 | [], s, _ => rfl
 | (k, B) :: r, s, h => by
  show (if 64 * d + k = s then some (B.ren d) else look (Hp.ren d r) s) = _
  rw [if_neg (by omega)]
  exact look_ren_lo d r s h
theorem look_mem {α : Type} : ∀ (l : List (Nat × α)) (k : Nat) (v : α), look l k = some v → (k, v) ∈ l
 | [], k, v, h => by cases h
 | (m, x) :: r, k, v, h => by
  simp only [look] at h
  split at h
  ·rename_i e; subst e; cases h; exact List.mem_cons_self ..
  ·exact List.mem_cons_of_mem _ (look_mem r k v h)
theorem fresh_spec {st : St} {news : Hp} (hf : fresh st news = true) (s : Nat) (h : (look news s).isSome = true) : (look st.hp s).isSome = false := by
 cases hq : look news s with
 | none => rw [hq] at h; cases h
 | some B =>
  have := List.all_eq_true.1 hf _ (look_mem _ _ _ hq)
  cases h : look st.hp s with
  | none => rfl
  | some C => simp [h] at this
theorem hpself_ok {ok ok2 : Nat → Prop} {w : World} {loc : Locs} : ∀ {hp : Hp}, Hp.self hp = true → ∀ k B, (k, B) ∈ hp → ∀ l, HB w ok loc l B → HB w ok2 loc l B
 | [], _, k, B, h => by cases h
 | (k', .rows el' e' xs') :: r, hs, k, B, h => by
  simp only [Hp.self, Bool.and_eq_true] at hs
  rcases List.mem_cons.1 h with h | h
  ·cases h; exact fun l hb => hb.self' hs.1
  ·exact hpself_ok hs.2 k B h
 | (k', .box vs) :: r, hs, k, B, h => by
  simp only [Hp.self, Bool.and_eq_true] at hs
  rcases List.mem_cons.1 h with h | h
  ·cases h; exact fun l hb => hb.selfb hs.1
  ·exact hpself_ok hs.2 k B h
theorem ok64_mem {hp : Hp} (h : Hp.ok64 hp = true) {k : Nat} {B : Blk} (hm : (k, B) ∈ hp) : k < 64 := by
 have h1 := List.all_eq_true.1 h _ hm
 simpa using h1
theorem HB.ren {w' : World} {ok ok' : Nat → Prop} {loc loc' : Locs} {d : Nat} {l : Loc} {B : Blk} (h : HB w' ok loc l B) (hok : ∀ b, ok b → ok' b) (hl : ∀ s l, loc s = some l → loc' (64 * d + s) = some l) : HB w' ok' loc' l (B.ren d) := by
 cases B with
 | rows el e xs => exact h.mono (fun b hb => ⟨hok b hb, rfl⟩) (fun _ _ => rfl) (fun t m ht => by cases ht)
 | box vs =>
  cases l with
  | virt => exact h
  | rows b el' e' cap => exact h
  | box b =>
   obtain ⟨cs, el, h1, h2, h3⟩ := h
   refine ⟨cs, el, h1, by rw [List.length_map]; exact h2, fun j v c a1 a2 => ?_⟩
   rw [List.getElem?_map, Option.map_eq_some_iff] at a1
   obtain ⟨v', b1, rfl⟩ := a1
   exact RV.ren (w' := w') (h3 j v' c b1 a2) hok hl
theorem pur_noTup {h : Nat → Option Blk} : ∀ {as as' : List S}, purS h as = some as' → splitA as' = some (as', [])
 | [], as', hp => by cases hp; rfl
 | x :: r, as', hp => by
  simp only [purS] at hp
  split at hp
  ·rename_i x' hx
   split at hp
   ·rename_i r' hr
    cases hp
    have h1 := pur_noTup hr
    cases x' with
    | tup l =>
     exfalso
     cases x with
     | one v => simp only [S.pur] at hx; split at hx <;> cases hx
     | agg vs => simp only [S.pur] at hx; split at hx <;> cases hx
     | undef => cases hx
     | tup xs => cases hx
    | undef => simp only [splitA, h1]
    | one v => simp only [splitA, h1]
    | agg vs => simp only [splitA, h1]
   ·cases hp
  ·cases hp

theorem o_call {E : Nat → Model} (hE : ∀ f, Sound P f (E f)) (I : Inv n Γ w0 ok0 loc st a w) {f : Nat} {vs : Array Value} (hrun : fnOk P f = true → (execOp a.eval o).run P w = .ok (.enter f vs) w) {as : List S} (hl : as.length = vs.toList.length)
  (hr : ∀ (j : Nat) s u, as[j]? = some s → vs.toList[j]? = some u → RS w (okI w0 ok0 w loc) loc s u) {h : Nat → Option Blk} (hh : ∀ s B, h s = some B → look st.hp s = some B) {own : Bool} {v : S} {news : Hp} {d : Nat} (he : callI E d h own f as = some (v, news)) (hf : fresh st news = true) (hd : ∀ t, o.dst = some t → t < n)
  {next : Act → World → Prop} {Q : Exit → Act → World → Prop} (hn : ∀ x w' loc', Inv n Γ w0 ok0 loc' { sl := (st.put o.dst v).sl, hp := news ++ st.hp } (a.put o.dst x) w' → next (a.put o.dst x) w') : o.wp P a w next Q := by
 unfold callI at he
 split at he
 ·rename_i as' has
  split at he
  ·rename_i r hp hEf
   split at he
   ·rename_i hcond
    have hok := I.hok hh
    -- what the callee may look at
    have hmain : ∃ okA : Nat → Prop, (∀ b, okA b → b < w.heap.size) ∧ RSs w okA (fun _ => none) as' vs.toList ∧ (mentS as = [] → okA = okI w0 ok0 w loc) := by
     by_cases hm : mentS as = []
     ·exact ⟨okI w0 ok0 w loc, fun b hb => hb.2.1, args_rs0 hm hl hr has, fun _ => rfl⟩
     ·refine ⟨fun b => b < w.heap.size, fun b hb => hb, args_rs hok (fun b hb => hb.2.1) (fun s l b h1 h2 => (I.hp.lo s l b h1 h2).2) hl hr has, fun h => absurd h hm⟩
    obtain ⟨okA, hA1, hA2, hA3⟩ := hmain
    obtain ⟨hfn, hcall⟩ := (hE f).closed hEf (pur_noTup has) (w := w) (ok0 := okA) (I.okb.2.now I.below) hA1 hA2
    unfold Oper.wp
    rw [hrun hfn, Oper.upon_enter]
    refine hcall.mono fun e w' ⟨x, locR, hex, hb, hhp, hrs⟩ => ?_
    subst hex
    -- the answer, at what may be spoken of here
    have hkey : ∃ okR : Nat → Prop, (∀ b, okR b → (okI w0 ok0 w loc b ∨ w.heap.size ≤ b) ∧ b < w'.heap.size ∧ ∀ s l, locR s = some l → l.blk ≠ some b) ∧ RS w' okR locR r x ∧ (Hp.ok64 hp = true → HOk w' okR locR (look hp)) := by
     by_cases hm : mentS as = []
     ·refine ⟨_, fun b hb => ?_, hrs, fun _ s l B h1 h2 => hhp.blk s l B h1 h2⟩
      rw [hA3 hm] at hb
      exact hb
     ·have hself := hcond.resolve_left hm
      simp only [Bool.and_eq_true] at hself
      refine ⟨fun b => (okI w0 ok0 w loc b ∨ w.heap.size ≤ b) ∧ b < w'.heap.size ∧ ∀ s l, locR s = some l → l.blk ≠ some b, fun b hb => hb, hrs.self' hself.1, fun h64 s l B h1 h2 => ?_⟩
      exact hpself_ok hself.2 s B (look_mem _ _ _ h2) l (hhp.blk s l _ h1 h2)
    obtain ⟨okR, hR1, hR2, hR3⟩ := hkey
    have hbase : w0.heap.size ≤ w.heap.size := I.below.size
    split at he
    ·split at he
     ·rename_i h64
      cases he
      have hk64 : ∀ s, (locR s).isSome = true → s < 64 := by
       intro s hs
       rw [hhp.dom] at hs
       cases hq : look hp s with
       | none => rw [hq] at hs; cases hs
       | some B => exact ok64_mem h64 (look_mem _ _ _ hq)
      have hNs : ∀ s l, locR s = some l → (if 64 * d ≤ 64 * d + s then locR (64 * d + s - 64 * d) else none) = some l := by
       intro s l hs
       rw [if_pos (by omega), show 64 * d + s - 64 * d = s by omega]
       exact hs
      have hNinv : ∀ s l, (if 64 * d ≤ s then locR (s - 64 * d) else none) = some l → ∃ k, s = 64 * d + k ∧ locR k = some l := by
       intro s l hs
       split at hs
       ·exact ⟨s - 64 * d, by omega, hs⟩
       ·cases hs
      have hokR : ∀ b, okR b → okI w0 ok0 w' (loc.or fun s => if 64 * d ≤ s then locR (s - 64 * d) else none) b := by
       intro b hb'
       obtain ⟨h1, h2, h3⟩ := hR1 b hb'
       refine ⟨?_, h2, fun s l hs hlb => ?_⟩
       ·rcases h1 with h1 | h1
        ·exact h1.1
        ·exact .inr (by omega)
       ·rcases or_some hs with h4 | ⟨_, h4⟩
        ·obtain ⟨k, _, h5⟩ := hNinv s l h4
         exact h3 k l h5 hlb
        ·rcases h1 with h1 | h1
         ·exact h1.2.2 s l h4 hlb
         ·have := (I.hp.lo s l b h4 hlb).2; omega
      have hor : ∀ s l, locR s = some l → (loc.or fun s => if 64 * d ≤ s then locR (s - 64 * d) else none) (64 * d + s) = some l := by
       intro s l hs
       show (match (if 64 * d ≤ 64 * d + s then locR (64 * d + s - 64 * d) else none : Option Loc) with | some l => some l | none => loc (64 * d + s)) = some l
       rw [hNs s l hs]
      refine hn x w' _ (I.ext hb (fun s => if 64 * d ≤ s then locR (s - 64 * d) else none) (Hp.ren d hp) (fun s => ?_) (fresh_spec hf) (fun s l b h1 h2 => ?_) (fun s s' l l' b h1 h2 h3 h4 => ?_) (fun s l B h1 h2 => ?_) o.dst hd (r.ren d) x (hR2.ren hokR hor))
      ·show (if 64 * d ≤ s then locR (s - 64 * d) else none : Option Loc).isSome = _
       by_cases hs : 64 * d ≤ s
       ·rw [if_pos hs, hhp.dom]
        have := look_ren d hp (s - 64 * d)
        rw [show 64 * d + (s - 64 * d) = s by omega] at this
        rw [this]
        cases look hp (s - 64 * d) <;> rfl
       ·rw [if_neg hs, look_ren_lo d hp s (by omega)]; rfl
      ·obtain ⟨k, _, h5⟩ := hNinv s l h1
       exact ⟨(hhp.lo k l b h5 h2).1.resolve_left id, (hhp.lo k l b h5 h2).2⟩
      ·obtain ⟨k, rfl, h5⟩ := hNinv s l h1
       obtain ⟨k', rfl, h6⟩ := hNinv s' l' h2
       rw [hhp.inj k k' l l' b h5 h6 h3 h4]
      ·obtain ⟨k, rfl, h5⟩ := hNinv s l h1
       rw [look_ren, Option.map_eq_some_iff] at h2
       obtain ⟨B', h2, rfl⟩ := h2
       exact (hR3 h64 k l _ h5 h2).ren hokR hor
     ·cases he
    ·split at he
     ·rename_i h64
      split at he
      ·rename_i r' hpur
       cases he
       have hok2 : ∀ b, okR b → okI w0 ok0 w' loc b := by
        intro b hb'
        obtain ⟨h1, h2, h3⟩ := hR1 b hb'
        refine ⟨?_, h2, fun s l hs hlb => ?_⟩
        ·rcases h1 with h1 | h1
         ·exact h1.1
         ·exact .inr (by omega)
        ·rcases h1 with h1 | h1
         ·exact h1.2.2 s l hs hlb
         ·have := (I.hp.lo s l b hs hlb).2; omega
       have hrs' := spurT_rs (loc2 := loc) (hR3 h64) hok2 (fun s l b h1 h2 => ?_) hR2 hpur
       ·have h := I.ext hb (fun _ => none) [] (fun s => rfl) (fun s h => by cases h) (fun s l b h => by cases h) (fun s s' l l' b h => by cases h) (fun s l B h => by cases h) o.dst hd _ x (by rw [Locs.or_none]; exact hrs')
        exact hn x w' _ h
       ·have h3 : w.heap.size ≤ b ∧ b < w'.heap.size := ⟨(hhp.lo s l b h1 h2).1.resolve_left id, (hhp.lo s l b h1 h2).2⟩
        refine ⟨.inr (by omega), h3.2, fun s' l' hs hlb => ?_⟩
        have := (I.hp.lo s' l' b hs hlb).2
        omega
      ·cases he
     ·cases he
   ·cases he
  ·cases he
 ·cases he
end
end Go.Proofs.YtdflglehippoiaaGreatDoorR
namespace Go.Proofs.YtdflglehippoiaaGreatDoorR
open Go Go.RowKit

section
variable {w w' : World} {ok ok' : Nat → Prop} {loc loc' : Locs}
theorem RV.mapS {f : Nat → Nat} {v : V} {x : Value} (h : RV w ok loc v x) (hok : ∀ b, ok b → ok' b) (hl : ∀ s l, v.ment = some s → loc s = some l → loc' (f s) = some l) : RV w ok' loc' (v.mapS f) x := by
 cases v with
 | ref s i j =>
  rcases h with ⟨b, h1, h2, h3⟩ | ⟨b, el, e, cap, h1, h3⟩
  ·exact .inl ⟨b, hl _ _ rfl h1, h2, h3⟩
  ·exact .inr ⟨b, el, e, cap, hl _ _ rfl h1, h3⟩
 | sl s off len =>
  rcases h with ⟨b, el, e, cap, h1, h2, h3⟩ | ⟨h1, h2, h3, h4⟩
  ·exact .inl ⟨b, el, e, cap, hl _ _ rfl h1, h2, h3⟩
  ·exact .inr ⟨hl _ _ rfl h1, h2, h3, h4⟩
 | _ => exact Rep.mono h fun b hb => ⟨hok b hb, rfl⟩
theorem RVs.mapS {f : Nat → Nat} {vs : List V} {cs : List Value} (h : RVs w ok loc vs cs) (hok : ∀ b, ok b → ok' b) (hl : ∀ s l, s ∈ ments vs → loc s = some l → loc' (f s) = some l) : RVs w ok' loc' (vs.map (V.mapS f)) cs := by
 refine ⟨by rw [List.length_map]; exact h.1, fun j v c a1 a2 => ?_⟩
 rw [List.getElem?_map, Option.map_eq_some_iff] at a1
 obtain ⟨v', b1, rfl⟩ := a1
 exact (h.2 j v' c b1 a2).mapS hok fun s l hm hs => hl s l (mem_ments (List.mem_of_getElem? b1) hm) hs
theorem RS0.mapS {f : Nat → Nat} {s : S} {x : Value} (h : RS0 w ok loc s x) (hok : ∀ b, ok b → ok' b) (hl : ∀ t l, t ∈ s.ment → loc t = some l → loc' (f t) = some l) : RS0 w ok' loc' (s.mapS f) x := by
 cases s with
 | undef => exact h
 | one v => exact RV.mapS h hok fun s l hm hs => hl s l (mem_ments (List.mem_singleton.2 rfl) hm) hs
 | agg vs =>
  obtain ⟨cs, h1, h2⟩ := h
  exact ⟨cs, h1, h2.mapS hok hl⟩
 | tup xs => exact h.elim
theorem smapS_get (f : Nat → Nat) : ∀ (xs : List S) (j : Nat) (x : S), (S.mapS.smapS f xs)[j]? = some x → ∃ y, xs[j]? = some y ∧ x = y.mapS f
 | [], j, x, h => by cases h
 | a :: r, j, x, h => by
  cases j with
  | zero => simp [S.mapS.smapS] at h; exact ⟨a, rfl, h.symm⟩
  | succ j => exact smapS_get f r j x (by simpa [S.mapS.smapS] using h)
theorem smapS_length (f : Nat → Nat) : ∀ (xs : List S), (S.mapS.smapS f xs).length = xs.length
 | [] => rfl
 | a :: r => by simp [S.mapS.smapS, smapS_length f r]
theorem RS.mapS {f : Nat → Nat} {s : S} {x : Value} (h : RS w ok loc s x) (hok : ∀ b, ok b → ok' b) (hl : ∀ t l, t ∈ s.ment → loc t = some l → loc' (f t) = some l) : RS w ok' loc' (s.mapS f) x := by
 cases s with
 | tup xs =>
  obtain ⟨us, h1, h2, h3⟩ := h
  refine ⟨us, h1, by rw [h2, smapS_length], fun j q u a1 a2 => ?_⟩
  obtain ⟨y, b1, rfl⟩ := smapS_get f xs j q a1
  exact (h3 j y u b1 a2).mapS hok fun t l hm hs => hl t l (mem_smt (List.mem_of_getElem? b1) hm) hs
 | undef => exact h
 | one v => exact RS0.mapS (s := .one v) h hok hl
 | agg vs => exact RS0.mapS (s := .agg vs) h hok hl
theorem HB.mapS {f : Nat → Nat} {l : Loc} {B : Blk} (h : HB w ok loc l B) (hok : ∀ b, ok b → ok' b) (hl : ∀ t m, t ∈ B.ment → loc t = some m → loc' (f t) = some m) : HB w ok' loc' l (B.mapS f) := by
 cases B with
 | rows el e xs => exact h.mono (fun b hb => ⟨hok b hb, rfl⟩) (fun _ _ => rfl) (fun t m ht => by cases ht)
 | box vs =>
  cases l with
  | virt => exact h
  | rows b el' e' cap => exact h
  | box b =>
   obtain ⟨cs, el, h1, h2⟩ := h
   exact ⟨cs, el, h1, h2.mapS hok hl⟩
theorem RV.kills {ns : List Nat} {v : V} {x : Value} (h : RV w ok loc v x) (hok : ∀ b, ok b → ok' b ∧ w'.heap[b]? = w.heap[b]?) (hl : ∀ t l, t ∉ ns → loc t = some l → loc' t = some l) : RV w' ok' loc' (killsV ns v) x := by
 cases v with
 | ref s i j =>
  simp only [killsV]
  split
  ·exact Rep.dead h.one
  ·rename_i hs
   exact RV.mono h hok fun t l hm ht => hl t l (fun hc => by cases hm; exact hs (List.contains_iff_mem.2 hc)) ht
 | sl s off len =>
  simp only [killsV]
  split
  ·exact Rep.dead h.one
  ·rename_i hs
   exact RV.mono h hok fun t l hm ht => hl t l (fun hc => by cases hm; exact hs (List.contains_iff_mem.2 hc)) ht
 | _ => exact RV.mono h hok fun t l hm ht => by cases hm
theorem RVs.kills {ns : List Nat} {vs : List V} {cs : List Value} (h : RVs w ok loc vs cs) (hok : ∀ b, ok b → ok' b ∧ w'.heap[b]? = w.heap[b]?) (hl : ∀ t l, t ∉ ns → loc t = some l → loc' t = some l) : RVs w' ok' loc' (vs.map (killsV ns)) cs := by
 refine ⟨by rw [List.length_map]; exact h.1, fun j v c a1 a2 => ?_⟩
 rw [List.getElem?_map, Option.map_eq_some_iff] at a1
 obtain ⟨v', b1, rfl⟩ := a1
 exact (h.2 j v' c b1 a2).kills hok hl
theorem RS0.kills {ns : List Nat} {s : S} {x : Value} (h : RS0 w ok loc s x) (hok : ∀ b, ok b → ok' b ∧ w'.heap[b]? = w.heap[b]?) (hl : ∀ t l, t ∉ ns → loc t = some l → loc' t = some l) : RS0 w' ok' loc' (killsS ns s) x := by
 cases s with
 | undef => exact h
 | one v => exact RV.kills h hok hl
 | agg vs =>
  obtain ⟨cs, h1, h2⟩ := h
  exact ⟨cs, h1, h2.kills hok hl⟩
 | tup xs => exact h.elim
theorem ks_get (ns : List Nat) : ∀ (xs : List S) (j : Nat) (x : S), (killsS.ks ns xs)[j]? = some x → ∃ y, xs[j]? = some y ∧ x = killsS ns y
 | [], j, x, h => by cases h
 | a :: r, j, x, h => by
  cases j with
  | zero => simp [killsS.ks] at h; exact ⟨a, rfl, h.symm⟩
  | succ j => exact ks_get ns r j x (by simpa [killsS.ks] using h)
theorem ks_length (ns : List Nat) : ∀ (xs : List S), (killsS.ks ns xs).length = xs.length
 | [] => rfl
 | a :: r => by simp [killsS.ks, ks_length ns r]
theorem RS.kills {ns : List Nat} {s : S} {x : Value} (h : RS w ok loc s x) (hok : ∀ b, ok b → ok' b ∧ w'.heap[b]? = w.heap[b]?) (hl : ∀ t l, t ∉ ns → loc t = some l → loc' t = some l) : RS w' ok' loc' (killsS ns s) x := by
 cases s with
 | tup xs =>
  obtain ⟨us, h1, h2, h3⟩ := h
  refine ⟨us, h1, by rw [h2, ks_length], fun j q u a1 a2 => ?_⟩
  obtain ⟨y, b1, rfl⟩ := ks_get ns xs j q a1
  exact (h3 j y u b1 a2).kills hok hl
 | undef => exact h
 | one v => exact RS0.kills (s := .one v) h hok hl
 | agg vs => exact RS0.kills (s := .agg vs) h hok hl
theorem HB.kills {ns : List Nat} {l : Loc} {B : Blk} (h : HB w ok loc l B) (hok : ∀ b, ok b → ok' b ∧ w'.heap[b]? = w.heap[b]?) (hb : ∀ b, l.blk = some b → w'.heap[b]? = w.heap[b]?) (hl : ∀ t l, t ∉ ns → loc t = some l → loc' t = some l) : HB w' ok' loc' l (killsB ns B) := by
 cases B with
 | rows el e xs => exact h.mono hok hb (fun t m ht => by cases ht)
 | box vs =>
  cases l with
  | virt => exact h
  | rows b el' e' cap => exact h
  | box b =>
   obtain ⟨cs, el, h1, h2⟩ := h
   exact ⟨cs, el, by rw [hb b rfl]; exact h1, h2.kills hok hl⟩
end

theorem mem_dedup {s : Nat} : ∀ {l seen : List Nat}, s ∈ dedup seen l ↔ s ∈ l ∧ s ∉ seen
 | [], seen => by simp [dedup]
 | a :: r, seen => by
  unfold dedup
  split
  ·rename_i h
   rw [mem_dedup, List.mem_cons]
   rw [List.contains_iff_mem] at h
   constructor
   ·exact fun h1 => ⟨.inr h1.1, h1.2⟩
   ·rintro ⟨rfl | h1, h2⟩
    ·exact absurd h h2
    ·exact ⟨h1, h2⟩
  ·rename_i h
   rw [List.contains_iff_mem] at h
   rw [List.mem_cons, mem_dedup, List.mem_cons, List.mem_cons, not_or]
   constructor
   ·rintro (rfl | ⟨h1, h2, h3⟩)
    ·exact ⟨.inl rfl, h⟩
    ·exact ⟨.inr h1, h3⟩
   ·rintro ⟨h1, h2⟩
    by_cases hs : s = a
    ·exact .inl hs
    ·exact .inr ⟨h1.resolve_left hs, hs, h2⟩
theorem nodup_dedup : ∀ {l seen : List Nat}, (dedup seen l).Nodup
 | [], seen => by simp [dedup]
 | a :: r, seen => by
  unfold dedup
  split
  ·exact nodup_dedup
  ·rw [List.nodup_cons]
   exact ⟨fun h => (mem_dedup.1 h).2 (List.mem_cons_self ..), nodup_dedup⟩
theorem idxOf_get : ∀ {ns : List Nat} {s : Nat}, s ∈ ns → ns[idxOf ns s]? = some s
 | [], s, h => by cases h
 | a :: r, s, h => by
  unfold idxOf
  split
  ·rename_i e; subst e; rfl
  ·rename_i e
   rcases List.mem_cons.1 h with rfl | h
   ·exact absurd rfl e
   ·simpa using idxOf_get h
theorem idxOf_lt {ns : List Nat} {s : Nat} (h : s ∈ ns) : idxOf ns s < ns.length := (List.getElem?_eq_some_iff.1 (idxOf_get h)).1
theorem idx_inj : ∀ {ns : List Nat}, ns.Nodup → ∀ {i j s : Nat}, ns[i]? = some s → ns[j]? = some s → i = j
 | [], _, i, j, s, h1, h2 => by simp at h1
 | a :: r, hn, i, j, s, h1, h2 => by
  rw [List.nodup_cons] at hn
  cases i with
  | zero =>
   cases j with
   | zero => rfl
   | succ j =>
    simp at h1 h2
    subst h1
    exact absurd (List.mem_of_getElem? h2) hn.1
  | succ i =>
   cases j with
   | zero =>
    simp at h1 h2
    subst h2
    exact absurd (List.mem_of_getElem? h1) hn.1
   | succ j =>
    have h3 : i = j := idx_inj (s := s) hn.2 (by simpa using h1) (by simpa using h2)
    rw [h3]
theorem decB_encB (B : Blk) : decB (encB B) = some B := by cases B <;> rfl
theorem encs_ok {h : Nat → Option Blk} {f : Nat → Nat} : ∀ {ns : List Nat} {bs : List S}, encs h f ns = some bs → ∀ k, ∃ h0, decH k bs = some h0 ∧ h0.length = ns.length ∧ ∀ i, look h0 i = if k ≤ i then (match ns[i - k]? with
  | some s => (h s).map (Blk.mapS f)
  | none => none) else none
 | [], bs, he, k => by cases he; exact ⟨[], rfl, rfl, fun i => by simp [look]⟩
 | s :: r, bs, he, k => by
  simp only [encs] at he
  split at he
  ·rename_i B hB
   split at he
   ·rename_i q hq
    cases he
    obtain ⟨h0, g1, g3, g2⟩ := encs_ok hq (k + 1)
    refine ⟨(k, B.mapS f) :: h0, by simp only [decH, decB_encB, g1], by simp [g3], fun i => ?_⟩
    simp only [look]
    by_cases hk : k = i
    ·subst hk
     rw [if_pos rfl, if_pos (Nat.le_refl k), Nat.sub_self]
     simp [hB]
    ·rw [if_neg hk, g2]
     by_cases h1 : k + 1 ≤ i
     ·rw [if_pos h1, if_pos (by omega), show i - k = (i - (k + 1)) + 1 by omega, List.getElem?_cons_succ]
     ·rw [if_neg h1, if_neg (by omega)]
   ·cases he
  ·cases he
theorem splitA_open : ∀ {as : List S} {bs : List S} {h0 : Hp}, noTup as = true → decH 0 bs = some h0 → splitA (as ++ [.tup bs]) = some (as, h0)
 | [], bs, h0, _, h => by simp only [List.nil_append, splitA, h]
 | x :: r, bs, h0, hn, h => by
  cases x with
  | tup l => cases hn
  | undef => simp only [List.cons_append, splitA, splitA_open (as := r) hn h]
  | one v => simp only [List.cons_append, splitA, splitA_open (as := r) hn h]
  | agg vs => simp only [List.cons_append, splitA, splitA_open (as := r) hn h]
theorem noTup_map {f : Nat → Nat} : ∀ {as : List S}, noTup as = true → noTup (S.mapS.smapS f as) = true
 | [], _ => rfl
 | x :: r, h => by
  cases x with
  | tup l => cases h
  | undef => exact noTup_map (as := r) h
  | one v => exact noTup_map (as := r) h
  | agg vs => exact noTup_map (as := r) h
theorem noTup_mem : ∀ {as : List S}, noTup as = true → ∀ l, S.tup l ∉ as
 | [], _, l => by simp
 | x :: r, h, l => by
  cases x with
  | tup l => cases h
  | undef => simp [noTup_mem (as := r) h l]
  | one v => simp [noTup_mem (as := r) h l]
  | agg vs => simp [noTup_mem (as := r) h l]
def fwdN (ns : List Nat) (d s : Nat) : Option Nat := if s ∈ ns then some (idxOf ns s) else if 64 * d ≤ s ∧ s < 64 * d + 64 then some (s - 64 * d + 64) else none
theorem backN_lt {ns : List Nat} {d k s : Nat} (h : ns[k]? = some s) : backN ns d k = s := by unfold backN; rw [h]
theorem backN_ge {ns : List Nat} {d k : Nat} (h : ns.length ≤ k) : backN ns d k = 64 * d + (k - 64) := by unfold backN; rw [List.getElem?_eq_none h]
theorem keysOk_mem {ns : List Nat} {d m : Nat} : ∀ {hp : Hp}, keysOk ns d m hp = true → ∀ k B, (k, B) ∈ hp → k < m ∨ (64 ≤ k ∧ k < 128 ∧ (64 * d + (k - 64)) ∉ ns)
 | [], _, k, B, h => by cases h
 | (k', B') :: r, hk, k, B, h => by
  simp only [keysOk, Bool.and_eq_true, Bool.or_eq_true, decide_eq_true_eq, Bool.not_eq_true'] at hk
  rcases List.mem_cons.1 h with h | h
  ·cases h
   rcases hk.1 with h1 | ⟨⟨h1, h2⟩, h3⟩
   ·exact .inl h1
   ·exact .inr ⟨h1, h2, fun hc => by rw [List.contains_iff_mem.2 hc] at h3; cases h3⟩
  ·exact keysOk_mem hk.2 k B h
theorem fwd_back {ns : List Nat} (hn : ns.Nodup) (hl : ns.length ≤ 64) {d k : Nat} (h : k < ns.length ∨ (64 ≤ k ∧ k < 128 ∧ (64 * d + (k - 64)) ∉ ns)) : fwdN ns d (backN ns d k) = some k := by
 rcases h with h | ⟨h1, h2, h3⟩
 ·have hs := List.getElem?_eq_getElem h
  have hm := List.mem_of_getElem? hs
  rw [backN_lt hs]
  unfold fwdN
  rw [if_pos hm, idx_inj hn (idxOf_get hm) hs]
 ·rw [backN_ge (by omega)]
  unfold fwdN
  rw [if_neg h3, if_pos (by omega)]
  congr 1
  omega
theorem back_fwd {ns : List Nat} (hl : ns.length ≤ 64) {d k s : Nat} (h : fwdN ns d s = some k) : backN ns d k = s ∧ (s ∈ ns → k < ns.length) ∧ (s ∉ ns → 64 ≤ k) := by
 unfold fwdN at h
 split at h
 ·rename_i hs
  cases h
  exact ⟨backN_lt (idxOf_get hs), fun _ => idxOf_lt hs, fun h => absurd hs h⟩
 ·rename_i hs
  split at h
  ·cases h
   exact ⟨by rw [backN_ge (by omega)]; omega, fun h => absurd h hs, fun _ => by omega⟩
  ·cases h
theorem look_hpBack {ns : List Nat} (hn : ns.Nodup) (hl : ns.length ≤ 64) {d s : Nat} : ∀ {hp : Hp}, keysOk ns d ns.length hp = true → look (hpBack ns d hp) s = match fwdN ns d s with
  | some k => (look hp k).map (Blk.mapS (backN ns d))
  | none => none
 | [], _ => by unfold hpBack; cases fwdN ns d s <;> rfl
 | (k, B) :: r, hk => by
  have h0 := keysOk_mem hk k B (List.mem_cons_self ..)
  simp only [keysOk, Bool.and_eq_true] at hk
  have ih := look_hpBack hn hl (s := s) hk.2
  have hfb := fwd_back hn hl h0
  simp only [hpBack, look]
  by_cases hs : backN ns d k = s
  ·rw [if_pos hs]
   rw [hs] at hfb
   rw [hfb]
   simp
  ·rw [if_neg hs, ih]
   cases hf : fwdN ns d s with
   | none => rfl
   | some k' =>
    have hne : ¬ k = k' := by
     intro e
     subst e
     exact hs (back_fwd hl hf).1
    simp only [if_neg hne]
theorem look_without {ns : List Nat} {s : Nat} : ∀ {hp : Hp}, look (without ns hp) s = if s ∈ ns then none else look hp s
 | [] => by simp [without, look]
 | (k, B) :: r => by
  unfold without
  split
  ·rename_i h
   rw [List.contains_iff_mem] at h
   rw [look_without]
   simp only [look]
   by_cases hs : s ∈ ns
   ·rw [if_pos hs, if_pos hs]
   ·rw [if_neg hs, if_neg hs, if_neg (fun e => hs (by subst e; exact h))]
  ·rename_i h
   rw [List.contains_iff_mem] at h
   simp only [look]
   by_cases hk : k = s
   ·subst hk; rw [if_pos rfl, if_neg h, if_pos rfl]
   ·rw [if_neg hk, look_without, if_neg hk]
theorem mem_rowsOf {h : Nat → Option Blk} {s : Nat} : ∀ {ns : List Nat}, s ∈ rowsOf h ns ↔ s ∈ ns ∧ isBox (h s) = false
 | [] => by simp [rowsOf]
 | a :: r => by
  unfold rowsOf
  split
  ·rename_i hb
   rw [mem_rowsOf, List.mem_cons]
   constructor
   ·exact fun h1 => ⟨.inr h1.1, h1.2⟩
   ·rintro ⟨rfl | h1, h2⟩
    ·rw [hb] at h2; cases h2
    ·exact ⟨h1, h2⟩
  ·rename_i hb
   rw [List.mem_cons, mem_rowsOf, List.mem_cons]
   constructor
   ·rintro (rfl | h1)
    ·exact ⟨.inl rfl, by simpa using hb⟩
    ·exact ⟨.inr h1.1, h1.2⟩
   ·rintro ⟨rfl | h1, h2⟩
    ·exact .inl rfl
    ·exact .inr ⟨h1, h2⟩
theorem mem_blkMents {h : Nat → Option Blk} {t : Nat} : ∀ {ns : List Nat} {s : Nat} {B : Blk}, s ∈ ns → h s = some B → t ∈ B.mentB → t ∈ blkMents h ns
 | [], s, B, hs, _, _ => by cases hs
 | a :: r, s, B, hs, hB, ht => by
  unfold blkMents
  rcases List.mem_cons.1 hs with rfl | hs
  ·rw [hB]; exact List.mem_append_left _ ht
  ·split
   ·exact List.mem_append_right _ (mem_blkMents hs hB ht)
   ·exact mem_blkMents hs hB ht
theorem mem_mentS {as : List S} {s : S} {t : Nat} (h : s ∈ as) (hm : t ∈ s.ment) : t ∈ mentS as := by
 induction as with
 | nil => cases h
 | cons a r ih =>
  unfold mentS
  rcases List.mem_cons.1 h with rfl | h
  ·exact List.mem_append_left _ hm
  ·exact List.mem_append_right _ (ih h)
theorem mentB_ment (B : Blk) : B.mentB = B.ment := by cases B <;> rfl

section
variable {P : Program} {n : Nat} {Γ : Ent} {w0 : World} {ok0 : Nat → Prop} {loc : Locs} {st : St} {a : Act} {w : World} {o : Oper}
theorem o_callo {E : Nat → Model} (hE : ∀ f, Sound P f (E f)) (I : Inv n Γ w0 ok0 loc st a w) {f : Nat} {vs : Array Value} (hrun : fnOk P f = true → (execOp a.eval o).run P w = .ok (.enter f vs) w) {as : List S} (hl : as.length = vs.toList.length)
  (hr : ∀ (j : Nat) s u, as[j]? = some s → vs.toList[j]? = some u → RS w (okI w0 ok0 w loc) loc s u) {d : Nat} {v : S} {st1 : St} (he : callS E d f st as = some (v, st1)) (hd : ∀ t, o.dst = some t → t < n)
  {next : Act → World → Prop} {Q : Exit → Act → World → Prop} (hn : ∀ x w' loc', Inv n Γ w0 ok0 loc' (st1.put o.dst v) (a.put o.dst x) w' → next (a.put o.dst x) w') : o.wp P a w next Q := by
 unfold callS callT at he
 obtain ⟨ns, hns⟩ : ∃ ns, ns = names (look st.hp) as := ⟨_, rfl⟩
 rw [← hns] at he
 have hnd : ns.Nodup := by rw [hns]; exact nodup_dedup
 have hmem : ∀ s, s ∈ mentS as → s ∈ ns := fun s h => by rw [hns]; exact mem_dedup.2 ⟨List.mem_append_left _ h, by simp⟩
 split at he
 ·rename_i bs hbs
  split at hbs
  case isFalse => cases hbs
  rename_i hnt
  obtain ⟨h0, e1, e0, e2⟩ := encs_ok hbs 0
  have e3 : ∀ i, look h0 i = match ns[i]? with | some s => (look st.hp s).map (Blk.mapS (idxOf ns)) | none => none := fun i => by rw [e2, if_pos (Nat.zero_le _), Nat.sub_zero]
  unfold callU at he
  split at he
  ·rename_i r hp hEf
   split at he
   ·rename_i hc
    simp only [Bool.and_eq_true, decide_eq_true_eq, List.all_eq_true] at hc
    obtain ⟨⟨⟨hlen, hkeys⟩, hclo⟩, hbx⟩ := hc
    split at he
    ·rename_i hf
     cases he
     have hcl : ∀ s B, s ∈ ns → look st.hp s = some B → ∀ t, t ∈ B.ment → t ∈ ns := fun s B hs hB t ht => List.contains_iff_mem.1 (hclo t (mem_blkMents hs hB (by rw [mentB_ment]; exact ht)))
     have hsp := splitA_open (as := S.mapS.smapS (idxOf ns) as) (noTup_map hnt) e1
     -- what is handed over
     obtain ⟨loc0, hloc0⟩ : ∃ loc0 : Locs, ∀ i, loc0 i = match ns[i]? with | some s => loc s | none => none := ⟨_, fun _ => rfl⟩
     have hidx : ∀ s, s ∈ ns → loc0 (idxOf ns s) = loc s := fun s hs => by rw [hloc0, idxOf_get hs]
     have hown : ∀ b, ownL loc0 b ↔ ∃ s l, s ∈ ns ∧ loc s = some l ∧ l.blk = some b := by
      intro b
      constructor
      ·rintro ⟨i, l, h1, h2⟩
       rw [hloc0] at h1
       split at h1
       ·exact ⟨_, l, List.mem_of_getElem? ‹_›, h1, h2⟩
       ·cases h1
      ·rintro ⟨s, l, h1, h2, h3⟩
       exact ⟨idxOf ns s, l, by rw [hidx s h1]; exact h2, h3⟩
     have hoks : ∀ b, okI w0 ok0 w loc b → b < w.heap.size ∧ ¬ ownL loc0 b := fun b hb => ⟨hb.2.1, fun ho => by
      obtain ⟨s, l, _, h2, h3⟩ := (hown b).1 ho
      exact hb.2.2 s l h2 h3⟩
     have hHp : HpRel (ownL loc0) w.heap.size w (okI w0 ok0 w loc) loc0 h0 := by
      refine ⟨fun i => ?_, fun i l B h1 h2 => ?_, fun i j l l' b h1 h2 h3 h4 => ?_, fun i l b h1 h2 => ⟨.inl ⟨i, l, h1, h2⟩, ?_⟩⟩
      ·rw [hloc0, e3]
       cases hq : ns[i]? with
       | none => rfl
       | some s => dsimp only; rw [I.hp.dom]; cases look st.hp s <;> rfl
      ·rw [hloc0] at h1
       rw [e3] at h2
       cases hq : ns[i]? with
       | none => rw [hq] at h1; cases h1
       | some s =>
        rw [hq] at h1 h2
        dsimp only at h1 h2
        rw [Option.map_eq_some_iff] at h2
        obtain ⟨B', h2, rfl⟩ := h2
        refine (I.hp.blk s l B' h1 h2).mapS (fun b hb => hb) (fun t m ht hm => ?_)
        rw [hidx t (hcl s B' (List.mem_of_getElem? hq) h2 t ht)]
        exact hm
      ·rw [hloc0] at h1 h2
       cases hq : ns[i]? with
       | none => rw [hq] at h1; cases h1
       | some s =>
        cases hq' : ns[j]? with
        | none => rw [hq'] at h2; cases h2
        | some s' =>
         rw [hq] at h1
         rw [hq'] at h2
         have := I.hp.inj s s' l l' b h1 h2 h3 h4
         subst this
         exact idx_inj hnd hq hq'
      ·rw [hloc0] at h1
       split at h1
       ·exact (I.hp.lo _ l b h1 h2).2
       ·cases h1
     have hArgs : RSs w (okI w0 ok0 w loc) loc0 (S.mapS.smapS (idxOf ns) as) vs.toList := by
      refine ⟨by rw [smapS_length]; exact hl, fun j s u h1 h2 => ?_⟩
      obtain ⟨y, h3, rfl⟩ := smapS_get _ as j s h1
      have h4 := hr j y u h3 h2
      have h5 : RS0 w (okI w0 ok0 w loc) loc y u := by
       cases y with
       | tup l => exact absurd (List.mem_of_getElem? h3) (noTup_mem hnt l)
       | undef => exact h4
       | one v => exact h4
       | agg vs => exact h4
      refine h5.mapS (fun b hb => hb) (fun t l ht hm => ?_)
      rw [hidx t (hmem t (mem_mentS (List.mem_of_getElem? h3) ht))]
      exact hm
     obtain ⟨hfn, hcall⟩ := hE f _ r hp hEf _ h0 hsp w (okI w0 ok0 w loc) loc0 vs ⟨I.okb.2.now I.below, fun p hp ho => by
      obtain ⟨s, l, _, k2, k3⟩ := (hown p.1).1 ho
      rcases (I.hp.lo s l p.1 k2 k3).1 with k | k
      ·exact I.okb.2.2 p hp k
      ·have := I.okb.2.1.lt hp; omega⟩ hoks hHp hArgs
     unfold Oper.wp
     rw [hrun hfn, Oper.upon_enter]
     refine hcall.mono fun e w' ⟨x, locR, hex, hF, hH, hR, hB⟩ => ?_
     subst hex
     obtain ⟨okR, hokR⟩ : ∃ okR, okR = okI w (fun b => okI w0 ok0 w loc b ∨ ownL loc0 b) w' locR := ⟨_, rfl⟩
     rw [← hokR] at hH hR
     have hbase : w0.heap.size ≤ w.heap.size := I.below.size
     -- where all stands from now on
     obtain ⟨locN, hlocN⟩ : ∃ locN : Locs, ∀ s, locN s = match fwdN ns d s with | some k => locR k | none => none := ⟨_, fun _ => rfl⟩
     obtain ⟨loc', hloc'⟩ : ∃ loc' : Locs, ∀ s, loc' s = match locN s with | some l => some l | none => if s ∈ ns then none else loc s := ⟨_, fun _ => rfl⟩
     have hkey : ∀ k l, locR k = some l → k < ns.length ∨ (64 ≤ k ∧ k < 128 ∧ (64 * d + (k - 64)) ∉ ns) := by
      intro k l hk
      have h1 := hH.dom k
      rw [hk] at h1
      cases h2 : look hp k with
      | none => rw [h2] at h1; cases h1
      | some B => exact keysOk_mem hkeys k B (look_mem _ _ _ h2)
     have hNback : ∀ k l, locR k = some l → locN (backN ns d k) = some l := fun k l hk => by rw [hlocN, fwd_back hnd hlen (hkey k l hk)]; exact hk
     have hback : ∀ k l, locR k = some l → loc' (backN ns d k) = some l := fun k l hk => by rw [hloc', hNback k l hk]
     have hNinv : ∀ s l, locN s = some l → ∃ k, backN ns d k = s ∧ locR k = some l := by
      intro s l hs
      rw [hlocN] at hs
      cases hq : fwdN ns d s with
      | none => rw [hq] at hs; cases hs
      | some k => rw [hq] at hs; exact ⟨k, (back_fwd hlen hq).1, hs⟩
     have hNbk : ∀ s, (locN s).isSome = (look (hpBack ns d hp) s).isSome := by
      intro s
      rw [hlocN, look_hpBack hnd hlen hkeys]
      cases fwdN ns d s with
      | none => rfl
      | some k => dsimp only; rw [hH.dom]; cases look hp k <;> rfl
     -- a site that was not handed over is where it was
     have hstay : ∀ s l, s ∉ ns → loc s = some l → locN s = none := by
      intro s l hs hq
      cases hN : locN s with
      | none => rfl
      | some m =>
       have h1 := hNbk s
       rw [hN] at h1
       have h2 := fresh_spec hf s h1.symm
       dsimp only at h2
       rw [look_without, if_neg hs, ← I.hp.dom, hq] at h2
       cases h2
     have hold : ∀ s l, s ∉ ns → loc s = some l → loc' s = some l := fun s l hs hq => by rw [hloc', hstay s l hs hq, if_neg hs]; exact hq
     have hcase : ∀ s l, loc' s = some l → (∃ k, backN ns d k = s ∧ locR k = some l ∧ locN s = some l) ∨ (s ∉ ns ∧ loc s = some l ∧ locN s = none) := by
      intro s l hs
      rw [hloc'] at hs
      cases hN : locN s with
      | some m =>
       rw [hN] at hs
       cases hs
       obtain ⟨k, h1, h2⟩ := hNinv s l hN
       exact .inl ⟨k, h1, h2, rfl⟩
      | none =>
       rw [hN] at hs
       dsimp only at hs
       split at hs
       ·cases hs
       ·exact .inr ⟨‹_›, hs, rfl⟩
     -- a variable that was handed over is where it was
     have hbox : ∀ s b, s ∈ ns → loc s = some (.box b) → loc' s = some (.box b) := by
      intro s b hs hq
      have h1 := hB (idxOf ns s) b (by rw [hidx s hs]; exact hq)
      have := hback _ _ h1
      rwa [backN_lt (idxOf_get hs)] at this
     have hkeep : ∀ t l, t ∉ rowsOf (look st.hp) ns → loc t = some l → loc' t = some l := by
      intro t l ht hq
      by_cases hs : t ∈ ns
      ·have h1 : isBox (look st.hp t) = true := by
        cases h2 : isBox (look st.hp t) with
        | true => rfl
        | false => exact absurd (mem_rowsOf.2 ⟨hs, h2⟩) ht
       cases h3 : look st.hp t with
       | none => rw [h3] at h1; cases h1
       | some B =>
        cases B with
        | rows el e xs => rw [h3] at h1; cases h1
        | box vs0 =>
         have h4 := I.hp.blk t l _ hq h3
         cases l with
         | box b => exact hbox t b hs hq
         | virt => exact h4.elim
         | rows b el e cap => exact h4.elim
      ·exact hold t l hs hq
     have hnoown : ∀ s l b, s ∉ ns → loc s = some l → l.blk = some b → ¬ ownL loc0 b := by
      intro s l b hs h1 h2 ho
      obtain ⟨s', l', h3, h4, h5⟩ := (hown b).1 ho
      have := I.hp.inj s s' l l' b h1 h4 h2 h5
      subst this
      exact hs h3
     have hokk : ∀ b, okI w0 ok0 w loc b → okI w0 ok0 w' loc' b ∧ w'.heap[b]? = w.heap[b]? := by
      intro b hb
      refine ⟨⟨hb.1, by have := hb.2.1; have := hF.size; omega, fun s l hs hlb => ?_⟩, hF.block b hb.2.1 (hoks b hb).2⟩
      rcases hcase s l hs with ⟨k, _, h2, _⟩ | ⟨_, h2, _⟩
      ·rcases (hH.lo k l b h2 hlb).1 with h3 | h3
       ·exact (hoks b hb).2 h3
       ·have := hb.2.1; omega
      ·exact hb.2.2 s l h2 hlb
     have hokR' : ∀ b, okR b → okI w0 ok0 w' loc' b := by
      intro b hb
      rw [hokR] at hb
      obtain ⟨h1, h2, h3⟩ := hb
      refine ⟨?_, h2, fun s l hs hlb => ?_⟩
      ·rcases h1 with (h1 | h1) | h1
       ·exact h1.1
       ·obtain ⟨s, l, _, h5, h6⟩ := (hown b).1 h1
        rcases (I.hp.lo s l b h5 h6).1 with h7 | h7
        ·exact .inl (I.oko b h7)
        ·exact .inr h7
       ·exact .inr (by omega)
      ·rcases hcase s l hs with ⟨k, _, h5, _⟩ | ⟨h4, h5, _⟩
       ·exact h3 k l h5 hlb
       ·rcases h1 with (h1 | h1) | h1
        ·exact h1.2.2 s l h5 hlb
        ·exact hnoown s l b h4 h5 hlb h1
        ·have := (I.hp.lo s l b h5 hlb).2; omega
     have hI : Inv n Γ w0 ok0 loc' { sl := st.sl.map (fun p => (p.1, killsS (rowsOf (look st.hp) ns) p.2)), hp := hpBack ns d hp ++ (without ns st.hp).map (fun p => (p.1, killsB (rowsOf (look st.hp) ns) p.2)) } a w' := by
      refine ⟨⟨hF.os.trans I.below.os, hF.tape.trans I.below.tape, hF.output.trans I.below.output, Nat.le_trans hbase hF.size, fun k hk ho => ?_⟩, I.okb, ⟨fun s => ?_, fun s l B h1 h2 => ?_, fun s s' l l' b h1 h2 h3 h4 => ?_, fun s l b h1 h2 => ?_⟩, I.oko, fun s b h => ⟨(I.bx s b h).1, ?_⟩, I.sz, fun t q h => ?_, I.df⟩
      ·rw [hF.block k (by omega) fun h1 => ?_]
       ·exact I.below.block k hk ho
       ·obtain ⟨s, l, _, h5, h6⟩ := (hown k).1 h1
        rcases (I.hp.lo s l k h5 h6).1 with h7 | h7
        ·exact ho h7
        ·omega
      ·rw [look_append, hloc']
       have h1 := hNbk s
       cases hN : locN s with
       | some l =>
        rw [hN] at h1
        cases h2 : look (hpBack ns d hp) s with
        | some B => rfl
        | none => rw [h2] at h1; cases h1
       | none =>
        rw [hN] at h1
        cases h2 : look (hpBack ns d hp) s with
        | some B => rw [h2] at h1; cases h1
        | none =>
         dsimp only
         rw [look_map, look_without]
         by_cases hs : s ∈ ns
         ·rw [if_pos hs, if_pos hs]; rfl
         ·rw [if_neg hs, if_neg hs, I.hp.dom]; cases look st.hp s <;> rfl
      ·dsimp only at h2
       rw [look_append] at h2
       have h3 := hNbk s
       rcases hcase s l h1 with ⟨k, g1, g2, g3⟩ | ⟨g1, g2, g3⟩
       ·rw [g3] at h3
        cases h4 : look (hpBack ns d hp) s with
        | none => rw [h4] at h3; cases h3
        | some B' =>
         rw [h4] at h2
         cases h2
         rw [look_hpBack hnd hlen hkeys, ← g1, fwd_back hnd hlen (hkey k l g2)] at h4
         dsimp only at h4
         rw [Option.map_eq_some_iff] at h4
         obtain ⟨B', h4, rfl⟩ := h4
         exact (hH.blk k l B' g2 h4).mapS hokR' fun t m _ hm => hback t m hm
       ·rw [g3] at h3
        cases h4 : look (hpBack ns d hp) s with
        | some B' => rw [h4] at h3; cases h3
        | none =>
         rw [h4] at h2
         dsimp only at h2
         rw [look_map, look_without, if_neg g1, Option.map_eq_some_iff] at h2
         obtain ⟨B', h2, rfl⟩ := h2
         exact (I.hp.blk s l B' g2 h2).kills hokk (fun b hb => hF.block b (I.hp.lo s l b g2 hb).2 (hnoown s l b g1 g2 hb)) hkeep
      ·rcases hcase s l h1 with ⟨k, g1, g2, _⟩ | ⟨g1, g2, _⟩ <;> rcases hcase s' l' h2 with ⟨k', q1, q2, _⟩ | ⟨q1, q2, _⟩
       ·rw [← g1, ← q1, hH.inj k k' l l' b g2 q2 h3 h4]
       ·rcases (hH.lo k l b g2 h3).1 with h5 | h5
        ·exact absurd h5 (hnoown s' l' b q1 q2 h4)
        ·have := (I.hp.lo s' l' b q2 h4).2; omega
       ·rcases (hH.lo k' l' b q2 h4).1 with h5 | h5
        ·exact absurd h5 (hnoown s l b g1 g2 h3)
        ·have := (I.hp.lo s l b g2 h3).2; omega
       ·exact I.hp.inj s s' l l' b g2 q2 h3 h4
      ·rcases hcase s l h1 with ⟨k, _, g2, _⟩ | ⟨_, g2, _⟩
       ·have h5 := hH.lo k l b g2 h2
        refine ⟨?_, h5.2⟩
        rcases h5.1 with h6 | h6
        ·obtain ⟨s', l', _, h7, h8⟩ := (hown b).1 h6
         exact (I.hp.lo s' l' b h7 h8).1
        ·exact .inr (by omega)
       ·have h5 := I.hp.lo s l b g2 h2
        exact ⟨h5.1, by have := h5.2; have := hF.size; omega⟩
      ·have h1 := (I.bx s b h).2
       by_cases hs : s ∈ ns
       ·exact hbox s b hs h1
       ·exact hold s _ hs h1
      ·dsimp only at h
       rw [look_map, Option.map_eq_some_iff] at h
       obtain ⟨q', h, rfl⟩ := h
       obtain ⟨h1, h2⟩ := I.sl t q' h
       exact ⟨h1, h2.kills hokk hkeep⟩
     exact hn x w' loc' (hI.val o.dst hd _ x (hR.mapS hokR' fun t m _ hm => hback t m hm))
    ·cases he
   ·cases he
  ·cases he
 ·cases he
end
end Go.Proofs.YtdflglehippoiaaGreatDoorR
namespace Go.Proofs.YtdflglehippoiaaGreatDoorR
open Go Go.RowKit

section
variable {P : Program} {w : World} {ok : Nat → Prop} {loc : Locs} {a : Act} {g : Nat → Option S} {h : Nat → Option Blk}

def flatF (P : Program) : Nat → List Field → List Bool → Bool
 | _, [], [] => true
 | o, f :: r, k :: q => f.offset == o && !(f.name == "_") && (match P.underlying f.type with | some .bool => !k | some (.int _) => k | _ => false) && flatF P (o + 1) r q
 | _, _, _ => false
theorem run_equalIn_int (d : Nat) {t : TypeId} {k q : IntKind} (m n : Int) (ht : P.underlying t = some (.int q)) : (Op.equalIn (d + 1) t (.int k m) (.int k n)).run P w = .ok (decide (m = n)) w := by
 simp [Op.equalIn, run_underlying ht]
 rfl
theorem eqf_step {d : Nat} {xs ys : Array Value} {f : Field} {fs : List Field} {x y : Value} {r s : Bool} (hn : (f.name == "_") = false) (ha : (part f.type xs f.offset).run P w = .ok x w) (hb : (part f.type ys f.offset).run P w = .ok y w) (he : (Op.equalIn d f.type x y).run P w = .ok r w) (hr : (Op.eqFields d xs ys fs).run P w = .ok s w) : (Op.eqFields d xs ys (f :: fs)).run P w = .ok (r && s) w := by
 have hn' : f.name ≠ "_" := by simpa using hn
 rw [Op.eqFields]
 simp only [if_pos hn', Sem.run_bind, ha, hb, he, Result.andThen_ok]
 cases r
 ·simp
 ·simpa using hr
theorem run_part0 {t : TypeId} {cs : Array Value} {off : Nat} {v : Value} (ht : (match P.underlying t with | some .bool | some (.int _) => true | _ => false) = true) (hv : cs[off]? = some v) : (part t cs off).run P w = .ok v w := by
 have ha : aggT P t false = true := by
  unfold aggT
  split at ht <;> first | (rename_i q; rw [q]; rfl) | cases ht
 simp [part, run_isAgg ha, hv]
theorem run_eqFields (d : Nat) {xs ys : Array Value} : ∀ (fs : List Field) (ks : List Bool) (o : Nat) (a b : List V) (t : Bool), flatF P o fs ks = true → (∀ (j : Nat) v, a[j]? = some v → ∃ c, xs[o + j]? = some c ∧ RV w ok loc v c) → (∀ (j : Nat) v, b[j]? = some v → ∃ c, ys[o + j]? = some c ∧ RV w ok loc v c) → eqvs ks a b = some t →
  (Op.eqFields (d + 1) xs ys fs).run P w = .ok t w
 | [], [], o, [], [], t, _, _, _, he => by cases he; simp [Op.eqFields]
 | f :: fs, k :: ks, o, [], b, t, _, _, _, he => by cases k <;> cases he
 | f :: fs, k :: ks, o, a0 :: a, [], t, _, _, _, he => by cases k <;> cases a0 <;> cases he
 | f :: fs, k :: ks, o, a0 :: a, b0 :: b, t, hf, ha, hb, he => by
  simp only [flatF, Bool.and_eq_true, beq_iff_eq, Bool.not_eq_true'] at hf
  obtain ⟨⟨⟨h1, h2⟩, h3⟩, h4⟩ := hf
  subst h1
  obtain ⟨c, hc, hcr⟩ := ha 0 a0 rfl
  obtain ⟨c', hc', hcr'⟩ := hb 0 b0 rfl
  have ha' : ∀ (j : Nat) v, a[j]? = some v → ∃ c, xs[f.offset + 1 + j]? = some c ∧ RV w ok loc v c := fun j v hj => by have := ha (j + 1) v (by simpa using hj); rwa [show f.offset + (j + 1) = f.offset + 1 + j by omega] at this
  have hb' : ∀ (j : Nat) v, b[j]? = some v → ∃ c, ys[f.offset + 1 + j]? = some c ∧ RV w ok loc v c := fun j v hj => by have := hb (j + 1) v (by simpa using hj); rwa [show f.offset + (j + 1) = f.offset + 1 + j by omega] at this
  have ht : (match P.underlying f.type with | some .bool | some (.int _) => true | _ => false) = true := by
   split at h3
   ·rfl
   ·rfl
   ·cases h3
  have hp1 := run_part0 (w := w) ht hc
  have hp2 := run_part0 (w := w) ht hc'
  rw [Nat.add_zero] at hp1 hp2
  cases k with
  | true =>
   cases a0 <;> cases b0 <;> simp only [eqvs] at he <;> try cases he
   rename_i k m k' n
   split at he
   ·rename_i hk
    subst hk
    split at he
    ·rename_i t' ht'
     cases he
     cases (hcr : Rep w ok (.int k m) c)
     cases (hcr' : Rep w ok (.int k n) c')
     split at h3
     ·cases h3
     ·rename_i q hq
      exact eqf_step (by simpa using h2) hp1 hp2 (run_equalIn_int d m n hq) (run_eqFields d fs ks _ a b t' h4 ha' hb' ht')
     ·cases h3
    ·cases he
   ·cases he
  | false =>
   cases a0 <;> cases b0 <;> simp only [eqvs] at he <;> try cases he
   rename_i m n
   split at he
   ·rename_i t' ht'
    cases he
    cases (hcr : Rep w ok (.bool m) c)
    cases (hcr' : Rep w ok (.bool n) c')
    split at h3
    ·rename_i hq
     exact eqf_step (by simpa using h2) hp1 hp2 (run_equalIn_bool d m n hq) (run_eqFields d fs ks _ a b t' h4 ha' hb' ht')
    ·cases h3
    ·cases h3
   ·cases he
 | [], _ :: _, _, _, _, _, hf, _, _, _ => by cases hf
 | _ :: _, [], _, _, _, _, hf, _, _, _ => by cases hf
 | [], [], _, _ :: _, _, _, _, _, _, he => by cases he
 | [], [], _, [], _ :: _, _, _, _, _, he => by cases he
def eqsT (P : Program) (t : TypeId) (ks : List Bool) : Bool := match P.underlying t with
 | some (.struct fs) => flatF P 0 fs.toList ks && !P.stoodInHeld t && !P.eqGuardType P.depth t
 | _ => false
theorem y_eqs {o : Oper} {op : BinOp} {t u : TypeId} {x y : Operand} {x' y' : X} {ks : List Bool} {p q : List V} {r : Bool} (neg : Bool) (ho : o.op = .binOp op t x y u) (hop : op = if neg then .neq else .eql) (hT : eqsT P t ks = true) (hx : xok x x' = true) (hy : xok y y' = true) (hg : GOk w ok loc a g)
  (ex : x'.ev g = some (.agg p)) (ey : y'.ev g = some (.agg q)) (he : eqvs ks p q = some r) : Yld P w ok loc a o (.one (.bool (if neg then !r else r))) := by
 unfold eqsT at hT
 split at hT
 ·rename_i fs hu
  simp only [Bool.and_eq_true, Bool.not_eq_true'] at hT
  obtain ⟨⟨h1, h2⟩, h3⟩ := hT
  obtain ⟨xs, e1, r1⟩ := xok_rs hx hg ex
  obtain ⟨ys, e2, r2⟩ := xok_rs hy hg ey
  have hcell : ∀ {vs : List V} {cs : Array Value}, RVs w ok loc vs cs.toList → ∀ (j : Nat) v, vs[j]? = some v → ∃ c, cs[0 + j]? = some c ∧ RV w ok loc v c := by
   intro vs cs hr j v hj
   have hlt : j < cs.toList.length := by rw [← hr.1]; exact (List.getElem?_eq_some_iff.1 hj).1
   refine ⟨cs.toList[j], by rw [Nat.zero_add]; simp at hlt ⊢, hr.2 j v _ hj (List.getElem?_eq_getElem hlt)⟩
  have hf := run_eqFields (P := P) 9998 fs.toList ks 0 p q r h1 (hcell r1) (hcell r2) he
  have hpf : P.fieldsOf t = fs := by simp [Program.fieldsOf, hu]
  have heq : (Op.equalIn 10000 t (.agg xs) (.agg ys)).run P w = .ok r w := by
   have := run_equalIn_struct (P := P) w 9999 t xs ys (by rw [hpf]; exact hu) h2
   rw [this, hpf]
   exact hf
  have hgd : (eqGuard op t x y (.agg xs) (.agg ys)).run P w = .ok () w := by
   subst hop
   cases neg <;> simp [eqGuard, h3]
  refine ⟨_, ?_, to_bool⟩
  unfold execOp
  rw [ho]
  simp only [e1, e2, Sem.run_bind, hgd, Result.andThen_ok]
  subst hop
  cases neg
  ·simp only [Bool.false_eq_true, if_false, binOp]
   simp [Op.equal, Op.maxDepth, heq]
  ·simp only [if_true, binOp]
   simp [Op.equal, Op.maxDepth, heq]
 ·cases hT


def xokO : Option Operand → Option X → Bool
 | none, none => true
 | some o, some x => xok o x
 | _, _ => false
theorem run_bound {o : Option Operand} {x : Option X} {dflt v : Int} (hx : xokO o x = true) (hg : GOk w ok loc a g) (hb : bnd g dflt x = some v) : (o = none ∧ v = dflt) ∨ ∃ o' k, o = some o' ∧ a.eval o' = .int k v := by
 cases o with
 | none =>
  cases x with
  | none => cases hb; exact .inl ⟨rfl, rfl⟩
  | some x => cases hx
 | some o' =>
  cases x with
  | none => cases hx
  | some x =>
   obtain ⟨k, hk⟩ := asI_spec (a := a) hx hg hb
   exact .inr ⟨o', k, rfl, hk⟩
theorem run_sliceBound {k : IntKind} {v : Int} {y : Nat} (code : BoundsCode) (h0 : 0 ≤ v) (h1 : v ≤ y) : (Instr.sliceBound (.int k v) y code).run P w = .ok v.toNat w := by
 simp [Instr.sliceBound, asIntOf, h0, h1]
theorem run_slice {t el : TypeId} {e : Nat} {lo hi : Option Operand} {lo' hi' : Option X} {A : Option Addr} {len cap : Nat} {l u : Int} (ht : P.underlying t = some (.slice el)) (hs : sizeT P el e = true) (hlo : xokO lo lo' = true) (hhi : xokO hi hi' = true) (hg : GOk w ok loc a g)
  (el' : bnd g 0 lo' = some l) (eh' : bnd g len hi' = some u) (h0 : 0 ≤ l) (h1 : l ≤ u) (h2 : u ≤ len) (h3 : len ≤ cap) :
  (Instr.sliceAt t (.slice A len cap) (lo.map a.eval) (hi.map a.eval) none).run P w = .ok (.slice (if cap = l.toNat then A else A.map (·.add (l.toNat * e))) (u.toNat - l.toNat) (cap - l.toNat)) w := by
 have hb : (Instr.sliceBounds true len cap (lo.map a.eval) (hi.map a.eval) none).run P w = .ok (l.toNat, u.toNat, cap) w := by
  rcases run_bound hlo hg el' with ⟨e1, e2⟩ | ⟨o1, k1, e1, e2⟩ <;> rcases run_bound hhi hg eh' with ⟨f1, f2⟩ | ⟨o2, k2, f1, f2⟩
  ·subst e1; subst f1; subst e2; subst f2
   simp [Instr.sliceBounds]
  ·subst e1; subst f1; subst e2
   have := run_sliceBound (P := P) (w := w) (k := k2) (y := cap) .sliceAcap (by omega) (show u ≤ (cap : Int) by omega)
   simp [Instr.sliceBounds, f2, this]
  ·subst e1; subst f1; subst f2
   have := run_sliceBound (P := P) (w := w) (k := k1) (y := len) .sliceB h0 h1
   simp [Instr.sliceBounds, e2, this]
  ·subst e1; subst f1
   have g1 := run_sliceBound (P := P) (w := w) (k := k2) (y := cap) .sliceAcap (by omega) (show u ≤ (cap : Int) by omega)
   have g2 := run_sliceBound (P := P) (w := w) (k := k1) (y := u.toNat) .sliceB h0 (show l ≤ (u.toNat : Int) by omega)
   simp [Instr.sliceBounds, e2, f2, g1, g2]
 simp only [Instr.sliceAt, Sem.run_bind, run_underlying ht, Result.andThen_ok, Instr.slice, hb, run_sizeOf hs, Sem.run_pure]

theorem y_cut_row {o : Oper} {t el : TypeId} {e : Nat} {x : Operand} {x' : X} {lo hi : Option Operand} {lo' hi' : Option X} {xs : List (List V)} {l u : Int} (ho : o.op = .slice t x lo hi none) (ht : P.underlying t = some (.slice el)) (hs : sizeT P el e = true) (hx : xok x x' = true) (hlo : xokO lo lo' = true) (hhi : xokO hi hi' = true) (hg : GOk w ok loc a g)
  (ex : x'.ev g = some (.one (.row xs))) (el' : bnd g 0 lo' = some l) (eh' : bnd g xs.length hi' = some u) (h0 : 0 ≤ l) (h1 : l ≤ u) (h2 : u ≤ xs.length) (hne : l ≠ u → xs.all (·.length == e) = true) :
  Yld P w ok loc a o (.one (if l = u then .row [] else .row ((xs.take u.toNat).drop l.toNat))) := by
 have hr : Rep w ok (.row xs) (a.eval x) := xok_rs hx hg ex
 have hexec : ∀ {A : Option Addr} {c : Nat}, a.eval x = .slice A xs.length c → xs.length ≤ c → (execOp a.eval o).run P w = .ok (.value (.slice (if c = l.toNat then A else A.map (·.add (l.toNat * e))) (u.toNat - l.toNat) (c - l.toNat))) w := by
  intro A c hz hc
  have := run_slice (P := P) (w := w) (A := A) ht hs hlo hhi hg el' eh' h0 h1 h2 hc
  unfold execOp
  rw [ho]
  simp only [hz, Option.map_none, Sem.run_bind, this, Result.andThen_ok, Sem.run_pure]
 generalize hz : a.eval x = z at hr hexec
 cases hr with
 | row0 A c =>
  have h5 : u ≤ 0 := by simpa using h2
  have : l = 0 := by omega
  have : u = 0 := by omega
  subst l; subst u
  refine ⟨_, hexec rfl (Nat.zero_le _), ?_⟩
  rw [if_pos rfl]
  exact Rep.row0 _ _
 | row f hn hne' hc ha he hr hp =>
  rename_i ad m c e'
  refine ⟨_, hexec (by rw [hn]) (by omega), ?_⟩
  by_cases hlu : l = u
  ·rw [if_pos hlu, hlu, Nat.sub_self]
   exact Rep.row0 _ _
  ·rw [if_neg hlu, if_neg (by omega)]
   have hee : e' = e := by
    cases xs with
    | nil => simp at hn; omega
    | cons y r =>
     have := List.all_eq_true.1 (hne hlu) y (List.mem_cons_self ..)
     rw [← he y (List.mem_cons_self ..)]
     simpa using this
   subst hee
   have hget : ∀ (i : Nat) x, ((xs.take u.toNat).drop l.toNat)[i]? = some x → xs[l.toNat + i]? = some x := by
    intro i x hx
    rw [List.getElem?_drop, List.getElem?_take] at hx
    split at hx
    ·exact hx
    ·cases hx
   refine Rep.row (fun i j => f (l.toNat + i) j) (by rw [List.length_drop, List.length_take]; omega) (by omega) (by omega) (by rw [add_block]; exact ha) (fun y hy => he y (List.mem_of_mem_take (List.mem_of_mem_drop hy))) (fun i j y p a1 a2 => ?_) (fun i j y p a1 a2 => hp _ _ _ _ (hget i y a1) a2)
   rw [addr_add, ← Nat.add_assoc, ← Nat.add_mul]
   exact hr _ _ _ _ (hget i y a1) a2

theorem y_cut_sl {o : Oper} {t el : TypeId} {e e0 : Nat} {x : Operand} {x' : X} {lo hi : Option Operand} {lo' hi' : Option X} {s off len el2 : Nat} {xs : List (List V)} {l u : Int} (ho : o.op = .slice t x lo hi none) (ht : P.underlying t = some (.slice el)) (hs : sizeT P el e = true) (hx : xok x x' = true) (hlo : xokO lo lo' = true) (hhi : xokO hi hi' = true) (hg : GOk w ok loc a g) (hh : HOk w ok loc h)
  (ex : x'.ev g = some (.one (.sl s off len))) (hq : h s = some (.rows el2 e0 xs)) (el' : bnd g 0 lo' = some l) (eh' : bnd g len hi' = some u) (h0 : 0 ≤ l) (h1 : l ≤ u) (h2 : u ≤ len) (hne : l ≠ u → e0 = e) :
  Yld P w ok loc a o (.one (if l = u then .row [] else .sl s (off + l.toNat) (u.toNat - l.toNat))) := by
 have hexec : ∀ {A : Option Addr} {c : Nat}, a.eval x = .slice A len c → len ≤ c → (execOp a.eval o).run P w = .ok (.value (.slice (if c = l.toNat then A else A.map (·.add (l.toNat * e))) (u.toNat - l.toNat) (c - l.toNat))) w := by
  intro A c hz hc
  have := run_slice (P := P) (w := w) (A := A) ht hs hlo hhi hg el' eh' h0 h1 h2 hc
  unfold execOp
  rw [ho]
  simp only [hz, Option.map_none, Sem.run_bind, this, Result.andThen_ok, Sem.run_pure]
 rcases (xok_rs hx hg ex : RV w ok loc (.sl s off len) (a.eval x)) with ⟨b, el3, e2, cap, g1, g2, g3⟩ | ⟨g1, g2, g3, g4⟩
 ·refine ⟨_, hexec g3 (by omega), ?_⟩
  by_cases hlu : l = u
  ·rw [if_pos hlu, hlu, Nat.sub_self]
   exact Rep.row0 _ _
  ·obtain ⟨e1, e2', _⟩ := hh _ _ _ g1 hq
   have hee := hne hlu
   subst e2'
   subst hee
   rw [if_neg hlu, if_neg (by omega)]
   refine .inl ⟨b, el3, e0, cap, g1, by omega, ?_⟩
   simp only [Option.map_some, Addr.add_lit, Nat.add_mul, Nat.sub_sub]
 ·subst g3
  have h5 : u ≤ 0 := by simpa using h2
  have : l = 0 := by omega
  have : u = 0 := by omega
  subst l; subst u
  refine ⟨_, hexec g4 (Nat.le_refl _), ?_⟩
  rw [if_pos rfl]
  exact Rep.row0 _ _

theorem knil {x : Operand} {x' : X} (hx : xok x x' = true) (hg : GOk w ok loc a g) (ex : x'.ev g = some (.one (.k (.slice none 0 0)))) : a.eval x = .slice none 0 0 := by
 have hr : Rep w ok (.k (.slice none 0 0)) (a.eval x) := xok_rs hx hg ex
 generalize a.eval x = z at hr
 cases hr
 rfl
theorem y_kln {o : Oper} {t el : TypeId} {b : Builtin} {x : Operand} {x' : X} (ho : o.op = .call { callee := .builtin b, args := #[x], argTypes := #[t] }) (hb : b = .len ∨ b = .cap) (ht : P.underlying t = some (.slice el)) (hx : xok x x' = true) (hg : GOk w ok loc a g)
  (ex : x'.ev g = some (.one (.k (.slice none 0 0)))) : Yld P w ok loc a o (.one (.int .i64 0)) := by
 have hz := knil hx hg ex
 refine ⟨_, ?_, to_int⟩
 unfold execOp
 rw [ho]
 rcases hb with rfl | rfl
 ·simp [resolve, invoke, builtin, hz, Builtin.len_, run_underlying ht, goInt]
 ·simp [resolve, invoke, builtin, hz, Builtin.cap_, run_underlying ht, goInt]
theorem y_kct {o : Oper} {t el : TypeId} {x hi : Operand} {x' hi' : X} {e : Nat} (ho : o.op = .slice t x none (some hi) none) (ht : P.underlying t = some (.slice el)) (hs : sizeT P el e = true) (hx : xok x x' = true) (hh : xok hi hi' = true) (hg : GOk w ok loc a g)
  (ex : x'.ev g = some (.one (.k (.slice none 0 0)))) (eh : asI (hi'.ev g) = some 0) : Yld P w ok loc a o (.one (.k (.slice none 0 0))) := by
 have hz := knil hx hg ex
 have := run_slice (P := P) (w := w) (lo := none) (hi := some hi) (lo' := none) (hi' := some hi') (A := none) (len := 0) (cap := 0) ht hs rfl hh hg rfl eh (Int.le_refl _) (Int.le_refl _) (Int.le_refl _) (Nat.le_refl _)
 refine ⟨.slice none 0 0, ?_, Rep.k rfl⟩
 unfold execOp
 rw [ho]
 simp only [Option.map_none, Option.map_some] at this
 simp only [hz, Option.map_none, Option.map_some, Sem.run_bind, this, Result.andThen_ok, Sem.run_pure]
 rfl
theorem y_cu0 {o : Oper} {t el : TypeId} {e : Nat} {x hi : Operand} {x' hi' : X} {s off len : Nat} {u : Int} (ho : o.op = .slice t x none (some hi) none) (ht : P.underlying t = some (.slice el)) (hs : sizeT P el e = true) (hx : xok x x' = true) (hh : xok hi hi' = true) (hg : GOk w ok loc a g)
  (ex : x'.ev g = some (.one (.sl s off len))) (eh : asI (hi'.ev g) = some u) (h0 : 0 ≤ u) (h1 : u ≤ len) : Yld P w ok loc a o (.one (.sl s off u.toNat)) := by
 have hexec : ∀ {A : Option Addr} {c : Nat}, a.eval x = .slice A len c → len ≤ c → (execOp a.eval o).run P w = .ok (.value (.slice (if c = (0 : Int).toNat then A else A.map (·.add ((0 : Int).toNat * e))) (u.toNat - (0 : Int).toNat) (c - (0 : Int).toNat))) w := by
  intro A c hz hc
  have := run_slice (P := P) (w := w) (lo := none) (hi := some hi) (lo' := none) (hi' := some hi') (A := A) (len := len) (cap := c) ht hs rfl hh hg rfl eh (Int.le_refl _) h0 h1 hc
  unfold execOp
  rw [ho]
  simp only [Option.map_none, Option.map_some] at this
  simp only [hz, Option.map_none, Option.map_some, Sem.run_bind, this, Result.andThen_ok, Sem.run_pure]
 rcases (xok_rs hx hg ex : RV w ok loc (.sl s off len) (a.eval x)) with ⟨b, el3, e2, cap, g1, g2, g3⟩ | ⟨g1, g2, g3, g4⟩
 ·refine ⟨_, hexec g3 (by omega), .inl ⟨b, el3, e2, cap, g1, by omega, ?_⟩⟩
  simp only [Int.toNat_zero, Nat.zero_mul, Nat.sub_zero, Option.map_some, Addr.add_lit, Nat.add_zero]
  split <;> rfl
 ·subst g3
  obtain rfl : u = 0 := by omega
  exact ⟨_, hexec g4 (Nat.le_refl _), .inr ⟨g1, g2, rfl, rfl⟩⟩

theorem run_places (P : Program) (w : World) : ∀ (fs : List Field), (fs.all fun f => (P.info? f.type).isSome) = true → (fs.mapM fun f => do pure (f.offset, ← sizeOf f.type) : Sem (List (Nat × Nat))).run P w = .ok (fs.map fun f => (f.offset, P.cellsOf f.type)) w
 | [], _ => rfl
 | f :: r, h => by
  simp only [List.all_cons, Bool.and_eq_true] at h
  obtain ⟨i, hi⟩ := Option.isSome_iff_exists.1 h.1
  have h1 : (sizeOf f.type).run P w = .ok (P.cellsOf f.type) w := by simp [sizeOf, typeInfo, hi, Program.cellsOf]
  have ih := run_places P w r h.2
  simp only [List.mapM_cons, Sem.run_bind, h1, Result.andThen_ok, Sem.run_pure, ih, List.map_cons]
def buildT (P : Program) (t : TypeId) (zs : List V) (ps : List (Nat × Operand)) (qs : List (Nat × Nat × X)) : Bool := zeroT P t zs && match P.underlying t with
 | some (.struct fs) => (fs.toList.all fun f => (P.info? f.type).isSome) && partOk (fun i : Nat => (fs.toList.map fun f => (f.offset, P.cellsOf f.type))[i]?) ps qs
 | some (.array _ el) => (P.info? el).isSome && partOk (fun i => some (i * P.cellsOf el, P.cellsOf el)) ps qs
 | _ => false
theorem y_build {o : Oper} {t : TypeId} {ps : Array (Nat × Operand)} {qs : List (Nat × Nat × X)} {zs ws : List V} (ho : o.op = .build t ps) (hT : buildT P t zs ps.toList qs = true) (hg : GOk w ok loc a g) (hf : fillV g zs qs = some ws) : Yld P w ok loc a o (.agg ws) := by
 unfold buildT at hT
 simp only [Bool.and_eq_true] at hT
 obtain ⟨hz, hT⟩ := hT
 obtain ⟨i, z, i1, i2, i3⟩ := zeroT_spec hz
 have hzr : RVs w ok loc zs z.cells.toList := voks_rvs i3
 have hzero : (zeroValue t).run P w = .ok z w := by simp [zeroValue, typeInfo, i1, i2]
 split at hT
 ·rename_i fs hu
  simp only [Bool.and_eq_true] at hT
  obtain ⟨B, hB, hr⟩ := fill_rvs hg _ ps.toList qs z.cells zs ws hT.2 hzr hf
  refine ⟨.agg B, ?_, ⟨B, rfl, hr⟩⟩
  have hpl := run_places P w fs.toList hT.1
  unfold execOp
  rw [ho]
  have hfun : (fun x : Nat => (List.map (fun f => (f.offset, P.cellsOf f.type)) fs.toList).toArray[x]?) = (fun i : Nat => (fs.toList.map fun f => (f.offset, P.cellsOf f.type))[i]?) := by
   funext q; simp
  simp only [Instr.build, Sem.run_bind, hzero, Result.andThen_ok, run_underlying hu, Array.mapM_eq_mapM_toList, Sem.run_map, hpl, hfun, Array.toList_map, hB, Sem.run_pure]
 ·rename_i n el hu
  simp only [Bool.and_eq_true] at hT
  obtain ⟨B, hB, hr⟩ := fill_rvs hg _ ps.toList qs z.cells zs ws hT.2 hzr hf
  refine ⟨.agg B, ?_, ⟨B, rfl, hr⟩⟩
  obtain ⟨i', hi'⟩ := Option.isSome_iff_exists.1 hT.1
  have h1 : (sizeOf el).run P w = .ok (P.cellsOf el) w := by simp [sizeOf, typeInfo, hi', Program.cellsOf]
  unfold execOp
  rw [ho]
  simp only [Instr.build, Sem.run_bind, hzero, Result.andThen_ok, run_underlying hu, h1, Array.toList_map, hB, Sem.run_pure]
 ·cases hT

theorem y_mkf {o : Oper} {f : Nat} {cs : Array Operand} {cs' : List X} {ss : List S} {vs : List V} (ho : o.op = .makeFunc (.func f) #[] cs) (hx : xoks cs.toList cs' = true) (hg : GOk w ok loc a g) (es : evs g cs' = some ss) (hs : ones ss = some vs) (hm : (ments vs).isEmpty = true) : Yld P w ok loc a o (.one (.fn f vs)) := by
 have key : ∀ (l : List Operand) (l' : List X) (ss : List S) (vs : List V), xoks l l' = true → evs g l' = some ss → ones ss = some vs → vs.length = l.length ∧ ∀ (j : Nat) v x, vs[j]? = some v → l[j]? = some x → RV w ok loc v (a.eval x) := by
  intro l
  induction l with
  | nil =>
   intro l' ss vs h1 h2 h3
   cases l' with
   | nil => cases h2; cases h3; exact ⟨rfl, fun j v x h => by cases h⟩
   | cons => cases h1
  | cons x r ih =>
   intro l' ss vs h1 h2 h3
   cases l' with
   | nil => cases h1
   | cons x' r' =>
    simp only [xoks, Bool.and_eq_true] at h1
    simp only [evs] at h2
    split at h2
    ·rename_i s hs
     split at h2
     ·rename_i ss' hss
      cases h2
      cases s with
      | one v =>
       simp only [ones] at h3
       split at h3
       ·rename_i vs' hvs
        cases h3
        obtain ⟨g1, g2⟩ := ih r' ss' vs' h1.2 hss hvs
        refine ⟨by simp [g1], fun j v' y a1 a2 => ?_⟩
        cases j with
        | zero => simp at a1 a2; subst a1; subst a2; exact xok_rs h1.1 hg hs
        | succ j => exact g2 j v' y (by simpa using a1) (by simpa using a2)
       ·cases h3
      | undef => cases h3
      | agg vs => cases h3
      | tup xs => cases h3
     ·cases h2
    ·cases h2
 obtain ⟨k1, k2⟩ := key cs.toList cs' ss vs hx es hs
 refine ⟨.func (.func f) #[] (cs.map a.eval), ?_, Rep.rv (loc := loc) (.fn (fun j => a.eval (cs.toList.getD j (.const undef))) (by simp [k1]) (fun j p hj => ?_) (fun j p hj => ?_))⟩
 ·unfold execOp
  rw [ho]
  simp [Instr.makeFunc]
 ·have hlt : j < cs.toList.length := by rw [← k1]; exact (List.getElem?_eq_some_iff.1 hj).1
  simp at hlt
  simp [hlt]
 ·have hlt : j < cs.toList.length := by rw [← k1]; exact (List.getElem?_eq_some_iff.1 hj).1
  refine rv_rep (k2 j p _ hj ?_) (ments_nil hm p (List.mem_of_getElem? hj))
  simp at hlt
  simp [hlt]
end
end Go.Proofs.YtdflglehippoiaaGreatDoorR
