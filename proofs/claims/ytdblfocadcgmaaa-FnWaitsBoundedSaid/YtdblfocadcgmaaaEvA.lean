/- A machine of values, first part: what operations come to; no condition but what each theorem names. -/
import Derived.Orders
import Derived.Laws.OwnMore
import Derived.Laws.StructEq
import Derived.Laws.Small
import Derived.Laws.Slices
import Derived.Laws.Wrap64
import Derived.Below
import Derived.Laws.BytesString
import Derived.Laws.MakeOwn
import Derived.Laws.Tables
set_option linter.unusedVariables false
set_option linter.unusedSimpArgs false
namespace Go.Proofs.Ytdblfocadcgmaaa.Ev
open Go

/-- Values as trees. ints, rows: a slice's elements; rows: each of sz cells; agg: a struct's cells; sh: a slice that others may read, too; ref: the function's k-th variable that is handed to it; ptr: a variable of its own. -/
inductive T where
  | int (k : IntKind) (n : Int)
  | bool (b : Bool)
  | str (s : List UInt8)
  | ints (k : IntKind) (xs : List Int)
  | rows (sz : Nat) (xs : List T)
  | agg (xs : List T)
  | tup (xs : List T)
  | ptr (t : T)
  | sh (t : T)
  | fn (f : FuncId) (xs : List T)
  | ref (k : Nat)
  | vp (t : T)
  | dead
  deriving Inhabited

inductive Step where
  | f (i : Nat)
  | e (i : Nat)

abbrev Path := List Step
abbrev Name := Nat

/-- What a slot holds: vw: a value that is read as long as the named blocks are not written; pv: an address of one; ref: a slice of an own block; ptr: an address in an own block (some o: of the cell o of the struct at the path). -/
inductive SV where
  | vw (ds : List Name) (t : T)
  | pv (ds : List Name) (t : T)
  | nilS (t : T)
  | ref (n : Name) (p : Path) (z off len : Nat)
  | ptr (n : Name) (p : Path) (o : Option Nat)
  | agg (xs : List SV)
  | tup (xs : List SV)
  | fn (f : FuncId) (xs : List SV)
  | undef
  | dead
  deriving Inhabited

inductive Knd where
  | ik (k : IntKind)
  | flat (sz : Nat)
  | deep (sz : Nat)

def Knd.sz : Knd → Nat
  | .ik _ => 1
  | .flat s => s
  | .deep s => s

inductive X where
  | t (i : Nat)
  | c (v : SV)

inductive I where
  | mv (x : X)
  | cp (x : X)
  | pick (c a b : X)
  | bin (bb : Bool) (op : BinOp) (x y : X)
  | un (op : UnOp) (x : X)
  | cvi (k : IntKind) (x : X)
  | len (st : Bool) (x : X)
  | idx (z : Nat) (a : Bool) (x i : X)
  | sidx (x i : X)
  | fa (x : X) (o : Nat)
  | fld (x : X) (o : Nat) (n : Option Nat)
  | ld (x : X) (n : Option Nat)
  | st (z : Nat) (x v : X)
  | new (t : T)
  | box (v : X)
  | bld (zs : List SV) (ps : List (Nat × Nat × X))
  | bsl (k : Knd) (n : Nat) (ps : List (Nat × X))
  | mks (k : Knd) (z : T) (n c : X)
  | lit (k : IntKind) (n : Nat) (ps : List (Nat × X))
  | slc (st : Bool) (z : Nat) (x : X) (lo hi : Option X)
  | app (k : Knd) (x y : X)
  | mkf (f : FuncId) (xs : List X)
  | call (m : Bool) (f : FuncId) (xs : List X)
  | callv (x : X) (xs : List X)
  | ext (x : X) (i : Nat)
  | nilc (x : X)
  | mnx (mx : Bool) (x : X) (xs : List X)
  | cvsb (x : X)
  | cvbs (x : X)
  | eqs (ne : Bool) (ks : List Nat) (x y : X)
  | cpy (k : IntKind) (x y : X)
  | trm (z : Nat) (x : X) (lo hi : Option X)

structure G where
  d : Option Nat
  g : Option (Nat × Bool)
  i : I

inductive C where
  | skip
  | reg (ops : List G)
  | seq (a b : C)
  | cond (x : X) (a b : C)
  | block (id : Nat) (a : C)
  | loop (a : C)
  | exit (id : Nat)
  | ret
  | gc (ks : List Nat) (a : C)
  | regA (ks : List Nat) (gs : List G) (ords : List (List Nat))
  | pre (ks : List Nat) (a : C)
  | bad

abbrev Env := Nat → SV
abbrev Hp := Name → Option T

def upd {α : Type} (s : Nat → α) (k : Nat) (v : α) : Nat → α := fun j => if j = k then v else s j
@[simp] theorem upd_same {α : Type} (s : Nat → α) (k : Nat) (v : α) : upd s k v k = v := by simp [upd]
theorem upd_ne {α : Type} (s : Nat → α) {k j : Nat} (v : α) (h : j ≠ k) : upd s k v j = s j := by simp [upd, h]
theorem upd_app {α : Type} (s : Nat → α) (k : Nat) (v : α) (j : Nat) : upd s k v j = if j = k then v else s j := rfl

structure St where
  s : Env
  h : Hp
  nx : Nat

def X.ev (s : Env) : X → SV
  | .t i => s i
  | .c v => v

/-! ### trees -/
def T.child : T → Step → Option T
  | .agg xs, .f o => xs[o]?
  | .ints k xs, .e i => (xs[i]?).map (.int k)
  | .rows _ xs, .e i => xs[i]?
  | _, _ => none

def T.setChild : T → Step → T → Option T
  | .agg xs, .f o, u => some (.agg (xs.set o u))
  | .ints k xs, .e i, .int k' n => if k = k' then some (.ints k (xs.set i n)) else none
  | .rows sz xs, .e i, u => some (.rows sz (xs.set i u))
  | _, _, _ => none

def T.get (t : T) : Path → Option T
  | [] => some t
  | s :: p => (t.child s).bind fun u => u.get p

def T.put (t : T) (u : T) : Path → Option T
  | [] => some u
  | s :: p => (t.child s).bind fun c => (c.put u p).bind fun c' => t.setChild s c'

/-- In a block: a variable's content, or a row. -/
def T.body : T → T
  | .ptr t => t
  | t => t

def T.rget (r : T) (p : Path) : Option T := r.body.get p

def T.rput (r : T) (u : T) (p : Path) : Option T :=
  match r with
  | .ptr t => (t.put u p).map .ptr
  | t => t.put u p

/-- The elements from off on, n of them. -/
def T.sub : T → Nat → Nat → Option T
  | .ints k xs, off, n => if off = 0 ∧ n = xs.length then some (.ints k xs) else some (.ints k ((xs.drop off).take n))
  | .rows sz xs, off, n => if off = 0 ∧ n = xs.length then some (.rows sz xs) else some (.rows sz ((xs.drop off).take n))
  | _, _, _ => none

def T.len : T → Option Nat
  | .ints _ xs => some xs.length
  | .rows _ xs => some xs.length
  | _ => none

/-- A row: of how many cells its elements are. -/
def T.esz : T → Option Nat
  | .ints _ _ => some 1
  | .rows sz _ => some sz
  | _ => none

/-- And how many elements. -/
def T.shp : T → Option (Nat × Nat)
  | .ints _ xs => some (1, xs.length)
  | .rows sz xs => some (sz, xs.length)
  | _ => none

def T.isRow : T → Bool
  | .ints _ _ => true
  | .rows _ _ => true
  | _ => false

def T.scalar : T → Bool
  | .int _ _ => true
  | .bool _ => true
  | .str _ => true
  | _ => false

/-! ### slots -/
def mayPre : Path → Path → Bool
  | [], _ => true
  | _, [] => false
  | .f i :: q, .f j :: p => i == j && mayPre q p
  | .e _ :: q, .e _ :: p => mayPre q p
  | _, _ => false

mutual
/-- Does it lean on what lies at the path q of the block n, or behind it? -/
def SV.und (n : Name) (q : Path) : SV → Bool
  | .vw ds _ => ds.contains n
  | .pv ds _ => ds.contains n
  | .ref m p _ _ _ => m == n && mayPre q p
  | .ptr m p _ => m == n && mayPre q p && decide (q.length < p.length)
  | .agg xs => undL n q xs
  | .tup xs => undL n q xs
  | .fn _ xs => undL n q xs
  | .nilS _ => false
  | .undef => false
  | .dead => false
def undL (n : Name) (q : Path) : List SV → Bool
  | [] => false
  | x :: xs => x.und n q || undL n q xs
/-- Does it lean on the content of the block n? -/
def SV.dep (n : Name) : SV → Bool
  | .vw ds _ => ds.contains n
  | .pv ds _ => ds.contains n
  | .agg xs => depL n xs
  | .tup xs => depL n xs
  | .fn _ xs => depL n xs
  | .ref _ _ _ _ _ => false
  | .ptr _ _ _ => false
  | .nilS _ => false
  | .undef => false
  | .dead => false
def depL (n : Name) : List SV → Bool
  | [] => false
  | x :: xs => x.dep n || depL n xs
/-- Does it name the block n? -/
def SV.nam (n : Name) : SV → Bool
  | .vw ds _ => ds.contains n
  | .pv ds _ => ds.contains n
  | .ref m _ _ _ _ => m == n
  | .ptr m _ _ => m == n
  | .agg xs => namL n xs
  | .tup xs => namL n xs
  | .fn _ xs => namL n xs
  | .nilS _ => false
  | .undef => false
  | .dead => false
def namL (n : Name) : List SV → Bool
  | [] => false
  | x :: xs => x.nam n || namL n xs
def SV.names : SV → List Name
  | .vw ds _ => ds
  | .pv ds _ => ds
  | .ref m _ _ _ _ => [m]
  | .ptr m _ _ => [m]
  | .agg xs => namesL xs
  | .tup xs => namesL xs
  | .fn _ xs => namesL xs
  | .nilS _ => []
  | .undef => []
  | .dead => []
def namesL : List SV → List Name
  | [] => []
  | x :: xs => x.names ++ namesL xs
def SV.ren (f : Name → Name) : SV → SV
  | .vw ds t => .vw (ds.map f) t
  | .pv ds t => .pv (ds.map f) t
  | .ref m p z o l => .ref (f m) p z o l
  | .ptr m p o => .ptr (f m) p o
  | .agg xs => .agg (renL f xs)
  | .tup xs => .tup (renL f xs)
  | .fn g xs => .fn g (renL f xs)
  | .nilS t => .nilS t
  | .undef => .undef
  | .dead => .dead
def renL (f : Name → Name) : List SV → List SV
  | [] => []
  | x :: xs => x.ren f :: renL f xs
end

def killU (n : Name) (q : Path) (s : Env) : Env := fun k => if (s k).und n q then .dead else s k
def killD (n : Name) (s : Env) : Env := fun k => if (s k).dep n then .dead else s k
def killN (n : Name) (s : Env) : Env := fun k => if (s k).nam n then .dead else s k

/-- A tree that is read, as a slot's value. -/
def SV.of (ds : List Name) : T → Option SV
  | .int k n => some (.vw [] (.int k n))
  | .bool b => some (.vw [] (.bool b))
  | .str s => some (.vw [] (.str s))
  | .ints k xs => some (.vw ds (.ints k xs))
  | .rows sz xs => some (.vw ds (.rows sz xs))
  | .sh t => if t.isRow then some (.vw ds t) else none
  | _ => none

def ofL (ds : List Name) : List T → Option (List SV)
  | [] => some []
  | t :: ts => (SV.of ds t).bind fun v => (ofL ds ts).map (v :: ·)

/-- Of one cell, or of a struct. -/
def SV.ofA (ds : List Name) : T → Option SV
  | .agg xs => (ofL ds xs).map .agg
  | t => SV.of ds t

def SV.int? : SV → Option Int
  | .vw [] (.int _ n) => some n
  | _ => none
def SV.bool? : SV → Option Bool
  | .vw [] (.bool b) => some b
  | _ => none

def maxN : Nat := 4294967296

/-! ### numbers -/
def intBin (op : BinOp) (k : IntKind) (a b : Int) : Option T :=
  match op with
  | .add => some (.int k (k.wrap (a + b)))
  | .sub => some (.int k (k.wrap (a - b)))
  | .mul => some (.int k (k.wrap (a * b)))
  | .quo => if b = 0 then none else some (.int k (k.wrap (a.tdiv b)))
  | .rem => if b = 0 then none else some (.int k (a.tmod b))
  | .and => some (.int k (k.wrap (BitVec.ofInt k.bits a &&& BitVec.ofInt k.bits b).toNat))
  | .or => some (.int k (k.wrap (BitVec.ofInt k.bits a ||| BitVec.ofInt k.bits b).toNat))
  | .xor => some (.int k (k.wrap (BitVec.ofInt k.bits a ^^^ BitVec.ofInt k.bits b).toNat))
  | .eql => some (.bool (a == b))
  | .neq => some (.bool (a != b))
  | .lss => some (.bool (a < b))
  | .leq => some (.bool (a ≤ b))
  | .gtr => some (.bool (a > b))
  | .geq => some (.bool (a ≥ b))
  | _ => none

def shBin (op : BinOp) (k : IntKind) (a b : Int) : Option T :=
  if b < 0 then none else
  match op with
  | .shl => some (.int k (k.wrap (a * 2 ^ (min b.toNat k.bits))))
  | .shr => some (.int k (a.fdiv (2 ^ (min b.toNat k.bits))))
  | _ => none

def strBin (op : BinOp) (a b : List UInt8) : Option T :=
  match op with
  | .add => if a.length + b.length < maxN then some (.str (a ++ b)) else none
  | .eql => some (.bool (a == b))
  | .neq => some (.bool (!(a == b)))
  | .lss => some (.bool (Op.bytesLess a b))
  | .leq => some (.bool (Op.bytesLess a b || a == b))
  | .gtr => some (.bool (!(Op.bytesLess a b || a == b)))
  | .geq => some (.bool (!Op.bytesLess a b))
  | _ => none

/-- Structs of plain cells: are they alike? -/
def eqCells : List Nat → List SV → List SV → Option Bool
  | [], [], [] => some true
  | 0 :: ks, .vw [] (.int k a) :: xs, .vw [] (.int k' b) :: ys => if k = k' then (eqCells ks xs ys).map (a == b && ·) else none
  | 1 :: ks, .vw [] (.bool a) :: xs, .vw [] (.bool b) :: ys => (eqCells ks xs ys).map (a == b && ·)
  | 2 :: ks, .vw [] (.str a) :: xs, .vw [] (.str b) :: ys => (eqCells ks xs ys).map (a == b && ·)
  | _, _, _ => none

def binSV (bb : Bool) (op : BinOp) (x y : SV) : Option T :=
  match bb, x, y with
  | false, .vw [] (.int k a), .vw [] (.int k' b) =>
    match op with
    | .shl => shBin .shl k a b
    | .shr => shBin .shr k a b
    | op => if k = k' then intBin op k a b else none
  | false, .vw [] (.str a), .vw [] (.str b) => strBin op a b
  | true, .vw [] (.bool a), .vw [] (.bool b) =>
    match op with
    | .eql => some (.bool (a == b))
    | .neq => some (.bool (!(a == b)))
    | _ => none
  | _, _, _ => none

def unSV (op : UnOp) (x : SV) : Option T :=
  match op, x with
  | .neg, .vw [] (.int k n) => some (.int k (k.wrap (0 - n)))
  | .not, .vw [] (.bool b) => some (.bool !b)
  | _, _ => none


/-! ### operations that write nothing that was there -/
def addNat (a b : Nat) : Nat := if a = 0 then b else a + b

/-- What a cell at the path q of the block m holds. -/
def cellSV (m : Name) (q : Path) : T → Option SV
  | .int k n => some (.vw [] (.int k n))
  | .bool b => some (.vw [] (.bool b))
  | .str s => some (.vw [] (.str s))
  | .ints _ xs => some (.ref m q 1 0 xs.length)
  | .rows sz xs => some (.ref m q sz 0 xs.length)
  | .sh t => if t.isRow then some (.vw [] t) else none
  | _ => none

def cellsSV (m : Name) (p : Path) (o : Nat) : List T → Option (List SV)
  | [] => some []
  | t :: ts => (cellSV m (p ++ [.f o]) t).bind fun v => (cellsSV m p (o + 1) ts).map (v :: ·)

def T.cells? : T → Option (List T)
  | .agg xs => some xs
  | _ => none

def ldSV (h : Hp) (n : Option Nat) : SV → Option SV
  | .pv ds t =>
    match n, t with
    | none, .agg (x :: _) => SV.of ds x
    | none, t => SV.of ds t
    | some k, .agg xs => if k ≤ xs.length then (ofL ds (xs.take k)).map .agg else none
    | some _, _ => none
  | .ptr m p none =>
    match n with
    | none => ((h m).bind fun r => r.rget p).bind (cellSV m p)
    | some _ => none
  | .ptr m p (some o) =>
    (((h m).bind fun r => r.rget p).bind T.cells?).bind fun xs =>
      match n with
      | none => (xs[o]?).bind (cellSV m (p ++ [.f o]))
      | some k => if o + k ≤ xs.length then (cellsSV m p o ((xs.drop o).take k)).map .agg else none
  | _ => none

def sliceInts : Option (Option Int) → Nat → Option Nat
  | none, d => some d
  | some none, _ => none
  | some (some n), _ => if 0 ≤ n then some n.toNat else none

def slcSV (st : Bool) (z : Nat) (x : SV) (lo hi : Option (Option Int)) : Option SV :=
  match st, x with
  | true, .vw ds (.str s) =>
    (sliceInts hi s.length).bind fun b => (sliceInts lo 0).bind fun a => if a ≤ b ∧ b ≤ s.length then some (.vw ds (.str ((s.drop a).take (b - a)))) else none
  | false, .vw ds (.ints k xs) =>
    (sliceInts hi xs.length).bind fun b => (sliceInts lo 0).bind fun a => if a ≤ b ∧ b ≤ xs.length ∧ z = 1 then some (.vw ds (.ints k ((xs.drop a).take (b - a)))) else none
  | false, .vw ds (.rows z' xs) =>
    (sliceInts hi xs.length).bind fun b => (sliceInts lo 0).bind fun a => if a ≤ b ∧ b ≤ xs.length ∧ z = z' then some (.vw ds (.rows z' ((xs.drop a).take (b - a)))) else none
  | false, .ref m p z' off l =>
    (sliceInts hi l).bind fun b => (sliceInts lo 0).bind fun a => if a ≤ b ∧ b ≤ l ∧ z = z' then some (.ref m p z' (addNat off a) (b - a)) else none
  | _, _ => none

def idxSV (z : Nat) (a : Bool) (x : SV) (i : Int) : Option SV :=
  match x with
  | .vw ds (.ints k xs) => if 0 ≤ i ∧ z = 1 then (xs[i.toNat]?).map fun n => .pv ds (.int k n) else none
  | .vw ds (.rows z' xs) => if 0 ≤ i ∧ z = z' then (xs[i.toNat]?).map fun t => .pv ds t else none
  | .ref m p z' off l => if 0 ≤ i ∧ i < l ∧ z = z' then some (.ptr m (p ++ [.e (addNat off i.toNat)]) (if a then some 0 else none)) else none
  | _ => none

def lenSV : Bool → SV → Option Nat
  | true, .vw _ (.str s) => some s.length
  | false, .vw _ (.ints _ xs) => some xs.length
  | false, .vw _ (.rows _ xs) => some xs.length
  | false, .nilS t => if t.isRow then some 0 else none
  | false, .ref _ _ _ _ l => some l
  | _, _ => none

def SV.cells : SV → List SV
  | .agg xs => xs
  | v => [v]

/-- It stands for one value, of a cell or a struct. -/
def SV.solid : SV → Bool
  | .tup _ => false
  | .undef => false
  | .dead => false
  | _ => true

def splice : List SV → List (Nat × Nat × SV) → Option (List SV)
  | zs, [] => some zs
  | zs, (o, n, v) :: ps => if v.solid = true ∧ v.cells.length = n ∧ o + n ≤ zs.length then splice (zs.take o ++ v.cells ++ zs.drop (o + n)) ps else none

/-- A plain cell as a tree. -/
def SV.plain : SV → Option T
  | .vw [] (.int k n) => some (.int k n)
  | .vw [] (.bool b) => some (.bool b)
  | .vw [] (.str s) => some (.str s)
  | _ => none

def plainL : List SV → Option (List T)
  | [] => some []
  | v :: vs => v.plain.bind fun t => (plainL vs).map (t :: ·)

def SV.plainA : SV → Option T
  | .agg xs => (plainL xs).map .agg
  | v => v.plain

def plainAL : List SV → Option (List T)
  | [] => some []
  | v :: vs => v.plainA.bind fun t => (plainAL vs).map (t :: ·)

def intsL (k : IntKind) : List SV → Option (List Int)
  | [] => some []
  | .vw [] (.int k' n) :: vs => if k = k' then (intsL k vs).map (n :: ·) else none
  | _ => none

/-- The parts of a literal slice: each element once, in order. -/
def elems : Nat → Nat → List (Nat × SV) → Option (List SV)
  | _, 0, [] => some []
  | i, n + 1, (j, v) :: ps => if j = i then (elems (i + 1) n ps).map (v :: ·) else none
  | _, _, _ => none

def mnxI (mx : Bool) (k : IntKind) : Int → List SV → Option Int
  | a, [] => some a
  | a, .vw [] (.int k' b) :: vs => if k = k' then mnxI mx k (if mx then (if b > a then b else a) else (if b < a then b else a)) vs else none
  | _, _ => none

def T.zeros (z : T) (n : Nat) : Knd → T
  | .ik k => .ints k (List.replicate n 0)
  | .flat sz => .rows sz (List.replicate n z)
  | .deep sz => .rows sz (List.replicate n z)

def bytes (xs : List Int) : List UInt8 := xs.map fun n => UInt8.ofNat n.toNat

/-- The ints of a slice that is read. -/
def readInts (h : Hp) : SV → Option (IntKind × List Int)
  | .vw _ (.ints k xs) => some (k, xs)
  | .ref m p _ off l => ((h m).bind fun r => r.rget p).bind fun t => (t.sub off l).bind fun
    | .ints k xs => some (k, xs)
    | _ => none
  | _ => none

def opt (s : Env) (x : Option X) : Option (Option Int) := x.map fun x => (x.ev s).int?

def den (i : I) (s : Env) (h : Hp) (nm : Name) : Option (SV × Option T) :=
  match i with
  | .mv x =>
    match x.ev s with
    | .nilS t => t.esz.map fun z => (.ref nm [] z 0 0, some t)
    | v => some (v, none)
  | .cp x => some (x.ev s, none)
  | .pick c a b =>
    match c.ev s, a.ev s, b.ev s with
    | .vw [] (.bool t), .vw [] (.bool x), .vw [] (.bool y) => some (.vw [] (.bool (if t then x else y)), none)
    | .vw [] (.bool t), x, y => some (if t then x else y, none)
    | _, _, _ => none
  | .bin bb op x y => (binSV bb op (x.ev s) (y.ev s)).map fun t => (.vw [] t, none)
  | .un op x => (unSV op (x.ev s)).map fun t => (.vw [] t, none)
  | .cvi k x => (x.ev s).int?.map fun n => (.vw [] (.int k (k.wrap n)), none)
  | .len st x => (lenSV st (x.ev s)).map fun (n : Nat) => (SV.vw [] (.int .i64 (n : Int)), none)
  | .idx z a x i => (i.ev s).int?.bind fun n => (idxSV z a (x.ev s) n).map fun v => (v, none)
  | .sidx x i =>
    match x.ev s, (i.ev s).int? with
    | .vw [] (.str b), some n => if 0 ≤ n then (b[n.toNat]?).map fun c => (.vw [] (.int .u8 c.toNat), none) else none
    | _, _ => none
  | .fa x o =>
    match x.ev s with
    | .ptr m p (some o') => some (.ptr m p (some (o' + o)), none)
    | .pv ds (.agg xs) => some (.pv ds (.agg (xs.drop o)), none)
    | _ => none
  | .fld x o n =>
    match x.ev s with
    | .agg xs => match n with
      | none => (xs[o]?).map fun v => (v, none)
      | some k => if o + k ≤ xs.length then some (.agg ((xs.drop o).take k), none) else none
    | _ => none
  | .ld x n => (ldSV h n (x.ev s)).map fun v => (v, none)
  | .new t => some (.ptr nm [] (some 0), some (.ptr t))
  | .bld zs ps => (splice zs (ps.map fun q => (q.1, q.2.1, q.2.2.ev s))).map fun vs => (.agg vs, none)
  | .bsl k n ps =>
    (elems 0 n (ps.map fun q => (q.1, q.2.ev s))).bind fun vs =>
      match k with
      | .ik k => (intsL k vs).map fun xs => (.ref nm [] 1 0 n, some (.ints k xs))
      | .flat sz => if vs.all (fun v => v.cells.length == sz) then (plainAL vs).map fun ts => (.ref nm [] sz 0 n, some (.rows sz ts)) else none
      | .deep _ => none
  | .lit k n ps => (elems 0 n (ps.map fun q => (q.1, q.2.ev s))).bind fun vs => (intsL k vs).map fun xs => (.vw [] (.ints k xs), none)
  | .mks k z n c =>
    (n.ev s).int?.bind fun a => (c.ev s).int?.bind fun b =>
      if 0 ≤ a ∧ a ≤ b ∧ b < maxN then some (.ref nm [] k.sz 0 a.toNat, some (z.zeros a.toNat k)) else none
  | .slc st z x lo hi => (slcSV st z (x.ev s) (opt s lo) (opt s hi)).map fun v => (v, none)
  | .mkf f xs => some (.fn f (xs.map (X.ev s)), none)
  | .ext x i =>
    match x.ev s with
    | .tup xs => (xs[i]?).map fun v => (v, none)
    | _ => none
  | .nilc x =>
    match x.ev s with
    | .ptr m p o => some (.ptr m p o, none)
    | .pv ds t => some (.pv ds t, none)
    | .fn f xs => some (.fn f xs, none)
    | _ => none
  | .mnx mx x xs =>
    match x.ev s with
    | .vw [] (.int k a) => (mnxI mx k a (xs.map (X.ev s))).map fun n => (.vw [] (.int k n), none)
    | _ => none
  | .cvsb x =>
    match x.ev s with
    | .vw _ (.str b) => if b.length < maxN then some (.ref nm [] 1 0 b.length, some (.ints .u8 (b.map fun c => (c.toNat : Int)))) else none
    | _ => none
  | .eqs ne ks x y =>
    match x.ev s, y.ev s with
    | .agg xs, .agg ys => (eqCells ks xs ys).map fun b => (.vw [] (.bool (if ne then !b else b)), none)
    | _, _ => none
  | .cvbs x =>
    match x.ev s with
    | .nilS t => if t.isRow then some (.vw [] (.str []), none) else none
    | v => (readInts h v).bind fun q => if q.1 = .u8 then some (.vw [] (.str (bytes q.2)), none) else none
  | _ => none

/-! ### operations that write, or that take a block over -/
abbrev Kill := SV → Bool

/-- A value is laid into memory of the own: what it leans on is taken over. -/
def SV.abs (h : Hp) : SV → Option (T × Kill × Hp)
  | .vw [] t => if t.scalar then some (t, fun _ => false, h) else if t.isRow then some (.sh t, fun _ => false, h) else none
  | .nilS t => some (t, fun _ => false, h)
  | .ref m [] _ off l => (h m).bind fun r => (r.sub off l).map fun t => (t, SV.nam m, upd h m none)
  | .ref m p _ off l => (h m).bind fun r => (r.rget p).bind fun u => (u.sub off l).bind fun t => (r.rput .dead p).map fun r' => (t, SV.und m p, upd h m (some r'))
  | _ => none

/-- One after the other; what one takes over, the next ones must not lean on. -/
def absW (f : Hp → SV → Option (T × Kill × Hp)) (h : Hp) : List SV → Option (List T × Kill × Hp)
  | [] => some ([], fun _ => false, h)
  | v :: vs => (f h v).bind fun q => if vs.any q.2.1 then none else (absW f q.2.2 vs).map fun q' => (q.1 :: q'.1, fun x => q.2.1 x || q'.2.1 x, q'.2.2)

def absL (h : Hp) (vs : List SV) : Option (List T × Kill × Hp) := absW (fun h v => v.abs h) h vs

/-- A value one tree: of one cell, or a struct. -/
def absA (h : Hp) : SV → Option (T × Kill × Hp)
  | .agg xs => (absL h xs).map fun q => (.agg q.1, q.2)
  | v => v.abs h

def absAL (h : Hp) (vs : List SV) : Option (List T × Kill × Hp) := absW absA h vs

def aggT : T → Bool
  | .agg _ => true
  | _ => false

/-- One cell is stored; tp: the address, which must outlive the taking over. -/
def st1 (h : Hp) (tp : SV) (m : Name) (q : Path) (v : SV) : Option (Kill × Hp) :=
  (v.abs h).bind fun a => if a.2.1 tp then none else (a.2.2 m).bind fun r => (r.rget q).bind fun u => if aggT u then none else (r.rput a.1 q).map fun r' =>
    (if a.1.scalar && u.scalar then (fun x => a.2.1 x || x.dep m) else (fun x => a.2.1 x || x.und m q), upd a.2.2 m (some r'))

def stL (h : Hp) (tp : SV) (m : Name) (p : Path) : Nat → List SV → Option (Kill × Hp)
  | _, [] => some (fun _ => false, h)
  | o, v :: vs => (st1 h tp m (p ++ [.f o]) v).bind fun a => if vs.any a.1 || a.1 tp then none else (stL a.2 tp m p (o + 1) vs).map fun b => (fun x => a.1 x || b.1 x, b.2)

/-- The elements that are appended are taken over. -/
def appRows (sz : Nat) (h : Hp) (y : SV) : Option (List T × Kill × Hp) :=
  (y.abs h).bind fun a => match a.1 with
    | .rows z xs => if z = sz then some (xs, a.2.1, a.2.2) else none
    | _ => none

def T.app (sz : Nat) : T → List T → Option T
  | .rows z xs, ys => if z = sz ∧ xs.length + ys.length < maxN then some (.rows z (xs ++ ys)) else none
  | _, _ => none

def T.appI (k : IntKind) : T → List Int → Option T
  | .ints k' xs, ys => if k = k' ∧ xs.length + ys.length < maxN then some (.ints k (xs ++ ys)) else none
  | _, _ => none

/-- The name of the block behind an append. -/
def appName (nm : Name) : SV → Name
  | .ref m [] _ _ _ => m
  | _ => nm

/-- Behind an append of k elements: the row is taken over, and laid down anew. -/
def appTo (h : Hp) (nm : Name) (app : T → Option T) (k : Nat) (x : SV) : Option (SV × Kill × Hp) :=
  (x.abs h).bind fun a => a.1.shp.bind fun zl => (app a.1).map fun t' => (.ref (appName nm x) [] zl.1 0 (zl.2 + k), a.2.1, upd a.2.2 (appName nm x) (some t'))

/-- A list laid over another from off on. -/
def spl {α : Type} (xs : List α) (off : Nat) (ys : List α) : List α := xs.take off ++ (ys ++ xs.drop (off + ys.length))

/-- The numbers that are copied. -/
def readSrc (h : Hp) (k : IntKind) : SV → Option (List Int)
  | .nilS t => if t.isRow then some [] else none
  | v => (readInts h v).bind fun q => if q.1 = k then some q.2 else none

def readBytes (h : Hp) (k : IntKind) : SV → Option (List Int)
  | .vw _ (.str b) => if k = .u8 then some (b.map fun c => (c.toNat : Int)) else none
  | .nilS t => if t.isRow then some [] else none
  | v => (readInts h v).bind fun q => if q.1 = k then some q.2 else none

def wr (i : I) (s : Env) (h : Hp) (nm : Name) : Option (SV × Kill × Hp) :=
  match i with
  | .st z x v =>
    match x.ev s, v.ev s with
    | .ptr m p none, v => if z = 1 then (st1 h (.ptr m p none) m p v).map fun q => (.undef, q.1, q.2) else none
    | .ptr m p (some o), .agg vs => if z = vs.length then (stL h (.ptr m p (some o)) m p o vs).map fun q => (.undef, q.1, q.2) else none
    | .ptr m p (some o), v => if z = 1 then (st1 h (.ptr m p (some o)) m (p ++ [.f o]) v).map fun q => (.undef, q.1, q.2) else none
    | _, _ => none
  | .box v => if (v.ev s).solid then (absL h (v.ev s).cells).map fun q => (.ptr nm [] (some 0), q.2.1, upd q.2.2 nm (some (.ptr (.agg q.1)))) else none
  | .bsl (.deep sz) n ps =>
    (elems 0 n (ps.map fun q => (q.1, q.2.ev s))).bind fun vs => if vs.all (fun v => v.cells.length == sz) && vs.all SV.solid then (absAL h vs).map fun q => (.ref nm [] sz 0 n, q.2.1, upd q.2.2 nm (some (.rows sz q.1))) else none
  | .app (.ik k) x y => (readBytes h k (y.ev s)).bind fun ys => appTo h nm (fun t => t.appI k ys) ys.length (x.ev s)
  | .cpy k x y =>
    match x.ev s with
    | .ref m [] z off l => (readSrc h k (y.ev s)).bind fun ys => (h m).bind fun r =>
      match r with
      | .ints k' xs => if k' = k ∧ z = 1 ∧ off + l ≤ xs.length then
          some (.vw [] (.int .i64 ((min ys.length l : Nat) : Int)), fun v => v.dep m, upd h m (some (.ints k (spl xs off (ys.take l))))) else none
      | _ => none
    | _ => none
  | .trm z x lo hi => (slcSV false z (x.ev s) (opt s lo) (opt s hi)).bind fun v => appTo h nm some 0 v
  | .app k x y => (appRows k.sz h (y.ev s)).bind fun q => if q.2.1 (x.ev s) then none else
      (appTo q.2.2 nm (fun t => t.app k.sz q.1) q.1.length (x.ev s)).map fun a => (a.1, fun v => q.2.1 v || a.2.1 v, a.2.2)
  | _ => none

def I.isM : I → Bool
  | .st _ _ _ => true
  | .box _ => true
  | .bsl (.deep _) _ _ => true
  | .app _ _ _ => true
  | .cpy _ _ _ => true
  | .trm _ _ _ _ => true
  | _ => false

/-! ### calls -/
abbrev Run := FuncId → List T → List T → Option (T × List T)

def ins (n : Name) (l : List Name) : List Name := if l.contains n then l else l ++ [n]
def insL : List Name → List Name → List Name
  | acc, [] => acc
  | acc, n :: ns => insL (ins n acc) ns

mutual
/-- The variables that are handed over. -/
def SV.refs : SV → List Name
  | .ptr n [] (some 0) => [n]
  | .agg xs => refsL xs
  | .fn _ xs => refsL xs
  | _ => []
def refsL : List SV → List Name
  | [] => []
  | x :: xs => x.refs ++ refsL xs
/-- The blocks that are read. -/
def SV.reads : SV → List Name
  | .vw ds _ => ds
  | .pv ds _ => ds
  | .ref n _ _ _ _ => [n]
  | .agg xs => readsL xs
  | .fn _ xs => readsL xs
  | _ => []
def readsL : List SV → List Name
  | [] => []
  | x :: xs => x.reads ++ readsL xs
def argT (h : Hp) (rs : List Name) : SV → Option T
  | .vw _ t => some t
  | .pv _ t => some (.vp t)
  | .nilS t => some t
  | .ref m p _ off l => ((h m).bind fun r => r.rget p).bind fun t => t.sub off l
  | .ptr n [] (some 0) => some (.ref (rs.idxOf n))
  | .agg xs => (argL h rs xs).map .agg
  | .fn f xs => (argL h rs xs).map (.fn f)
  | _ => none
def argL (h : Hp) (rs : List Name) : List SV → Option (List T)
  | [] => some []
  | x :: xs => (argT h rs x).bind fun t => (argL h rs xs).map (t :: ·)
end

mutual
/-- What a call hands back; blocks of its own get names from nm on. -/
def bindR (ds rs : List Name) (nm : Name) : T → Option (SV × List T)
  | .int k n => some (.vw [] (.int k n), [])
  | .bool b => some (.vw [] (.bool b), [])
  | .str s => some (.vw [] (.str s), [])
  | .ints k xs => some (.ref nm [] 1 0 xs.length, [.ints k xs])
  | .rows sz xs => some (.ref nm [] sz 0 xs.length, [.rows sz xs])
  | .sh t => if t.isRow then some (.vw ds t, []) else none
  | .ptr t => some (.ptr nm [] (some 0), [.ptr t])
  | .ref k => (rs[k]?).map fun n => (.ptr n [] (some 0), [])
  | .agg ts => (bindL ds rs nm ts).map fun q => (.agg q.1, q.2)
  | .tup ts => (bindL ds rs nm ts).map fun q => (.tup q.1, q.2)
  | .dead => some (.dead, [])
  | _ => none
def bindL (ds rs : List Name) (nm : Name) : List T → Option (List SV × List T)
  | [] => some ([], [])
  | t :: ts => (bindR ds rs nm t).bind fun q => (bindL ds rs (nm + q.2.length) ts).map fun q' => (q.1 :: q'.1, q.2 ++ q'.2)
end

def addH (h : Hp) : Name → List T → Hp
  | _, [] => h
  | nm, t :: ts => addH (upd h nm (some t)) (nm + 1) ts

def getAll (h : Hp) : List Name → Option (List T)
  | [] => some []
  | n :: ns => (h n).bind fun t => (getAll h ns).map (t :: ·)

def setAll (h : Hp) : List Name → List T → Hp
  | n :: ns, t :: ts => setAll (upd h n (some t)) ns ts
  | _, _ => h

def anyIn (a b : List Name) : Bool := a.any b.contains

def T.isPtr : T → Bool
  | .ptr (.agg _) => true
  | _ => false

mutual
/-- Nothing in it is shared. -/
def T.noSh : T → Bool
  | .sh _ => false
  | .rows _ xs => noShL xs
  | .agg xs => noShL xs
  | .tup xs => noShL xs
  | .ptr t => t.noSh
  | .fn _ xs => noShL xs
  | .int _ _ => true
  | .bool _ => true
  | .str _ => true
  | .ints _ _ => true
  | .ref _ => true
  | .vp _ => false
  | .dead => true
def noShL : List T → Bool
  | [] => true
  | t :: ts => t.noSh && noShL ts
end

/-- What is shared is seen from outside alone. -/
def T.open_ : T → Bool
  | .sh _ => true
  | .agg xs => xs.all fun t => match t with | .sh _ => true | t => t.noSh
  | .tup xs => xs.all fun t => match t with | .sh _ => true | .agg ys => ys.all (fun t => match t with | .sh _ => true | t => t.noSh) | t => t.noSh
  | t => t.noSh

/-- A call: the value, what is no longer to be leaned on, the blocks. -/
def callSV0 (R : Run) (m : Bool) (f : FuncId) (vs : List SV) (h : Hp) (nm : Name) : Option (SV × Kill × Hp) :=
  if anyIn (readsL vs) (insL [] (refsL vs)) then none else
  if !m && !(insL [] (refsL vs)).isEmpty then none else
  (argL h (insL [] (refsL vs)) vs).bind fun ts => (getAll h (insL [] (refsL vs))).bind fun sto =>
    if !(sto.all T.isPtr) then none else
    (R f ts sto).bind fun r => if r.2.length = sto.length ∧ r.2.all T.isPtr = true ∧ ((insL [] (readsL vs)).isEmpty || (r.1.open_ && noShL r.2)) = true then
      (bindR (insL [] (readsL vs)) (insL [] (refsL vs)) nm r.1).bind fun q => if q.2.length ≤ 16 then
        some (q.1, fun v => (insL [] (refsL vs)).any fun n => v.und n [], addH (setAll h (insL [] (refsL vs)) r.2) nm q.2) else none else none

/-- A variable of the own, handed over to be read alone. -/
def SV.view (h : Hp) : SV → SV
  | .ptr n [] (some 0) => match h n with
    | some (.ptr t) => .pv [n] t
    | _ => .ptr n [] (some 0)
  | v => v

/-- A call; m: variables are handed over to be written, else to be read alone. -/
def callSV (R : Run) (m : Bool) (f : FuncId) (vs : List SV) (h : Hp) (nm : Name) : Option (SV × Kill × Hp) :=
  callSV0 R m f (if m then vs else vs.map (SV.view h)) h nm

def put (s : Env) (d : Option Nat) (v : SV) : Env :=
  match d with
  | some d => upd s d v
  | none => s

def kil (φ : Kill) (s : Env) : Env := fun k => if φ (s k) then .dead else s k

def isCall : I → Option (Bool × Option FuncId × Option X × List X)
  | .call m f xs => some (m, some f, none, xs)
  | .callv x xs => some (true, none, some x, xs)
  | _ => none

/-- An operation: behind it. -/
def stepI (R : Run) (i : I) (s : Env) (h : Hp) (nm : Name) (d : Option Nat) : Option (Env × Hp) :=
  match i with
  | .call false f xs => (callSV R false f (xs.map (X.ev s)) h nm).map fun q => (put s d q.1, q.2.2)
  | .call true f xs => (callSV R true f (xs.map (X.ev s)) h nm).map fun q => (put (kil q.2.1 s) d q.1, q.2.2)
  | .callv x xs =>
    match x.ev s with
    | .fn f cs => (callSV R true f (xs.map (X.ev s) ++ cs) h nm).map fun q => (put (kil q.2.1 s) d q.1, q.2.2)
    | _ => none
  | i => if i.isM then (wr i s h nm).map fun q => (put (kil q.2.1 s) d q.1, q.2.2)
    else (den i s h nm).map fun q => (put s d q.1, match q.2 with | some t => upd h nm (some t) | none => h)

def stepG (R : Run) (g : G) (s : Env) (h : Hp) (nm : Name) : Option (Env × Hp) :=
  match g.g with
  | none => stepI R g.i s h nm g.d
  | some (j, want) =>
    match s j with
    | .vw [] (.bool b) => if b = want then stepI R g.i s h nm g.d else some (put s g.d .undef, h)
    | .undef => some (put s g.d .undef, h)
    | _ => none

def evL (R : Run) : Name → List G → Env → Hp → Option (Env × Hp)
  | _, [], s, h => some (s, h)
  | nm, g :: gs, s, h => (stepG R g s h nm).bind fun q => evL R (nm + 16) gs q.1 q.2

def evReg (R : Run) (gs : List G) (st : St) : Option St :=
  (evL R st.nx gs st.s st.h).map fun q => ⟨q.1, q.2, st.nx + 16 * gs.length⟩

/-- Operations in an order that is told. -/
def stepAt (R : Run) (gs : List G) (base i : Nat) (st : Env × Hp) : Option (Env × Hp) := (gs[i]?).bind fun g => stepG R g st.1 st.2 (base + 16 * i)

def runL (R : Run) (gs : List G) (base : Nat) : List Nat → Env × Hp → Option (Env × Hp)
  | [], st => some st
  | i :: l, st => (stepAt R gs base i st).bind (runL R gs base l)

/-! ### what is no longer named is forgotten; names anew -/
def keep (s : Env) : List Nat → Env
  | [] => fun _ => .dead
  | k :: ks => upd (keep s ks) k (s k)

def namesOf (s : Env) : List Nat → List Name
  | [] => []
  | k :: ks => (s k).names ++ namesOf s ks

def old (nr : Nat) (l : List Name) : List Name := l.filter fun n => decide (nr ≤ n)

def gcH (nr : Nat) (h : Hp) (l : List Name) : Hp := fun n => if n < nr then h n else (l[n - nr]?).bind h

def gcS (nr : Nat) (l : List Name) (v : SV) : SV := v.ren fun n => if n < nr then n else nr + l.idxOf n

def gcE (nr : Nat) (l : List Name) (s : Env) : List Nat → Env
  | [] => fun _ => .dead
  | k :: ks => upd (gcE nr l s ks) k (gcS nr l (s k))

def gc (nr : Nat) (ks : List Nat) (st : St) : St :=
  let l := insL [] (old nr (namesOf st.s ks))
  ⟨gcE nr l st.s ks, gcH nr st.h l, nr + l.length⟩

inductive Ex where
  | normal
  | exit (id : Nat)
  | ret

def Ex.blk (id : Nat) : Ex → Ex
  | .exit i => if i = id then .normal else .exit i
  | e => e

inductive Ev (R : Run) (nr : Nat) : C → St → Ex → St → Prop where
  | skip (st) : Ev R nr .skip st .normal st
  | reg (gs st st') : evReg R gs st = some st' → Ev R nr (.reg gs) st .normal st'
  | regA (ks gs ords st st') : ords ≠ [] → (∀ l, l ∈ ords → ∃ q, runL R gs st.nx l (st.s, st.h) = some q ∧ gc nr ks ⟨q.1, q.2, st.nx + 16 * gs.length⟩ = st') → Ev R nr (.regA ks gs ords) st .normal st'
  | pre (ks a st e st') : Ev R nr a (gc nr ks st) e st' → Ev R nr (.pre ks a) st e st'
  | seqN (a b st st' e st'') : Ev R nr a st .normal st' → Ev R nr b st' e st'' → Ev R nr (.seq a b) st e st''
  | seqX (a b st e st') : Ev R nr a st e st' → e ≠ .normal → Ev R nr (.seq a b) st e st'
  | condT (x a b st e st') : (x.ev st.s) = .vw [] (.bool true) → Ev R nr a st e st' → Ev R nr (.cond x a b) st e st'
  | condF (x a b st e st') : (x.ev st.s) = .vw [] (.bool false) → Ev R nr b st e st' → Ev R nr (.cond x a b) st e st'
  | block (id a st e st') : Ev R nr a st e st' → Ev R nr (.block id a) st (e.blk id) st'
  | loopN (a st st' e st'') : Ev R nr a st .normal st' → Ev R nr (.loop a) st' e st'' → Ev R nr (.loop a) st e st''
  | loopX (a st e st') : Ev R nr a st e st' → e ≠ .normal → Ev R nr (.loop a) st e st'
  | exit (id st) : Ev R nr (.exit id) st (.exit id) st
  | ret (st) : Ev R nr .ret st .ret st
  | gcN (ks a st st') : Ev R nr a st .normal st' → Ev R nr (.gc ks a) st .normal (gc nr ks st')
  | gcX (ks a st e st') : Ev R nr a st e st' → e ≠ .normal → Ev R nr (.gc ks a) st e st'

/-! ### functions -/
inductive RV where
  | t (i : Nat)
  | c (i : Nat) (n : Option Nat)

/-- A body that compares its first parameter to nil ahead of all else: into which slots, and what comes behind. -/
structure QH where
  d0 : Nat
  d1 : Nat
  d2 : Nat
  z0 : T
  cc : C
  cB : C

/-- The whole of it, if that comes to b. -/
def QH.body (q : QH) (b : Bool) : C :=
  .seq (.reg [⟨some q.d0, none, .mv (.c (.nilS q.z0))⟩]) (.seq (.seq (.reg [⟨some q.d1, none, .cp (.t 0)⟩, ⟨some q.d2, none, .cp (.c (.vw [] (.bool b)))⟩]) q.cc) q.cB)

/-- q: the function compares its first parameter to nil ahead of all else. -/
structure Fn where
  np : Nat
  body : C
  res : List RV
  q : Option QH := none

mutual
def inn : T → Option SV
  | .int k n => some (.vw [] (.int k n))
  | .bool b => some (.vw [] (.bool b))
  | .str s => some (.vw [] (.str s))
  | .ints k xs => some (.vw [] (.ints k xs))
  | .rows sz xs => some (.vw [] (.rows sz xs))
  | .sh t => if t.isRow then some (.vw [] t) else none
  | .ref k => some (.ptr k [] (some 0))
  | .vp t => some (.pv [] t)
  | .agg ts => (innL ts).map .agg
  | .fn f ts => (innL ts).map (.fn f)
  | _ => none
def innL : List T → Option (List SV)
  | [] => some []
  | t :: ts => (inn t).bind fun v => (innL ts).map (v :: ·)
end

def entry : Nat → List SV → Env
  | _, [] => fun _ => .undef
  | k, v :: vs => upd (entry (k + 1) vs) k v

/-- What is handed back is taken over. -/
def ret1 (nr : Nat) (h : Hp) : SV → Option (T × Kill × Hp)
  | .ptr n [] (some 0) => if n < nr then none else (h n).map fun t => (t, SV.nam n, upd h n none)
  | v => v.abs h

def retT (nr : Nat) (h : Hp) : SV → Option (T × Kill × Hp)
  | .agg xs => (absW (ret1 nr) h xs).map fun q => (.agg q.1, q.2)
  | v => ret1 nr h v

def retL (nr : Nat) (h : Hp) (vs : List SV) : Option (List T × Kill × Hp) := absW (retT nr) h vs

def resSV (s : Env) (h : Hp) : List RV → Option (List SV)
  | [] => some []
  | .t i :: rs => (resSV s h rs).map (s i :: ·)
  | .c i n :: rs => (ldSV h n (s i)).bind fun v => (resSV s h rs).map (v :: ·)

def one : List T → T
  | [t] => t
  | ts => .tup ts

def outs (nr : Nat) (F : Fn) (st : St) : Option (T × List T) :=
  (resSV st.s st.h F.res).bind fun vs => (retL nr st.h vs).bind fun q => (getAll q.2.2 (List.range nr)).bind fun sto =>
    if sto.all T.isPtr then some (one q.1, sto) else none

def start (F : Fn) (ts sto : List T) : Option St :=
  if ts.length = F.np ∧ sto.all T.isPtr = true then (innL ts).map fun vs => ⟨entry 0 vs, fun n => sto[n]?, sto.length⟩ else none

/-- Ends of a body: behind its last row, or at a return. -/
def Ex.ends : Ex → Prop
  | .normal => True
  | .ret => True
  | .exit _ => False

/-- A row of no cell. -/
def T.void : T → Bool
  | .ints _ [] => true
  | .rows _ [] => true
  | .sh t => t.void
  | _ => false
def T.aRow : T → Bool
  | .ints _ _ => true
  | .rows _ _ => true
  | .sh t => t.aRow
  | _ => false

/-- What 'the first parameter == nil' may come to: the bodies. -/
def guess (F : Fn) (ts : List T) : List C :=
  match F.q, ts with
  | none, _ => [F.body]
  | some q, t :: _ => if t.aRow then if t.void then [q.body false, q.body true] else [q.body false] else []
  | some _, [] => []

def RunG (R : Run) (F : Fn) (ts sto : List T) (r : T × List T) (c : C) : Prop :=
  ∃ st e st', start F ts sto = some st ∧ Ev R sto.length c st e st' ∧ e.ends ∧ outs sto.length F st' = some r

def RunF (R : Run) (F : Fn) (ts sto : List T) (r : T × List T) : Prop :=
  guess F ts ≠ [] ∧ ∀ c, c ∈ guess F ts → RunG R F ts sto r c

open Classical in
noncomputable def runN (fns : FuncId → Option Fn) (giv : Run) : Nat → Run
  | 0 => giv
  | n + 1 => fun f ts sto =>
    match giv f ts sto with
    | some r => some r
    | none => match fns f with
      | none => none
      | some F => if h : ∃ r, RunF (runN fns giv n) F ts sto r then some h.choose else none

open Classical in
noncomputable def run (fns : FuncId → Option Fn) (giv : Run) : Run := fun f ts sto =>
  if h : ∃ r n, runN fns giv n f ts sto = some r then some h.choose else none
end Go.Proofs.Ytdblfocadcgmaaa.Ev
namespace Go.Proofs.Ytdblfocadcgmaaa.Ev
open Go

theorem add_none {a : Addr} (h : a.spot = none) (n : Nat) : a.add n = ⟨a.block, a.off + n, none⟩ := by
  unfold Addr.add
  split
  · subst_vars; cases a; simp_all
  · rfl
theorem add_block (a : Addr) (n : Nat) : (a.add n).block = a.block := by unfold Addr.add; split <;> rfl
theorem add_spot {a : Addr} (h : a.spot = none) (n : Nat) : (a.add n).spot = none := by rw [add_none h]
theorem add_add {a : Addr} (h : a.spot = none) (m n : Nat) : (a.add m).add n = a.add (m + n) := by
  rw [add_none h, add_none rfl, add_none h, Nat.add_assoc]
theorem add_inj {a : Addr} (h : a.spot = none) {m n : Nat} (e : a.add m = a.add n) : m = n := by
  rw [add_none h, add_none h] at e
  injection e with _ e _
  omega

theorem cell_heap {w w' : World} {a : Addr} (h : w'.heap[a.block]? = w.heap[a.block]?) : w'.cell? a = w.cell? a := World.cell?_of_block h

/-- The cells of v lie from A on. -/
def At (w : World) (A : Addr) (v : Value) : Prop := ∀ j c, v.cells[j]? = some c → w.cell? (A.add j) = some c

theorem At.frame {w w' : World} {A : Addr} {v : Value} (h : At w A v) (hf : w'.heap[A.block]? = w.heap[A.block]?) : At w' A v := by
  intro j c hc
  rw [cell_heap (w := w) (w' := w') (a := A.add j) (by rw [add_block]; exact hf)]
  exact h j c hc

/-- Read: all that is read lies in blocks of S. -/
inductive Vw (w : World) (S : Nat → Prop) : T → Value → Prop where
  | int (k n) : Vw w S (.int k n) (.int k n)
  | bool (b) : Vw w S (.bool b) (.bool b)
  | str (s) : Vw w S (.str s) (.string ⟨⟨s⟩⟩)
  | ints0 (k) : Vw w S (.ints k []) (.slice none 0 0)
  | rows0 (sz) : Vw w S (.rows sz []) (.slice none 0 0)
  | ints (k xs a C) : S a.block → a.spot = none → xs.length ≤ C → (∀ (i : Nat) n, xs[i]? = some n → w.cell? (a.add i) = some (.int k n)) → Vw w S (.ints k xs) (.slice (some a) xs.length C)
  | rows (sz) (xs : List T) (a C) (vs : Nat → Value) : S a.block → a.spot = none → xs.length ≤ C → (∀ (i : Nat) t, xs[i]? = some t → (vs i).cells.size = sz) → (∀ (i : Nat) t, xs[i]? = some t → At w (a.add (i * sz)) (vs i)) →
      (∀ (i : Nat) t, xs[i]? = some t → Vw w S t (vs i)) → Vw w S (.rows sz xs) (.slice (some a) xs.length C)
  | agg (ts : List T) (cs : Array Value) (vs : Nat → Value) : cs.size = ts.length → (∀ (j : Nat) t, ts[j]? = some t → cs[j]? = some (vs j)) → (∀ (j : Nat) t, ts[j]? = some t → aggT t = false) → (∀ (j : Nat) t, ts[j]? = some t → Vw w S t (vs j)) → Vw w S (.agg ts) (.agg cs)
  | sh (t v) : t.isRow = true → Vw w S t v → Vw w S (.sh t) v
  | dead (v : Value) : v.oneCell' = true → Vw w S .dead v
  | ptr (t) (v : Value) : v.oneCell' = true → Vw w S (.ptr t) v

theorem Vw.frame {w w' : World} {S : Nat → Prop} {t : T} {v : Value} (h : Vw w S t v) (hf : ∀ b, S b → w'.heap[b]? = w.heap[b]?) : Vw w' S t v := by
  induction h with
  | int k n => exact .int k n
  | bool b => exact .bool b
  | str s => exact .str s
  | ints0 k => exact .ints0 k
  | rows0 sz => exact .rows0 sz
  | ints k xs a C h1 h2 h3 h4 => exact .ints k xs a C h1 h2 h3 fun i n hi => (cell_heap (by rw [add_block]; exact hf _ h1)).trans (h4 i n hi)
  | rows sz xs a C vs h1 h2 h3 h4 h5 h6 ih => exact .rows sz xs a C vs h1 h2 h3 h4 (fun i t ht => (h5 i t ht).frame (by rw [add_block]; exact hf _ h1)) ih
  | agg ts cs vs h1 h2 h2' h3 ih => exact .agg ts cs vs h1 h2 h2' ih
  | sh t v hr h ih => exact .sh t v hr ih
  | dead v h => exact .dead v h
  | ptr t v h => exact .ptr t v h

theorem Vw.mono {w : World} {S S' : Nat → Prop} {t : T} {v : Value} (h : Vw w S t v) (hs : ∀ b, S b → S' b) : Vw w S' t v := by
  induction h with
  | int k n => exact .int k n
  | bool b => exact .bool b
  | str s => exact .str s
  | ints0 k => exact .ints0 k
  | rows0 sz => exact .rows0 sz
  | ints k xs a C h1 h2 h3 h4 => exact .ints k xs a C (hs _ h1) h2 h3 h4
  | rows sz xs a C vs h1 h2 h3 h4 h5 h6 ih => exact .rows sz xs a C vs (hs _ h1) h2 h3 h4 h5 ih
  | agg ts cs vs h1 h2 h2' h3 ih => exact .agg ts cs vs h1 h2 h2' ih
  | sh t v hr h ih => exact .sh t v hr ih
  | dead v h => exact .dead v h
  | ptr t v h => exact .ptr t v h

/-- A row of cells from a on, n of them, that may be written. -/
def Blk (w : World) (a : Addr) (n : Nat) : Prop :=
  a.spot = none ∧ ∃ c el fr, w.heap[a.block]? = some (.cells c el fr) ∧ a.off + n ≤ c.size ∧ ∀ j, j < c.size → (decide (fr.1 ≤ j) && decide (j < fr.2)) = false

theorem Blk.frame {w w' : World} {a : Addr} {n : Nat} (h : Blk w a n) (hf : w'.heap[a.block]? = w.heap[a.block]?) : Blk w' a n :=
  ⟨h.1, by rw [hf]; exact h.2⟩

theorem Blk.free {w : World} {a : Addr} {n : Nat} (h : Blk w a n) {j : Nat} (hj : j < n) : w.frozen? (a.add j) = false := by
  obtain ⟨hs, c, el, fr, hb, hn, hf⟩ := h
  rw [add_none hs]
  simp only [World.frozen?, hb]
  exact hf _ (by omega)

/-- Owned: what is written there lies in blocks of F, each part in blocks of its own; S: what others read, too. -/
inductive Ow (w : World) (S : Nat → Prop) : T → Value → (Nat → Prop) → Prop where
  | int (k n F) : Ow w S (.int k n) (.int k n) F
  | bool (b F) : Ow w S (.bool b) (.bool b) F
  | str (s F) : Ow w S (.str s) (.string ⟨⟨s⟩⟩) F
  | ints0 (k F) : Ow w S (.ints k []) (.slice none 0 0) F
  | rows0 (sz F) : Ow w S (.rows sz []) (.slice none 0 0) F
  | ints (k xs a C F) : F a.block → Blk w a C → xs.length ≤ C → (∀ (i : Nat) n, xs[i]? = some n → w.cell? (a.add i) = some (.int k n)) → Ow w S (.ints k xs) (.slice (some a) xs.length C) F
  | rows (sz) (xs : List T) (a C) (vs : Nat → Value) (G : Nat → Nat → Prop) (F) : F a.block → Blk w a (C * sz) → xs.length ≤ C → (∀ (i : Nat) t, xs[i]? = some t → (vs i).cells.size = sz) → (∀ (i : Nat) t, xs[i]? = some t → At w (a.add (i * sz)) (vs i)) →
      (∀ (i : Nat) t, xs[i]? = some t → Ow w S t (vs i) (G i)) → (∀ i j b, i ≠ j → G i b → ¬ G j b) → (∀ i b, G i b → F b ∧ b ≠ a.block) → Ow w S (.rows sz xs) (.slice (some a) xs.length C) F
  | agg (ts : List T) (cs : Array Value) (vs : Nat → Value) (G : Nat → Nat → Prop) (F) : cs.size = ts.length → (∀ (j : Nat) t, ts[j]? = some t → cs[j]? = some (vs j)) → (∀ (j : Nat) t, ts[j]? = some t → aggT t = false) → (∀ (j : Nat) t, ts[j]? = some t → Ow w S t (vs j) (G j)) →
      (∀ i j b, i ≠ j → G i b → ¬ G j b) → (∀ j b, G j b → F b) → Ow w S (.agg ts) (.agg cs) F
  | ptr (ts : List T) (cs : Array Value) (a) (G : Nat → Prop) (F) : F a.block → Blk w a cs.size → At w a (.agg cs) → Ow w S (.agg ts) (.agg cs) G → (∀ b, G b → F b ∧ b ≠ a.block) → Ow w S (.ptr (.agg ts)) (.pointer (some a)) F
  | sh (t v F) : t.isRow = true → Vw w S t v → Ow w S (.sh t) v F
  | dead (v F) : v.oneCell' = true → Ow w S .dead v F

theorem Ow.frame {w w' : World} {S : Nat → Prop} {t : T} {v : Value} {F : Nat → Prop} (h : Ow w S t v F) (hf : ∀ b, F b → w'.heap[b]? = w.heap[b]?) (hs : ∀ b, S b → w'.heap[b]? = w.heap[b]?) : Ow w' S t v F := by
  induction h with
  | int k n F => exact .int k n F
  | bool b F => exact .bool b F
  | str s F => exact .str s F
  | ints0 k F => exact .ints0 k F
  | rows0 sz F => exact .rows0 sz F
  | ints k xs a C F h1 h2 h3 h4 => exact .ints k xs a C F h1 (h2.frame (hf _ h1)) h3 fun i n hi => (cell_heap (by rw [add_block]; exact hf _ h1)).trans (h4 i n hi)
  | rows sz xs a C vs G F h1 h2 h3 h4 h5 h6 h7 h8 ih =>
    exact .rows sz xs a C vs G F h1 (h2.frame (hf _ h1)) h3 h4 (fun i t ht => (h5 i t ht).frame (by rw [add_block]; exact hf _ h1)) (fun i t ht => ih i t ht fun b hb => hf b (h8 i b hb).1) h7 h8
  | agg ts cs vs G F h1 h2 h2' h3 h4 h5 ih => exact .agg ts cs vs G F h1 h2 h2' (fun j t ht => ih j t ht fun b hb => hf b (h5 j b hb)) h4 h5
  | ptr ts cs a G F h1 h2 h3 h4 h5 ih => exact .ptr ts cs a G F h1 (h2.frame (hf _ h1)) (h3.frame (hf _ h1)) (ih fun b hb => hf b (h5 b hb).1) h5
  | sh t v F hr h => exact .sh t v F hr (h.frame hs)
  | dead v F h => exact .dead v F h

theorem Ow.mono {w : World} {S : Nat → Prop} {t : T} {v : Value} {F F' : Nat → Prop} (h : Ow w S t v F) (hF : ∀ b, F b → F' b) : Ow w S t v F' := by
  cases h with
  | int k n => exact .int k n _
  | bool b => exact .bool b _
  | str s => exact .str s _
  | ints0 k => exact .ints0 k _
  | rows0 sz => exact .rows0 sz _
  | ints k xs a C _ h1 h2 h3 h4 => exact .ints k xs a C _ (hF _ h1) h2 h3 h4
  | rows sz xs a C vs G _ h1 h2 h3 h4 h5 h6 h7 h8 => exact .rows sz xs a C vs G _ (hF _ h1) h2 h3 h4 h5 h6 h7 fun i b hb => ⟨hF _ (h8 i b hb).1, (h8 i b hb).2⟩
  | agg ts cs vs G _ h1 h2 h2' h3 h4 h5 => exact .agg ts cs vs G _ h1 h2 h2' h3 h4 fun j b hb => hF _ (h5 j b hb)
  | ptr ts cs a G _ h1 h2 h3 h4 h5 => exact .ptr ts cs a G _ (hF _ h1) h2 h3 h4 fun b hb => ⟨hF _ (h5 b hb).1, (h5 b hb).2⟩
  | sh t v _ hr h => exact .sh t v _ hr h
  | dead v _ h => exact .dead v _ h

theorem Ow.monoS {w : World} {S S' : Nat → Prop} {t : T} {v : Value} {F : Nat → Prop} (h : Ow w S t v F) (hS : ∀ b, S b → S' b) : Ow w S' t v F := by
  induction h with
  | int k n F => exact .int k n F
  | bool b F => exact .bool b F
  | str s F => exact .str s F
  | ints0 k F => exact .ints0 k F
  | rows0 sz F => exact .rows0 sz F
  | ints k xs a C F h1 h2 h3 h4 => exact .ints k xs a C F h1 h2 h3 h4
  | rows sz xs a C vs G F h1 h2 h3 h4 h5 h6 h7 h8 ih => exact .rows sz xs a C vs G F h1 h2 h3 h4 h5 ih h7 h8
  | agg ts cs vs G F h1 h2 h2' h3 h4 h5 ih => exact .agg ts cs vs G F h1 h2 h2' ih h4 h5
  | ptr ts cs a G F h1 h2 h3 h4 h5 ih => exact .ptr ts cs a G F h1 h2 h3 ih h5
  | sh t v F hr h => exact .sh t v F hr (h.mono hS)
  | dead v F h => exact .dead v F h

/-- A tree that can be read: no hole in it. -/
def T.dataFlat : T → Bool
  | .dead => false
  | .ptr _ => false
  | _ => true

theorem Ow.one {w : World} {S : Nat → Prop} {t : T} {v : Value} {F : Nat → Prop} (h : Ow w S t v F) (ha : aggT t = false) : v.oneCell' = true ∧ v.cells = #[v] := by
  cases h with
  | agg => simp [aggT] at ha
  | sh t v _ hr h =>
    cases h <;> simp_all [T.isRow, Value.oneCell', Value.cells]
  | dead v _ h => refine ⟨h, ?_⟩; cases v <;> simp_all [Value.oneCell', Value.cells]
  | _ => simp [Value.oneCell', Value.cells]

/-- The world behind a store into one cell. -/
structure Upd (w w' : World) (X : Addr) (u : Value) : Prop where
  other : ∀ b, b ≠ X.block → w'.heap[b]? = w.heap[b]?
  here : ∀ c el fr, w.heap[X.block]? = some (.cells c el fr) → w'.heap[X.block]? = some (.cells (c.setIfInBounds X.off u) el fr)

theorem Upd.set (w : World) (X : Addr) (u : Value) (h : X.spot = none) : Upd w (w.setCell X u) X u where
  other b hb := by simp only [World.setCell, Array.getElem?_modify]; rw [if_neg (by omega)]
  here c el fr hc := by simp [World.setCell, Array.getElem?_modify, hc, h]

theorem Upd.same {w : World} {X : Addr} {u : Value} (h : w.cell? X = some u) (hx : X.spot = none) : Upd w w X u where
  other _ _ := rfl
  here c el fr hc := by
    simp only [World.cell?, hc, hx, Option.isSome_none, Bool.false_eq_true, if_false] at h
    rw [hc]
    congr 2
    apply Array.ext_getElem?
    intro i
    rw [Array.getElem?_setIfInBounds]
    split
    · subst_vars
      split
      · exact h
      · rw [Array.getElem?_eq_none (by omega)]
    · rfl

theorem Upd.cell_same {w w' : World} {X : Addr} {u v : Value} (h : Upd w w' X u) (hx : X.spot = none) (hc : w.cell? X = some v) : w'.cell? X = some u := by
  unfold World.cell? at hc ⊢
  split at hc
  · rename_i c el fr hb
    rw [h.here _ _ _ hb]
    simp only [hx, Option.isSome_none, Bool.false_eq_true, if_false] at hc ⊢
    have : X.off < c.size := by
      rcases Nat.lt_or_ge X.off c.size with h | h
      · exact h
      · simp [Array.getElem?_eq_none h] at hc
    simp [this]
  · simp at hc

theorem Upd.cell_other {w w' : World} {X Y : Addr} {u v : Value} (h : Upd w w' X u) (hx : X.spot = none) (hy : Y.spot = none) (hne : Y ≠ X) (hc : w.cell? Y = some v) : w'.cell? Y = some v := by
  by_cases hb : Y.block = X.block
  · unfold World.cell? at hc ⊢
    rw [hb] at hc ⊢
    split at hc
    · rename_i c el fr hb'
      rw [h.here _ _ _ hb']
      simp only [hy, Option.isSome_none, Bool.false_eq_true, if_false] at hc ⊢
      rw [Array.getElem?_setIfInBounds, if_neg]
      · exact hc
      · intro e
        apply hne
        cases X; cases Y; simp_all
    · simp at hc
  · rw [cell_heap (h.other _ hb)]; exact hc

theorem Upd.blk {w w' : World} {X : Addr} {u : Value} {a : Addr} {n : Nat} (h : Upd w w' X u) (hb : Blk w a n) : Blk w' a n := by
  by_cases he : a.block = X.block
  · obtain ⟨hs, c, el, fr, hc, hn, hf⟩ := hb
    refine ⟨hs, c.setIfInBounds X.off u, el, fr, ?_, by simpa using hn, by simpa using hf⟩
    rw [he] at hc ⊢
    exact h.here _ _ _ hc
  · exact hb.frame (h.other _ he)

theorem Upd.at_ {w w' : World} {X A : Addr} {u v : Value} (h : Upd w w' X u) (hx : X.spot = none) (hA : A.spot = none) (ha : At w A v) (hne : ∀ j, j < v.cells.size → A.add j ≠ X) : At w' A v := by
  intro j c hc
  have hj : j < v.cells.size := by
    rcases Nat.lt_or_ge j v.cells.size with h | h
    · exact h
    · simp [Array.getElem?_eq_none h] at hc
  exact h.cell_other hx (add_spot hA j) (hne j hj) (ha j c hc)

/-- Where the tree at a path lies. -/
def loc (w : World) : T → Addr → Path → Option Addr
  | _, A, [] => some A
  | t, A, s :: p => (t.child s).bind fun c =>
    match t, s with
    | .agg _, .f o => loc w c (A.add o) p
    | .ints _ _, .e i => (match w.cell? A with | some (.slice (some a) _ _) => loc w c (a.add i) p | _ => none)
    | .rows sz _, .e i => (match w.cell? A with | some (.slice (some a) _ _) => loc w c (a.add (i * sz)) p | _ => none)
    | _, _ => none
end Go.Proofs.Ytdblfocadcgmaaa.Ev
namespace Go.Proofs.Ytdblfocadcgmaaa.Ev
open Go

/-- At the path q the trees t and t' lie at the same place, and a row there has the same head. -/
def Same (w w' : World) (t t' : T) (A : Addr) (q : Path) : Prop :=
  loc w' t' A q = loc w t A q ∧ (t'.get q).bind T.shp = (t.get q).bind T.shp ∧ ∀ Y z, loc w t A q = some Y → (t.get q).bind T.shp = some z → w'.cell? Y = w.cell? Y

theorem At.kid {w : World} {A : Addr} {cs : Array Value} {o : Nat} {v : Value} (h : At w A (.agg cs)) (hc : cs[o]? = some v) (hv : v.cells = #[v]) : At w (A.add o) v := by
  intro j d hd
  rw [hv] at hd
  have : j = 0 := by
    rcases j with _ | j
    · rfl
    · simp at hd
  subst this
  simp at hd
  subst hd
  have := h o v (by simpa [Value.cells] using hc)
  simpa [Addr.add] using this

theorem At.head {w : World} {A : Addr} {v : Value} (h : At w A v) (hv : v.cells = #[v]) : w.cell? A = some v := by
  have := h 0 v (by rw [hv]; rfl)
  simpa [Addr.add] using this

theorem loc_frame {w w' : World} {S : Nat → Prop} : ∀ (q : Path) (t : T) (v : Value) (F : Nat → Prop) (A : Addr), Ow w S t v F → At w A v → At w' A v →
    (∀ b, F b → w'.heap[b]? = w.heap[b]?) → Same w w' t t A q := by
  intro q
  induction q with
  | nil =>
    intro t v F A ho ha ha' hF
    refine ⟨rfl, rfl, ?_⟩
    intro Y z hY hz
    obtain rfl : A = Y := by simpa [loc] using hY
    have hna : aggT t = false := by cases t <;> simp_all [T.get, T.shp, aggT]
    rw [ha.head (ho.one hna).2, ha'.head (ho.one hna).2]
  | cons s q ih =>
    intro t v F A ho ha ha' hF
    cases hc : t.child s with
    | none => simp [Same, loc, hc, T.get]
    | some c =>
      cases ho with
      | agg ts cs vs G _ h1 h2 h2' h3 h4 h5 =>
        cases s with
        | e i => simp [T.child] at hc
        | f o =>
          have hto : ts[o]? = some c := by simpa [T.child] using hc
          obtain ⟨q1, q2⟩ := (h3 o c hto).one (h2' o c hto)
          have := ih c (vs o) (G o) (A.add o) (h3 o c hto) (ha.kid (h2 o c hto) q2) (ha'.kid (h2 o c hto) q2) (fun b hb => hF b (h5 o b hb))
          simpa [Same, loc, T.get, T.child, hto] using this
      | ints k xs a C _ h1 h2 h3 h4 =>
        cases s with
        | f o => simp [T.child] at hc
        | e i =>
          have e1 : w.cell? A = some (.slice (some a) xs.length C) := ha.head rfl
          have e2 : w'.cell? A = some (.slice (some a) xs.length C) := ha'.head rfl
          simp only [T.child, Option.map_eq_some_iff] at hc
          obtain ⟨n, hn, rfl⟩ := hc
          have hcell := h4 i n hn
          have hA1 : At w (a.add i) (.int k n) := by
            intro j d hd
            have : j = 0 := by
              rcases j with _ | j
              · rfl
              · simp [Value.cells] at hd
            subst this
            simp [Value.cells] at hd
            subst hd
            simpa [Addr.add] using hcell
          have := ih (.int k n) (.int k n) (fun _ => False) (a.add i) (.int k n _) hA1 (hA1.frame (by rw [add_block]; exact hF _ h1)) (fun b hb => hb.elim)
          simpa [Same, loc, T.get, T.child, hn, e1, e2] using this
      | rows sz xs a C vs G _ h1 h2 h3 h4 h5 h6 h7 h8 =>
        cases s with
        | f o => simp [T.child] at hc
        | e i =>
          have e1 : w.cell? A = some (.slice (some a) xs.length C) := ha.head rfl
          have e2 : w'.cell? A = some (.slice (some a) xs.length C) := ha'.head rfl
          have hxi : xs[i]? = some c := by simpa [T.child] using hc
          have := ih c (vs i) (G i) (a.add (i * sz)) (h6 i c hxi) (h5 i c hxi) ((h5 i c hxi).frame (by rw [add_block]; exact hF _ h1)) (fun b hb => hF b (h8 i b hb).1)
          simpa [Same, loc, T.get, T.child, hxi, e1, e2] using this
      | ints0 => cases s <;> simp [T.child] at hc
      | rows0 => cases s <;> simp [T.child] at hc
      | int => simp [T.child] at hc
      | bool => simp [T.child] at hc
      | str => simp [T.child] at hc
      | sh => simp [T.child] at hc
      | dead => simp [T.child] at hc
      | ptr => simp [T.child] at hc

structure Foc (w : World) (S : Nat → Prop) (t : T) (v : Value) (F : Nat → Prop) (A : Addr) (p : Path) (u : T) (X : Addr) (val : Value) (Fu : Nat → Prop) : Prop where
  loc : loc w t A p = some X
  cell : w.cell? X = some val
  spot : X.spot = none
  own : Ow w S u val Fu
  sub : ∀ b, Fu b → F b
  place : (∃ o, o < v.cells.size ∧ X = A.add o) ∨ F X.block
  notin : ¬ Fu X.block
  free : w.frozen? X = false
  upd : ∀ (w' : World) (u' : T) (val' : Value) (Fu' : Nat → Prop) (t' : T), Upd w w' X val' → aggT u' = false → t.put u' p = some t' → Ow w' S u' val' Fu' →
    (∀ b, Fu' b → F b → Fu b) → ¬ Fu' A.block → ¬ S X.block → ∃ v', Ow w' S t' v' (fun b => (F b ∧ ¬ Fu b) ∨ Fu' b) ∧ At w' A v' ∧ v'.cells.size = v.cells.size ∧ Ev.loc w' t' A p = some X ∧ ∀ q, (∀ r, q ≠ p ++ r) → Same w w' t t' A q

theorem T.put_agg {c u c' : T} {p : Path} (h : c.put u p = some c') (hu : aggT u = false) (hc : aggT c = false) : aggT c' = false := by
  cases p with
  | nil => simp [T.put] at h; rw [← h]; exact hu
  | cons s p =>
    simp only [T.put, Option.bind_eq_some_iff] at h
    obtain ⟨d, hd, d', hd', h⟩ := h
    cases c <;> cases s <;> simp [T.child] at hd <;> simp [aggT] at hc
    · cases d' <;> simp [T.setChild] at h
      obtain ⟨_, h⟩ := h
      subst h; rfl
    · simp [T.setChild] at h
      subst h; rfl

theorem ow_ne {w w' : World} {S : Nat → Prop} {t : T} {v : Value} {G : Nat → Prop} {X : Addr} {val : Value} (h : Ow w S t v G) (hu : Upd w w' X val) (hg : ¬ G X.block) (hS : ¬ S X.block) : Ow w' S t v G :=
  h.frame (fun b hb => hu.other b fun e => hg (e ▸ hb)) (fun b hb => hu.other b fun e => hS (e ▸ hb))

theorem get_lt {α : Type} {l : List α} {i : Nat} {x : α} (h : l[i]? = some x) : i < l.length := by
  rcases Nat.lt_or_ge i l.length with h' | h'
  · exact h'
  · simp [List.getElem?_eq_none h'] at h

theorem foc {w : World} {S : Nat → Prop} : ∀ (p : Path) (t : T) (v : Value) (F : Nat → Prop) (A : Addr) (u : T), Ow w S t v F → At w A v → A.spot = none → ¬ F A.block →
    (∀ o, o < v.cells.size → w.frozen? (A.add o) = false) → t.get p = some u → aggT u = false → ∃ X val Fu, Foc w S t v F A p u X val Fu := by
  intro p
  induction p with
  | nil =>
    intro t v F A u ho ha hA hF hfr hg hagg
    obtain rfl : t = u := by simpa [T.get] using hg
    obtain ⟨h1, h2⟩ := ho.one hagg
    have hc : w.cell? A = some v := by
      have := ha 0 v (by rw [h2]; rfl)
      simpa [Addr.add] using this
    refine ⟨A, v, F, rfl, hc, hA, ho, fun b h => h, .inl ⟨0, by rw [h2]; simp, by simp [Addr.add]⟩, hF, ?_, ?_⟩
    · have := hfr 0 (by rw [h2]; simp)
      simpa [Addr.add] using this
    · intro w' u' val' Fu' t' hup hu' ht' ho' hdis hA' hSX
      obtain rfl : u' = t' := by simpa [T.put] using ht'
      obtain ⟨h3, h4⟩ := ho'.one hu'
      refine ⟨val', ho'.mono fun b hb => .inr hb, ?_, by rw [h2, h4]; simp, rfl, fun q hq => absurd rfl (hq q)⟩
      intro j c hj
      rw [h4] at hj
      have : j = 0 := by
        rcases j with _ | j
        · rfl
        · simp at hj
      subst this
      simp at hj
      subst hj
      simpa [Addr.add] using hup.cell_same hA hc
  | cons s p ih =>
    intro t v F A u ho ha hA hF hfr hg hagg
    simp only [T.get, Option.bind_eq_some_iff] at hg
    obtain ⟨c, hc, hg⟩ := hg
    cases ho with
    | agg ts cs vs G _ h1 h2 h2' h3 h4 h5 =>
      cases s with
      | e i => simp [T.child] at hc
      | f o =>
        have hto : ts[o]? = some c := by simpa [T.child] using hc
        have hol := get_lt hto
        have hna := h2' o c hto
        obtain ⟨q1, q2⟩ := (h3 o c hto).one hna
        have hAo : At w (A.add o) (vs o) := by
          intro j d hd
          rw [q2] at hd
          have : j = 0 := by
            rcases j with _ | j
            · rfl
            · simp at hd
          subst this
          simp at hd
          subst hd
          have := ha o (vs o) (by simpa [Value.cells] using h2 o c hto)
          simpa [Addr.add] using this
        obtain ⟨X, val, Fu, f⟩ := ih c (vs o) (G o) (A.add o) u (h3 o c hto) hAo (add_spot hA o) (by rw [add_block]; exact fun h => hF (h5 o _ h))
          (by intro o' ho'
              rw [q2] at ho'
              have : o' = 0 := by simp at ho'; omega
              subst this
              have := hfr o (by simp only [Value.cells]; omega)
              simpa [Addr.add] using this) hg hagg
        have hX : X = A.add o ∨ G o X.block := by
          rcases f.place with ⟨o', ho', e⟩ | h
          · rw [q2] at ho'
            have : o' = 0 := by simp at ho'; omega
            subst this
            left
            simpa [Addr.add] using e
          · exact .inr h
        refine ⟨X, val, Fu, ?_, f.cell, f.spot, f.own, fun b hb => h5 o b (f.sub b hb), ?_, f.notin, f.free, ?_⟩
        · simp only [Ev.loc, T.child, hto, Option.bind_some]
          exact f.loc
        · rcases hX with e | e
          · exact .inl ⟨o, by simp only [Value.cells]; omega, e⟩
          · exact .inr (h5 o _ e)
        · intro w' u' val' Fu' t' hup hu' ht' ho' hdis hA' hSX
          simp only [T.put, T.child, hto, Option.bind_some, Option.bind_eq_some_iff] at ht'
          obtain ⟨c', hc', ht'⟩ := ht'
          obtain rfl : T.agg (ts.set o c') = t' := by simpa [T.setChild] using ht'
          have hna' := T.put_agg hc' hu' hna
          obtain ⟨v', r1, r2, r3, r5, r4⟩ := f.upd w' u' val' Fu' c' hup hu' hc' ho' (fun b hb hg => hdis b hb (h5 o b hg)) (by rw [add_block]; exact hA') hSX
          obtain ⟨q3, q4⟩ := r1.one hna'
          have hXb : ∀ j, j ≠ o → ¬ G j X.block := by
            intro j hj hgj
            rcases hX with e | e
            · rw [e, add_block] at hgj; exact hF (h5 j _ hgj)
            · exact h4 o j _ (fun e => hj e.symm) e hgj
          refine ⟨.agg (cs.setIfInBounds o v'), .agg _ _ (fun j => if j = o then v' else vs j) (fun j b => if j = o then ((G o b ∧ ¬ Fu b) ∨ Fu' b) else G j b) _ ?_ ?_ ?_ ?_ ?_ ?_, ?_, by simp [Value.cells], by simp only [Ev.loc, T.child, List.getElem?_set_self hol, Option.bind_some]; exact r5, ?_⟩
          · simpa using h1
          · intro j t hj
            by_cases e : j = o
            · subst e
              have : j < cs.size := by omega
              simp [this]
            · rw [Array.getElem?_setIfInBounds, if_neg (fun h => e h.symm), if_neg e]
              rw [List.getElem?_set_ne (fun h => e h.symm)] at hj
              exact h2 j t hj
          · intro j t hj
            by_cases e : j = o
            · subst e
              rw [List.getElem?_set_self hol] at hj
              obtain rfl : c' = t := by simpa using hj
              exact hna'
            · rw [List.getElem?_set_ne (fun h => e h.symm)] at hj
              exact h2' j t hj
          · intro j t hj
            by_cases e : j = o
            · subst e
              rw [List.getElem?_set_self hol] at hj
              obtain rfl : c' = t := by simpa using hj
              simp only [if_true]
              exact r1
            · rw [List.getElem?_set_ne (fun h => e h.symm)] at hj
              simp only [if_neg e]
              exact ow_ne (h3 j t hj) hup (hXb j e) hSX
          · intro i j b hij hb
            by_cases ei : i = o
            · subst ei
              have ej : ¬ j = i := fun h => hij h.symm
              simp only [if_true, if_neg ej] at hb ⊢
              rcases hb with hb | hb
              · exact h4 i j b hij hb.1
              · exact fun hg => h4 i j b hij (f.sub b (hdis b hb (h5 j b hg))) hg
            · by_cases ej : j = o
              · subst ej
                simp only [if_true, if_neg ei] at hb ⊢
                rintro (h | h)
                · exact h4 i j b hij hb h.1
                · exact h4 i j b hij hb (f.sub b (hdis b h (h5 i b hb)))
              · simp only [if_neg ei, if_neg ej] at hb ⊢
                exact h4 i j b hij hb
          · intro j b hb
            by_cases e : j = o
            · simp only [if_pos e] at hb
              exact hb.imp (fun h => ⟨h5 o b h.1, h.2⟩) id
            · simp only [if_neg e] at hb
              exact .inl ⟨h5 j b hb, fun hf => h4 o j b (fun h => e h.symm) (f.sub b hf) hb⟩
          · intro j d hd
            simp only [Value.cells, Array.getElem?_setIfInBounds] at hd
            by_cases e : o = j
            · subst e
              rw [if_pos rfl, if_pos (by omega)] at hd
              obtain rfl : v' = d := by simpa using hd
              have := r2 0 v' (by rw [q4]; rfl)
              simpa [Addr.add] using this
            · rw [if_neg e] at hd
              have hcell := ha j d (by simpa [Value.cells] using hd)
              refine hup.cell_other f.spot (add_spot hA j) ?_ hcell
              intro h
              rcases hX with e' | e'
              · rw [e'] at h; exact e (add_inj hA h).symm
              · rw [← h, add_block] at e'; exact hF (h5 o _ e')
          · intro q hq
            cases q with
            | nil => exact ⟨rfl, rfl, fun Y z _ hz => by simp [T.get, T.shp] at hz⟩
            | cons s q =>
              cases s with
              | e j => simp [Same, Ev.loc, T.child, T.get]
              | f j =>
                by_cases e : j = o
                · subst e
                  have := r4 q (fun r h => hq r (by rw [h]; rfl))
                  have hs : (ts.set j c')[j]? = some c' := List.getElem?_set_self hol
                  simpa [Same, Ev.loc, T.child, T.get, hto, hs, Option.bind_some] using this
                · have hs : (ts.set o c')[j]? = ts[j]? := List.getElem?_set_ne (fun h => e h.symm)
                  cases htj : ts[j]? with
                  | none => simp [Same, Ev.loc, T.child, T.get, htj, hs]
                  | some d =>
                    have hcell := h2 j d htj
                    have hk := (h3 j d htj).one (h2' j d htj)
                    have hkid := ha.kid hcell hk.2
                    have hkid' : At w' (A.add j) (vs j) := hup.at_ f.spot (add_spot hA j) hkid (by
                      intro j' hj' h
                      rw [hk.2] at hj'
                      have : j' = 0 := by simp at hj'; omega
                      subst this
                      rw [add_add hA] at h
                      rcases hX with e' | e'
                      · rw [e'] at h; have := add_inj hA h; omega
                      · rw [← h, add_block] at e'; exact hF (h5 o _ e'))
                    have := loc_frame q d (vs j) (G j) (A.add j) (h3 j d htj) hkid hkid' (fun b hb => hup.other b fun e' => hXb j e (e' ▸ hb))
                    simpa [Same, Ev.loc, T.child, T.get, htj, hs] using this
    | ints k xs a C _ h1 h2 h3 h4 =>
      cases s with
      | f o => simp [T.child] at hc
      | e i =>
        simp only [T.child, Option.map_eq_some_iff] at hc
        obtain ⟨n, hn, rfl⟩ := hc
        cases p with
        | cons s' p' => cases s' <;> simp [T.get, T.child] at hg
        | nil =>
          obtain rfl : T.int k n = u := by simpa [T.get] using hg
          have hcA : w.cell? A = some (.slice (some a) xs.length C) := by
            have := ha 0 _ (show (Value.slice (some a) xs.length C).cells[0]? = some (.slice (some a) xs.length C) from rfl)
            simpa [Addr.add] using this
          have hil := get_lt hn
          refine ⟨a.add i, .int k n, fun _ => False, ?_, h4 i n hn, add_spot h2.1 i, .int k n _, by simp, .inr (by rw [add_block]; exact h1), by simp, h2.free (by omega), ?_⟩
          · simp [Ev.loc, T.child, hn, hcA]
          · intro w' u' val' Fu' t' hup hu' ht' ho' hdis hA' hSX
            simp only [T.put, T.child, hn, Option.map_some, Option.bind_some] at ht'
            cases u' <;> simp [T.setChild] at ht'
            obtain ⟨rfl, rfl⟩ := ht'
            rename_i n'
            cases ho'
            have hcA' : w'.cell? A = some (.slice (some a) xs.length C) := by rw [cell_heap (hup.other _ (fun e => hF (by rw [e, add_block]; exact h1)))]; exact hcA
            refine ⟨.slice (some a) xs.length C, ?_, ?_, rfl, by simp [Ev.loc, T.child, List.getElem?_set_self hil, hcA'], ?_⟩
            · have := Ow.ints (w := w') (S := S) k (xs.set i n') a C (fun b => (F b ∧ ¬ False) ∨ Fu' b) (.inl ⟨h1, id⟩) (hup.blk h2) (by simpa using h3) ?_
              · simpa using this
              · intro j m hj
                by_cases e : j = i
                · subst e
                  rw [List.getElem?_set_self hil] at hj
                  obtain rfl : n' = m := by simpa using hj
                  exact hup.cell_same (add_spot h2.1 j) (h4 j n hn)
                · rw [List.getElem?_set_ne (fun h => e h.symm)] at hj
                  exact hup.cell_other (add_spot h2.1 i) (add_spot h2.1 j) (fun h => e (add_inj h2.1 h)) (h4 j m hj)
            · exact ha.frame (hup.other _ (fun e => hF (by rw [e, add_block]; exact h1)))
            · intro q hq
              cases q with
              | nil => exact ⟨rfl, by simp [T.get, T.shp], fun Y z hY _ => by
                  obtain rfl : A = Y := by simpa [Ev.loc] using hY
                  exact cell_heap (hup.other _ (fun e => hF (by rw [e, add_block]; exact h1)))⟩
              | cons s q =>
                cases s with
                | f j => simp [Same, Ev.loc, T.child, T.get]
                | e j =>
                  have e : j ≠ i := by rintro rfl; exact hq q rfl
                  have hs : (xs.set i n')[j]? = xs[j]? := List.getElem?_set_ne (fun h => e h.symm)
                  cases hxj : xs[j]? with
                  | none => simp [Same, Ev.loc, T.child, T.get, hs, hxj]
                  | some m =>
                    cases q with
                    | nil => simp [Same, Ev.loc, T.child, T.get, hs, hxj, hcA, hcA', T.shp]
                    | cons s q => simp [Same, Ev.loc, T.child, T.get, hs, hxj, hcA, hcA', T.shp]
    | rows sz xs a C vs G _ h1 h2 h3 h4 h5 h6 h7 h8 =>
      cases s with
      | f o => simp [T.child] at hc
      | e i =>
        have hxi : xs[i]? = some c := by simpa [T.child] using hc
        have hil := get_lt hxi
        have hcA : w.cell? A = some (.slice (some a) xs.length C) := by
          have := ha 0 _ (show (Value.slice (some a) xs.length C).cells[0]? = some (.slice (some a) xs.length C) from rfl)
          simpa [Addr.add] using this
        have hin : ∀ j o, j < C → o < sz → j * sz + o < C * sz := by
          intro j o hj ho
          have : (j + 1) * sz ≤ C * sz := Nat.mul_le_mul_right _ hj
          rw [Nat.add_mul] at this
          omega
        obtain ⟨X, val, Fu, f⟩ := ih c (vs i) (G i) (a.add (i * sz)) u (h6 i c hxi) (h5 i c hxi) (add_spot h2.1 _) (by rw [add_block]; exact fun h => (h8 i _ h).2 rfl)
          (by intro o ho
              rw [h4 i c hxi] at ho
              rw [add_add h2.1]
              exact h2.free (hin i o (by omega) ho)) hg hagg
        have hX : (∃ o, o < sz ∧ X = a.add (i * sz + o)) ∨ G i X.block := by
          rcases f.place with ⟨o, ho, e⟩ | h
          · exact .inl ⟨o, by rw [h4 i c hxi] at ho; exact ho, by rw [e, add_add h2.1]⟩
          · exact .inr h
        have hXF : F X.block := by
          rcases hX with ⟨o, _, e⟩ | h
          · rw [e, add_block]; exact h1
          · exact (h8 i _ h).1
        refine ⟨X, val, Fu, ?_, f.cell, f.spot, f.own, fun b hb => (h8 i b (f.sub b hb)).1, .inr hXF, f.notin, f.free, ?_⟩
        · simp only [Ev.loc, T.child, hxi, Option.bind_some, hcA]
          exact f.loc
        · intro w' u' val' Fu' t' hup hu' ht' ho' hdis hA' hSX
          simp only [T.put, T.child, hxi, Option.bind_some, Option.bind_eq_some_iff] at ht'
          obtain ⟨c', hc', ht'⟩ := ht'
          obtain rfl : T.rows sz (xs.set i c') = t' := by simpa [T.setChild] using ht'
          have hFa : ¬ Fu' a.block := fun h => (h8 i _ (f.sub _ (hdis _ h h1))).2 rfl
          obtain ⟨v', r1, r2, r3, r5, r4⟩ := f.upd w' u' val' Fu' c' hup hu' hc' ho' (fun b hb hg => hdis b hb (h8 i b hg).1) (by rw [add_block]; exact hFa) hSX
          have hcA' : w'.cell? A = some (.slice (some a) xs.length C) := by rw [cell_heap (hup.other _ (fun e => hF (by rw [e]; exact hXF)))]; exact hcA
          refine ⟨.slice (some a) xs.length C, ?_, ?_, rfl, by simp only [Ev.loc, T.child, List.getElem?_set_self hil, Option.bind_some, hcA']; exact r5, ?_⟩
          · have := Ow.rows (w := w') (S := S) sz (xs.set i c') a C (fun j => if j = i then v' else vs j) (fun j b => if j = i then ((G i b ∧ ¬ Fu b) ∨ Fu' b) else G j b) (fun b => (F b ∧ ¬ Fu b) ∨ Fu' b) (.inl ⟨h1, fun hf => (h8 i _ (f.sub _ hf)).2 rfl⟩) (hup.blk h2) (by simpa using h3) ?_ ?_ ?_ ?_ ?_
            · simpa using this
            · intro j t hj
              by_cases e : j = i
              · simp only [if_pos e]; rw [r3]; exact h4 i c hxi
              · rw [List.getElem?_set_ne (fun h => e h.symm)] at hj
                simp only [if_neg e]; exact h4 j t hj
            · intro j t hj
              by_cases e : j = i
              · subst e; simp only [if_true]; exact r2
              · rw [List.getElem?_set_ne (fun h => e h.symm)] at hj
                simp only [if_neg e]
                refine hup.at_ f.spot (add_spot h2.1 _) (h5 j t hj) ?_
                intro o ho h
                rw [h4 j t hj] at ho
                rw [add_add h2.1] at h
                rcases hX with ⟨o', ho', e'⟩ | e'
                · rw [e'] at h
                  have := add_inj h2.1 h
                  rcases Nat.lt_or_gt_of_ne e with hlt | hlt
                  · have : (j + 1) * sz ≤ i * sz := Nat.mul_le_mul_right _ hlt
                    rw [Nat.add_mul] at this
                    omega
                  · have : (i + 1) * sz ≤ j * sz := Nat.mul_le_mul_right _ hlt
                    rw [Nat.add_mul] at this
                    omega
                · rw [← h, add_block] at e'; exact (h8 i _ e').2 rfl
            · intro j t hj
              by_cases e : j = i
              · subst e
                rw [List.getElem?_set_self hil] at hj
                obtain rfl : c' = t := by simpa using hj
                simp only [if_true]
                exact r1
              · rw [List.getElem?_set_ne (fun h => e h.symm)] at hj
                simp only [if_neg e]
                refine ow_ne (h6 j t hj) hup ?_ hSX
                intro hgj
                rcases hX with ⟨o', ho', e'⟩ | e'
                · rw [e', add_block] at hgj; exact (h8 j _ hgj).2 rfl
                · exact h7 i j _ (fun h => e h.symm) e' hgj
            · intro x j b hij hb
              by_cases ei : x = i
              · subst ei
                have ej : ¬ j = x := fun h => hij h.symm
                simp only [if_true, if_neg ej] at hb ⊢
                rcases hb with hb | hb
                · exact h7 x j b hij hb.1
                · exact fun hg => h7 x j b hij (f.sub b (hdis b hb (h8 j b hg).1)) hg
              · by_cases ej : j = i
                · subst ej
                  simp only [if_true, if_neg ei] at hb ⊢
                  rintro (h | h)
                  · exact h7 x j b hij hb h.1
                  · exact h7 x j b hij hb (f.sub b (hdis b h (h8 x b hb).1))
                · simp only [if_neg ei, if_neg ej] at hb ⊢
                  exact h7 x j b hij hb
            · intro j b hb
              by_cases e : j = i
              · simp only [if_pos e] at hb
                rcases hb with h | h
                · exact ⟨.inl ⟨(h8 i b h.1).1, h.2⟩, (h8 i b h.1).2⟩
                · exact ⟨.inr h, fun e => hFa (e ▸ h)⟩
              · simp only [if_neg e] at hb
                exact ⟨.inl ⟨(h8 j b hb).1, fun hf => h7 i j b (fun h => e h.symm) (f.sub b hf) hb⟩, (h8 j b hb).2⟩
          · exact ha.frame (hup.other _ (fun e => hF (by rw [e]; exact hXF)))
          · intro q hq
            have hcA' : w'.cell? A = some (.slice (some a) xs.length C) := by rw [cell_heap (hup.other _ (fun e => hF (by rw [e]; exact hXF)))]; exact hcA
            cases q with
            | nil => exact ⟨rfl, by simp [T.get, T.shp], fun Y z hY _ => by
                obtain rfl : A = Y := by simpa [Ev.loc] using hY
                rw [hcA, hcA']⟩
            | cons s q =>
              cases s with
              | f j => simp [Same, Ev.loc, T.child, T.get]
              | e j =>
                by_cases e : j = i
                · subst e
                  have := r4 q (fun r h => hq r (by rw [h]; rfl))
                  have hs : (xs.set j c')[j]? = some c' := List.getElem?_set_self hil
                  simpa [Same, Ev.loc, T.child, T.get, hxi, hs, hcA, hcA', Option.bind_some] using this
                · have hs : (xs.set i c')[j]? = xs[j]? := List.getElem?_set_ne (fun h => e h.symm)
                  cases htj : xs[j]? with
                  | none => simp [Same, Ev.loc, T.child, T.get, htj, hs]
                  | some d =>
                    have hkid' : At w' (a.add (j * sz)) (vs j) := hup.at_ f.spot (add_spot h2.1 _) (h5 j d htj) (by
                      intro o ho h
                      rw [h4 j d htj] at ho
                      rw [add_add h2.1] at h
                      rcases hX with ⟨o', ho', e'⟩ | e'
                      · rw [e'] at h
                        have := add_inj h2.1 h
                        rcases Nat.lt_or_gt_of_ne e with hlt | hlt
                        · have : (j + 1) * sz ≤ i * sz := Nat.mul_le_mul_right _ hlt
                          rw [Nat.add_mul] at this
                          omega
                        · have : (i + 1) * sz ≤ j * sz := Nat.mul_le_mul_right _ hlt
                          rw [Nat.add_mul] at this
                          omega
                      · rw [← h, add_block] at e'; exact (h8 i _ e').2 rfl)
                    have := loc_frame q d (vs j) (G j) (a.add (j * sz)) (h6 j d htj) (h5 j d htj) hkid' (fun b hb => hup.other b fun e' => by
                      subst e'
                      rcases hX with ⟨o', ho', e''⟩ | e''
                      · rw [e'', add_block] at hb; exact (h8 j _ hb).2 rfl
                      · exact h7 i j _ (fun h => e h.symm) e'' hb)
                    simpa [Same, Ev.loc, T.child, T.get, htj, hs, hcA, hcA'] using this
    | ptr => simp [T.child] at hc
    | ints0 => cases s <;> simp [T.child] at hc
    | rows0 => cases s <;> simp [T.child] at hc
    | int => simp [T.child] at hc
    | bool => simp [T.child] at hc
    | str => simp [T.child] at hc
    | sh => simp [T.child] at hc
    | dead => simp [T.child] at hc
end Go.Proofs.Ytdblfocadcgmaaa.Ev
namespace Go.Proofs.Ytdblfocadcgmaaa.Ev
open Go
set_option linter.unusedSimpArgs false
set_option linter.unusedVariables false

/-- Where the tree at a path of a block lies; rv: the block's own value, a head or an address. -/
def rloc (w : World) : T → Value → Path → Option Addr
  | .ptr t, .pointer (some a), p => loc w t a p
  | .ints k xs, .slice (some a) _ _, .e i :: p => (xs[i]?).bind fun n => loc w (.int k n) (a.add i) p
  | .rows sz xs, .slice (some a) _ _, .e i :: p => (xs[i]?).bind fun c => loc w c (a.add (i * sz)) p
  | _, _, _ => none

def RSame (w w' : World) (r r' : T) (rv : Value) (q : Path) : Prop :=
  rloc w' r' rv q = rloc w r rv q ∧ (r'.rget q).bind T.shp = (r.rget q).bind T.shp ∧ ∀ Y z, rloc w r rv q = some Y → (r.rget q).bind T.shp = some z → w'.cell? Y = w.cell? Y

structure Rfo (w : World) (S : Nat → Prop) (r : T) (rv : Value) (F : Nat → Prop) (p : Path) (u : T) (X : Addr) (val : Value) (Fu : Nat → Prop) : Prop where
  loc : rloc w r rv p = some X
  cell : w.cell? X = some val
  spot : X.spot = none
  own : Ow w S u val Fu
  sub : ∀ b, Fu b → F b
  inF : F X.block
  notin : ¬ Fu X.block
  free : w.frozen? X = false
  upd : ∀ (w' : World) (u' : T) (val' : Value) (Fu' : Nat → Prop) (r' : T), Upd w w' X val' → aggT u' = false → r.rput u' p = some r' → Ow w' S u' val' Fu' →
    (∀ b, Fu' b → F b → Fu b) → ¬ S X.block → Ow w' S r' rv (fun b => (F b ∧ ¬ Fu b) ∨ Fu' b) ∧ rloc w' r' rv p = some X ∧ ∀ q, (∀ x, q ≠ p ++ x) → RSame w w' r r' rv q

theorem rfo {w : World} {S : Nat → Prop} {r : T} {rv : Value} {F : Nat → Prop} {p : Path} {u : T} (ho : Ow w S r rv F) (hg : r.rget p = some u) (hagg : aggT u = false) (hp : p ≠ []) (hr : aggT r = false) :
    ∃ X val Fu, Rfo w S r rv F p u X val Fu := by
  cases p with
  | nil => exact absurd rfl hp
  | cons s p =>
    cases ho with
    | ptr ts cs a G _ h1 h2 h3 h4 h5 =>
      have hfr : ∀ o, o < (Value.agg cs).cells.size → w.frozen? (a.add o) = false := fun o ho => h2.free ho
      obtain ⟨X, val, Fu, f⟩ := foc (s :: p) (.agg ts) (.agg cs) G a u h4 h3 h2.1 (fun h => (h5 _ h).2 rfl) hfr hg hagg
      have hXF : F X.block := by
        rcases f.place with ⟨o, _, e⟩ | h
        · rw [e, add_block]; exact h1
        · exact (h5 _ h).1
      refine ⟨X, val, Fu, f.loc, f.cell, f.spot, f.own, fun b hb => (h5 b (f.sub b hb)).1, hXF, f.notin, f.free, ?_⟩
      intro w' u' val' Fu' r' hup hu' hr' ho' hdis hSX
      simp only [T.rput, Option.map_eq_some_iff] at hr'
      obtain ⟨t', ht', rfl⟩ := hr'
      have hFa : ¬ Fu' a.block := fun h => (h5 _ (f.sub _ (hdis _ h h1))).2 rfl
      obtain ⟨v', r1, r2, r3, r5, r4⟩ := f.upd w' u' val' Fu' t' hup hu' ht' ho' (fun b hb hg => hdis b hb (h5 b hg).1) hFa hSX
      have hta : ∃ ts', t' = .agg ts' := by
        simp only [T.put, Option.bind_eq_some_iff] at ht'
        obtain ⟨c, hc, c', _, hs⟩ := ht'
        cases s <;> simp [T.child] at hc
        simp [T.setChild] at hs
        exact ⟨_, hs.symm⟩
      obtain ⟨ts', rfl⟩ := hta
      have hva : ∃ cs', v' = .agg cs' := by cases r1; exact ⟨_, rfl⟩
      obtain ⟨cs', rfl⟩ := hva
      refine ⟨.ptr ts' cs' a (fun b => (G b ∧ ¬ Fu b) ∨ Fu' b) _ (.inl ⟨h1, fun hf => (h5 _ (f.sub _ hf)).2 rfl⟩) ?_ r2 r1 ?_, r5, ?_⟩
      · have := hup.blk h2
        simp only [Value.cells] at r3
        rw [r3]; exact this
      · intro b hb
        rcases hb with h | h
        · exact ⟨.inl ⟨(h5 b h.1).1, h.2⟩, (h5 b h.1).2⟩
        · exact ⟨.inr h, fun e => hFa (e ▸ h)⟩
      · intro q hq
        exact r4 q hq
    | ints k xs a C _ h1 h2 h3 h4 =>
      cases s with
      | f o => simp [T.rget, T.body, T.get, T.child] at hg
      | e i =>
        simp only [T.rget, T.body, T.get, T.child, Option.bind_eq_some_iff, Option.map_eq_some_iff] at hg
        obtain ⟨_, ⟨n, hn, rfl⟩, hg⟩ := hg
        cases p with
        | cons s' p' => cases s' <;> simp [T.get, T.child] at hg
        | nil =>
          obtain rfl : T.int k n = u := by simpa [T.get] using hg
          have hil := get_lt hn
          refine ⟨a.add i, .int k n, fun _ => False, ?_, h4 i n hn, add_spot h2.1 i, .int k n _, by simp, (by rw [add_block]; exact h1), by simp, h2.free (by omega), ?_⟩
          · simp [rloc, Ev.loc, hn]
          · intro w' u' val' Fu' t' hup hu' ht' ho' hdis hSX
            simp only [T.rput, T.put, T.child, hn, Option.map_some, Option.bind_some] at ht'
            cases u' <;> simp [T.setChild] at ht'
            obtain ⟨rfl, rfl⟩ := ht'
            rename_i n'
            cases ho'
            refine ⟨?_, by simp [rloc, Ev.loc, List.getElem?_set_self hil], ?_⟩
            · have := Ow.ints (w := w') (S := S) k (xs.set i n') a C (fun b => (F b ∧ ¬ False) ∨ Fu' b) (.inl ⟨h1, id⟩) (hup.blk h2) (by simpa using h3) ?_
              · simpa using this
              · intro j m hj
                by_cases e : j = i
                · subst e
                  rw [List.getElem?_set_self hil] at hj
                  obtain rfl : n' = m := by simpa using hj
                  exact hup.cell_same (add_spot h2.1 j) (h4 j n hn)
                · rw [List.getElem?_set_ne (fun h => e h.symm)] at hj
                  exact hup.cell_other (add_spot h2.1 i) (add_spot h2.1 j) (fun h => e (add_inj h2.1 h)) (h4 j m hj)
            · intro q hq
              cases q with
              | nil => exact ⟨rfl, by simp [T.rget, T.body, T.get, T.shp], fun Y z hY _ => by simp [rloc] at hY⟩
              | cons s q =>
                cases s with
                | f j => simp [RSame, rloc, T.rget, T.body, T.get, T.child]
                | e j =>
                  have e : j ≠ i := by rintro rfl; exact hq q rfl
                  have hs : (xs.set i n')[j]? = xs[j]? := List.getElem?_set_ne (fun h => e h.symm)
                  cases hxj : xs[j]? with
                  | none => simp [RSame, rloc, T.rget, T.body, T.child, T.get, hs, hxj]
                  | some m =>
                    cases q with
                    | nil => simp [RSame, rloc, Ev.loc, T.rget, T.body, T.child, T.get, hs, hxj, T.shp]
                    | cons s q => simp [RSame, rloc, Ev.loc, T.rget, T.body, T.child, T.get, hs, hxj, T.shp]
    | rows sz xs a C vs G _ h1 h2 h3 h4 h5 h6 h7 h8 =>
      cases s with
      | f o => simp [T.rget, T.body, T.get, T.child] at hg
      | e i =>
        simp only [T.rget, T.body, T.get, T.child, Option.bind_eq_some_iff] at hg
        obtain ⟨c, hxi, hg⟩ := hg
        have hil := get_lt hxi
        have hin : ∀ j o, j < C → o < sz → j * sz + o < C * sz := by
          intro j o hj ho
          have : (j + 1) * sz ≤ C * sz := Nat.mul_le_mul_right _ hj
          rw [Nat.add_mul] at this
          omega
        obtain ⟨X, val, Fu, f⟩ := foc p c (vs i) (G i) (a.add (i * sz)) u (h6 i c hxi) (h5 i c hxi) (add_spot h2.1 _) (by rw [add_block]; exact fun h => (h8 i _ h).2 rfl)
          (by intro o ho
              rw [h4 i c hxi] at ho
              rw [add_add h2.1]
              exact h2.free (hin i o (by omega) ho)) hg hagg
        have hX : (∃ o, o < sz ∧ X = a.add (i * sz + o)) ∨ G i X.block := by
          rcases f.place with ⟨o, ho, e⟩ | h
          · exact .inl ⟨o, by rw [h4 i c hxi] at ho; exact ho, by rw [e, add_add h2.1]⟩
          · exact .inr h
        have hXF : F X.block := by
          rcases hX with ⟨o, _, e⟩ | h
          · rw [e, add_block]; exact h1
          · exact (h8 i _ h).1
        refine ⟨X, val, Fu, ?_, f.cell, f.spot, f.own, fun b hb => (h8 i b (f.sub b hb)).1, hXF, f.notin, f.free, ?_⟩
        · simp only [rloc, hxi, Option.bind_some]
          exact f.loc
        · intro w' u' val' Fu' t' hup hu' ht' ho' hdis hSX
          simp only [T.rput, T.put, T.child, hxi, Option.bind_some, Option.bind_eq_some_iff] at ht'
          obtain ⟨c', hc', ht'⟩ := ht'
          obtain rfl : T.rows sz (xs.set i c') = t' := by simpa [T.setChild] using ht'
          have hFa : ¬ Fu' a.block := fun h => (h8 i _ (f.sub _ (hdis _ h h1))).2 rfl
          obtain ⟨v', r1, r2, r3, r5, r4⟩ := f.upd w' u' val' Fu' c' hup hu' hc' ho' (fun b hb hg => hdis b hb (h8 i b hg).1) (by rw [add_block]; exact hFa) hSX
          refine ⟨?_, by simp only [rloc, List.getElem?_set_self hil, Option.bind_some]; exact r5, ?_⟩
          · have := Ow.rows (w := w') (S := S) sz (xs.set i c') a C (fun j => if j = i then v' else vs j) (fun j b => if j = i then ((G i b ∧ ¬ Fu b) ∨ Fu' b) else G j b) (fun b => (F b ∧ ¬ Fu b) ∨ Fu' b) (.inl ⟨h1, fun hf => (h8 i _ (f.sub _ hf)).2 rfl⟩) (hup.blk h2) (by simpa using h3) ?_ ?_ ?_ ?_ ?_
            · simpa using this
            · intro j t hj
              by_cases e : j = i
              · simp only [if_pos e]; rw [r3]; exact h4 i c hxi
              · rw [List.getElem?_set_ne (fun h => e h.symm)] at hj
                simp only [if_neg e]; exact h4 j t hj
            · intro j t hj
              by_cases e : j = i
              · subst e; simp only [if_true]; exact r2
              · rw [List.getElem?_set_ne (fun h => e h.symm)] at hj
                simp only [if_neg e]
                refine hup.at_ f.spot (add_spot h2.1 _) (h5 j t hj) ?_
                intro o ho h
                rw [h4 j t hj] at ho
                rw [add_add h2.1] at h
                rcases hX with ⟨o', ho', e'⟩ | e'
                · rw [e'] at h
                  have := add_inj h2.1 h
                  rcases Nat.lt_or_gt_of_ne e with hlt | hlt
                  · have : (j + 1) * sz ≤ i * sz := Nat.mul_le_mul_right _ hlt
                    rw [Nat.add_mul] at this
                    omega
                  · have : (i + 1) * sz ≤ j * sz := Nat.mul_le_mul_right _ hlt
                    rw [Nat.add_mul] at this
                    omega
                · rw [← h, add_block] at e'; exact (h8 i _ e').2 rfl
            · intro j t hj
              by_cases e : j = i
              · subst e
                rw [List.getElem?_set_self hil] at hj
                obtain rfl : c' = t := by simpa using hj
                simp only [if_true]
                exact r1
              · rw [List.getElem?_set_ne (fun h => e h.symm)] at hj
                simp only [if_neg e]
                refine ow_ne (h6 j t hj) hup ?_ hSX
                intro hgj
                rcases hX with ⟨o', ho', e'⟩ | e'
                · rw [e', add_block] at hgj; exact (h8 j _ hgj).2 rfl
                · exact h7 i j _ (fun h => e h.symm) e' hgj
            · intro x j b hij hb
              by_cases ei : x = i
              · subst ei
                have ej : ¬ j = x := fun h => hij h.symm
                simp only [if_true, if_neg ej] at hb ⊢
                rcases hb with hb | hb
                · exact h7 x j b hij hb.1
                · exact fun hg => h7 x j b hij (f.sub b (hdis b hb (h8 j b hg).1)) hg
              · by_cases ej : j = i
                · subst ej
                  simp only [if_true, if_neg ei] at hb ⊢
                  rintro (h | h)
                  · exact h7 x j b hij hb h.1
                  · exact h7 x j b hij hb (f.sub b (hdis b h (h8 x b hb).1))
                · simp only [if_neg ei, if_neg ej] at hb ⊢
                  exact h7 x j b hij hb
            · intro j b hb
              by_cases e : j = i
              · simp only [if_pos e] at hb
                rcases hb with h | h
                · exact ⟨.inl ⟨(h8 i b h.1).1, h.2⟩, (h8 i b h.1).2⟩
                · exact ⟨.inr h, fun e => hFa (e ▸ h)⟩
              · simp only [if_neg e] at hb
                exact ⟨.inl ⟨(h8 j b hb).1, fun hf => h7 i j b (fun h => e h.symm) (f.sub b hf) hb⟩, (h8 j b hb).2⟩
          · intro q hq
            cases q with
            | nil => exact ⟨rfl, by simp [T.rget, T.body, T.get, T.shp], fun Y z hY _ => by simp [rloc] at hY⟩
            | cons s q =>
              cases s with
              | f j => simp [RSame, rloc, T.rget, T.body, T.child, T.get]
              | e j =>
                by_cases e : j = i
                · subst e
                  have := r4 q (fun r h => hq r (by rw [h]; rfl))
                  have hs : (xs.set j c')[j]? = some c' := List.getElem?_set_self hil
                  simpa [RSame, Same, rloc, T.rget, T.body, T.child, T.get, hxi, hs, Option.bind_some] using this
                · have hs : (xs.set i c')[j]? = xs[j]? := List.getElem?_set_ne (fun h => e h.symm)
                  cases htj : xs[j]? with
                  | none => simp [RSame, rloc, T.rget, T.body, T.child, T.get, htj, hs]
                  | some d =>
                    have hkid' : At w' (a.add (j * sz)) (vs j) := hup.at_ f.spot (add_spot h2.1 _) (h5 j d htj) (by
                      intro o ho h
                      rw [h4 j d htj] at ho
                      rw [add_add h2.1] at h
                      rcases hX with ⟨o', ho', e'⟩ | e'
                      · rw [e'] at h
                        have := add_inj h2.1 h
                        rcases Nat.lt_or_gt_of_ne e with hlt | hlt
                        · have : (j + 1) * sz ≤ i * sz := Nat.mul_le_mul_right _ hlt
                          rw [Nat.add_mul] at this
                          omega
                        · have : (i + 1) * sz ≤ j * sz := Nat.mul_le_mul_right _ hlt
                          rw [Nat.add_mul] at this
                          omega
                      · rw [← h, add_block] at e'; exact (h8 i _ e').2 rfl)
                    have := loc_frame q d (vs j) (G j) (a.add (j * sz)) (h6 j d htj) (h5 j d htj) hkid' (fun b hb => hup.other b fun e' => by
                      subst e'
                      rcases hX with ⟨o', ho', e''⟩ | e''
                      · rw [e'', add_block] at hb; exact (h8 j _ hb).2 rfl
                      · exact h7 i j _ (fun h => e h.symm) e'' hb)
                    simpa [RSame, Same, rloc, T.rget, T.body, T.child, T.get, htj, hs] using this
    | ints0 => cases s <;> simp [T.rget, T.body, T.get, T.child] at hg
    | rows0 => cases s <;> simp [T.rget, T.body, T.get, T.child] at hg
    | int => simp [T.rget, T.body, T.get, T.child] at hg
    | bool => simp [T.rget, T.body, T.get, T.child] at hg
    | str => simp [T.rget, T.body, T.get, T.child] at hg
    | sh => simp [T.rget, T.body, T.get, T.child] at hg
    | dead => simp [T.rget, T.body, T.get, T.child] at hg
    | agg => simp [aggT] at hr
end Go.Proofs.Ytdblfocadcgmaaa.Ev
namespace Go.Proofs.Ytdblfocadcgmaaa.Ev
open Go
set_option linter.unusedSimpArgs false
set_option linter.unusedVariables false

theorem rloc_frame {w w' : World} {S : Nat → Prop} {r : T} {rv : Value} {F : Nat → Prop} (ho : Ow w S r rv F) (hF : ∀ b, F b → w'.heap[b]? = w.heap[b]?) (q : Path) : RSame w w' r r rv q := by
  cases ho with
  | ptr ts cs a G _ h1 h2 h3 h4 h5 =>
    exact loc_frame q (.agg ts) (.agg cs) G a h4 h3 (h3.frame (hF _ h1)) (fun b hb => hF b (h5 b hb).1)
  | ints k xs a C _ h1 h2 h3 h4 =>
    cases q with
    | nil => exact ⟨rfl, rfl, fun Y z hY _ => by simp [rloc] at hY⟩
    | cons s q =>
      cases s with
      | f o => exact ⟨rfl, rfl, fun Y z hY _ => by simp [rloc] at hY⟩
      | e i =>
        cases hn : xs[i]? with
        | none => simp [RSame, rloc, hn]
        | some n =>
          have hcell := h4 i n hn
          have hA1 : At w (a.add i) (.int k n) := by
            intro j d hd
            have : j = 0 := by
              rcases j with _ | j
              · rfl
              · simp [Value.cells] at hd
            subst this
            simp [Value.cells] at hd
            subst hd
            simpa [Addr.add] using hcell
          have := loc_frame (w' := w') (S := S) q (.int k n) (.int k n) (fun _ => False) (a.add i) (.int k n _) hA1 (hA1.frame (by rw [add_block]; exact hF _ h1)) (fun b hb => hb.elim)
          simpa [RSame, Same, rloc, T.rget, T.body, T.get, T.child, hn] using this
  | rows sz xs a C vs G _ h1 h2 h3 h4 h5 h6 h7 h8 =>
    cases q with
    | nil => exact ⟨rfl, rfl, fun Y z hY _ => by simp [rloc] at hY⟩
    | cons s q =>
      cases s with
      | f o => exact ⟨rfl, rfl, fun Y z hY _ => by simp [rloc] at hY⟩
      | e i =>
        cases hxi : xs[i]? with
        | none => simp [RSame, rloc, hxi]
        | some c =>
          have := loc_frame (w' := w') q c (vs i) (G i) (a.add (i * sz)) (h6 i c hxi) (h5 i c hxi) ((h5 i c hxi).frame (by rw [add_block]; exact hF _ h1)) (fun b hb => hF b (h8 i b hb).1)
          simpa [RSame, Same, rloc, T.rget, T.body, T.get, T.child, hxi] using this
  | _ => exact ⟨rfl, rfl, fun Y z hY _ => by simp [rloc] at hY⟩

/-- The head of the row at a path of a block. -/
def hdr (w : World) (r : T) (rv : Value) (p : Path) : Option Value :=
  match p with
  | [] => some rv
  | p => (rloc w r rv p).bind w.cell?

abbrev Gh := Name → Value × (Nat → Prop)

/-- Blocks that a view leans on. -/
def upon (S : Nat → Prop) (g : Gh) (ds : List Name) : Nat → Prop := fun b => S b ∨ ∃ n, n ∈ ds ∧ (g n).2 b

inductive SvOk (w : World) (S : Nat → Prop) (g : Gh) (h : Hp) : SV → Value → Prop where
  | vw (ds t v) : (∀ n, n ∈ ds → (h n).isSome = true) → aggT t = false → Vw w (upon S g ds) t v → SvOk w S g h (.vw ds t) v
  | pv (ds t v A) : (∀ n, n ∈ ds → (h n).isSome = true) → A.spot = none → upon S g ds A.block → Vw w (upon S g ds) t v → At w A v → SvOk w S g h (.pv ds t) (.pointer (some A))
  | nilI (k) : SvOk w S g h (.nilS (.ints k [])) (.slice none 0 0)
  | nilR (sz) : SvOk w S g h (.nilS (.rows sz [])) (.slice none 0 0)
  | nilP : SvOk w S g h (.nilS .dead) (.pointer none)
  | ref (n p sz off l r base L C ad) : h n = some r → (r.rget p).bind T.shp = some (sz, L) → hdr w r (g n).1 p = some (.slice base L C) → (∀ b, base = some b → b.spot = none) → (base = none → L = 0) → off + l ≤ L → L ≤ C → ad ≤ C * sz → (C - off ≠ 0 → ad = off * sz) →
      SvOk w S g h (.ref n p sz off l) (.slice (base.map (·.add ad)) l (C - off))
  | ptrC (n p r X) : h n = some r → rloc w r (g n).1 p = some X → SvOk w S g h (.ptr n p none) (.pointer (some X))
  | ptrA (n p o r X) : h n = some r → rloc w r (g n).1 p = some X → SvOk w S g h (.ptr n p (some o)) (.pointer (some (X.add o)))
  | agg (xs : List SV) (cs : Array Value) (vs : Nat → Value) : cs.size = xs.length → (∀ (j : Nat) x, xs[j]? = some x → cs[j]? = some (vs j)) → (∀ (j : Nat) x, xs[j]? = some x → (vs j).oneCell' = true) → (∀ (j : Nat) x, xs[j]? = some x → SvOk w S g h x (vs j)) → SvOk w S g h (.agg xs) (.agg cs)
  | tup (xs : List SV) (cs : Array Value) (vs : Nat → Value) : cs.size = xs.length → (∀ (j : Nat) x, xs[j]? = some x → cs[j]? = some (vs j)) → (∀ (j : Nat) x, xs[j]? = some x → SvOk w S g h x (vs j)) → SvOk w S g h (.tup xs) (.tuple cs)
  | fn (f) (xs : List SV) (cs : Array Value) (vs : Nat → Value) : cs.size = xs.length → (∀ (j : Nat) x, xs[j]? = some x → cs[j]? = some (vs j)) → (∀ (j : Nat) x, xs[j]? = some x → SvOk w S g h x (vs j)) → SvOk w S g h (.fn f xs) (.func (.func f) #[] cs)
  | undef : SvOk w S g h .undef undef
  | dead (v) : SvOk w S g h .dead v

/-- From the entry on: what is new or handed over may have turned, all else is as it was. -/
structure Fr (M : Nat → Prop) (w0 w : World) : Prop where
  os : w.os = w0.os
  tape : w.tape = w0.tape
  output : w.output = w0.output
  size : w0.heap.size ≤ w.heap.size
  block : ∀ b, b < w0.heap.size → ¬ M b → w.heap[b]? = w0.heap[b]?

theorem Fr.refl (M : Nat → Prop) (w : World) : Fr M w w := ⟨rfl, rfl, rfl, Nat.le_refl _, fun _ _ _ => rfl⟩
theorem Fr.trans {M M' : Nat → Prop} {a b c : World} (h : Fr M a b) (k : Fr M' b c) (hM : ∀ x, x < a.heap.size → M' x → M x) : Fr M a c :=
  ⟨k.os.trans h.os, k.tape.trans h.tape, k.output.trans h.output, Nat.le_trans h.size k.size, fun x hx hm => (k.block x (Nat.lt_of_lt_of_le hx h.size) fun h' => hm (hM x hx h')).trans (h.block x hx hm)⟩

structure Cx where
  w0 : World
  M : Nat → Prop
  R : Nat → Prop
  nr : Nat
  rv : Nat → Value

/-- A variable of its own. -/
def T.isV : T → Bool
  | .ptr _ => true
  | _ => false

/-- The blocks: each owned, apart from each other. -/
structure HpOk (cx : Cx) (w : World) (S : Nat → Prop) (g : Gh) (h : Hp) : Prop where
  fr : Fr cx.M cx.w0 w
  own : ∀ n r, h n = some r → Ow w S r (g n).1 (g n).2
  row : ∀ n r, h n = some r → aggT r = false
  inM : ∀ n r b, h n = some r → (g n).2 b → cx.M b ∨ cx.w0.heap.size ≤ b
  apart : ∀ n m r r' b, h n = some r → h m = some r' → n ≠ m → (g n).2 b → ¬ (g m).2 b
  lt : ∀ n r b, h n = some r → (g n).2 b → b < w.heap.size
  Sapart : ∀ n r b, h n = some r → (g n).2 b → ¬ S b
  Slt : ∀ b, S b → b < w.heap.size
  SR : ∀ b, S b → cx.R b ∨ cx.w0.heap.size ≤ b
  RS : ∀ b, cx.R b → S b
  root : ∀ n, n < cx.nr → ∃ r, h n = some r ∧ r.isV = true ∧ (g n).1 = cx.rv n

theorem root_upd {cx : Cx} {g : Gh} {h : Hp} {m : Name} {r r' : T} {rv : Value} {F : Nat → Prop} (hroot : ∀ n, n < cx.nr → ∃ r, h n = some r ∧ r.isV = true ∧ (g n).1 = cx.rv n) (hm : h m = some r) (hr : r.isV = true → r'.isV = true) (hg : rv = (g m).1) :
    ∀ n, n < cx.nr → ∃ r, upd h m (some r') n = some r ∧ r.isV = true ∧ (upd g m (rv, F) n).1 = cx.rv n := by
  intro n hn
  obtain ⟨r0, q1, q2, q3⟩ := hroot n hn
  by_cases e : n = m
  · subst e
    rw [hm] at q1
    obtain rfl := by simpa using q1
    exact ⟨r', by simp, hr q2, by simp [hg, q3]⟩
  · exact ⟨r0, by rw [upd_ne _ _ e]; exact q1, q2, by rw [upd_ne _ _ e]; exact q3⟩

theorem root_add {cx : Cx} {g : Gh} {h : Hp} {m : Name} {t : T} {rv : Value} {F : Nat → Prop} (hroot : ∀ n, n < cx.nr → ∃ r, h n = some r ∧ r.isV = true ∧ (g n).1 = cx.rv n) (hm : h m = none) :
    ∀ n, n < cx.nr → ∃ r, upd h m (some t) n = some r ∧ r.isV = true ∧ (upd g m (rv, F) n).1 = cx.rv n := by
  intro n hn
  obtain ⟨r0, q1, q2, q3⟩ := hroot n hn
  have e : n ≠ m := by rintro rfl; rw [hm] at q1; simp at q1
  exact ⟨r0, by rw [upd_ne _ _ e]; exact q1, q2, by rw [upd_ne _ _ e]; exact q3⟩

theorem rput_isV {r r' u : T} {p : Path} (hr : r.rput u p = some r') (h : r.isV = true) : r'.isV = true := by
  cases r with
  | ptr t => simp only [T.rput, Option.map_eq_some_iff] at hr; obtain ⟨_, _, rfl⟩ := hr; rfl
  | _ => simp [T.isV] at h

theorem HpOk.root_row {cx : Cx} {w : World} {S : Nat → Prop} {g : Gh} {h : Hp} (hp : HpOk cx w S g h) {m : Name} {r : T} {z : Nat × Nat} (hm : h m = some r) (hz : (r.rget []).bind T.shp = some z) : ∀ n, n < cx.nr → n ≠ m := by
  rintro n hn rfl
  obtain ⟨r0, q1, q2, q3⟩ := hp.root n hn
  rw [hm] at q1
  obtain rfl := by simpa using q1
  have ho := hp.own n r hm
  cases r with
  | ptr t =>
    obtain ⟨rv, hrv⟩ : ∃ rv, (g n).1 = rv := ⟨_, rfl⟩
    rw [hrv] at ho
    cases ho
    simp [T.rget, T.body, T.get, T.shp] at hz
  | _ => simp [T.isV] at q2

structure Sim (cx : Cx) (S : Nat → Prop) (g : Gh) (s : Env) (h : Hp) (a : Act) (w : World) : Prop where
  hp : HpOk cx w S g h
  slot : ∀ k, SvOk w S g h (s k) (a.tmps.getD k undef)
  defers : a.defers = []

/-! ### frames -/
theorem upon.mono {S S' : Nat → Prop} {g : Gh} {ds : List Name} (h : ∀ b, S b → S' b) : ∀ b, upon S g ds b → upon S' g ds b := fun b hb => hb.imp (h b) id

/-- A new world, in which all that the value leans on is as it was; new blocks may have been named. -/
theorem SvOk.frame {w w' : World} {S S' : Nat → Prop} {g g' : Gh} {h h' : Hp} {x : SV} {v : Value} (hs : SvOk w S g h x v) (hS : ∀ b, S b → S' b)
    (hSw : ∀ b, S b → w'.heap[b]? = w.heap[b]?) (hh : ∀ n r, h n = some r → h' n = some r) (hg : ∀ n r, h n = some r → g' n = g n) (ho : ∀ n r, h n = some r → Ow w S r (g n).1 (g n).2)
    (hF : ∀ n r b, h n = some r → (g n).2 b → w'.heap[b]? = w.heap[b]?) : SvOk w' S' g' h' x v := by
  have hlean : ∀ ds, (∀ n, n ∈ ds → (h n).isSome = true) → ∀ b, upon S g ds b → upon S' g' ds b ∧ w'.heap[b]? = w.heap[b]? := by
    intro ds hd b hb
    rcases hb with hb | ⟨n, hn, hb⟩
    · exact ⟨.inl (hS b hb), hSw b hb⟩
    · obtain ⟨r, hr⟩ := Option.isSome_iff_exists.1 (hd n hn)
      exact ⟨.inr ⟨n, hn, by rw [hg n r hr]; exact hb⟩, hF n r b hr hb⟩
  have hdom : ∀ ds : List Name, (∀ n, n ∈ ds → (h n).isSome = true) → ∀ n, n ∈ ds → (h' n).isSome = true := by
    intro ds hd n hn
    obtain ⟨r, hr⟩ := Option.isSome_iff_exists.1 (hd n hn)
    simp [hh n r hr]
  induction hs with
  | vw ds t v hd hna hv => exact .vw ds t v (hdom ds hd) hna ((hv.frame fun b hb => (hlean ds hd b hb).2).mono fun b hb => (hlean ds hd b hb).1)
  | pv ds t v A hd hA hb hv ha => exact .pv ds t v A (hdom ds hd) hA (hlean ds hd _ hb).1 ((hv.frame fun b hb => (hlean ds hd b hb).2).mono fun b hb => (hlean ds hd b hb).1) (ha.frame (hlean ds hd _ hb).2)
  | nilI k => exact .nilI k
  | nilR sz => exact .nilR sz
  | nilP => exact .nilP
  | ref n p sz off l r base L C ad hr hz hhd hsp hb0 hl hlc had ha =>
    have hsame := rloc_frame (ho n r hr) (fun b hb => hF n r b hr hb) p
    refine .ref n p sz off l r base L C ad (hh n r hr) hz ?_ hsp hb0 hl hlc had ha
    rw [hg n r hr]
    cases p with
    | nil => exact hhd
    | cons s p =>
      simp only [hdr] at hhd ⊢
      rw [hsame.1]
      simp only [Option.bind_eq_some_iff] at hhd ⊢
      obtain ⟨Y, hY, hc⟩ := hhd
      exact ⟨Y, hY, by rw [hsame.2.2 Y (sz, L) hY hz]; exact hc⟩
  | ptrC n p r X hr hX => exact .ptrC n p r X (hh n r hr) (by rw [hg n r hr, (rloc_frame (ho n r hr) (fun b hb => hF n r b hr hb) p).1]; exact hX)
  | ptrA n p o r X hr hX => exact .ptrA n p o r X (hh n r hr) (by rw [hg n r hr, (rloc_frame (ho n r hr) (fun b hb => hF n r b hr hb) p).1]; exact hX)
  | agg xs cs vs h1 h2 h3 h4 ih => exact .agg xs cs vs h1 h2 h3 ih
  | tup xs cs vs h1 h2 h4 ih => exact .tup xs cs vs h1 h2 ih
  | fn f xs cs vs h1 h2 h4 ih => exact .fn f xs cs vs h1 h2 ih
  | undef => exact .undef
  | dead v => exact .dead v
end Go.Proofs.Ytdblfocadcgmaaa.Ev
namespace Go.Proofs.Ytdblfocadcgmaaa.Ev
open Go
set_option linter.unusedSimpArgs false
set_option linter.unusedVariables false

section
variable {w : World} {S : Nat → Prop} {g : Gh} {h : Hp}

theorem ok_int {ds k n v} (q : SvOk w S g h (.vw ds (.int k n)) v) : v = .int k n := by
  cases q with | vw _ _ _ _ _ q => cases q; rfl
theorem ok_bool {ds b v} (q : SvOk w S g h (.vw ds (.bool b)) v) : v = .bool b := by
  cases q with | vw _ _ _ _ _ q => cases q; rfl
theorem ok_str {ds b v} (q : SvOk w S g h (.vw ds (.str b)) v) : v = .string ⟨⟨b⟩⟩ := by
  cases q with | vw _ _ _ _ _ q => cases q; rfl
theorem mk_int (k n) : SvOk w S g h (.vw [] (.int k n)) (.int k n) := .vw _ _ _ (by simp) rfl (.int k n)
theorem mk_bool (b) : SvOk w S g h (.vw [] (.bool b)) (.bool b) := .vw _ _ _ (by simp) rfl (.bool b)
theorem mk_str (b) : SvOk w S g h (.vw [] (.str b)) (.string ⟨⟨b⟩⟩) := .vw _ _ _ (by simp) rfl (.str b)

/-- Plain values: their trees have no memory. -/
inductive Pl : T → Value → Prop where
  | int (k n) : Pl (.int k n) (.int k n)
  | bool (b) : Pl (.bool b) (.bool b)
  | str (s) : Pl (.str s) (.string ⟨⟨s⟩⟩)

theorem Pl.ok {t v} (q : Pl t v) : SvOk w S g h (.vw [] t) v := by
  cases q
  · exact mk_int _ _
  · exact mk_bool _
  · exact mk_str _

theorem bytes_toList (s : List UInt8) : (⟨⟨s⟩⟩ : ByteArray).toList = s := by rw [ByteArray.toList_eq]
end

section
variable {P : Program} {w : World}

theorem run_intBin {op : BinOp} {k : IntKind} {a b : Int} {t : T} (ty : TypeId) (h : intBin op k a b = some t) (h1 : op ≠ .shl) (h2 : op ≠ .shr) :
    ∃ v, (binOp op ty (.int k a) (.int k b)).run P w = .ok v w ∧ Pl t v := by
  cases op <;> simp only [intBin] at h <;> try (exact absurd rfl h1) <;> try (exact absurd rfl h2)
  case quo =>
    split at h
    · simp at h
    · obtain rfl := by simpa using h
      exact ⟨_, by simp [binOp, Op.intDiv, *], .int _ _⟩
  case rem =>
    split at h
    · simp at h
    · obtain rfl := by simpa using h
      exact ⟨_, by simp [binOp, Op.intDiv, *], .int _ _⟩
  all_goals first
    | (simp at h; done)
    | (simp only [Option.some.injEq] at h; subst h; first
        | exact ⟨_, by simp [binOp, Op.intArith, Op.intBits, Op.intCmp], .int _ _⟩
        | exact ⟨_, by simp [binOp, Op.intArith, Op.intBits, Op.intCmp], .bool _⟩)

theorem run_shBin {op : BinOp} {k k' : IntKind} {a b : Int} {t : T} (ty : TypeId) (h : shBin op k a b = some t) (h1 : op = .shl ∨ op = .shr) :
    ∃ v, (binOp op ty (.int k a) (.int k' b)).run P w = .ok v w ∧ Pl t v := by
  unfold shBin at h
  split at h
  · simp at h
  · rename_i hb
    rcases h1 with rfl | rfl <;> simp at h <;> subst h <;> exact ⟨_, by simp [binOp, Op.shift, hb], .int _ _⟩

theorem run_strBin {op : BinOp} {a b : List UInt8} {t : T} (ty : TypeId) (h : strBin op a b = some t) :
    ∃ v, (binOp op ty (.string ⟨⟨a⟩⟩) (.string ⟨⟨b⟩⟩)).run P w = .ok v w ∧ Pl t v := by
  cases op <;> simp only [strBin] at h
  case add =>
    split at h
    · rename_i hl
      obtain rfl := by simpa using h
      refine ⟨.string ⟨⟨a ++ b⟩⟩, ?_, .str _⟩
      have h1 : ¬ ((((⟨⟨a⟩⟩ : ByteArray).size + (⟨⟨b⟩⟩ : ByteArray).size : Nat) : Int) > IntKind.i64.max) := by
        simp [ByteArray.size, IntKind.max, IntKind.bits, IntKind.signed, maxN] at hl ⊢
        omega
      have h2 : ((⟨⟨a⟩⟩ : ByteArray) ++ ⟨⟨b⟩⟩) = ⟨⟨a ++ b⟩⟩ := by
        apply ByteArray.ext
        simp
      simp only [binOp, Op.stringOp]
      rw [if_neg h1, h2]
      rfl
    · simp at h
  all_goals first
    | (simp at h; done)
    | (simp only [Option.some.injEq] at h; subst h; exact ⟨_, by simp [binOp, Op.stringOp, bytes_toList], .bool _⟩)
end
end Go.Proofs.Ytdblfocadcgmaaa.Ev
namespace Go.Proofs.Ytdblfocadcgmaaa.Ev
open Go
set_option linter.unusedSimpArgs false
set_option linter.unusedVariables false

inductive OkX : Operand → X → Prop where
  | t (i) : OkX (.tmp i) (.t i)
  | int (k n) : OkX (.const (.int k n)) (.c (.vw [] (.int k n)))
  | bool (b) : OkX (.const (.bool b)) (.c (.vw [] (.bool b)))
  | str (s) : OkX (.const (.string ⟨⟨s⟩⟩)) (.c (.vw [] (.str s)))
  | nilI (k) : OkX (.const (.slice none 0 0)) (.c (.nilS (.ints k [])))
  | nilR (z) : OkX (.const (.slice none 0 0)) (.c (.nilS (.rows z [])))
  | nilP : OkX (.const (.pointer none)) (.c (.nilS .dead))
  | fn (f) : OkX (.func f) (.c (.fn f []))

section
variable {P : Program} {cx : Cx} {w : World} {S : Nat → Prop} {g : Gh} {h : Hp} {s : Env} {a : Act}

theorem fn_nil (f) : SvOk w S g h (.fn f []) (.func (.func f) #[] #[]) := .fn f [] #[] (fun _ => default) rfl (by simp) (by simp)

theorem ev_ok {o : Operand} {x : X} (hx : OkX o x) (hs : ∀ k, SvOk w S g h (s k) (a.tmps.getD k undef)) : SvOk w S g h (x.ev s) (a.eval o) := by
  cases hx with
  | t i => exact hs i
  | int k n => exact mk_int k n
  | bool b => exact mk_bool b
  | str s => exact mk_str s
  | nilI k => exact .nilI k
  | nilR z => exact .nilR z
  | nilP => exact .nilP
  | fn f => exact fn_nil f

/-- What an operation of this kind leaves. -/
def Dn (w : World) (S : Nat → Prop) (g : Gh) (h : Hp) (nm : Name) (v : SV) (new : Option T) (val : Value) (w' : World) : Prop :=
  match new with
  | none => (w' = w ∧ SvOk w S g h v val) ∨ (Fr (fun _ => False) w w' ∧ ∃ F : Nat → Prop, (∀ b, F b → w.heap.size ≤ b ∧ b < w'.heap.size) ∧ SvOk w' (fun b => S b ∨ F b) g h v val)
  | some t => Fr (fun _ => False) w w' ∧ ∃ rv F, aggT t = false ∧ Ow w' S t rv F ∧ (∀ b, F b → w.heap.size ≤ b ∧ b < w'.heap.size) ∧ SvOk w' S (upd g nm (rv, F)) (upd h nm (some t)) v val

/-- The type rules that an operation of two values leans on. -/
inductive OkB (P : Program) : BinOp → TypeId → Prop where
  | num (op t) : OkB P op t

def IsZ (P : Program) (e : TypeId) (n : Nat) : Prop := ∃ i, P.info? e = some i ∧ i.size = n

/-- A struct's (or an array's) type. -/
def Agg? (P : Program) (t : TypeId) : Prop := (∃ fs, P.underlying t = some (.struct fs)) ∨ (∃ n e, P.underlying t = some (.array n e))
def Cell? (P : Program) (t : TypeId) : Prop := ∃ d, P.underlying t = some d ∧ (∀ fs, d ≠ .struct fs) ∧ (∀ n e, d ≠ .array n e)

theorem run_underlying' {t : TypeId} {d : TypeDesc} (h : P.underlying t = some d) (w : World) : (underlying t).run P w = .ok d w := by
  simp [underlying, h]
theorem run_sizeOf' {t : TypeId} {n : Nat} (h : IsZ P t n) (w : World) : (sizeOf t).run P w = .ok n w := by
  obtain ⟨i, hi, rfl⟩ := h
  simp [sizeOf, typeInfo, hi]
theorem run_isAgg_t {t : TypeId} (h : Agg? P t) (w : World) : (Go.isAgg t : Sem Bool).run P w = .ok true w := by
  rcases h with ⟨fs, h⟩ | ⟨n, e, h⟩ <;> simp [Go.isAgg, run_underlying' h]
theorem run_isAgg_f {t : TypeId} (h : Cell? P t) (w : World) : (Go.isAgg t : Sem Bool).run P w = .ok false w := by
  obtain ⟨d, h, h1, h2⟩ := h
  simp only [Go.isAgg, Sem.run_bind, run_underlying' h, Result.andThen_ok]
  cases d <;> simp_all

theorem Fr.new (w : World) (o : Obj) : Fr (fun _ => False) w (w.alloc o) := ⟨rfl, rfl, rfl, by simp, fun b hb _ => heap_alloc_old w o b hb⟩
theorem Fr.drew (w : World) : Fr (fun _ => False) w w.drew := ⟨rfl, rfl, rfl, Nat.le_refl _, fun b hb _ => rfl⟩

/-- A value alone. -/
def Val1 (P : Program) (w : World) (S : Nat → Prop) (g : Gh) (h : Hp) (o : Oper) (a : Act) (v : SV) : Prop :=
  ∃ val, (execOp a.eval o).run P w = .ok (.value val) w ∧ SvOk w S g h v val

/-! #### moves, choices, numbers -/
theorem den_mv {o : Oper} {x' : Operand} {x : X} (ho : o.op = .move x' ∨ o.op = .assign x') (hx : OkX x' x) (hs : ∀ k, SvOk w S g h (s k) (a.tmps.getD k undef)) :
    Val1 P w S g h o a (x.ev s) := by
  refine ⟨a.eval x', ?_, ev_ok hx hs⟩
  rcases ho with ho | ho <;> simp [execOp, ho]

theorem den_mvnil {o : Oper} {x' : Operand} {x : X} {t : T} {z nm : Nat} (ho : o.op = .move x' ∨ o.op = .assign x') (hx : OkX x' x) (hs : ∀ k, SvOk w S g h (s k) (a.tmps.getD k undef))
    (he : x.ev s = .nilS t) (hz : t.esz = some z) (hn : h nm = none) :
    ∃ val w', (execOp a.eval o).run P w = .ok (.value val) w' ∧ Dn w S g h nm (.ref nm [] z 0 0) (some t) val w' := by
  have hv := ev_ok hx hs
  rw [he] at hv
  obtain ⟨val, hval⟩ : ∃ val, a.eval x' = val := ⟨_, rfl⟩
  rw [hval] at hv
  have hrow : val = .slice none 0 0 ∧ aggT t = false ∧ Ow w S t (.slice none 0 0) (fun _ => False) ∧ t.body = t ∧ ∀ z, t.esz = some z → t.shp = some (z, 0) := by
    cases hv with
    | nilI k => exact ⟨rfl, rfl, .ints0 k _, rfl, by simp [T.esz, T.shp]⟩
    | nilR k => exact ⟨rfl, rfl, .rows0 k _, rfl, by simp [T.esz, T.shp]⟩
    | nilP => simp [T.esz] at hz
  obtain ⟨rfl, hrow⟩ := hrow
  refine ⟨.slice none 0 0, w, ?_, Fr.refl _ _, .slice none 0 0, fun _ => False, hrow.1, hrow.2.1, fun b hb => hb.elim, ?_⟩
  · rw [← hval]; rcases ho with ho | ho <;> simp [execOp, ho]
  · have := SvOk.ref (w := w) (S := S) (g := upd g nm (.slice none 0 0, fun _ => False)) (h := upd h nm (some t)) nm [] z 0 0 t none 0 0 0 (by simp) (by simpa [T.rget, hrow.2.2.1, T.get] using hrow.2.2.2 z hz) (by simp [hdr]) (by simp) (by simp) (by omega) (by omega) (by simp) (by simp)
    simpa using this

theorem den_pick {o : Oper} {c' x' y' : Operand} {c x y : X} {t : Bool} {ds} (ho : o.op = .pick c' x' y') (hc : OkX c' c) (hx : OkX x' x) (hy : OkX y' y) (hs : ∀ k, SvOk w S g h (s k) (a.tmps.getD k undef))
    (he : c.ev s = .vw ds (.bool t)) : Val1 P w S g h o a (if t then x.ev s else y.ev s) := by
  have hv := ev_ok hc hs
  rw [he] at hv
  have hval := ok_bool hv
  refine ⟨if t then a.eval x' else a.eval y', ?_, ?_⟩
  · simp [execOp, ho, hval, asBool]
  · cases t
    · exact ev_ok hy hs
    · exact ev_ok hx hs

theorem eqGuard_plain {op : BinOp} {t : TypeId} {x y : Operand} {u v : Value} (hu : u.oneCell' = true) (hn : u ≠ .nilIface) (w : World) : (eqGuard op t x y u v).run P w = .ok () w := by
  cases op <;> cases u <;> first
    | rfl
    | (exfalso; simp [Value.oneCell'] at hu; done)
    | (exfalso; exact hn rfl)

theorem den_bin {o : Oper} {bb : Bool} {op : BinOp} {ty ty' : TypeId} {x' y' : Operand} {x y : X} {t : T} (ho : o.op = .binOp op ty x' y' ty') (hx : OkX x' x) (hy : OkX y' y)
    (hs : ∀ k, SvOk w S g h (s k) (a.tmps.getD k undef)) (hB : bb = true → P.underlying ty = some .bool) (hd : binSV bb op (x.ev s) (y.ev s) = some t) : Val1 P w S g h o a (.vw [] t) := by
  have hvx := ev_ok hx hs
  have hvy := ev_ok hy hs
  unfold binSV at hd
  split at hd
  · rename_i k u k' u' e1 e2
    rw [e1] at hvx; rw [e2] at hvy
    have h1 := ok_int hvx
    have h2 := ok_int hvy
    have hsh : ∀ op', op = op' → (op' = .shl ∨ op' = .shr) → shBin op' k u u' = some t → Val1 P w S g h o a (.vw [] t) := by
      rintro op' rfl h0 hd
      obtain ⟨v, hr, hp⟩ := run_shBin (P := P) (w := w) (k' := k') ty hd h0
      exact ⟨v, by simp [execOp, ho, h1, h2, eqGuard_plain (P := P) (u := .int k u) rfl (by simp) w, hr], hp.ok⟩
    split at hd
    · exact hsh _ rfl (.inl rfl) hd
    · exact hsh _ rfl (.inr rfl) hd
    · rename_i hn1 hn2
      split at hd
      · rename_i hk
        subst hk
        obtain ⟨v, hr, hp⟩ := run_intBin (P := P) (w := w) ty hd (fun e => hn1 e) (fun e => hn2 e)
        exact ⟨v, by simp [execOp, ho, h1, h2, eqGuard_plain (P := P) (u := .int k u) rfl (by simp) w, hr], hp.ok⟩
      · simp at hd
  · rename_i u u' e1 e2
    rw [e1] at hvx; rw [e2] at hvy
    have h1 := ok_str hvx
    have h2 := ok_str hvy
    obtain ⟨v, hr, hp⟩ := run_strBin (P := P) (w := w) ty hd
    exact ⟨v, by simp [execOp, ho, h1, h2, eqGuard_plain (P := P) (u := .string ⟨⟨u⟩⟩) rfl (by simp) w, hr], hp.ok⟩
  · rename_i u u' e1 e2
    rw [e1] at hvx; rw [e2] at hvy
    have h1 := ok_bool hvx
    have h2 := ok_bool hvy
    have hty := hB rfl
    split at hd
    · obtain rfl := by simpa using hd
      exact ⟨.bool (u == u'), by simp [execOp, ho, h1, h2, eqGuard_plain (P := P) (u := .bool u) rfl (by simp) w, run_eql_bool w ty u u' hty], mk_bool _⟩
    · obtain rfl := by simpa using hd
      exact ⟨.bool (!(u == u')), by simp [execOp, ho, h1, h2, eqGuard_plain (P := P) (u := .bool u) rfl (by simp) w, run_neq_bool w ty u u' hty], mk_bool _⟩
    · simp at hd
  · simp at hd

theorem den_un {o : Oper} {op : UnOp} {ty : TypeId} {x' : Operand} {x : X} {t : T} (ho : o.op = .unOp op ty x') (hx : OkX x' x) (hs : ∀ k, SvOk w S g h (s k) (a.tmps.getD k undef))
    (hd : unSV op (x.ev s) = some t) : Val1 P w S g h o a (.vw [] t) := by
  have hvx := ev_ok hx hs
  unfold unSV at hd
  split at hd
  · rename_i k n e1
    rw [e1] at hvx
    have h1 := ok_int hvx
    obtain rfl : T.int k (k.wrap (0 - n)) = t := by simpa only [Option.some.injEq] using hd
    refine ⟨.int k (k.wrap (0 - n)), ?_, mk_int _ _⟩
    simp only [execOp, ho, h1, Op.unary, Op.intArith]
    rfl
  · rename_i b e1
    rw [e1] at hvx
    have h1 := ok_bool hvx
    obtain rfl := by simpa using hd
    exact ⟨.bool (!b), by simp [execOp, ho, h1, Op.unary], mk_bool _⟩
  · simp at hd

theorem int_of {x : SV} {n : Int} {v : Value} (e : x.int? = some n) (q : SvOk w S g h x v) : ∃ k, v = .int k n := by
  unfold SV.int? at e
  split at e
  · obtain rfl := by simpa using e
    exact ⟨_, ok_int q⟩
  · simp at e

theorem den_cvi {o : Oper} {src dst : TypeId} {k : IntKind} {x' : Operand} {x : X} {n : Int} {d : TypeDesc} (ho : o.op = .convert src dst x') (hx : OkX x' x) (hs : ∀ k, SvOk w S g h (s k) (a.tmps.getD k undef))
    (hsrc : P.underlying src = some d) (hdst : P.underlying dst = some (.int k)) (hd : (x.ev s).int? = some n) : Val1 P w S g h o a (.vw [] (.int k (k.wrap n))) := by
  obtain ⟨k', hv⟩ := int_of hd (ev_ok hx hs)
  exact ⟨.int k (k.wrap n), by simp [execOp, ho, hv, convert, run_underlying' hsrc, run_underlying' hdst, Conv.intToInt], mk_int _ _⟩

end
end Go.Proofs.Ytdblfocadcgmaaa.Ev
namespace Go.Proofs.Ytdblfocadcgmaaa.Ev
open Go
set_option linter.unusedSimpArgs false
set_option linter.unusedVariables false

section
variable {P : Program} {cx : Cx} {w : World} {S : Nat → Prop} {g : Gh} {h : Hp} {s : Env} {a : Act}

theorem get_snoc : ∀ (p : Path) (t u c : T) (s : Step), t.get p = some u → u.child s = some c → t.get (p ++ [s]) = some c := by
  intro p
  induction p with
  | nil => intro t u c s hu hc; obtain rfl : t = u := by simpa [T.get] using hu
           simp [T.get, hc]
  | cons s' p ih =>
    intro t u c s hu hc
    simp only [T.get, Option.bind_eq_some_iff] at hu
    obtain ⟨d, hd, hu⟩ := hu
    simp only [List.cons_append, T.get, hd, Option.bind_some]
    exact ih d u c s hu hc

theorem loc_snoc (w : World) : ∀ (p : Path) (t u : T) (A X : Addr) (s : Step), loc w t A p = some X → t.get p = some u → loc w t A (p ++ [s]) = loc w u X [s] := by
  intro p
  induction p with
  | nil =>
    intro t u A X s hX hu
    obtain rfl : t = u := by simpa [T.get] using hu
    obtain rfl : A = X := by simpa [loc] using hX
    rfl
  | cons s' p ih =>
    intro t u A X s hX hu
    simp only [T.get, Option.bind_eq_some_iff] at hu
    obtain ⟨d, hd, hu⟩ := hu
    simp only [loc, hd, Option.bind_some] at hX
    rw [List.cons_append, loc, hd, Option.bind_some]
    cases t <;> cases s' <;> simp only [reduceCtorEq] at hX ⊢
    · split at hX
      · exact ih _ _ _ _ _ hX hu
      · simp at hX
    · split at hX
      · exact ih _ _ _ _ _ hX hu
      · simp at hX
    · exact ih _ _ _ _ _ hX hu

theorem rloc_snoc (w : World) {r u : T} {rv : Value} {p : Path} {X : Addr} {s : Step} (hX : rloc w r rv p = some X) (hu : r.rget p = some u) : rloc w r rv (p ++ [s]) = loc w u X [s] := by
  unfold rloc at hX
  split at hX
  · rename_i t a
    exact loc_snoc w p t u a X s hX hu
  · rename_i k xs a _ _ i p
    simp only [Option.bind_eq_some_iff] at hX
    obtain ⟨n, hn, hX⟩ := hX
    simp only [T.rget, T.body, T.get, T.child, hn, Option.map_some, Option.bind_some] at hu
    simp only [List.cons_append, rloc, hn, Option.bind_some]
    exact loc_snoc w p _ u _ X s hX hu
  · rename_i sz xs a _ _ i p
    simp only [Option.bind_eq_some_iff] at hX
    obtain ⟨c, hc, hX⟩ := hX
    simp only [T.rget, T.body, T.get, T.child, hc, Option.bind_some] at hu
    simp only [List.cons_append, rloc, hc, Option.bind_some]
    exact loc_snoc w p _ u _ X s hX hu
  · simp at hX

theorem rget_snoc {r u c : T} {p : Path} {s : Step} (hu : r.rget p = some u) (hc : u.child s = some c) : r.rget (p ++ [s]) = some c := get_snoc p r.body u c s hu hc

/-- The place of an element of a row. -/
theorem rloc_e {r u : T} {rv : Value} {F : Nat → Prop} {p : Path} {sz L C j : Nat} {b : Addr} (ho : Ow w S r rv F) (hu : r.rget p = some u) (hz : u.shp = some (sz, L)) (hh : hdr w r rv p = some (.slice (some b) L C)) (hj : j < L) :
    ∃ c, u.child (.e j) = some c ∧ rloc w r rv (p ++ [.e j]) = some (b.add (j * sz)) := by
  have hc : ∃ c, u.child (.e j) = some c := by
    cases u <;> simp only [T.shp, Option.some.injEq, Prod.mk.injEq, reduceCtorEq] at hz
    · obtain ⟨rfl, rfl⟩ := hz
      exact ⟨_, by simp [T.child, hj]; rfl⟩
    · obtain ⟨rfl, rfl⟩ := hz
      exact ⟨_, by simp [T.child, hj]; rfl⟩
  obtain ⟨c, hc⟩ := hc
  refine ⟨c, hc, ?_⟩
  cases p with
  | nil =>
    obtain rfl : rv = .slice (some b) L C := by simpa [hdr] using hh
    obtain rfl : r.body = u := by simpa [T.rget, T.get] using hu
    cases ho with
    | ints k xs a C F h1 h2 h3 h4 =>
      simp only [T.body, T.shp, Option.some.injEq, Prod.mk.injEq] at hz
      obtain ⟨rfl, _⟩ := hz
      simp only [T.body, T.child, Option.map_eq_some_iff] at hc
      obtain ⟨n, hn, _⟩ := hc
      simp [rloc, hn, loc]
    | rows z xs a C vs G F h1 h2 h3 h4 h5 h6 h7 h8 =>
      simp only [T.body, T.shp, Option.some.injEq, Prod.mk.injEq] at hz
      obtain ⟨rfl, _⟩ := hz
      simp only [T.body, T.child] at hc
      simp [rloc, hc, loc]
    | sh t v F hr hv => simp [T.body, T.shp] at hz
    | dead => simp [T.body, T.shp] at hz
  | cons s p =>
    simp only [hdr, Option.bind_eq_some_iff] at hh
    obtain ⟨Y, hY, hcell⟩ := hh
    rw [rloc_snoc w hY hu]
    cases u <;> simp only [T.shp, Option.some.injEq, Prod.mk.injEq, reduceCtorEq] at hz
    · obtain ⟨rfl, _⟩ := hz
      simp [loc, hc, hcell]
    · obtain ⟨rfl, _⟩ := hz
      simp [loc, hc, hcell]

theorem upon_nil {b : Nat} (hb : upon S g [] b) : S b := by
  rcases hb with hb | ⟨n, hn, _⟩
  · exact hb
  · simp at hn

/-- A cell of an own block. -/
theorem cell_ok {m : Name} {r u : T} {q : Path} {v : SV} {X : Addr} (hp : HpOk cx w S g h) (hm : h m = some r) (hu : r.rget q = some u) (hv : cellSV m q u = some v) (hX : rloc w r (g m).1 q = some X) :
    ∃ val, w.cell? X = some val ∧ SvOk w S g h v val ∧ val.oneCell' = true := by
  have hna : aggT u = false := by cases u <;> simp_all [cellSV, aggT]
  have hq : q ≠ [] := by
    rintro rfl
    have := hp.own m r hm
    obtain ⟨rv, hrv⟩ : ∃ rv, (g m).1 = rv := ⟨_, rfl⟩
    rw [hrv] at this hX
    cases hr : r with
    | ptr t =>
      rw [hr] at this hu
      cases this
      simp [T.rget, T.body, T.get] at hu
      subst hu
      simp [aggT] at hna
    | _ => rw [hr] at hX; simp [rloc] at hX
  obtain ⟨X', val, Fu, f⟩ := rfo (hp.own m r hm) hu hna hq (hp.row m r hm)
  obtain rfl : X' = X := by have := f.loc; rw [hX] at this; simpa using this.symm
  have hone := f.own.one hna
  refine ⟨val, f.cell, ?_, hone.1⟩
  have hhd : hdr w r (g m).1 q = some val := by
    cases q with
    | nil => exact absurd rfl hq
    | cons s q => simp [hdr, hX, f.cell]
  cases f.own with
  | int k n => simp [cellSV] at hv; subst hv; exact mk_int _ _
  | bool b => simp [cellSV] at hv; subst hv; exact mk_bool _
  | str b => simp [cellSV] at hv; subst hv; exact mk_str _
  | ints0 k =>
    simp [cellSV] at hv; subst hv
    simpa using SvOk.ref (w := w) (S := S) (g := g) (h := h) m q 1 0 0 r none 0 0 0 hm (by simp [hu, T.shp]) hhd (by simp) (by simp) (by omega) (by omega) (by simp) (by simp)
  | rows0 k =>
    simp [cellSV] at hv; subst hv
    simpa using SvOk.ref (w := w) (S := S) (g := g) (h := h) m q k 0 0 r none 0 0 0 hm (by simp [hu, T.shp]) hhd (by simp) (by simp) (by omega) (by omega) (by simp) (by simp)
  | ints k xs b C _ h1 h2 h3 h4 =>
    simp [cellSV] at hv; subst hv
    simpa [Addr.add] using SvOk.ref (w := w) (S := S) (g := g) (h := h) m q 1 0 xs.length r (some b) xs.length C 0 hm (by simp [hu, T.shp]) hhd (by intro b' e; cases e; exact h2.1) (by simp) (by omega) h3 (by omega) (by simp)
  | rows z xs b C vs G _ h1 h2 h3 h4 h5 h6 h7 h8 =>
    simp [cellSV] at hv; subst hv
    simpa [Addr.add] using SvOk.ref (w := w) (S := S) (g := g) (h := h) m q z 0 xs.length r (some b) xs.length C 0 hm (by simp [hu, T.shp]) hhd (by intro b' e; cases e; exact h2.1) (by simp) (by omega) h3 (by omega) (by simp)
  | agg => simp [cellSV] at hv
  | ptr => simp [cellSV] at hv
  | dead => simp [cellSV] at hv
  | sh t _ _ hr hvw =>
    simp [cellSV, hr] at hv; subst hv
    exact .vw _ _ _ (by simp) (by cases t <;> simp_all [T.isRow, aggT]) (hvw.mono fun b hb => .inl hb)

/-- A tree that is read. -/
theorem of_ok {ds : List Name} {t : T} {v : SV} {val : Value} (hd : ∀ n, n ∈ ds → (h n).isSome = true) (hv : Vw w (upon S g ds) t val) (he : SV.of ds t = some v) :
    SvOk w S g h v val ∧ val.oneCell' = true := by
  cases hv with
  | int k n => simp [SV.of] at he; subst he; exact ⟨mk_int _ _, rfl⟩
  | bool b => simp [SV.of] at he; subst he; exact ⟨mk_bool _, rfl⟩
  | str b => simp [SV.of] at he; subst he; exact ⟨mk_str _, rfl⟩
  | ints0 k => simp [SV.of] at he; subst he; exact ⟨.vw _ _ _ hd rfl (.ints0 k), rfl⟩
  | rows0 k => simp [SV.of] at he; subst he; exact ⟨.vw _ _ _ hd rfl (.rows0 k), rfl⟩
  | ints k xs a C h1 h2 h3 h4 => simp [SV.of] at he; subst he; exact ⟨.vw _ _ _ hd rfl (.ints k xs a C h1 h2 h3 h4), rfl⟩
  | rows z xs a C vs h1 h2 h3 h4 h5 h6 => simp [SV.of] at he; subst he; exact ⟨.vw _ _ _ hd rfl (.rows z xs a C vs h1 h2 h3 h4 h5 h6), rfl⟩
  | agg => simp [SV.of] at he
  | dead => simp [SV.of] at he
  | ptr => simp [SV.of] at he
  | sh t v hr hv =>
    simp [SV.of, hr] at he; subst he
    refine ⟨.vw _ _ _ hd (by cases t <;> simp_all [T.isRow, aggT]) hv, ?_⟩
    cases hv <;> simp_all [T.isRow, Value.oneCell']
end
end Go.Proofs.Ytdblfocadcgmaaa.Ev
namespace Go.Proofs.Ytdblfocadcgmaaa.Ev
open Go
set_option linter.unusedSimpArgs false
set_option linter.unusedVariables false

section
variable {P : Program} {cx : Cx} {w : World} {S : Nat → Prop} {g : Gh} {h : Hp} {s : Env} {a : Act}

theorem ok_ints {ds k xs v} (q : SvOk w S g h (.vw ds (.ints k xs)) v) : ∃ b C, v = .slice b xs.length C ∧ xs.length ≤ C := by
  cases q with | vw _ _ _ _ _ q => cases q with
    | ints0 => exact ⟨none, 0, rfl, by simp⟩
    | ints k xs a C h1 h2 h3 h4 => exact ⟨some a, C, rfl, h3⟩
theorem ok_rows {ds k xs v} (q : SvOk w S g h (.vw ds (.rows k xs)) v) : ∃ b C, v = .slice b xs.length C ∧ xs.length ≤ C := by
  cases q with | vw _ _ _ _ _ q => cases q with
    | rows0 => exact ⟨none, 0, rfl, by simp⟩
    | rows k xs a C vs h1 h2 h3 h4 => exact ⟨some a, C, rfl, h3⟩
theorem ok_nil {t v} (q : SvOk w S g h (.nilS t) v) (ht : t.isRow = true) : v = .slice none 0 0 := by cases q <;> first | rfl | simp [T.isRow] at ht
theorem ok_ref {n p z off l v} (q : SvOk w S g h (.ref n p z off l) v) : ∃ b C, v = .slice b l C ∧ l ≤ C := by
  cases q with | ref _ _ _ _ _ r base L C ad h1 h2 h3 hsp hb0 h4 h5 h6 h7 => exact ⟨_, C - off, rfl, by omega⟩

theorem size_mk (s : List UInt8) : (⟨⟨s⟩⟩ : ByteArray).size = s.length := rfl

theorem den_len {o : Oper} {st : Bool} {x' : Operand} {x : X} {t : TypeId} {n : Nat} (ho : o.op = .call { callee := .builtin .len, args := #[x'], argTypes := #[t] }) (hx : OkX x' x)
    (hs : ∀ k, SvOk w S g h (s k) (a.tmps.getD k undef)) (ht : if st then P.underlying t = some .string else ∃ e, P.underlying t = some (.slice e)) (hd : lenSV st (x.ev s) = some n) : Val1 P w S g h o a (.vw [] (.int .i64 n)) := by
  have hv := ev_ok hx hs
  have go : ∀ b C, st = false → a.eval x' = .slice b n C → Val1 P w S g h o a (.vw [] (.int .i64 n)) := by
    rintro b C rfl e
    obtain ⟨el, ht⟩ := (by simpa using ht : ∃ e, P.underlying t = some (.slice e))
    exact ⟨.int .i64 n, by simp [execOp, ho, resolve, invoke, builtin, Builtin.len_, run_underlying' ht, e, goInt], mk_int _ _⟩
  unfold lenSV at hd
  split at hd
  · rename_i e; rw [e] at hv
    obtain rfl := by simpa using hd
    have e' := ok_str hv
    have ht : P.underlying t = some .string := by simpa using ht
    exact ⟨.int .i64 _, by simp [execOp, ho, resolve, invoke, builtin, Builtin.len_, run_underlying' ht, e', goInt, size_mk], mk_int _ _⟩
  · rename_i e; rw [e] at hv
    obtain rfl := by simpa using hd
    obtain ⟨b, C, e', _⟩ := ok_ints hv
    exact go b C rfl e'
  · rename_i e; rw [e] at hv
    obtain rfl := by simpa using hd
    obtain ⟨b, C, e', _⟩ := ok_rows hv
    exact go b C rfl e'
  · rename_i e; rw [e] at hv
    obtain ⟨hrow, rfl⟩ := by simpa using hd
    exact go none 0 rfl (ok_nil hv hrow)
  · rename_i e; rw [e] at hv
    obtain rfl := by simpa using hd
    obtain ⟨b, C, e', _⟩ := ok_ref hv
    exact go b C rfl e'
  · simp at hd

theorem run_indexAt {t e : TypeId} {z : Nat} {k : IntKind} {n : Int} {b : Addr} {l C : Nat} (ht : P.underlying t = some (.slice e)) (hz : IsZ P e z) (h0 : 0 ≤ n) (h1 : n < l) :
    (Instr.indexAt t (.slice (some b) l C) (.int k n)).run P w = .ok (.pointer (some (b.add (n.toNat * z)))) w := by
  have hlt : n < (l : Int) := h1
  simp [Instr.indexAt, asIntOf, run_underlying' ht, h0, hlt, run_sizeOf' hz]

theorem den_idx {o : Oper} {x' i' : Operand} {x i : X} {t e : TypeId} {z : Nat} {ag : Bool} {n : Int} {v : SV} (ho : o.op = .indexAddr t x' i') (hx : OkX x' x) (hi : OkX i' i)
    (hp : HpOk cx w S g h) (hs : ∀ k, SvOk w S g h (s k) (a.tmps.getD k undef)) (ht : P.underlying t = some (.slice e)) (hz : IsZ P e z) (hn : (i.ev s).int? = some n) (hd : idxSV z ag (x.ev s) n = some v) :
    Val1 P w S g h o a v := by
  obtain ⟨k, ei⟩ := int_of hn (ev_ok hi hs)
  have hv := ev_ok hx hs
  have fin : ∀ b l C, a.eval x' = .slice (some b) l C → 0 ≤ n → n < l → SvOk w S g h v (.pointer (some (b.add (n.toNat * z)))) → Val1 P w S g h o a v := by
    intro b l C ex h0 h1 hv
    exact ⟨_, by simp [execOp, ho, ei, ex, run_indexAt (P := P) (w := w) (C := C) ht hz h0 h1], hv⟩
  unfold idxSV at hd
  split at hd
  · rename_i ds k' xs e1
    rw [e1] at hv
    split at hd
    · rename_i hc
      obtain ⟨h0, hz1⟩ := hc
      subst hz1
      simp only [Option.map_eq_some_iff] at hd
      obtain ⟨m, hm, rfl⟩ := hd
      have hlt := get_lt hm
      cases hv with | vw _ _ _ hd' _ q =>
      generalize hval : a.eval x' = val at q
      cases q with
      | ints0 => simp at hlt
      | ints _ _ b C h1 h2 h3 h4 =>
        refine fin b _ C hval h0 (by omega) ?_
        rw [Nat.mul_one]
        have hcell := h4 _ _ hm
        exact .pv ds _ (.int k' m) _ hd' (add_spot h2 _) (by rw [add_block]; exact h1) (.int k' m) (by
          intro j d hd
          have : j = 0 := by
            rcases j with _ | j
            · rfl
            · simp [Value.cells] at hd
          subst this
          simp [Value.cells] at hd
          subst hd
          simpa [Addr.add] using hcell)
    · simp at hd
  · rename_i ds z' xs e1
    rw [e1] at hv
    split at hd
    · rename_i hc
      obtain ⟨h0, rfl⟩ := hc
      simp only [Option.map_eq_some_iff] at hd
      obtain ⟨m, hm, rfl⟩ := hd
      have hlt := get_lt hm
      cases hv with | vw _ _ _ hd' _ q =>
      generalize hval : a.eval x' = val at q
      cases q with
      | rows0 => simp at hlt
      | rows _ _ b C vs h1 h2 h3 h4 h5 h6 =>
        refine fin b _ C hval h0 (by omega) ?_
        exact .pv ds _ _ _ hd' (add_spot h2 _) (by rw [add_block]; exact h1) (h6 _ _ hm) (h5 _ _ hm)
    · simp at hd
  · rename_i m p z' off l e1
    rw [e1] at hv
    split at hd
    · rename_i hc
      obtain ⟨h0, hl, rfl⟩ := hc
      obtain rfl := by simpa using hd
      generalize hval : a.eval x' = val at hv
      cases hv with | ref _ _ _ _ _ r base L C ad hr hz' hh hsp hb0 hol hLC had hb =>
      have hbn : C - off ≠ 0 := by omega
      obtain rfl := hb hbn
      simp only [Option.bind_eq_some_iff] at hz'
      obtain ⟨u, hu, hz'⟩ := hz'
      have ho' := hp.own m r hr
      cases base with
      | none =>
        have := hb0 rfl
        omega
      | some b0 =>
        obtain ⟨c, hc, hX⟩ := rloc_e ho' hu hz' hh (j := off + n.toNat) (by omega)
        refine fin (b0.add (off * z)) l (C - off) (by simpa using hval) h0 hl ?_
        have hj : addNat off n.toNat = off + n.toNat := by unfold addNat; split <;> omega
        have he : (b0.add (off * z)).add (n.toNat * z) = b0.add ((off + n.toNat) * z) := by
          rw [add_add (hsp b0 rfl), Nat.add_mul]
        rw [he]
        cases ag
        · simp only [Bool.false_eq_true, if_false]
          rw [hj]
          exact .ptrC m _ r _ hr hX
        · simp only [if_true]
          rw [hj]
          have := SvOk.ptrA (w := w) (S := S) (g := g) (h := h) m (p ++ [.e (off + n.toNat)]) 0 r _ hr hX
          simpa [Addr.add] using this
    · simp at hd
  · simp at hd
end
end Go.Proofs.Ytdblfocadcgmaaa.Ev
namespace Go.Proofs.Ytdblfocadcgmaaa.Ev
open Go
set_option linter.unusedSimpArgs false
set_option linter.unusedVariables false

section
variable {P : Program} {cx : Cx} {w : World} {S : Nat → Prop} {g : Gh} {h : Hp} {s : Env} {a : Act}

theorem den_sidx {o : Oper} {x' i' : Operand} {x i : X} {t : TypeId} {ds} {b : List UInt8} {n : Int} {c : UInt8} (ho : o.op = .index t x' i') (hx : OkX x' x) (hi : OkX i' i)
    (hs : ∀ k, SvOk w S g h (s k) (a.tmps.getD k undef)) (ht : P.underlying t = some .string) (hn : (i.ev s).int? = some n) (he : x.ev s = .vw ds (.str b)) (h0 : 0 ≤ n) (hc : b[n.toNat]? = some c) :
    Val1 P w S g h o a (.vw [] (.int .u8 c.toNat)) := by
  obtain ⟨k, ei⟩ := int_of hn (ev_ok hi hs)
  have hv := ev_ok hx hs
  rw [he] at hv
  have ex := ok_str hv
  have hget : (⟨⟨b⟩⟩ : ByteArray)[n.toNat]? = some c := by
    have hlt := get_lt hc
    have : n.toNat < (⟨⟨b⟩⟩ : ByteArray).size := hlt
    rw [getElem?_pos (⟨⟨b⟩⟩ : ByteArray) n.toNat this]
    rw [List.getElem?_eq_getElem hlt] at hc
    rw [← hc]
    rfl
  refine ⟨.int .u8 c.toNat, ?_, mk_int _ _⟩
  simp [execOp, ho, ei, ex, Instr.index, asIntOf, run_underlying' ht, h0, hget]

theorem den_ext {o : Oper} {x' : Operand} {x : X} {i : Nat} {xs : List SV} {v : SV} (ho : o.op = .extract x' i) (hx : OkX x' x) (hs : ∀ k, SvOk w S g h (s k) (a.tmps.getD k undef))
    (he : x.ev s = .tup xs) (hv : xs[i]? = some v) : Val1 P w S g h o a v := by
  have hx' := ev_ok hx hs
  rw [he] at hx'
  generalize hval : a.eval x' = val at hx'
  cases hx' with | tup _ cs vs h1 h2 h3 =>
  exact ⟨vs i, by simp [execOp, ho, hval, Instr.extract, h2 i v hv], h3 i v hv⟩

theorem den_nilc {o : Oper} {x' : Operand} {x : X} (ho : o.op = .nilCheck x') (hx : OkX x' x) (hs : ∀ k, SvOk w S g h (s k) (a.tmps.getD k undef))
    (he : (∃ m p q, x.ev s = .ptr m p q) ∨ (∃ ds t, x.ev s = .pv ds t) ∨ (∃ f xs, x.ev s = .fn f xs)) : Val1 P w S g h o a (x.ev s) := by
  have hv := ev_ok hx hs
  refine ⟨a.eval x', ?_, hv⟩
  generalize hval : a.eval x' = val at hv
  rcases he with ⟨m, p, q, e⟩ | ⟨ds, t, e⟩ | ⟨f, xs, e⟩ <;> rw [e] at hv <;> cases hv <;> simp [execOp, ho, hval]

inductive All2 {α β : Type} (R : α → β → Prop) : List α → List β → Prop where
  | nil : All2 R [] []
  | cons {x y xs ys} : R x y → All2 R xs ys → All2 R (x :: xs) (y :: ys)

theorem evs_ok : ∀ {os : List Operand} {xs : List X}, All2 OkX os xs → (∀ k, SvOk w S g h (s k) (a.tmps.getD k undef)) → All2 (SvOk w S g h) (xs.map (X.ev s)) (os.map a.eval) := by
  intro os xs hf hs
  induction hf with
  | nil => exact .nil
  | cons h1 _ ih => exact .cons (ev_ok h1 hs) ih

theorem forall2_get {α β : Type} {R : α → β → Prop} : ∀ {xs : List α} {ys : List β}, All2 R xs ys → xs.length = ys.length ∧ ∀ (j : Nat) x, xs[j]? = some x → ∃ y, ys[j]? = some y ∧ R x y := by
  intro xs ys hf
  induction hf with
  | nil => simp
  | cons h1 _ ih =>
    refine ⟨by simp [ih.1], ?_⟩
    intro j x hj
    cases j with
    | zero => simp at hj; subst hj; exact ⟨_, rfl, h1⟩
    | succ j => simp at hj; simpa using ih.2 j x hj

theorem den_mkf {o : Oper} {f : FuncId} {os : Array Operand} {xs : List X} (ho : o.op = .makeFunc (.func f) #[] os) (hx : All2 OkX os.toList xs) (hs : ∀ k, SvOk w S g h (s k) (a.tmps.getD k undef)) :
    Val1 P w S g h o a (.fn f (xs.map (X.ev s))) := by
  obtain ⟨h1, h2⟩ := forall2_get (evs_ok (a := a) hx hs)
  refine ⟨.func (.func f) #[] (os.map a.eval), by simp [execOp, ho, Instr.makeFunc], .fn f _ _ (fun j => (os.map a.eval).getD j default) ?_ ?_ ?_⟩
  · simpa using h1.symm
  · intro j x hj
    obtain ⟨y, hy, _⟩ := h2 j x hj
    have : (os.map a.eval)[j]? = some y := by rw [← Array.getElem?_toList]; simpa using hy
    simp [this]
  · intro j x hj
    obtain ⟨y, hy, hr⟩ := h2 j x hj
    have : (os.map a.eval)[j]? = some y := by rw [← Array.getElem?_toList]; simpa using hy
    simpa [this] using hr

theorem agg_get {xs : List SV} {cs : Array Value} {vs : Nat → Value} (h1 : cs.size = xs.length) (h2 : ∀ (j : Nat) x, xs[j]? = some x → cs[j]? = some (vs j)) {j : Nat} (hj : j < xs.length) : cs[j]? = some (vs j) := by
  exact h2 j xs[j] (by simp [hj])

theorem agg_sub {xs : List SV} {cs : Array Value} {o k : Nat} (hv : SvOk w S g h (.agg xs) (.agg cs)) (hle : o + k ≤ xs.length) : SvOk w S g h (.agg ((xs.drop o).take k)) (.agg (cs.extract o (o + k))) := by
  cases hv with | agg _ _ vs h1 h2 h3 h4 =>
  have hg : ∀ (j : Nat) x, ((xs.drop o).take k)[j]? = some x → j < k ∧ xs[o + j]? = some x := by
    intro j x hj
    rw [List.getElem?_take] at hj
    split at hj
    · rename_i hjk
      rw [List.getElem?_drop] at hj
      exact ⟨hjk, hj⟩
    · simp at hj
  refine .agg _ _ (fun j => vs (o + j)) ?_ ?_ ?_ ?_
  · simp; omega
  · intro j x hj
    obtain ⟨hjk, hx⟩ := hg j x hj
    rw [Array.getElem?_extract, if_pos (by omega)]
    exact h2 _ x hx
  · intro j x hj
    exact h3 _ x (hg j x hj).2
  · intro j x hj
    exact h4 _ x (hg j x hj).2

theorem den_fld {o : Oper} {x' : Operand} {x : X} {t : TypeId} {i off : Nat} {n : Option Nat} {fs : Array Field} {f : Field} {xs : List SV} {v : SV} (ho : o.op = .field t x' i) (hx : OkX x' x)
    (hs : ∀ k, SvOk w S g h (s k) (a.tmps.getD k undef)) (ht : P.underlying t = some (.struct fs)) (hf : fs[i]? = some f) (hoff : f.offset = off)
    (hn : match n with | none => Cell? P f.type | some k => Agg? P f.type ∧ IsZ P f.type k) (he : x.ev s = .agg xs)
    (hd : match n with | none => xs[off]? = some v | some k => off + k ≤ xs.length ∧ v = .agg ((xs.drop off).take k)) : Val1 P w S g h o a v := by
  have hv := ev_ok hx hs
  rw [he] at hv
  generalize hval : a.eval x' = val at hv
  subst hoff
  cases n with
  | none =>
    cases hv with | agg _ cs vs h1 h2 h3 h4 =>
    exact ⟨vs f.offset, by simp [execOp, ho, hval, Instr.field, run_underlying' ht, hf, asAgg, part, run_isAgg_f hn, h2 _ _ hd], h4 _ _ hd⟩
  | some k =>
    obtain ⟨hle, rfl⟩ := hd
    have hq := hv
    cases hv with | agg _ cs vs h1 h2 h3 h4 =>
    refine ⟨.agg (cs.extract f.offset (f.offset + k)), ?_, agg_sub hq hle⟩
    simp [execOp, ho, hval, Instr.field, run_underlying' ht, hf, asAgg, part, run_isAgg_t hn.1, run_sizeOf' hn.2]

theorem den_fa {o : Oper} {x' : Operand} {x : X} {t : TypeId} {i off z : Nat} {fs : Array Field} {f : Field} {v : SV} (ho : o.op = .fieldAddr t x' i) (hx : OkX x' x)
    (hs : ∀ k, SvOk w S g h (s k) (a.tmps.getD k undef)) (ht : P.underlying t = some (.struct fs)) (hf : fs[i]? = some f) (hoff : f.offset = off) (hz : IsZ P f.type z) (hz0 : z ≠ 0)
    (hsp : ∀ m r p X, h m = some r → rloc w r (g m).1 p = some X → X.spot = none)
    (hd : (∃ m p o', x.ev s = .ptr m p (some o') ∧ v = .ptr m p (some (o' + off))) ∨ (∃ ds xs, x.ev s = .pv ds (.agg xs) ∧ v = .pv ds (.agg (xs.drop off)))) : Val1 P w S g h o a v := by
  have hv := ev_ok hx hs
  subst hoff
  have run : ∀ A : Addr, a.eval x' = .pointer (some A) → (execOp a.eval o).run P w = .ok (.value (.pointer (some (A.add f.offset)))) w := by
    intro A e
    simp [execOp, ho, e, Instr.fieldAt, run_underlying' ht, hf, Instr.sureAddr, fieldPlace, run_sizeOf' hz, hz0]
  generalize hval : a.eval x' = val at hv
  rcases hd with ⟨m, p, o', e, rfl⟩ | ⟨ds, xs, e, rfl⟩ <;> rw [e] at hv
  · cases hv with | ptrA _ _ _ r X hr hX =>
    refine ⟨_, run _ hval, ?_⟩
    rw [add_add (hsp m r p X hr hX)]
    exact .ptrA m p _ r X hr hX
  · cases hv with | pv _ _ v A hd hA hb hv ha =>
    refine ⟨_, run _ hval, ?_⟩
    cases hv with | agg _ cs vs h1 h2 h3 h4 =>
    refine .pv ds _ (.agg (cs.extract f.offset cs.size)) _ hd (add_spot hA _) (by rw [add_block]; exact hb) (.agg _ _ (fun j => vs (f.offset + j)) ?_ ?_ ?_ ?_) ?_
    · simp; omega
    · intro j t hj
      rw [List.getElem?_drop] at hj
      have := get_lt hj
      rw [Array.getElem?_extract, if_pos (by omega)]
      exact h2 _ t hj
    · intro j t hj
      rw [List.getElem?_drop] at hj
      exact h3 _ t hj
    · intro j t hj
      rw [List.getElem?_drop] at hj
      exact h4 _ t hj
    · intro j c hj
      simp only [Value.cells, Array.getElem?_extract] at hj
      split at hj
      · rw [add_add hA]
        exact ha _ c (by simpa [Value.cells] using hj)
      · simp at hj

end
end Go.Proofs.Ytdblfocadcgmaaa.Ev
namespace Go.Proofs.Ytdblfocadcgmaaa.Ev
open Go
set_option linter.unusedSimpArgs false
set_option linter.unusedVariables false

theorem loc_spot {w : World} {S : Nat → Prop} : ∀ (q : Path) (t : T) (v : Value) (F : Nat → Prop) (A X : Addr), Ow w S t v F → At w A v → A.spot = none → loc w t A q = some X → X.spot = none := by
  intro q
  induction q with
  | nil => intro t v F A X ho ha hA hX; obtain rfl : A = X := by simpa [loc] using hX
           exact hA
  | cons s q ih =>
    intro t v F A X ho ha hA hX
    cases hc : t.child s with
    | none => simp [loc, hc] at hX
    | some c =>
      cases ho with
      | agg ts cs vs G _ h1 h2 h2' h3 h4 h5 =>
        cases s with
        | e i => simp [T.child] at hc
        | f o =>
          have hto : ts[o]? = some c := by simpa [T.child] using hc
          obtain ⟨q1, q2⟩ := (h3 o c hto).one (h2' o c hto)
          simp [loc, T.child, hto] at hX
          exact ih c (vs o) (G o) (A.add o) X (h3 o c hto) (ha.kid (h2 o c hto) q2) (add_spot hA o) hX
      | ints k xs a C _ h1 h2 h3 h4 =>
        cases s with
        | f o => simp [T.child] at hc
        | e i =>
          have e1 : w.cell? A = some (.slice (some a) xs.length C) := ha.head rfl
          simp only [T.child, Option.map_eq_some_iff] at hc
          obtain ⟨n, hn, rfl⟩ := hc
          simp [loc, T.child, hn, e1] at hX
          cases q with
          | nil => simp [loc] at hX; subst hX; exact add_spot h2.1 i
          | cons s q => cases s <;> simp [loc, T.child] at hX
      | rows sz xs a C vs G _ h1 h2 h3 h4 h5 h6 h7 h8 =>
        cases s with
        | f o => simp [T.child] at hc
        | e i =>
          have e1 : w.cell? A = some (.slice (some a) xs.length C) := ha.head rfl
          have hxi : xs[i]? = some c := by simpa [T.child] using hc
          simp [loc, T.child, hxi, e1] at hX
          exact ih c (vs i) (G i) (a.add (i * sz)) X (h6 i c hxi) (h5 i c hxi) (add_spot h2.1 _) hX
      | ints0 => cases s <;> simp [T.child] at hc
      | rows0 => cases s <;> simp [T.child] at hc
      | int => simp [T.child] at hc
      | bool => simp [T.child] at hc
      | str => simp [T.child] at hc
      | sh => simp [T.child] at hc
      | dead => simp [T.child] at hc
      | ptr => simp [T.child] at hc

theorem rloc_spot {w : World} {S : Nat → Prop} {r : T} {rv : Value} {F : Nat → Prop} {q : Path} {X : Addr} (ho : Ow w S r rv F) (hX : rloc w r rv q = some X) : X.spot = none := by
  cases ho with
  | ptr ts cs a G _ h1 h2 h3 h4 h5 => exact loc_spot q (.agg ts) (.agg cs) G a X h4 h3 h2.1 hX
  | ints k xs a C _ h1 h2 h3 h4 =>
    cases q with
    | nil => simp [rloc] at hX
    | cons s q =>
      cases s with
      | f o => simp [rloc] at hX
      | e i =>
        simp only [rloc, Option.bind_eq_some_iff] at hX
        obtain ⟨n, hn, hX⟩ := hX
        cases q with
        | nil => simp [loc] at hX; subst hX; exact add_spot h2.1 i
        | cons s q => cases s <;> simp [loc, T.child] at hX
  | rows sz xs a C vs G _ h1 h2 h3 h4 h5 h6 h7 h8 =>
    cases q with
    | nil => simp [rloc] at hX
    | cons s q =>
      cases s with
      | f o => simp [rloc] at hX
      | e i =>
        simp only [rloc, Option.bind_eq_some_iff] at hX
        obtain ⟨c, hc, hX⟩ := hX
        exact loc_spot q c (vs i) (G i) _ X (h6 i c hc) (h5 i c hc) (add_spot h2.1 _) hX
  | _ => simp [rloc] at hX

section
variable {P : Program} {cx : Cx} {w : World} {S : Nat → Prop} {g : Gh} {h : Hp} {s : Env} {a : Act}

theorem HpOk.spot (hp : HpOk cx w S g h) (m : Name) (r : T) (p : Path) (X : Addr) (hm : h m = some r) (hX : rloc w r (g m).1 p = some X) : X.spot = none := rloc_spot (hp.own m r hm) hX

theorem run_loadVar1 {t : TypeId} {A : Addr} {v : Value} (ht : Cell? P t) (hc : w.cell? A = some v) : (loadVar t A).run P w = .ok v w := by
  simp [loadVar, run_isAgg_f ht, hc]

theorem run_loadVarN {t : TypeId} {A : Addr} {k : Nat} {cs : List Value} (ht : Agg? P t) (hz : IsZ P t k) (hl : cs.length = k) (hc : ∀ j v, cs[j]? = some v → w.cell? (A.add j) = some v) :
    (loadVar t A).run P w = .ok (.agg cs.toArray) w := by
  have := run_loadCells_list (P := P) w A cs hc
  rw [hl] at this
  simp [loadVar, run_isAgg_t ht, run_sizeOf' hz, this]

/-- What a load is asked for. -/
def LdT (P : Program) (t : TypeId) : Option Nat → Prop
  | none => Cell? P t
  | some k => Agg? P t ∧ IsZ P t k

theorem cells_ok {m : Name} {r : T} {p : Path} {X : Addr} {xs : List T} (hp : HpOk cx w S g h) (hm : h m = some r) (hu : r.rget p = some (.agg xs)) (hX : rloc w r (g m).1 p = some X) :
    ∀ (ys : List T) (o : Nat) (vs : List SV), (∀ j t, ys[j]? = some t → xs[o + j]? = some t) → cellsSV m p o ys = some vs →
      ∃ cs : List Value, cs.length = ys.length ∧ (∀ j v, cs[j]? = some v → w.cell? (X.add (o + j)) = some v) ∧ vs.length = ys.length ∧
        (∀ (j : Nat) x, vs[j]? = some x → ∃ c, cs[j]? = some c ∧ c.oneCell' = true ∧ SvOk w S g h x c) := by
  intro ys
  induction ys with
  | nil => intro o vs _ hv; simp [cellsSV] at hv; subst hv; exact ⟨[], rfl, by simp, rfl, by simp⟩
  | cons t ys ih =>
    intro o vs hg hv
    simp only [cellsSV, Option.bind_eq_some_iff, Option.map_eq_some_iff] at hv
    obtain ⟨v, hv1, vs', hv2, rfl⟩ := hv
    have ht : xs[o]? = some t := by simpa using hg 0 t rfl
    have hX' : rloc w r (g m).1 (p ++ [.f o]) = some (X.add o) := by
      rw [rloc_snoc w hX hu]
      simp [loc, T.child, ht]
    obtain ⟨c, hc, hok, hone⟩ := cell_ok hp hm (rget_snoc hu (by simp [T.child, ht])) hv1 hX'
    obtain ⟨cs, h1, h2, h3, h4⟩ := ih (o + 1) vs' (fun j t' hj => by have := hg (j + 1) t' (by simpa using hj); rwa [show o + 1 + j = o + (j + 1) by omega]) hv2
    refine ⟨c :: cs, by simp [h1], ?_, by simp [h3], ?_⟩
    · intro j v hj
      cases j with
      | zero => simp at hj; subst hj; simpa using hc
      | succ j => simp at hj; have := h2 j v hj; rwa [show o + (j + 1) = o + 1 + j by omega]
    · intro j x hj
      cases j with
      | zero => simp at hj; subst hj; exact ⟨c, rfl, hone, hok⟩
      | succ j => simp at hj; simpa using h4 j x hj

theorem agg_of_list {vs : List SV} {cs : List Value} (hl : cs.length = vs.length) (hc : ∀ (j : Nat) x, vs[j]? = some x → ∃ c, cs[j]? = some c ∧ c.oneCell' = true ∧ SvOk w S g h x c) : SvOk w S g h (.agg vs) (.agg cs.toArray) := by
  refine .agg _ _ (fun j => cs.getD j default) (by simpa using hl) ?_ ?_ ?_
  · intro j x hj
    obtain ⟨c, h1, _⟩ := hc j x hj
    simp [h1]
  · intro j x hj
    obtain ⟨c, h1, h2, _⟩ := hc j x hj
    simpa [h1] using h2
  · intro j x hj
    obtain ⟨c, h1, _, h3⟩ := hc j x hj
    simpa [h1] using h3

theorem ofL_ok {ds : List Name} (hd : ∀ n, n ∈ ds → (h n).isSome = true) : ∀ (ts : List T) (vs : List SV) (cs : List Value), ofL ds ts = some vs → ts.length = cs.length →
    (∀ (j : Nat) t, ts[j]? = some t → ∃ c, cs[j]? = some c ∧ Vw w (upon S g ds) t c) → ∀ (j : Nat) x, vs[j]? = some x → ∃ c, cs[j]? = some c ∧ c.oneCell' = true ∧ SvOk w S g h x c := by
  intro ts
  induction ts with
  | nil => intro vs cs hv hl hc j x hj; simp [ofL] at hv; subst hv; simp at hj
  | cons t ts ih =>
    intro vs cs hv hl hc j x hj
    simp only [ofL, Option.bind_eq_some_iff, Option.map_eq_some_iff] at hv
    obtain ⟨v, hv1, vs', hv2, rfl⟩ := hv
    cases cs with
    | nil => simp at hl
    | cons c cs =>
      cases j with
      | zero =>
        simp at hj; subst hj
        obtain ⟨c', hc1, hc2⟩ := hc 0 t rfl
        simp at hc1; subst hc1
        obtain ⟨h1, h2⟩ := of_ok hd hc2 hv1
        exact ⟨c, rfl, h2, h1⟩
      | succ j =>
        simp at hj
        simpa using ih vs' cs hv2 (by simpa using hl) (fun j t ht => by simpa using hc (j + 1) t (by simpa using ht)) j x hj

theorem ofL_len {ds : List Name} : ∀ (ts : List T) (vs : List SV), ofL ds ts = some vs → vs.length = ts.length := by
  intro ts
  induction ts with
  | nil => intro vs hv; simp [ofL] at hv; subst hv; rfl
  | cons t ts ih =>
    intro vs hv
    simp only [ofL, Option.bind_eq_some_iff, Option.map_eq_some_iff] at hv
    obtain ⟨v, _, vs', hv2, rfl⟩ := hv
    simp [ih vs' hv2]

/-- What a load gives. -/
theorem ld_run {t : TypeId} {n : Option Nat} {x v : SV} {xv : Value} (hp : HpOk cx w S g h) (hv : SvOk w S g h x xv) (ht : LdT P t n) (hd : ldSV h n x = some v) :
    ∃ A val, xv = .pointer (some A) ∧ (loadVar t A).run P w = .ok val w ∧ SvOk w S g h v val := by
  cases x with
  | pv ds u =>
    cases hv with | pv _ _ uv A hdom hA hb hvw ha =>
    refine ⟨A, ?_⟩
    cases n with
    | none =>
      cases u with
      | agg xs =>
        cases xs with
        | nil => simp [ldSV, SV.of] at hd
        | cons x xs =>
          simp only [ldSV] at hd
          cases hvw with | agg _ cs vs h1 h2 h3 h4 =>
          have hc0 := h2 0 x rfl
          obtain ⟨q1, q2⟩ := of_ok hdom (h4 0 x rfl) hd
          have hcell := ha 0 (vs 0) (by simpa [Value.cells] using hc0)
          exact ⟨vs 0, rfl, run_loadVar1 ht (by simpa [Addr.add] using hcell), q1⟩
      | _ =>
        simp only [ldSV] at hd
        obtain ⟨q1, q2⟩ := of_ok hdom hvw hd
        have hcell := ha 0 uv (by cases uv <;> simp_all [Value.cells, Value.oneCell'])
        exact ⟨uv, rfl, run_loadVar1 ht (by simpa [Addr.add] using hcell), q1⟩
    | some k =>
      cases u with
      | agg xs =>
        simp only [ldSV] at hd
        split at hd
        · rename_i hk
          simp only [Option.map_eq_some_iff] at hd
          obtain ⟨vs', hvs, rfl⟩ := hd
          cases hvw with | agg _ cs vs h1 h2 h3 h4 =>
          have hlen : (cs.toList.take k).length = k := by simp; omega
          have hcell : ∀ j v, (cs.toList.take k)[j]? = some v → w.cell? (A.add j) = some v := by
            intro j v hj
            rw [List.getElem?_take] at hj
            split at hj
            · exact ha j v (by simpa [Value.cells] using hj)
            · simp at hj
          refine ⟨_, rfl, run_loadVarN ht.1 ht.2 hlen hcell, agg_of_list (by rw [hlen, ofL_len _ _ hvs]; simp; omega) (ofL_ok hdom _ _ _ hvs (by simp [hlen]; omega) ?_)⟩
          intro j t hj
          rw [List.getElem?_take] at hj
          split at hj
          · rename_i hjk
            refine ⟨vs j, ?_, h4 j t hj⟩
            rw [List.getElem?_take, if_pos hjk]
            simpa using h2 j t hj
          · simp at hj
        · simp at hd
      | _ => simp [ldSV] at hd
  | ptr m p q =>
    cases q with
    | none =>
      cases hv with | ptrC _ _ r X hr hX =>
      refine ⟨X, ?_⟩
      cases n with
      | some k => simp [ldSV] at hd
      | none =>
        simp only [ldSV, hr, Option.bind_some, Option.bind_eq_some_iff] at hd
        obtain ⟨u, hu, hd⟩ := hd
        obtain ⟨val, hc, hok, _⟩ := cell_ok hp hr hu hd hX
        exact ⟨val, rfl, run_loadVar1 ht hc, hok⟩
    | some o =>
      cases hv with | ptrA _ _ _ r X hr hX =>
      have hsp := hp.spot m r p X hr hX
      refine ⟨X.add o, ?_⟩
      simp only [ldSV, hr, Option.bind_some, Option.bind_eq_some_iff] at hd
      obtain ⟨xs, ⟨u, hu, hxs⟩, hd⟩ := hd
      have hua : u = .agg xs := by cases u <;> simp_all [T.cells?]
      subst hua
      cases n with
      | none =>
        simp only [Option.bind_eq_some_iff] at hd
        obtain ⟨c, hc, hd⟩ := hd
        have hX' : rloc w r (g m).1 (p ++ [.f o]) = some (X.add o) := by
          rw [rloc_snoc w hX hu]
          simp [loc, T.child, hc]
        obtain ⟨val, hcell, hok, _⟩ := cell_ok hp hr (rget_snoc hu (by simp [T.child, hc])) hd hX'
        exact ⟨val, rfl, run_loadVar1 ht hcell, hok⟩
      | some k =>
        simp only at hd
        split at hd
        · rename_i hk
          simp only [Option.map_eq_some_iff] at hd
          obtain ⟨vs, hvs, rfl⟩ := hd
          obtain ⟨cs, h1, h2, h3, h4⟩ := cells_ok hp hr hu hX _ o vs (by
            intro j t hj
            rw [List.getElem?_take] at hj
            split at hj
            · rwa [List.getElem?_drop] at hj
            · simp at hj) hvs
          have hlen : cs.length = k := by rw [h1]; simp; omega
          refine ⟨_, rfl, run_loadVarN ht.1 ht.2 hlen (fun j v hj => by rw [add_add hsp]; exact h2 j v hj), agg_of_list (by omega) h4⟩
        · simp at hd
  | _ => simp [ldSV] at hd

theorem den_ld {o : Oper} {t : TypeId} {n : Option Nat} {x' : Operand} {x : X} {v : SV} (ho : o.op = .load t x') (hx : OkX x' x) (hp : HpOk cx w S g h) (hs : ∀ k, SvOk w S g h (s k) (a.tmps.getD k undef))
    (ht : LdT P t n) (hd : ldSV h n (x.ev s) = some v) : Val1 P w S g h o a v := by
  obtain ⟨A, val, e, hr, hok⟩ := ld_run hp (ev_ok hx hs) ht hd
  exact ⟨val, by simp [execOp, ho, Instr.loadAt, e, Instr.sureAddr, hr], hok⟩
end
end Go.Proofs.Ytdblfocadcgmaaa.Ev
namespace Go.Proofs.Ytdblfocadcgmaaa.Ev
open Go
set_option linter.unusedSimpArgs false
set_option linter.unusedVariables false

section
variable {P : Program} {cx : Cx} {w : World} {S : Nat → Prop} {g : Gh} {h : Hp} {s : Env} {a : Act}

inductive OkO : Option Operand → Option X → Prop where
  | none : OkO none none
  | some {o x} : OkX o x → OkO (some o) (some x)

/-- A bound: what it comes to. -/
theorem bound_ok {o : Option Operand} {x : Option X} {d b : Nat} (ho : OkO o x) (hs : ∀ k, SvOk w S g h (s k) (a.tmps.getD k undef)) (hb : sliceInts (opt s x) d = some b) :
    (o = none ∧ b = d) ∨ (∃ o' k, o = some o' ∧ a.eval o' = .int k (b : Int)) := by
  cases ho with
  | none => left; simpa [opt, sliceInts, eq_comm] using hb
  | @some o x hx =>
    right
    simp only [opt, Option.map_some] at hb
    cases hn : (x.ev s).int? with
    | none => rw [hn] at hb; simp [sliceInts] at hb
    | some n =>
      rw [hn] at hb
      obtain ⟨k, hv⟩ := int_of hn (ev_ok hx hs)
      simp only [sliceInts] at hb
      split at hb
      · rename_i h0
        obtain rfl := by simpa using hb
        exact ⟨o, k, rfl, by rw [hv, Int.toNat_of_nonneg h0]⟩
      · simp at hb

theorem run_bounds {isS : Bool} {len cap : Nat} {lo hi : Option Operand} {l b : Nat} {ρ : Operand → Value} (hh : (hi = none ∧ b = len) ∨ (∃ o' k, hi = some o' ∧ ρ o' = .int k (b : Int)))
    (hl : (lo = none ∧ l = 0) ∨ (∃ o' k, lo = some o' ∧ ρ o' = .int k (l : Int))) (h1 : l ≤ b) (h2 : b ≤ cap) :
    (Instr.sliceBounds isS len cap (lo.map ρ) (hi.map ρ) none).run P w = .ok (l, b, cap) w := by
  rcases hh with ⟨rfl, rfl⟩ | ⟨o1, k1, rfl, e1⟩ <;> rcases hl with ⟨rfl, rfl⟩ | ⟨o2, k2, rfl, e2⟩
  · simp [Instr.sliceBounds]
  · simp [Instr.sliceBounds, e2, run_sliceBound (P := P) (w := w) k2 (l : Int) b _ (by omega) (by omega)]
  · simp [Instr.sliceBounds, e1, run_sliceBound (P := P) (w := w) k1 (b : Int) cap _ (by omega) (by omega)]
  · simp [Instr.sliceBounds, e1, e2, run_sliceBound (P := P) (w := w) k1 (b : Int) cap _ (by omega) (by omega), run_sliceBound (P := P) (w := w) k2 (l : Int) b _ (by omega) (by omega)]

theorem den_slc {o : Oper} {st : Bool} {z : Nat} {t : TypeId} {x' : Operand} {x : X} {lo' hi' : Option Operand} {lo hi : Option X} {v : SV} (ho : o.op = .slice t x' lo' hi' none) (hx : OkX x' x) (hlo : OkO lo' lo) (hhi : OkO hi' hi)
    (hp : HpOk cx w S g h) (hs : ∀ k, SvOk w S g h (s k) (a.tmps.getD k undef)) (ht : if st then P.underlying t = some .string else ∃ e, P.underlying t = some (.slice e) ∧ IsZ P e z)
    (hd : slcSV st z (x.ev s) (opt s lo) (opt s hi) = some v) : Val1 P w S g h o a v := by
  have hv := ev_ok hx hs
  -- a slice
  have sl : ∀ base n C l b, st = false → a.eval x' = .slice base n C → n ≤ C → sliceInts (opt s hi) n = some b → sliceInts (opt s lo) 0 = some l → l ≤ b → b ≤ n →
      SvOk w S g h v (.slice (if C = l then base else base.map (·.add (l * z))) (b - l) (C - l)) → Val1 P w S g h o a v := by
    rintro base n C l b rfl ex hnC hb hl h1 h2 hv
    obtain ⟨e, ht, hz⟩ := (by simpa using ht : ∃ e, P.underlying t = some (.slice e) ∧ IsZ P e z)
    have rb := run_bounds (P := P) (w := w) (isS := true) (len := n) (cap := C) (ρ := a.eval) (bound_ok hhi hs hb) (bound_ok hlo hs hl) h1 (by omega)
    exact ⟨_, by simp [execOp, ho, Instr.sliceAt, Instr.slice, run_underlying' ht, ex, rb, run_sizeOf' hz], hv⟩
  unfold slcSV at hd
  split at hd
  · rename_i ds b e
    rw [e] at hv
    have ex := ok_str hv
    simp only [Option.bind_eq_some_iff] at hd
    obtain ⟨hi0, hb, lo0, hl, hd⟩ := hd
    split at hd
    · rename_i hc
      obtain rfl := by simpa using hd
      have ht : P.underlying t = some .string := by simpa using ht
      have rb := run_bounds (P := P) (w := w) (isS := false) (len := (⟨⟨b⟩⟩ : ByteArray).size) (cap := (⟨⟨b⟩⟩ : ByteArray).size) (ρ := a.eval) (bound_ok hhi hs hb) (bound_ok hlo hs hl) hc.1 hc.2
      refine ⟨.string ((⟨⟨b⟩⟩ : ByteArray).extract lo0 hi0), by simp [execOp, ho, Instr.sliceAt, Instr.slice, run_underlying' ht, ex, rb], ?_⟩
      have hb' : (⟨⟨b⟩⟩ : ByteArray).extract lo0 hi0 = ⟨⟨(b.drop lo0).take (hi0 - lo0)⟩⟩ := by
        apply ByteArray.ext
        simp [ByteArray.data_extract, List.extract_eq_take_drop]
      rw [hb']
      cases hv with | vw _ _ _ hdm _ _ => exact .vw _ _ _ hdm rfl (.str _)
    · simp at hd
  · rename_i ds k xs e
    rw [e] at hv
    simp only [Option.bind_eq_some_iff] at hd
    obtain ⟨hi0, hb, lo0, hl, hd⟩ := hd
    split at hd
    · rename_i hc
      obtain ⟨hc1, hc2, rfl⟩ := hc
      obtain rfl := by simpa using hd
      cases hv with | vw _ _ _ hdm _ q =>
      generalize hval : a.eval x' = val at q
      have hlen : ((xs.drop lo0).take (hi0 - lo0)).length = hi0 - lo0 := by simp; omega
      cases q with
      | ints0 =>
        simp at hc2
        refine sl none 0 0 lo0 hi0 rfl hval (by omega) (by simpa using hb) hl hc1 (by omega) ?_
        have : hi0 = 0 ∧ lo0 = 0 := by omega
        obtain ⟨rfl, rfl⟩ := this
        simpa using SvOk.vw (w := w) (S := S) (g := g) (h := h) ds (.ints k []) (.slice none 0 0) hdm rfl (.ints0 k)
      | ints _ _ A C h1 h2 h3 h4 =>
        refine sl (some A) xs.length C lo0 hi0 rfl hval h3 hb hl hc1 hc2 (.vw _ _ _ hdm rfl ?_)
        have key : ∀ A', A'.block = A.block → A'.spot = none → (C ≠ lo0 → A' = A.add (lo0 * 1)) → Vw w (upon S g ds) (.ints k ((xs.drop lo0).take (hi0 - lo0))) (.slice (some A') (hi0 - lo0) (C - lo0)) := by
          intro A' e1 e2 e3
          have := Vw.ints (w := w) (S := upon S g ds) k ((xs.drop lo0).take (hi0 - lo0)) A' (C - lo0) (by rw [e1]; exact h1) e2 (by omega) (by
            intro i n hi
            rw [List.getElem?_take] at hi
            split at hi
            · rename_i hlt
              rw [List.getElem?_drop] at hi
              have hxl := get_lt hi
              rw [e3 (by omega), Nat.mul_one, add_add h2]
              exact h4 _ n hi
            · simp at hi)
          rwa [hlen] at this
        by_cases hC : C = lo0
        · rw [if_pos hC]; exact key A rfl h2 (fun h => absurd hC h)
        · rw [if_neg hC]; exact key (A.add (lo0 * 1)) (add_block _ _) (add_spot h2 _) (fun _ => rfl)
    · simp at hd
  · rename_i ds z' xs e
    rw [e] at hv
    simp only [Option.bind_eq_some_iff] at hd
    obtain ⟨hi0, hb, lo0, hl, hd⟩ := hd
    split at hd
    · rename_i hc
      obtain ⟨hc1, hc2, rfl⟩ := hc
      obtain rfl := by simpa using hd
      cases hv with | vw _ _ _ hdm _ q =>
      generalize hval : a.eval x' = val at q
      have hlen : ((xs.drop lo0).take (hi0 - lo0)).length = hi0 - lo0 := by simp; omega
      cases q with
      | rows0 =>
        simp at hc2
        refine sl none 0 0 lo0 hi0 rfl hval (by omega) (by simpa using hb) hl hc1 (by omega) ?_
        have : hi0 = 0 ∧ lo0 = 0 := by omega
        obtain ⟨rfl, rfl⟩ := this
        simpa using SvOk.vw (w := w) (S := S) (g := g) (h := h) ds (.rows z []) (.slice none 0 0) hdm rfl (.rows0 z)
      | rows _ _ A C vs h1 h2 h3 h4 h5 h6 =>
        refine sl (some A) xs.length C lo0 hi0 rfl hval h3 hb hl hc1 hc2 (.vw _ _ _ hdm rfl ?_)
        have hget : ∀ (i : Nat) t, ((xs.drop lo0).take (hi0 - lo0))[i]? = some t → xs[lo0 + i]? = some t ∧ i < hi0 - lo0 := by
          intro i t hi
          rw [List.getElem?_take] at hi
          split at hi
          · rename_i hlt
            rw [List.getElem?_drop] at hi
            exact ⟨hi, hlt⟩
          · simp at hi
        have key : ∀ A', A'.block = A.block → A'.spot = none → (C ≠ lo0 → A' = A.add (lo0 * z)) → Vw w (upon S g ds) (.rows z ((xs.drop lo0).take (hi0 - lo0))) (.slice (some A') (hi0 - lo0) (C - lo0)) := by
          intro A' e1 e2 e3
          have := Vw.rows (w := w) (S := upon S g ds) z ((xs.drop lo0).take (hi0 - lo0)) A' (C - lo0) (fun i => vs (lo0 + i)) (by rw [e1]; exact h1) e2 (by omega)
            (fun i t hi => h4 _ t (hget i t hi).1) (fun i t hi => by
              have hxl := get_lt (hget i t hi).1
              rw [e3 (by omega), add_add h2, ← Nat.add_mul]
              exact h5 _ t (hget i t hi).1) (fun i t hi => h6 _ t (hget i t hi).1)
          rwa [hlen] at this
        by_cases hC : C = lo0
        · rw [if_pos hC]; exact key A rfl h2 (fun h => absurd hC h)
        · rw [if_neg hC]; exact key (A.add (lo0 * z)) (add_block _ _) (add_spot h2 _) (fun _ => rfl)
    · simp at hd
  · rename_i m p z' off l e
    rw [e] at hv
    simp only [Option.bind_eq_some_iff] at hd
    obtain ⟨hi0, hb, lo0, hl, hd⟩ := hd
    split at hd
    · rename_i hc
      obtain ⟨hc1, hc2, rfl⟩ := hc
      obtain rfl := by simpa using hd
      generalize hval : a.eval x' = val at hv
      cases hv with | ref _ _ _ _ _ r base L C ad hr hz' hh hsp hb0 hol hLC had hba =>
      refine sl _ l (C - off) lo0 hi0 rfl hval (by omega) hb hl hc1 hc2 ?_
      have hj : addNat off lo0 = off + lo0 := by unfold addNat; split <;> omega
      rw [hj, Nat.sub_sub]
      by_cases hC : C - off = lo0
      · rw [if_pos hC]
        exact .ref m p z (off + lo0) (hi0 - lo0) r base L C ad hr hz' hh hsp hb0 (by omega) hLC had (by intro h; omega)
      · rw [if_neg hC]
        have e1 : ad = off * z := hba (by omega)
        subst e1
        have e2 : ((base.map (·.add (off * z))).map (·.add (lo0 * z))) = base.map (·.add ((off + lo0) * z)) := by
          cases base with
          | none => rfl
          | some b0 => simp [add_add (hsp b0 rfl), Nat.add_mul]
        rw [e2]
        refine .ref m p z (off + lo0) (hi0 - lo0) r base L C ((off + lo0) * z) hr hz' hh hsp hb0 (by omega) hLC (Nat.mul_le_mul_right _ (by omega)) (fun _ => rfl)
    · simp at hd
  · simp at hd

theorem run_max2 (k : IntKind) (x y : Int) : (Builtin.max2 (.int k x) (.int k y)).run P w = .ok (.int k (if y > x then y else x)) w := by simp [Builtin.max2]

theorem mnx_run {mx : Bool} {k : IntKind} : ∀ (vs : List SV) (x n : Int) (us : List Value), mnxI mx k x vs = some n → All2 (SvOk w S g h) vs us →
    (us.foldlM (if mx then Builtin.max2 else Builtin.min2) (.int k x)).run P w = .ok (.int k n) w := by
  intro vs
  induction vs with
  | nil => intro x n us hm hu; cases hu; simp [mnxI] at hm; subst hm; simp
  | cons v vs ih =>
    intro x n us hm hu
    cases hu with | cons h1 h2 =>
    unfold mnxI at hm
    split at hm
    · rename_i heq; simp at heq
    · rename_i heq
      simp at heq
      obtain ⟨rfl, rfl⟩ := heq
      have e := ok_int h1
      subst e
      split at hm
      · rename_i hk
        subst hk
        simp only [List.foldlM_cons, Sem.run_bind]
        cases mx
        · simp only [Bool.false_eq_true, if_false] at hm ⊢
          simpa [Builtin.min2] using ih _ n _ hm h2
        · simp only [if_true] at hm ⊢
          simpa [Builtin.max2] using ih _ n _ hm h2
      · simp at hm
    · simp at hm

theorem den_mnx {o : Oper} {mx : Bool} {ts : Array TypeId} {x' : Operand} {x : X} {os : List Operand} {xs : List X} {k : IntKind} {b n : Int}
    (ho : o.op = .call { callee := .builtin (if mx then .max else .min), args := (x' :: os).toArray, argTypes := ts }) (hx : OkX x' x) (hxs : All2 OkX os xs) (hs : ∀ k, SvOk w S g h (s k) (a.tmps.getD k undef))
    (he : x.ev s = .vw [] (.int k b)) (hd : mnxI mx k b (xs.map (X.ev s)) = some n) : Val1 P w S g h o a (.vw [] (.int k n)) := by
  have hv := ev_ok hx hs
  rw [he] at hv
  have e := ok_int hv
  have hr := mnx_run (P := P) (xs.map (X.ev s)) b n _ hd (evs_ok (a := a) hxs hs)
  refine ⟨.int k n, ?_, mk_int _ _⟩
  cases mx
  · simp only [Bool.false_eq_true, if_false] at ho hr
    simp [execOp, ho, resolve, invoke, builtin, Builtin.min_, e, hr]
  · simp only [if_true] at ho hr
    simp [execOp, ho, resolve, invoke, builtin, Builtin.max_, e, hr]
end
end Go.Proofs.Ytdblfocadcgmaaa.Ev
namespace Go.Proofs.Ytdblfocadcgmaaa.Ev
open Go
set_option linter.unusedSimpArgs false
set_option linter.unusedVariables false

/-- Plain cells, and heads of no slice. -/
inductive Zc : T → Value → Prop where
  | int (k n) : Zc (.int k n) (.int k n)
  | bool (b) : Zc (.bool b) (.bool b)
  | str (s) : Zc (.str s) (.string ⟨⟨s⟩⟩)
  | nilI (k) : Zc (.ints k []) (.slice none 0 0)
  | nilR (z) : Zc (.rows z []) (.slice none 0 0)

inductive Za : T → Value → Prop where
  | c {t v} : Zc t v → Za t v
  | a {ts cs} : All2 Zc ts cs.toList → Za (.agg ts) (.agg cs)

theorem Zc.one {t v} (q : Zc t v) : aggT t = false ∧ v.oneCell' = true ∧ v.cells = #[v] := by cases q <;> exact ⟨rfl, rfl, rfl⟩
theorem Zc.ow {w : World} {S F : Nat → Prop} {t v} (q : Zc t v) : Ow w S t v F := by
  cases q
  · exact .int _ _ _
  · exact .bool _ _
  · exact .str _ _
  · exact .ints0 _ _
  · exact .rows0 _ _
theorem Za.ow {w : World} {S F : Nat → Prop} {t v} (q : Za t v) : Ow w S t v F := by
  cases q with
  | c q => exact q.ow
  | @a ts cs q =>
    obtain ⟨h1, h2⟩ := forall2_get q
    refine .agg ts cs (fun j => cs.getD j default) (fun _ _ => False) F (by simpa using h1.symm) ?_ ?_ ?_ (by simp) (by simp)
    · intro j t hj
      obtain ⟨y, hy, _⟩ := h2 j t hj
      have : cs[j]? = some y := by simpa using hy
      simp [this]
    · intro j t hj
      obtain ⟨y, hy, hz⟩ := h2 j t hj
      exact hz.one.1
    · intro j t hj
      obtain ⟨y, hy, hz⟩ := h2 j t hj
      have : cs[j]? = some y := by simpa using hy
      simpa [this] using hz.ow

section
variable {P : Program} {cx : Cx} {w : World} {S : Nat → Prop} {g : Gh} {h : Hp} {s : Env} {a : Act}

theorem blk_new (w : World) (cs : Array Value) (el : TypeId) (n : Nat) (hn : n ≤ cs.size) : Blk (w.alloc (.cells cs el)) ⟨w.heap.size, 0, none⟩ n :=
  ⟨rfl, cs, el, (0, 0), heap_alloc_new w _, by simpa using hn, by simp⟩

theorem cell_new (w : World) (cs : Array Value) (el : TypeId) (j : Nat) : (w.alloc (.cells cs el)).cell? ((⟨w.heap.size, 0, none⟩ : Addr).add j) = cs[j]? := by
  rw [add_none rfl, Nat.zero_add]
  exact World.cell?_alloc_new w cs el j

/-- A new variable. -/
theorem ow_box {ts : List T} {cs : Array Value} {G : Nat → Prop} {el : TypeId} (ho : Ow w S (.agg ts) (.agg cs) G) (hG : ∀ b, G b → b < w.heap.size) (hS : ∀ b, S b → b < w.heap.size) :
    Ow (w.alloc (.cells cs el)) S (.ptr (.agg ts)) (.pointer (some ⟨w.heap.size, 0, none⟩)) (fun b => b = w.heap.size ∨ G b) := by
  refine .ptr ts cs ⟨w.heap.size, 0, none⟩ G _ (.inl rfl) (blk_new w cs el _ (Nat.le_refl _)) ?_ (ho.frame (fun b hb => heap_alloc_old w _ b (hG b hb)) (fun b hb => heap_alloc_old w _ b (hS b hb))) ?_
  · intro j c hj
    rw [cell_new]
    exact hj
  · intro b hb
    have := hG b hb
    exact ⟨.inr hb, by show b ≠ w.heap.size; omega⟩

theorem ptr_new {w' : World} {nm : Name} {t : T} {A : Addr} {F : Nat → Prop} (ht : ∃ u, t = .ptr u) : SvOk w' S (upd g nm (.pointer (some A), F)) (upd h nm (some t)) (.ptr nm [] (some 0)) (.pointer (some A)) := by
  obtain ⟨u, rfl⟩ := ht
  have := SvOk.ptrA (w := w') (S := S) (g := upd g nm (.pointer (some A), F)) (h := upd h nm (some (.ptr u))) nm [] 0 (.ptr u) A (by simp) (by simp [rloc, loc])
  simpa [Addr.add] using this

theorem ref_new {w' : World} {nm : Name} {t : T} {b : Option Addr} {z L C : Nat} {F : Nat → Prop} (hz : t.shp = some (z, L)) (hb : ∀ x, b = some x → x.spot = none) (hb0 : b = none → L = 0) (hLC : L ≤ C) :
    SvOk w' S (upd g nm (.slice b L C, F)) (upd h nm (some t)) (.ref nm [] z 0 L) (.slice b L C) := by
  have hbody : t.body = t := by cases t <;> simp_all [T.shp, T.body]
  have := SvOk.ref (w := w') (S := S) (g := upd g nm (.slice b L C, F)) (h := upd h nm (some t)) nm [] z 0 L t b L C 0 (by simp) (by simp [T.rget, hbody, T.get, hz]) (by simp [hdr]) hb hb0 (by omega) hLC (by omega) (by simp)
  have e : b.map (·.add 0) = b := by cases b <;> simp [Addr.add]
  rw [e] at this
  simpa using this

theorem den_new {o : Oper} {el : TypeId} {i : TypeInfo} {z : Value} {ts : List T} {nm : Name} (ho : o.op = .alloc el) (hi : P.info? el = some i) (hz : i.zero = some z) (ht : All2 Zc ts z.cells.toList) (hS : ∀ b, S b → b < w.heap.size) :
    ∃ val w', (execOp a.eval o).run P w = .ok (.value val) w' ∧ Dn w S g h nm (.ptr nm [] (some 0)) (some (.ptr (.agg ts))) val w' := by
  have hza : Za (.agg ts) (.agg z.cells) := .a ht
  refine ⟨.pointer (some ⟨w.heap.size, 0, none⟩), w.alloc (.cells z.cells el), ?_, Fr.new w _, _, _, rfl, ow_box (hza.ow (F := fun _ => False)) (by simp) hS, ?_, ptr_new ⟨_, rfl⟩⟩
  · simp [execOp, ho, Instr.alloc, zeroValue, typeInfo, hi, hz, newVar, newRow]
  · rintro b (rfl | hb)
    · simp
    · exact hb.elim

theorem Bl {x : Nat} {k m : Nat} : k * x + x ≤ (k + 1) * x := by rw [Nat.add_mul]; omega

/-- A new row. -/
theorem ow_row {ts : List T} {sz n : Nat} {vs : Nat → Value} {cs : Array Value} {el : TypeId} {G : Nat → Nat → Prop} (hn : ts.length ≤ n) (hsz : n * sz ≤ cs.size) (hv : ∀ (i : Nat) t, ts[i]? = some t → (vs i).cells.size = sz)
    (hc : ∀ (i : Nat) t, ts[i]? = some t → ∀ j, j < sz → cs[i * sz + j]? = (vs i).cells[j]?) (ho : ∀ (i : Nat) t, ts[i]? = some t → Ow w S t (vs i) (G i)) (hd : ∀ i j b, i ≠ j → G i b → ¬ G j b) (hG : ∀ i b, G i b → b < w.heap.size) (hS : ∀ b, S b → b < w.heap.size) :
    Ow (w.alloc (.cells cs el)) S (.rows sz ts) (.slice (some ⟨w.heap.size, 0, none⟩) ts.length n) (fun b => b = w.heap.size ∨ ∃ i, G i b) := by
  refine .rows sz ts ⟨w.heap.size, 0, none⟩ n vs G _ (.inl rfl) (blk_new w cs el _ hsz) hn hv ?_ ?_ hd ?_
  · intro i t ht j c hj
    rw [add_add rfl, cell_new]
    have hlt : j < sz := by
      rw [← hv i t ht]
      rcases Nat.lt_or_ge j (vs i).cells.size with h | h
      · exact h
      · simp [Array.getElem?_eq_none h] at hj
    rw [hc i t ht j hlt]
    exact hj
  · intro i t ht
    exact (ho i t ht).frame (fun b hb => heap_alloc_old w _ b (hG i b hb)) (fun b hb => heap_alloc_old w _ b (hS b hb))
  · intro i b hb
    have := hG i b hb
    exact ⟨.inr ⟨i, hb⟩, by show b ≠ w.heap.size; omega⟩

theorem ow_ints {xs : List Int} {k : IntKind} {n : Nat} {cs : Array Value} {el : TypeId} (hn : xs.length ≤ n) (hsz : n ≤ cs.size) (hc : ∀ (i : Nat) x, xs[i]? = some x → cs[i]? = some (.int k x)) :
    Ow (w.alloc (.cells cs el)) S (.ints k xs) (.slice (some ⟨w.heap.size, 0, none⟩) xs.length n) (fun b => b = w.heap.size) := by
  refine .ints k xs ⟨w.heap.size, 0, none⟩ n _ rfl (blk_new w cs el _ hsz) hn ?_
  intro i x hi
  rw [cell_new]
  exact hc i x hi

/-! #### literal slices -/
theorem foldl_set : ∀ (l : List Value) (n off : Nat) (cs : Array Value), off + n + l.length ≤ cs.size → ∀ k,
    ((l.zipIdx n).foldl (fun (cs : Array Value) (x : Value × Nat) => cs.setIfInBounds (off + x.2) x.1) cs).size = cs.size ∧
    ((l.zipIdx n).foldl (fun (cs : Array Value) (x : Value × Nat) => cs.setIfInBounds (off + x.2) x.1) cs)[k]? = if off + n ≤ k ∧ k < off + n + l.length then l[k - (off + n)]? else cs[k]? := by
  intro l
  induction l with
  | nil => intro n off cs h k; simp; omega
  | cons v l ih =>
    intro n off cs h k
    simp only [List.length_cons] at h
    simp only [List.zipIdx_cons, List.foldl_cons]
    obtain ⟨h1, h2⟩ := ih (n + 1) off (cs.setIfInBounds (off + n) v) (by rw [Array.size_setIfInBounds]; omega) k
    refine ⟨by rw [h1]; simp, ?_⟩
    rw [h2]
    by_cases hk : k = off + n
    · subst hk
      rw [if_neg (by omega), if_pos (by simp), Array.getElem?_setIfInBounds, if_pos rfl, if_pos (by omega)]
      simp
    · by_cases hk2 : off + (n + 1) ≤ k ∧ k < off + (n + 1) + l.length
      · rw [if_pos hk2, if_pos (by simp; omega)]
        have : k - (off + n) = (k - (off + (n + 1))) + 1 := by omega
        rw [this, List.getElem?_cons_succ]
      · rw [if_neg hk2, if_neg (by simp; omega)]
        rw [Array.getElem?_setIfInBounds, if_neg (fun h => hk h.symm)]

theorem foldl_zip (cs : Array Value) (off : Nat) (v : Value) : v.cells.zipIdx.foldl (fun cs (c, j) => cs.setIfInBounds (off + j) c) cs = (v.cells.toList.zipIdx 0).foldl (fun (cs : Array Value) (x : Value × Nat) => cs.setIfInBounds (off + x.2) x.1) cs := by
  rw [← Array.foldl_toList, Array.toList_zipIdx]

/-- Parts in order, each of sz cells. -/
theorem fill_seq {sz : Nat} : ∀ (ps : List (Nat × Value)) (i : Nat) (cs : Array Value), (∀ (m : Nat) p, ps[m]? = some p → p.1 = i + m ∧ p.2.cells.size = sz) → (i + ps.length) * sz ≤ cs.size →
    ∃ cs', Instr.fill (fun i => some (i * sz, sz)) cs ps = some cs' ∧ cs'.size = cs.size ∧ (∀ k, k < i * sz → cs'[k]? = cs[k]?) ∧ ∀ (m : Nat) p, ps[m]? = some p → ∀ j, j < sz → cs'[(i + m) * sz + j]? = p.2.cells[j]? := by
  intro ps
  induction ps with
  | nil => intro i cs _ _; exact ⟨cs, rfl, rfl, by simp, by simp⟩
  | cons p ps ih =>
    intro i cs hp hsz
    obtain ⟨j0, v⟩ := p
    have h0 := hp 0 (j0, v) rfl
    simp at h0
    obtain ⟨rfl, hv⟩ := h0
    have hle : (j0 + 1) * sz ≤ (j0 + (ps.length + 1)) * sz := Nat.mul_le_mul_right _ (by omega)
    have hb := Bl (x := sz) (k := j0) (m := 0)
    have hexp : (j0 + 1) * sz = j0 * sz + sz := by rw [Nat.add_mul]; omega
    simp only [List.length_cons] at hsz
    have hfs := foldl_set v.cells.toList 0 (j0 * sz) cs (by simp [hv]; omega)
    obtain ⟨cs', h1, h2, h3, h4⟩ := ih (j0 + 1) _ (by
      intro m p hm
      have := hp (m + 1) p (by simpa using hm)
      exact ⟨by omega, this.2⟩) (by rw [(hfs 0).1]; rw [show j0 + 1 + ps.length = j0 + (ps.length + 1) by omega]; exact hsz)
    refine ⟨cs', ?_, by rw [h2, (hfs 0).1], ?_, ?_⟩
    · simp only [Instr.fill, hv]
      rw [if_neg (by simp; omega), foldl_zip]
      exact h1
    · intro k hk
      rw [h3 k (by omega), (hfs k).2, if_neg (by simp; omega)]
    · intro m p hm j hj
      cases m with
      | zero =>
        simp at hm
        subst hm
        rw [Nat.add_zero, h3 _ (by omega), (hfs _).2, if_pos (by simp [hv]; omega)]
        simp
      | succ m =>
        have := h4 m p (by simpa using hm) j hj
        rwa [show j0 + (m + 1) = j0 + 1 + m by omega]

def OkP (p : Nat × Operand) (q : Nat × X) : Prop := p.1 = q.1 ∧ OkX p.2 q.2

theorem elems_get : ∀ (n i : Nat) (ps : List (Nat × SV)) (vs : List SV), elems i n ps = some vs → vs.length = n ∧ ps.length = n ∧ ∀ (m : Nat) p, ps[m]? = some p → p.1 = i + m ∧ vs[m]? = some p.2 := by
  intro n
  induction n with
  | zero =>
    intro i ps vs he
    cases ps with
    | nil => simp [elems] at he; subst he; simp
    | cons p ps => simp [elems] at he
  | succ n ih =>
    intro i ps vs he
    cases ps with
    | nil => simp [elems] at he
    | cons p ps =>
      obtain ⟨j, v⟩ := p
      simp only [elems] at he
      split at he
      · rename_i hj
        subst hj
        simp only [Option.map_eq_some_iff] at he
        obtain ⟨vs', he, rfl⟩ := he
        obtain ⟨h1, h2, h3⟩ := ih _ _ _ he
        refine ⟨by simp [h1], by simp [h2], ?_⟩
        intro m p hm
        cases m with
        | zero => simp at hm; subst hm; exact ⟨rfl, rfl⟩
        | succ m =>
          have := h3 m p (by simpa using hm)
          exact ⟨by omega, by simpa using this.2⟩
      · simp at he

/-- What a literal slice's element type is asked for. -/
structure ElT (P : Program) (t e : TypeId) (sz : Nat) (z : Value) : Prop where
  sl : P.underlying t = some (.slice e)
  ex : ∃ i, P.info? e = some i ∧ i.size = sz ∧ i.zero = some z ∧ i.bytes ≤ 4096
  zs : z.cells.size = sz
  pos : 0 < sz

theorem run_zero {t e : TypeId} {sz : Nat} {z : Value} (he : ElT P t e sz z) : (zeroValue e).run P w = .ok z w := by
  obtain ⟨i, h1, h2, h3, h4⟩ := he.ex
  simp [zeroValue, typeInfo, h1, h3]
theorem ElT.isz {t e : TypeId} {sz : Nat} {z : Value} (he : ElT P t e sz z) : IsZ P e sz := by
  obtain ⟨i, h1, h2, _⟩ := he.ex
  exact ⟨i, h1, h2⟩

/-- The cells of a literal slice, each part's in its place. -/
theorem bsl_run {o : Oper} {t e : TypeId} {sz n : Nat} {z : Value} {ps' : Array (Nat × Operand)} {ps : List (Nat × X)} {vs : List SV} (ho : o.op = .buildSlice t n ps') (he : ElT P t e sz z) (hn : n * sz ≤ 2 ^ 24)
    (hp : All2 OkP ps'.toList ps) (hs : ∀ k, SvOk w S g h (s k) (a.tmps.getD k undef)) (hv : elems 0 n (ps.map fun q => (q.1, q.2.ev s)) = some vs) (hsz : ∀ (m : Nat) v, vs[m]? = some v → ∀ u, SvOk w S g h v u → u.cells.size = sz) :
    ∃ (cs : Array Value) (us : Nat → Value), (execOp a.eval o).run P w = .ok (.value (.slice (some ⟨w.heap.size, 0, none⟩) n n)) (w.alloc (.cells cs e)) ∧ cs.size = n * sz ∧ vs.length = n ∧
      ∀ (m : Nat) v, vs[m]? = some v → SvOk w S g h v (us m) ∧ (us m).cells.size = sz ∧ ∀ j, j < sz → cs[m * sz + j]? = (us m).cells[j]? := by
  obtain ⟨hl, hpl, hg⟩ := elems_get _ _ _ _ hv
  obtain ⟨q1, q2⟩ := forall2_get hp
  -- the parts, as values
  have hq : ∀ (m : Nat) p, ((ps'.map fun (q : Nat × Operand) => (q.1, a.eval q.2)).toList)[m]? = some p → p.1 = 0 + m ∧ ∃ v, vs[m]? = some v ∧ SvOk w S g h v p.2 := by
    intro m p hm
    simp only [Array.toList_map, List.getElem?_map, Option.map_eq_some_iff] at hm
    obtain ⟨p', hp', rfl⟩ := hm
    obtain ⟨q, hq, e1, e2⟩ := q2 m p' hp'
    have := hg m (q.1, q.2.ev s) (by simp [hq])
    exact ⟨by rw [e1]; exact this.1, _, this.2, ev_ok e2 hs⟩
  have hlen : ((ps'.map fun (q : Nat × Operand) => (q.1, a.eval q.2)).toList).length = n := by
    have : ps.length = n := by simpa using hpl
    simp only [Array.length_toList] at q1
    simp [q1, this]
  obtain ⟨cs, f1, f2, _, f4⟩ := fill_seq (sz := sz) ((ps'.map fun (q : Nat × Operand) => (q.1, a.eval q.2)).toList) 0 (madeCells z.cells (n * sz)) (by
    intro m p hm
    obtain ⟨h1, v, hv', hok⟩ := hq m p hm
    exact ⟨h1, hsz m v hv' _ hok⟩) (by rw [hlen, Nat.zero_add, size_madeCells]; exact Nat.le_refl _)
  refine ⟨cs, fun m => (((ps'.map fun (q : Nat × Operand) => (q.1, a.eval q.2)).toList)[m]?.getD (0, undef)).2, ?_, by rw [f2, size_madeCells], hl, ?_⟩
  · have hnb : ¬ (n * sz > 2 ^ 24) := by omega
    simp only [execOp, ho, Instr.buildSlice]
    by_cases h0 : n * sz = 0
    · have hm1 : (Array.range (n * sz)).map (fun x => (#[] : Array Value)[x % (#[] : Array Value).size]!) = madeCells z.cells (n * sz) := by rw [h0]; simp [madeCells]
      simp only [Sem.run_bind, run_underlying' he.sl, Result.andThen_ok, run_sizeOf' he.isz, if_neg hnb, Sem.run_ite, if_pos h0, Sem.run_pure, hm1, f1]
      simp [newRow]
    · have hm1 : (Array.range (n * sz)).map (fun x => z.cells[x % z.cells.size]!) = madeCells z.cells (n * sz) := rfl
      simp only [Sem.run_bind, run_underlying' he.sl, Result.andThen_ok, run_sizeOf' he.isz, if_neg hnb, Sem.run_ite, if_neg h0, run_zero he, Sem.run_pure, hm1, f1]
      simp [newRow]
  · intro m v hm
    have hlt : m < ((ps'.map fun (q : Nat × Operand) => (q.1, a.eval q.2)).toList).length := by rw [hlen, ← hl]; exact get_lt hm
    obtain ⟨p, hp'⟩ : ∃ p, ((ps'.map fun (q : Nat × Operand) => (q.1, a.eval q.2)).toList)[m]? = some p := ⟨_, List.getElem?_eq_getElem hlt⟩
    obtain ⟨h1, v', hv', hok⟩ := hq m p hp'
    rw [hm] at hv'
    obtain rfl := by simpa using hv'
    simp only [hp', Option.getD_some]
    refine ⟨hok, hsz m v hm _ hok, ?_⟩
    intro j hj
    have := f4 m p hp' j hj
    rwa [Nat.zero_add] at this
end
end Go.Proofs.Ytdblfocadcgmaaa.Ev
namespace Go.Proofs.Ytdblfocadcgmaaa.Ev
open Go
set_option linter.unusedSimpArgs false
set_option linter.unusedVariables false

section
variable {P : Program} {cx : Cx} {w : World} {S : Nat → Prop} {g : Gh} {h : Hp} {s : Env} {a : Act}

theorem intsL_get (k : IntKind) : ∀ (vs : List SV) (xs : List Int), intsL k vs = some xs → xs.length = vs.length ∧ ∀ (m : Nat) v, vs[m]? = some v → ∃ n, v = .vw [] (.int k n) ∧ xs[m]? = some n := by
  intro vs
  induction vs with
  | nil => intro xs hx; simp [intsL] at hx; subst hx; simp
  | cons v vs ih =>
    intro xs hx
    unfold intsL at hx
    split at hx
    · rename_i heq; simp at heq
    · rename_i k' n vs' heq
      simp at heq
      obtain ⟨rfl, rfl⟩ := heq
      split at hx
      · rename_i hk
        subst hk
        simp only [Option.map_eq_some_iff] at hx
        obtain ⟨xs', hx, rfl⟩ := hx
        obtain ⟨h1, h2⟩ := ih xs' hx
        refine ⟨by simp [h1], ?_⟩
        intro m v hm
        cases m with
        | zero => simp at hm; subst hm; exact ⟨n, rfl, rfl⟩
        | succ m => simpa using h2 m v (by simpa using hm)
      · simp at hx
    · simp at hx

theorem den_bsl_ik {o : Oper} {t e : TypeId} {k : IntKind} {n nm : Nat} {z : Value} {ps' : Array (Nat × Operand)} {ps : List (Nat × X)} {vs : List SV} {xs : List Int} (ho : o.op = .buildSlice t n ps') (he : ElT P t e 1 z) (hn : n ≤ 2 ^ 24)
    (hp : All2 OkP ps'.toList ps) (hs : ∀ k, SvOk w S g h (s k) (a.tmps.getD k undef)) (hS : ∀ b, S b → b < w.heap.size) (hv : elems 0 n (ps.map fun q => (q.1, q.2.ev s)) = some vs) (hx : intsL k vs = some xs) :
    ∃ val w', (execOp a.eval o).run P w = .ok (.value val) w' ∧ Dn w S g h nm (.ref nm [] 1 0 n) (some (.ints k xs)) val w' := by
  obtain ⟨h1, h2⟩ := intsL_get k vs xs hx
  obtain ⟨cs, us, hr, hsz, hl, hc⟩ := bsl_run (P := P) (a := a) ho he (by omega) hp hs hv (by
    intro m v hm u hu
    obtain ⟨x, rfl, _⟩ := h2 m v hm
    rw [ok_int hu]; rfl)
  have hlx : xs.length = n := by omega
  have how : Ow (w.alloc (.cells cs e)) S (.ints k xs) (.slice (some ⟨w.heap.size, 0, none⟩) xs.length n) (fun b => b = w.heap.size) := by
    refine ow_ints (by omega) (by omega) ?_
    intro i x hi
    have hil := get_lt hi
    have hvi : vs[i]? = some vs[i] := List.getElem?_eq_getElem (by omega)
    obtain ⟨n', e1, e2⟩ := h2 i _ hvi
    rw [hi] at e2
    obtain rfl := by simpa using e2
    obtain ⟨q1, q2, q3⟩ := hc i _ hvi
    rw [e1] at q1
    have := q3 0 (by omega)
    rw [ok_int q1] at this
    simpa [Value.cells] using this
  refine ⟨_, _, hr, Fr.new w _, _, _, rfl, by rw [hlx] at how; exact how, ?_, ?_⟩
  · rintro b rfl; simp
  · exact ref_new (by simp [T.shp, hlx]) (by intro x hx; cases hx; rfl) (by simp) (Nat.le_refl _)

theorem plain_ok {v : SV} {t : T} {u : Value} (hv : v.plain = some t) (hu : SvOk w S g h v u) : Zc t u := by
  unfold SV.plain at hv
  split at hv <;> simp at hv <;> subst hv
  · rw [ok_int hu]; exact .int _ _
  · rw [ok_bool hu]; exact .bool _
  · rw [ok_str hu]; exact .str _

theorem plainL_get : ∀ (vs : List SV) (ts : List T), plainL vs = some ts → ts.length = vs.length ∧ ∀ (m : Nat) v, vs[m]? = some v → ∃ t, v.plain = some t ∧ ts[m]? = some t := by
  intro vs
  induction vs with
  | nil => intro ts ht; simp [plainL] at ht; subst ht; simp
  | cons v vs ih =>
    intro ts ht
    simp only [plainL, Option.bind_eq_some_iff, Option.map_eq_some_iff] at ht
    obtain ⟨t, h1, ts', h2, rfl⟩ := ht
    obtain ⟨q1, q2⟩ := ih ts' h2
    refine ⟨by simp [q1], ?_⟩
    intro m x hm
    cases m with
    | zero => simp at hm; subst hm; exact ⟨t, h1, rfl⟩
    | succ m => simpa using q2 m x (by simpa using hm)

theorem all2_of {α β : Type} {R : α → β → Prop} : ∀ (xs : List α) (ys : List β), xs.length = ys.length → (∀ (j : Nat) x y, xs[j]? = some x → ys[j]? = some y → R x y) → All2 R xs ys := by
  intro xs
  induction xs with
  | nil => intro ys hl _; cases ys with
    | nil => exact .nil
    | cons => simp at hl
  | cons x xs ih => intro ys hl hr; cases ys with
    | nil => simp at hl
    | cons y ys => exact .cons (hr 0 x y rfl rfl) (ih ys (by simpa using hl) fun j x y hx hy => hr (j + 1) x y (by simpa using hx) (by simpa using hy))

theorem plainA_ok {v : SV} {t : T} {u : Value} (hv : v.plainA = some t) (hu : SvOk w S g h v u) : Za t u ∧ u.cells.size = v.cells.length := by
  cases v with
  | agg xs =>
    simp only [SV.plainA, Option.map_eq_some_iff] at hv
    obtain ⟨ts, hts, rfl⟩ := hv
    obtain ⟨h1, h2⟩ := plainL_get _ _ hts
    cases hu with | agg _ cs vs q1 q2 q3 q4 =>
    refine ⟨.a (all2_of _ _ (by simp; omega) ?_), by simpa [Value.cells, SV.cells] using q1⟩
    intro j t' c ht hc
    have hlt := get_lt ht
    have hxj : xs[j]? = some xs[j] := List.getElem?_eq_getElem (by omega)
    obtain ⟨t2, e1, e2⟩ := h2 j _ hxj
    rw [ht] at e2
    obtain rfl := by simpa using e2
    have hcj := q2 j _ hxj
    rw [← Array.getElem?_toList, hc] at hcj
    obtain rfl := by simpa using hcj
    exact plain_ok e1 (q4 j _ hxj)
  | _ =>
    simp only [SV.plainA] at hv
    have := plain_ok hv hu
    exact ⟨.c this, by simp [this.one.2.2, SV.cells]⟩

theorem plainAL_get : ∀ (vs : List SV) (ts : List T), plainAL vs = some ts → ts.length = vs.length ∧ ∀ (m : Nat) v, vs[m]? = some v → ∃ t, v.plainA = some t ∧ ts[m]? = some t := by
  intro vs
  induction vs with
  | nil => intro ts ht; simp [plainAL] at ht; subst ht; simp
  | cons v vs ih =>
    intro ts ht
    simp only [plainAL, Option.bind_eq_some_iff, Option.map_eq_some_iff] at ht
    obtain ⟨t, h1, ts', h2, rfl⟩ := ht
    obtain ⟨q1, q2⟩ := ih ts' h2
    refine ⟨by simp [q1], ?_⟩
    intro m x hm
    cases m with
    | zero => simp at hm; subst hm; exact ⟨t, h1, rfl⟩
    | succ m => simpa using q2 m x (by simpa using hm)

theorem den_bsl_flat {o : Oper} {t e : TypeId} {sz n nm : Nat} {z : Value} {ps' : Array (Nat × Operand)} {ps : List (Nat × X)} {vs : List SV} {ts : List T} (ho : o.op = .buildSlice t n ps') (he : ElT P t e sz z) (hn : n * sz ≤ 2 ^ 24)
    (hp : All2 OkP ps'.toList ps) (hs : ∀ k, SvOk w S g h (s k) (a.tmps.getD k undef)) (hS : ∀ b, S b → b < w.heap.size) (hv : elems 0 n (ps.map fun q => (q.1, q.2.ev s)) = some vs) (hall : vs.all (fun v => v.cells.length == sz) = true)
    (hx : plainAL vs = some ts) : ∃ val w', (execOp a.eval o).run P w = .ok (.value val) w' ∧ Dn w S g h nm (.ref nm [] sz 0 n) (some (.rows sz ts)) val w' := by
  obtain ⟨h1, h2⟩ := plainAL_get vs ts hx
  have hcl : ∀ (m : Nat) v, vs[m]? = some v → v.cells.length = sz := by
    intro m v hm
    have := List.all_eq_true.1 hall v (List.mem_of_getElem? hm)
    simpa using this
  obtain ⟨cs, us, hr, hsz, hl, hc⟩ := bsl_run (P := P) (a := a) ho he hn hp hs hv (by
    intro m v hm u hu
    obtain ⟨x, e1, _⟩ := h2 m v hm
    rw [(plainA_ok e1 hu).2]
    exact hcl m v hm)
  have hlx : ts.length = n := by omega
  have hti : ∀ (i : Nat) t, ts[i]? = some t → ∃ v, vs[i]? = some v ∧ v.plainA = some t := by
    intro i t hi
    have hil := get_lt hi
    have hvi : vs[i]? = some vs[i] := List.getElem?_eq_getElem (by omega)
    obtain ⟨t', e1, e2⟩ := h2 i _ hvi
    rw [hi] at e2
    obtain rfl := by simpa using e2
    exact ⟨_, hvi, e1⟩
  have how := ow_row (w := w) (S := S) (el := e) (ts := ts) (sz := sz) (n := n) (vs := us) (cs := cs) (G := fun _ _ => False) (by omega) (by omega)
    (fun i t hi => by obtain ⟨v, hv, _⟩ := hti i t hi; exact (hc i v hv).2.1) (fun i t hi j hj => by obtain ⟨v, hv, _⟩ := hti i t hi; exact (hc i v hv).2.2 j hj)
    (fun i t hi => by obtain ⟨v, hv, e⟩ := hti i t hi; exact (plainA_ok e (hc i v hv).1).1.ow) (by simp) (by simp) hS
  refine ⟨_, _, hr, Fr.new w _, _, _, rfl, by rw [hlx] at how; exact how, ?_, ?_⟩
  · rintro b (rfl | ⟨_, hb⟩)
    · simp
    · exact hb.elim
  · exact ref_new (by simp [T.shp, hlx]) (by intro x hx; cases hx; rfl) (by simp) (Nat.le_refl _)

theorem madeCells_get {z : Array Value} {n k : Nat} (hk : k < n) (hz : 0 < z.size) : (madeCells z n)[k]? = z[k % z.size]? := by
  have := Nat.mod_lt k hz
  simp [madeCells, hk, this]

/-- The zero of an element, as a tree. -/
inductive ZeroT : Knd → T → Value → Prop where
  | ik (k t) : ZeroT (.ik k) t (.int k 0)
  | flat {sz t v} : Za t v → v.cells.size = sz → ZeroT (.flat sz) t v
  | deep {sz t v} : Za t v → v.cells.size = sz → ZeroT (.deep sz) t v

theorem den_mks {o : Oper} {t e : TypeId} {k : Knd} {nm : Nat} {z : Value} {zt : T} {n' c' : Operand} {n c : X} {x y : Int} (ho : o.op = .makeSlice t n' c') (he : ElT P t e k.sz z) (hz : ZeroT k zt z) (hn : OkX n' n) (hc : OkX c' c)
    (hs : ∀ k, SvOk w S g h (s k) (a.tmps.getD k undef)) (hS : ∀ b, S b → b < w.heap.size) (hx : (n.ev s).int? = some x) (hy : (c.ev s).int? = some y) (h0 : 0 ≤ x) (hxy : x ≤ y) (hlt : y < maxN) :
    ∃ val w', (execOp a.eval o).run P w = .ok (.value val) w' ∧ Dn w S g h nm (.ref nm [] k.sz 0 x.toNat) (some (zt.zeros x.toNat k)) val w' := by
  obtain ⟨k1, e1⟩ := int_of hx (ev_ok hn hs)
  obtain ⟨k2, e2⟩ := int_of hy (ev_ok hc hs)
  obtain ⟨i, hi, hsz, hzz, hby⟩ := he.ex
  have hy' : y < 4294967296 := by simpa [maxN] using hlt
  have hr := run_make (P := P) w t e i z he.sl hi hzz k1 k2 x y h0 hxy (by
    have : (i.bytes : Int) * y ≤ 4096 * y := Int.mul_le_mul_of_nonneg_right (by omega) (by omega)
    omega) (by omega)
  have hcell : ∀ m j, m < y.toNat → j < k.sz → (madeCells z.cells (y.toNat * i.size))[m * k.sz + j]? = z.cells[j]? := by
    intro m j hm hj
    have h1 : (m + 1) * k.sz ≤ y.toNat * k.sz := Nat.mul_le_mul_right _ hm
    have h2 : (m + 1) * k.sz = m * k.sz + k.sz := by rw [Nat.add_mul]; omega
    rw [hsz, madeCells_get (by omega) (by rw [he.zs]; exact he.pos), he.zs]
    rw [Nat.add_comm (m * k.sz), Nat.add_mul_mod_self_right, Nat.mod_eq_of_lt hj]
  have hxn : x.toNat ≤ y.toNat := by omega
  have hcsz : (madeCells z.cells (y.toNat * i.size)).size = y.toNat * k.sz := by rw [size_madeCells, hsz]
  refine ⟨.slice (some ⟨w.heap.size, 0, none⟩) x.toNat y.toNat, _, by simp only [execOp, ho, e1, e2, Sem.run_bind, hr, Result.andThen_ok]; rfl, ?_⟩
  have go : ∀ F, aggT (zt.zeros x.toNat k) = false → (zt.zeros x.toNat k).shp = some (k.sz, x.toNat) → Ow (w.alloc (.cells (madeCells z.cells (y.toNat * i.size)) e)) S (zt.zeros x.toNat k) (.slice (some ⟨w.heap.size, 0, none⟩) x.toNat y.toNat) F →
      (∀ b, F b → b = w.heap.size) → Dn w S g h nm (.ref nm [] k.sz 0 x.toNat) (some (zt.zeros x.toNat k)) (.slice (some ⟨w.heap.size, 0, none⟩) x.toNat y.toNat) (w.alloc (.cells (madeCells z.cells (y.toNat * i.size)) e)) := by
    intro F hna hshp how hF
    refine ⟨Fr.new w _, _, F, hna, how, ?_, ref_new hshp (by intro x hx; cases hx; rfl) (by simp) hxn⟩
    intro b hb
    obtain rfl := hF b hb
    simp
  have rowcase : ∀ sz, k.sz = sz → Za zt z → z.cells.size = sz → Ow (w.alloc (.cells (madeCells z.cells (y.toNat * i.size)) e)) S (.rows sz (List.replicate x.toNat zt)) (.slice (some ⟨w.heap.size, 0, none⟩) x.toNat y.toNat) (fun b => b = w.heap.size ∨ ∃ i : Nat, False) := by
    rintro sz rfl hza hzs
    have hrep : ∀ (i : Nat) t, (List.replicate x.toNat zt)[i]? = some t → i < x.toNat ∧ zt = t := by
      intro i t hi
      rw [List.getElem?_replicate] at hi
      split at hi
      · rename_i h; exact ⟨h, by simpa using hi⟩
      · simp at hi
    have how := ow_row (w := w) (S := S) (el := e) (ts := List.replicate x.toNat zt) (sz := k.sz) (n := y.toNat) (vs := fun _ => z) (cs := madeCells z.cells (y.toNat * i.size)) (G := fun _ _ => False) (by simpa using hxn) (by omega)
      (fun i t hi => hzs) (fun i t hi j hj => hcell i j (by have := (hrep i t hi).1; omega) hj) (fun i t hi => by obtain ⟨_, rfl⟩ := hrep i t hi; exact hza.ow) (by simp) (by simp) hS
    simpa using how
  cases hz with
  | ik k _ =>
    have how := ow_ints (w := w) (S := S) (el := e) (xs := List.replicate x.toNat 0) (k := k) (n := y.toNat) (cs := madeCells (Value.int k 0).cells (y.toNat * i.size)) (by simpa using hxn) (by simp only [Knd.sz] at hcsz; omega) (by
      intro i x hi
      rw [List.getElem?_replicate] at hi
      split at hi
      · rename_i h
        obtain rfl := by simpa using hi
        have := hcell i 0 (by omega) (by simp [Knd.sz])
        simpa [Knd.sz, Value.cells] using this
      · simp at hi)
    exact go _ rfl (by simp [T.zeros, T.shp, Knd.sz]) (by simpa [T.zeros] using how) (fun b hb => hb)
  | flat hza hzs => exact go _ rfl (by simp [T.zeros, T.shp, Knd.sz]) (rowcase _ rfl hza hzs) (by simp)
  | deep hza hzs => exact go _ rfl (by simp [T.zeros, T.shp, Knd.sz]) (rowcase _ rfl hza hzs) (by simp)
end
end Go.Proofs.Ytdblfocadcgmaaa.Ev
namespace Go.Proofs.Ytdblfocadcgmaaa.Ev
open Go
set_option linter.unusedSimpArgs false
set_option linter.unusedVariables false

section
variable {P : Program} {cx : Cx} {w : World} {S : Nat → Prop} {g : Gh} {h : Hp} {s : Env} {a : Act}

theorem solid_cells {x : SV} {v : Value} (hx : x.solid = true) (hv : SvOk w S g h x v) : v.cells.size = x.cells.length ∧ ∀ (j : Nat) y, x.cells[j]? = some y → ∃ c, v.cells[j]? = some c ∧ c.oneCell' = true ∧ SvOk w S g h y c := by
  have single : v.oneCell' = true → x.cells = [x] → v.cells.size = x.cells.length ∧ ∀ (j : Nat) y, x.cells[j]? = some y → ∃ c, v.cells[j]? = some c ∧ c.oneCell' = true ∧ SvOk w S g h y c := by
    intro h1 h2
    have h3 : v.cells = #[v] := by cases v <;> simp_all [Value.oneCell', Value.cells]
    rw [h2, h3]
    refine ⟨rfl, ?_⟩
    intro j y hj
    cases j with
    | zero => simp at hj; subst hj; exact ⟨v, rfl, h1, hv⟩
    | succ j => simp at hj
  cases hv with
  | vw ds t v hd hna hv =>
    refine single ?_ rfl
    cases hv <;> simp_all [aggT, Value.oneCell']
    rename_i hr hv
    cases hv <;> simp_all [T.isRow, Value.oneCell']
  | agg xs cs vs h1 h2 h3 h4 =>
    refine ⟨by simpa [Value.cells, SV.cells] using h1, ?_⟩
    intro j y hj
    exact ⟨vs j, by simpa [Value.cells] using h2 j y hj, h3 j y hj, h4 j y hj⟩
  | tup => simp [SV.solid] at hx
  | undef => simp [SV.solid] at hx
  | dead => simp [SV.solid] at hx
  | _ => exact single rfl rfl

/-- Cells and their slots' values. -/
def Pw (w : World) (S : Nat → Prop) (g : Gh) (h : Hp) (zs : List SV) (cs : Array Value) : Prop :=
  cs.size = zs.length ∧ ∀ (j : Nat) x, zs[j]? = some x → ∃ c, cs[j]? = some c ∧ c.oneCell' = true ∧ SvOk w S g h x c

theorem pw_fill {places : List (Nat × Nat)} : ∀ (ps' : List (Nat × Value)) (ps : List (Nat × Nat × SV)) (zs rs : List SV) (cs : Array Value), Pw w S g h zs cs → splice zs ps = some rs →
    All2 (fun (p' : Nat × Value) (p : Nat × Nat × SV) => places[p'.1]? = some (p.1, p.2.1) ∧ SvOk w S g h p.2.2 p'.2) ps' ps →
    ∃ cs', Instr.fill (places.toArray[·]?) cs ps' = some cs' ∧ Pw w S g h rs cs' := by
  intro ps'
  induction ps' with
  | nil =>
    intro ps zs rs cs hpw hsp hall
    cases hall
    simp [splice] at hsp
    subst hsp
    exact ⟨cs, rfl, hpw⟩
  | cons p' ps' ih =>
    intro ps zs rs cs hpw hsp hall
    cases hall with | @cons _ p _ ps hp hall =>
    obtain ⟨i, v'⟩ := p'
    obtain ⟨o, n, v⟩ := p
    simp only [splice] at hsp
    split at hsp
    · rename_i hc
      obtain ⟨hsol, hn, hle⟩ := hc
      obtain ⟨q1, q2⟩ := solid_cells hsol hp.2
      simp only at q1 q2 hp
      have hvs : v'.cells.size = n := by rw [q1, hn]
      have hfs := foldl_set v'.cells.toList 0 o cs (by simp [hvs]; rw [hpw.1]; omega)
      have hpw' : Pw w S g h (zs.take o ++ v.cells ++ zs.drop (o + n)) ((v'.cells.toList.zipIdx 0).foldl (fun (cs : Array Value) (x : Value × Nat) => cs.setIfInBounds (o + x.2) x.1) cs) := by
        refine ⟨?_, ?_⟩
        · rw [(hfs 0).1, hpw.1]
          simp only [List.length_append, List.length_take, List.length_drop, hn]
          omega
        · intro j x hj
          rw [(hfs j).2]
          by_cases hj1 : j < o
          · rw [if_neg (by omega)]
            rw [List.append_assoc, List.getElem?_append_left (by simp; omega), List.getElem?_take, if_pos hj1] at hj
            exact hpw.2 j x hj
          · by_cases hj2 : j < o + n
            · rw [if_pos (by simp [hvs]; omega)]
              rw [List.append_assoc, List.getElem?_append_right (by simp; omega), List.length_take, List.getElem?_append_left (by rw [hn, Nat.min_eq_left (by omega)]; omega), Nat.min_eq_left (by omega)] at hj
              obtain ⟨c, e1, e2⟩ := q2 _ x hj
              exact ⟨c, by simpa using e1, e2⟩
            · rw [if_neg (by simp [hvs]; omega)]
              have hl1 : (zs.take o ++ v.cells).length = o + n := by simp [hn]; omega
              rw [List.getElem?_append_right (by omega), hl1, List.getElem?_drop] at hj
              rw [show o + n + (j - (o + n)) = j by omega] at hj
              exact hpw.2 j x hj
      obtain ⟨cs', h1, h2⟩ := ih ps _ rs _ hpw' hsp hall
      refine ⟨cs', ?_, h2⟩
      have hpl : places.toArray[i]? = some (o, n) := by simpa using hp.1
      simp only [Instr.fill, hpl]
      have : ¬ ((decide (v'.cells.size ≠ n) || decide (o + v'.cells.size > cs.size)) = true) := by rw [hvs, hpw.1]; simp; omega
      rw [if_neg this, foldl_zip]
      exact h1
    · simp at hsp

/-- The zero cells of a struct. -/
inductive Zs : SV → Value → Prop where
  | int (k n) : Zs (.vw [] (.int k n)) (.int k n)
  | bool (b) : Zs (.vw [] (.bool b)) (.bool b)
  | str (b) : Zs (.vw [] (.str b)) (.string ⟨⟨b⟩⟩)
  | nilI (k) : Zs (.nilS (.ints k [])) (.slice none 0 0)
  | nilR (z) : Zs (.nilS (.rows z [])) (.slice none 0 0)
  | dead (v : Value) : v.oneCell' = true → Zs .dead v

theorem Zs.ok {x v} (q : Zs x v) : v.oneCell' = true ∧ SvOk w S g h x v := by
  cases q with
  | int k n => exact ⟨rfl, mk_int _ _⟩
  | bool b => exact ⟨rfl, mk_bool _⟩
  | str s => exact ⟨rfl, mk_str _⟩
  | nilI k => exact ⟨rfl, .nilI k⟩
  | nilR z => exact ⟨rfl, .nilR z⟩
  | dead _ hv => exact ⟨hv, .dead v⟩

structure BldT (P : Program) (t : TypeId) (zs : List SV) (places : List (Nat × Nat)) : Prop where
  ex : ∃ it fields z, P.info? t = some it ∧ P.underlying t = some (.struct fields) ∧ it.zero = some z ∧ fields.toList.mapM (fun f => (P.info? f.type).map fun i => (f.offset, i.size)) = some places ∧ All2 Zs zs z.cells.toList

theorem den_bld {o : Oper} {t : TypeId} {zs rs : List SV} {places : List (Nat × Nat)} {ps' : Array (Nat × Operand)} {ps : List (Nat × Nat × X)} (ho : o.op = .build t ps') (ht : BldT P t zs places)
    (hp : All2 (fun (p' : Nat × Operand) (p : Nat × Nat × X) => places[p'.1]? = some (p.1, p.2.1) ∧ OkX p'.2 p.2.2) ps'.toList ps) (hs : ∀ k, SvOk w S g h (s k) (a.tmps.getD k undef))
    (hd : splice zs (ps.map fun q => (q.1, q.2.1, q.2.2.ev s)) = some rs) : Val1 P w S g h o a (.agg rs) := by
  obtain ⟨it, fields, z, h1, h2, h3, h4, h5⟩ := ht.ex
  obtain ⟨q1, q2⟩ := forall2_get h5
  have hpw : Pw w S g h zs z.cells := by
    refine ⟨by simpa using q1.symm, ?_⟩
    intro j x hj
    obtain ⟨c, hc, hz⟩ := q2 j x hj
    have := hz.ok (w := w) (S := S) (g := g) (h := h)
    exact ⟨c, by simpa using hc, this.1, this.2⟩
  have hall : ∀ (l' : List (Nat × Operand)) (l : List (Nat × Nat × X)), All2 (fun (p' : Nat × Operand) (p : Nat × Nat × X) => places[p'.1]? = some (p.1, p.2.1) ∧ OkX p'.2 p.2.2) l' l →
      All2 (fun (p' : Nat × Value) (p : Nat × Nat × SV) => places[p'.1]? = some (p.1, p.2.1) ∧ SvOk w S g h p.2.2 p'.2) (l'.map fun q => (q.1, a.eval q.2)) (l.map fun q => (q.1, q.2.1, q.2.2.ev s)) := by
    intro l' l hl
    induction hl with
    | nil => exact .nil
    | cons hp _ ih => exact .cons ⟨hp.1, ev_ok hp.2 hs⟩ ih
  obtain ⟨cs', e1, e2⟩ := pw_fill (w := w) (S := S) (g := g) (h := h) _ _ zs rs z.cells hpw hd (hall _ _ hp)
  have hb : P.built t (ps'.map fun q => (q.1, a.eval q.2)).toList = some cs' := by
    simp only [Program.built, h1, h2, h3, h4]
    rw [Array.toList_map]
    exact e1
  refine ⟨.agg cs', ?_, ?_⟩
  · simp only [execOp, ho, Sem.run_bind, run_build w t _ cs' hb, Result.andThen_ok]
    rfl
  · have := agg_of_list (w := w) (S := S) (g := g) (h := h) (vs := rs) (cs := cs'.toList) (by simpa using e2.1) (by
      intro j x hj
      obtain ⟨c, hc, h6, h7⟩ := e2.2 j x hj
      exact ⟨c, by simpa using hc, h6, h7⟩)
    simpa using this

/-! #### texts and bytes -/
theorem den_cvsb {o : Oper} {src dst e : TypeId} {x' : Operand} {x : X} {nm : Nat} {ds} {b : List UInt8} (ho : o.op = .convert src dst x') (hx : OkX x' x) (hs : ∀ k, SvOk w S g h (s k) (a.tmps.getD k undef)) (hS : ∀ b, S b → b < w.heap.size)
    (h1 : P.underlying src = some .string) (h2 : P.underlying dst = some (.slice e)) (h3 : P.underlying e = some (.int .u8)) (he : x.ev s = .vw ds (.str b)) (hb : b.length < maxN) :
    ∃ val w', (execOp a.eval o).run P w = .ok (.value val) w' ∧ Dn w S g h nm (.ref nm [] 1 0 b.length) (some (.ints .u8 (b.map fun c => (c.toNat : Int)))) val w' := by
  have hv := ev_ok hx hs
  rw [he] at hv
  have ex := ok_str hv
  obtain ⟨cap, hcap, hge⟩ : ∃ cap, grownCap w b.length 0 e = cap ∧ b.length ≤ cap := ⟨_, rfl, grownCap_ge w _ _ _⟩
  obtain ⟨cs, hcs⟩ : ∃ cs : Array Value, cs = (⟨b⟩ : Array UInt8).map (fun b => Value.int .u8 b.toNat) ++ Array.replicate (cap - b.length) (.int .u8 0) := ⟨_, rfl⟩
  have hsz : cs.size = cap := by rw [hcs]; simp; omega
  have hget : ∀ (i : Nat) (x : Int), (b.map fun c => (c.toNat : Int))[i]? = some x → cs[i]? = some (.int .u8 x) := by
    intro i x hi
    simp only [List.getElem?_map, Option.map_eq_some_iff] at hi
    obtain ⟨c, hc, rfl⟩ := hi
    have hlt := get_lt hc
    rw [hcs, Array.getElem?_append_left (by simpa using hlt)]
    simp [hc]
  refine ⟨.slice (some ⟨w.heap.size, 0, none⟩) b.length cap, (w.drew.alloc (.cells cs e)).freeze ⟨w.heap.size, cs.size, none⟩ 1, ?_, ?_⟩
  · have hch : (choose (.appendCap b.length 0 e)).run P w = .ok cap w.drew := by
      rw [← hcap]
      simp [choose, Sem.run, Question.forced, grownCap]
    have hsh : (w.drew.alloc (.cells cs e)).shape? w.heap.size = some (e, cs.size) := by
      have h0 : (w.drew.alloc (.cells cs e)).heap[w.heap.size]? = some (.cells cs e) := heap_alloc_new w.drew _
      simp only [World.shape?, h0]
    simp only [execOp, ho, Sem.run_bind, convert, run_underlying' h1, run_underlying' h2, run_underlying' h3, Result.andThen_ok, ex, Conv.stringToBytes, size_mk, hch]
    simp only [newRow, Sem.run_bind, run_newObj, Result.andThen_ok, Sem.run_pure, markStringish, run_shape, ← hcs]
    have hsh' : World.shape? { heap := w.drew.heap.push (.cells cs e), tape := w.drew.tape, drawn := w.drew.drawn, os := w.drew.os, output := w.drew.output } w.drew.heap.size = some (e, cs.size) := hsh
    rw [hsh']
    rfl
  · have hheap : ∀ k, k < w.heap.size → ((w.drew.alloc (.cells cs e)).freeze ⟨w.heap.size, cs.size, none⟩ 1).heap[k]? = w.heap[k]? := by
      intro k hk
      have : ((w.drew.alloc (.cells cs e)).freeze ⟨w.heap.size, cs.size, none⟩ 1).heap[k]? = (w.drew.alloc (.cells cs e)).heap[k]? := by
        unfold World.freeze
        rw [if_neg (by decide)]
        simp only [Array.getElem?_modify]
        rw [if_neg (by omega)]
      rw [this]
      exact heap_alloc_old w.drew _ k hk
    have hblk : ((w.drew.alloc (.cells cs e)).freeze ⟨w.heap.size, cs.size, none⟩ 1).heap[w.heap.size]? = some (.cells cs e (cs.size, cs.size + 1)) := by
      have h0 : (w.drew.alloc (.cells cs e)).heap[w.heap.size]? = some (.cells cs e) := heap_alloc_new w.drew _
      unfold World.freeze
      rw [if_neg (by decide)]
      simp only [Array.getElem?_modify, h0]
      simp
    refine ⟨⟨rfl, rfl, rfl, ?_, fun k hk _ => hheap k hk⟩, _, fun k => k = w.heap.size, rfl, ?_, ?_, ref_new (by simp [T.shp]) (by intro x hx; cases hx; rfl) (by simp) hge⟩
    · simp [World.freeze]
    · have := Ow.ints (w := (w.drew.alloc (.cells cs e)).freeze ⟨w.heap.size, cs.size, none⟩ 1) (S := S) .u8 (b.map fun c => (c.toNat : Int)) ⟨w.heap.size, 0, none⟩ cap (fun k => k = w.heap.size) rfl
        ⟨rfl, cs, e, _, hblk, by simp [hsz], by intro j hj; simp; omega⟩ (by simpa using hge) (by
          intro i x hi
          rw [add_none rfl, Nat.zero_add]
          simp only [World.cell?, hblk]
          exact hget i x hi)
      simpa using this
    · rintro k rfl
      have : ((w.drew.alloc (.cells cs e)).freeze ⟨w.heap.size, cs.size, none⟩ 1).heap.size = w.heap.size + 1 := by simp [World.freeze]
      omega

/-! #### structs compared -/
def kindNo : TypeDesc → Option Nat
  | .int _ => some 0
  | .bool => some 1
  | .string => some 2
  | _ => none

/-- A struct type of plain cells, one after the other; of which kinds. -/
def flatFs (P : Program) : Nat → List Nat → List Field → Bool
  | _, [], [] => true
  | o, k :: ks, f :: fs => decide (f.name ≠ "_") && decide (f.offset = o) && decide ((P.underlying f.type).bind kindNo = some k) && flatFs P (o + 1) ks fs
  | _, _, _ => false

structure EqT (P : Program) (t : TypeId) (ks : List Nat) : Prop where
  st : P.underlying t = some (.struct (P.fieldsOf t))
  flat : flatFs P 0 ks (P.fieldsOf t).toList = true
  held : P.stoodInHeld t = false
  gd : P.eqGuardType P.depth t = false

theorem part_cell {t : TypeId} {cs : Array Value} {o : Nat} {c : Value} (ht : Cell? P t) (hc : cs[o]? = some c) : (part t cs o).run P w = .ok c w := by
  simp [part, run_isAgg_f ht, hc]

theorem eqFields_run (d : Nat) (cs ds : Array Value) : ∀ (fs : List Field) (o : Nat) (ks : List Nat) (xs ys : List SV) (b : Bool), flatFs P o ks fs = true → eqCells ks xs ys = some b →
    (∀ (j : Nat) x, xs[j]? = some x → ∃ c, cs[o + j]? = some c ∧ SvOk w S g h x c) → (∀ (j : Nat) x, ys[j]? = some x → ∃ c, ds[o + j]? = some c ∧ SvOk w S g h x c) → (Op.eqFields (d + 1) cs ds fs).run P w = .ok b w := by
  intro fs
  induction fs with
  | nil =>
    intro o ks xs ys b hf he _ _
    cases ks with
    | cons k ks => simp [flatFs] at hf
    | nil =>
      unfold eqCells at he
      split at he
      · simp only [Option.some.injEq] at he; subst he; simp [Op.eqFields]
      · rename_i h1 _ _; simp at h1
      · rename_i h1 _ _; simp at h1
      · rename_i h1 _ _; simp at h1
      · simp at he
  | cons f fs ih =>
    intro o ks xs ys b hf he hx hy
    cases ks with
    | nil => simp [flatFs] at hf
    | cons k ks =>
    simp only [flatFs, Bool.and_eq_true, decide_eq_true_eq, Option.bind_eq_some_iff] at hf
    obtain ⟨⟨⟨hn, rfl⟩, td, htd, hk⟩, hf⟩ := hf
    have hcell : Cell? P f.type := by
      exact ⟨td, htd, fun fs e => by rw [e] at hk; simp [kindNo] at hk, fun n e' e => by rw [e] at hk; simp [kindNo] at hk⟩
    have step : ∀ (x y : SV) (xs ys : List SV) (e b' : Bool), (∀ (j : Nat) x', (x :: xs)[j]? = some x' → ∃ c, cs[f.offset + j]? = some c ∧ SvOk w S g h x' c) → (∀ (j : Nat) x', (y :: ys)[j]? = some x' → ∃ c, ds[f.offset + j]? = some c ∧ SvOk w S g h x' c) →
        (∀ c c', SvOk w S g h x c → SvOk w S g h y c' → (Op.equalIn (d + 1) f.type c c').run P w = .ok e w) → eqCells ks xs ys = some b' → b = (e && b') → (Op.eqFields (d + 1) cs ds (f :: fs)).run P w = .ok b w := by
      rintro x y xs ys e b' hx hy h1 h2 rfl
      obtain ⟨c, hc, hcv⟩ := hx 0 x rfl
      obtain ⟨c', hc', hcv'⟩ := hy 0 y rfl
      rw [Nat.add_zero] at hc hc'
      have := ih (f.offset + 1) ks xs ys b' hf h2 (fun j x hj => by
        have := hx (j + 1) x (by simpa using hj)
        rwa [show f.offset + (j + 1) = f.offset + 1 + j by omega] at this) (fun j x hj => by
        have := hy (j + 1) x (by simpa using hj)
        rwa [show f.offset + (j + 1) = f.offset + 1 + j by omega] at this)
      simp only [Op.eqFields, if_pos hn, Sem.run_bind, part_cell (w := w) hcell hc, part_cell (w := w) hcell hc', Result.andThen_ok, h1 c c' hcv hcv', Sem.run_ite]
      cases e
      · simp
      · simp [this]
    unfold eqCells at he
    split at he
    · rename_i h1; cases h1
    · rename_i ks' k1 a xs' k' a' ys' h1
      obtain ⟨rfl, rfl⟩ := by simpa using h1
      split at he
      · rename_i hk'
        subst hk'
        simp only [Option.map_eq_some_iff] at he
        obtain ⟨b', hb', rfl⟩ := he
        refine step _ _ _ _ _ b' hx hy ?_ hb' rfl
        intro c c' hcv hcv'
        obtain rfl := ok_int hcv
        obtain rfl := ok_int hcv'
        cases td <;> simp [kindNo] at hk
        exact run_equalIn_int w d f.type k1 _ a a' htd
      · simp at he
    · rename_i ks' a xs' a' ys' h1
      obtain ⟨rfl, rfl⟩ := by simpa using h1
      simp only [Option.map_eq_some_iff] at he
      obtain ⟨b', hb', rfl⟩ := he
      refine step _ _ _ _ _ b' hx hy ?_ hb' rfl
      intro c c' hcv hcv'
      obtain rfl := ok_bool hcv
      obtain rfl := ok_bool hcv'
      cases td <;> simp [kindNo] at hk
      exact run_equalIn_bool' w d f.type a a' htd
    · rename_i ks' a xs' a' ys' h1
      obtain ⟨rfl, rfl⟩ := by simpa using h1
      simp only [Option.map_eq_some_iff] at he
      obtain ⟨b', hb', rfl⟩ := he
      refine step _ _ _ _ _ b' hx hy ?_ hb' rfl
      intro c c' hcv hcv'
      obtain rfl := ok_str hcv
      obtain rfl := ok_str hcv'
      cases td <;> simp [kindNo] at hk
      have := run_equalIn_string (P := P) w d f.type ⟨⟨a⟩⟩ ⟨⟨a'⟩⟩ htd
      rwa [bytes_toList, bytes_toList] at this
    · simp at he

theorem den_eqs {o : Oper} {ne : Bool} {t t' : TypeId} {ks : List Nat} {x' y' : Operand} {x y : X} {xs ys : List SV} {b : Bool} (ho : o.op = .binOp (if ne then .neq else .eql) t x' y' t') (hx : OkX x' x) (hy : OkX y' y) (ht : EqT P t ks)
    (hs : ∀ k, SvOk w S g h (s k) (a.tmps.getD k undef)) (ex : x.ev s = .agg xs) (ey : y.ev s = .agg ys) (hb : eqCells ks xs ys = some b) : Val1 P w S g h o a (.vw [] (.bool (if ne then !b else b))) := by
  have hvx := ev_ok (a := a) hx hs
  have hvy := ev_ok (a := a) hy hs
  rw [ex] at hvx
  rw [ey] at hvy
  generalize hX : a.eval x' = vx at hvx
  generalize hY : a.eval y' = vy at hvy
  cases hvx with | agg _ cs vs h1 h2 h3 h4 =>
  cases hvy with | agg _ ds us k1 k2 k3 k4 =>
  have hrun := eqFields_run (P := P) (w := w) (S := S) (g := g) (h := h) 9998 cs ds (P.fieldsOf t).toList 0 ks xs ys b ht.flat hb (fun j x hj => ⟨vs j, by rw [Nat.zero_add]; exact h2 j x hj, h4 j x hj⟩) (fun j x hj => ⟨us j, by rw [Nat.zero_add]; exact k2 j x hj, k4 j x hj⟩)
  have he : (Op.equalIn 10000 t (.agg cs) (.agg ds)).run P w = .ok b w := by rw [run_equalIn_struct w 9999 t cs ds ht.st ht.held]; exact hrun
  cases ne with
  | false =>
    refine ⟨.bool b, ?_, mk_bool _⟩
    simp only [Bool.false_eq_true, if_false] at ho ⊢
    simp [execOp, ho, hX, hY, run_eqGuard_agg w .eql t x' y' cs ds ht.gd, run_eql_struct, he, Result.andThen]
  | true =>
    refine ⟨.bool (!b), ?_, mk_bool _⟩
    simp only [if_true] at ho ⊢
    simp [execOp, ho, hX, hY, run_eqGuard_agg w .neq t x' y' cs ds ht.gd, run_neq_struct, he, Result.andThen]
end
end Go.Proofs.Ytdblfocadcgmaaa.Ev
namespace Go.Proofs.Ytdblfocadcgmaaa.Ev
open Go
set_option linter.unusedSimpArgs false
set_option linter.unusedVariables false

theorem mayPre_app : ∀ (q x : Path), mayPre q (q ++ x) = true := by
  intro q
  induction q with
  | nil => intro x; cases x <;> rfl
  | cons s q ih => intro x; cases s <;> simp [mayPre, ih]

theorem get_app : ∀ (p x : Path) (t u : T), t.get p = some u → t.get (p ++ x) = u.get x := by
  intro p
  induction p with
  | nil => intro x t u hu; obtain rfl : t = u := by simpa [T.get] using hu
           rfl
  | cons s p ih =>
    intro x t u hu
    simp only [T.get, Option.bind_eq_some_iff] at hu
    obtain ⟨d, hd, hu⟩ := hu
    simp only [List.cons_append, T.get, hd, Option.bind_some]
    exact ih x d u hu

theorem loc_app (w : World) : ∀ (p x : Path) (t u : T) (A X : Addr), loc w t A p = some X → t.get p = some u → loc w t A (p ++ x) = loc w u X x := by
  intro p
  induction p with
  | nil =>
    intro x t u A X hX hu
    obtain rfl : t = u := by simpa [T.get] using hu
    obtain rfl : A = X := by simpa [loc] using hX
    rfl
  | cons s p ih =>
    intro x t u A X hX hu
    simp only [T.get, Option.bind_eq_some_iff] at hu
    obtain ⟨d, hd, hu⟩ := hu
    simp only [loc, hd, Option.bind_some] at hX
    rw [List.cons_append, loc, hd, Option.bind_some]
    cases t <;> cases s <;> simp only [reduceCtorEq] at hX ⊢
    · split at hX
      · exact ih _ _ _ _ _ hX hu
      · simp at hX
    · split at hX
      · exact ih _ _ _ _ _ hX hu
      · simp at hX
    · exact ih _ _ _ _ _ hX hu

theorem rloc_app (w : World) {r u : T} {rv : Value} {p x : Path} {X : Addr} (hX : rloc w r rv p = some X) (hu : r.rget p = some u) : rloc w r rv (p ++ x) = loc w u X x := by
  unfold rloc at hX
  split at hX
  · rename_i t a
    exact loc_app w p x t u a X hX hu
  · rename_i k xs a _ _ i p
    simp only [Option.bind_eq_some_iff] at hX
    obtain ⟨n, hn, hX⟩ := hX
    simp only [T.rget, T.body, T.get, T.child, hn, Option.map_some, Option.bind_some] at hu
    simp only [List.cons_append, rloc, hn, Option.bind_some]
    exact loc_app w p x _ u _ X hX hu
  · rename_i sz xs a _ _ i p
    simp only [Option.bind_eq_some_iff] at hX
    obtain ⟨c, hc, hX⟩ := hX
    simp only [T.rget, T.body, T.get, T.child, hc, Option.bind_some] at hu
    simp only [List.cons_append, rloc, hc, Option.bind_some]
    exact loc_app w p x _ u _ X hX hu
  · simp at hX

/-- No node below. -/
def Leaf (u : T) : Prop := u.shp = none ∧ ∀ s, u.child s = none

theorem leaf_scalar {u : T} (h : u.scalar = true) : Leaf u := by
  cases u <;> simp_all [T.scalar, Leaf, T.shp, T.child]

section
variable {P : Program} {cx : Cx} {w w' : World} {S : Nat → Prop} {g g' : Gh} {h h' : Hp} {s : Env} {a : Act}

theorem namesOk_of {n m : Name} {ds : List Name} (hd : ds.contains m = false) (hn : n ∈ ds) : n ≠ m := by
  rintro rfl
  simp [hn] at hd

theorem mem_of_undL {m : Name} {q : Path} : ∀ {xs : List SV}, undL m q xs = false → ∀ (j : Nat) x, xs[j]? = some x → x.und m q = false := by
  intro xs
  induction xs with
  | nil => intro _ j x hj; simp at hj
  | cons y xs ih =>
    intro hu j x hj
    simp only [undL, Bool.or_eq_false_iff] at hu
    cases j with
    | zero => simp at hj; subst hj; exact hu.1
    | succ j => exact ih hu.2 j x (by simpa using hj)

theorem mem_of_depL {m : Name} : ∀ {xs : List SV}, depL m xs = false → ∀ (j : Nat) x, xs[j]? = some x → x.dep m = false := by
  intro xs
  induction xs with
  | nil => intro _ j x hj; simp at hj
  | cons y xs ih =>
    intro hu j x hj
    simp only [depL, Bool.or_eq_false_iff] at hu
    cases j with
    | zero => simp at hj; subst hj; exact hu.1
    | succ j => exact ih hu.2 j x (by simpa using hj)

theorem mem_of_namL {m : Name} : ∀ {xs : List SV}, namL m xs = false → ∀ (j : Nat) x, xs[j]? = some x → x.nam m = false := by
  intro xs
  induction xs with
  | nil => intro _ j x hj; simp at hj
  | cons y xs ih =>
    intro hu j x hj
    simp only [namL, Bool.or_eq_false_iff] at hu
    cases j with
    | zero => simp at hj; subst hj; exact hu.1
    | succ j => exact ih hu.2 j x (by simpa using hj)

/-- One cell of the block m has turned. -/
structure Turn (w w' : World) (g g' : Gh) (h h' : Hp) (m : Name) (r r' u : T) (q : Path) (X : Addr) : Prop where
  hm : h m = some r
  hm' : h' m = some r'
  hn : ∀ n, n ≠ m → h' n = h n
  gm : (g' m).1 = (g m).1
  gn : ∀ n, n ≠ m → g' n = g n
  get : r.rget q = some u
  loc : rloc w r (g m).1 q = some X
  loc' : rloc w' r' (g m).1 q = some X
  same : ∀ p, (∀ x, p ≠ q ++ x) → RSame w w' r r' (g m).1 p
  other : ∀ b, b ≠ X.block → w'.heap[b]? = w.heap[b]?
  inF : (g m).2 X.block

theorem Turn.keep {cx : Cx} {m : Name} {r r' u : T} {q : Path} {X : Addr} (t : Turn w w' g g' h h' m r r' u q X) (hp : HpOk cx w S g h) {y : SV} {v : Value} (hy : SvOk w S g h y v)
    (hk : y.und m q = false ∨ (Leaf u ∧ y.dep m = false)) : SvOk w' S g' h' y v := by
  have hblk : ∀ n r0 b, n ≠ m → h n = some r0 → (g n).2 b → w'.heap[b]? = w.heap[b]? := by
    intro n r0 b hne hr hb
    refine t.other b fun e => ?_
    subst e
    exact hp.apart n m r0 r _ hr t.hm hne hb t.inF
  have hSb : ∀ b, S b → w'.heap[b]? = w.heap[b]? := fun b hb => t.other b fun e => hp.Sapart m r _ t.hm t.inF (e ▸ hb)
  have hups : ∀ ds, ds.contains m = false → (∀ n, n ∈ ds → (h n).isSome = true) → ∀ b, upon S g ds b → upon S g' ds b ∧ w'.heap[b]? = w.heap[b]? := by
    intro ds hd hdm b hb
    rcases hb with hb | ⟨n, hn, hb⟩
    · exact ⟨.inl hb, hSb b hb⟩
    · have hne := namesOk_of hd hn
      obtain ⟨r0, hr⟩ := Option.isSome_iff_exists.1 (hdm n hn)
      exact ⟨.inr ⟨n, hn, by rw [t.gn n hne]; exact hb⟩, hblk n r0 b hne hr hb⟩
  have hdom : ∀ ds : List Name, ds.contains m = false → (∀ n, n ∈ ds → (h n).isSome = true) → ∀ n, n ∈ ds → (h' n).isSome = true := by
    intro ds hd hdm n hn
    rw [t.hn n (namesOk_of hd hn)]
    exact hdm n hn
  -- a place in the turned block
  have hplace : ∀ p Y, rloc w r (g m).1 p = some Y → (∀ s x, p ≠ q ++ s :: x) → rloc w' r' (g m).1 p = some Y := by
    intro p Y hY hne
    by_cases hpq : p = q
    · subst hpq
      rw [t.loc] at hY
      obtain rfl := by simpa using hY
      exact t.loc'
    · rw [(t.same p (by
        intro x e
        cases x with
        | nil => exact hpq (by simpa using e)
        | cons s x => exact hne s x e)).1]
      exact hY
  induction hy with
  | vw ds t0 v hd hna hv =>
    have hc : ds.contains m = false := by rcases hk with hk | ⟨_, hk⟩ <;> simpa [SV.und, SV.dep] using hk
    exact .vw ds t0 v (hdom ds hc hd) hna ((hv.frame fun b hb => (hups ds hc hd b hb).2).mono fun b hb => (hups ds hc hd b hb).1)
  | pv ds t0 v A hd hA hb hv ha =>
    have hc : ds.contains m = false := by rcases hk with hk | ⟨_, hk⟩ <;> simpa [SV.und, SV.dep] using hk
    exact .pv ds t0 v A (hdom ds hc hd) hA (hups ds hc hd _ hb).1 ((hv.frame fun b hb => (hups ds hc hd b hb).2).mono fun b hb => (hups ds hc hd b hb).1) (ha.frame (hups ds hc hd _ hb).2)
  | nilI k => exact .nilI k
  | nilR sz => exact .nilR sz
  | nilP => exact .nilP
  | ref n p sz off l r0 base L C b hr hz hhd hsp hb0 hl hlc had ha =>
    by_cases hnm : n = m
    · subst hnm
      rw [t.hm] at hr
      obtain rfl := by simpa using hr
      have hne : ∀ x, p ≠ q ++ x := by
        rcases hk with hk | ⟨hleaf, _⟩
        · simp only [SV.und, beq_self_eq_true, Bool.true_and] at hk
          rintro x rfl
          rw [mayPre_app] at hk
          simp at hk
        · rintro x rfl
          have : r.rget (q ++ x) = u.get x := get_app q x r.body u t.get
          rw [this] at hz
          cases x with
          | nil => simp [T.get, hleaf.1] at hz
          | cons s x => simp [T.get, hleaf.2 s] at hz
      have hsame := t.same p hne
      refine .ref n p sz off l r' base L C b t.hm' (by rw [hsame.2.1]; exact hz) ?_ hsp hb0 hl hlc had ha
      rw [t.gm]
      cases p with
      | nil => exact hhd
      | cons s p =>
        simp only [hdr, Option.bind_eq_some_iff] at hhd ⊢
        obtain ⟨Y, hY, hc⟩ := hhd
        exact ⟨Y, by rw [hsame.1]; exact hY, by rw [hsame.2.2 Y (sz, L) hY hz]; exact hc⟩
    · have hsame := rloc_frame (w' := w') (hp.own n r0 hr) (fun b hb => hblk n r0 b hnm hr hb) p
      refine .ref n p sz off l r0 base L C b (by rw [t.hn n hnm]; exact hr) hz ?_ hsp hb0 hl hlc had ha
      rw [t.gn n hnm]
      cases p with
      | nil => exact hhd
      | cons s p =>
        simp only [hdr, Option.bind_eq_some_iff] at hhd ⊢
        obtain ⟨Y, hY, hc⟩ := hhd
        exact ⟨Y, by rw [hsame.1]; exact hY, by rw [hsame.2.2 Y (sz, L) hY hz]; exact hc⟩
  | ptrC n p r0 Y hr hY =>
    by_cases hnm : n = m
    · subst hnm
      rw [t.hm] at hr
      obtain rfl := by simpa using hr
      refine .ptrC n p r' Y t.hm' ?_
      rw [t.gm]
      refine hplace p Y hY ?_
      rintro s x rfl
      rcases hk with hk | ⟨hleaf, _⟩
      · simp [SV.und, mayPre_app] at hk
      · rw [rloc_app w t.loc t.get, Ev.loc, hleaf.2 s] at hY
        simp at hY
    · exact .ptrC n p r0 Y (by rw [t.hn n hnm]; exact hr) (by rw [t.gn n hnm, (rloc_frame (w' := w') (hp.own n r0 hr) (fun b hb => hblk n r0 b hnm hr hb) p).1]; exact hY)
  | ptrA n p o r0 Y hr hY =>
    by_cases hnm : n = m
    · subst hnm
      rw [t.hm] at hr
      obtain rfl := by simpa using hr
      refine .ptrA n p o r' Y t.hm' ?_
      rw [t.gm]
      refine hplace p Y hY ?_
      rintro s x rfl
      rcases hk with hk | ⟨hleaf, _⟩
      · simp [SV.und, mayPre_app] at hk
      · rw [rloc_app w t.loc t.get, Ev.loc, hleaf.2 s] at hY
        simp at hY
    · exact .ptrA n p o r0 Y (by rw [t.hn n hnm]; exact hr) (by rw [t.gn n hnm, (rloc_frame (w' := w') (hp.own n r0 hr) (fun b hb => hblk n r0 b hnm hr hb) p).1]; exact hY)
  | agg xs cs vs h1 h2 h3 h4 ih =>
    refine .agg xs cs vs h1 h2 h3 fun j x hj => ih j x hj ?_
    rcases hk with hk | ⟨hl, hk⟩
    · exact .inl (mem_of_undL (by simpa [SV.und] using hk) j x hj)
    · exact .inr ⟨hl, mem_of_depL (by simpa [SV.dep] using hk) j x hj⟩
  | tup xs cs vs h1 h2 h4 ih =>
    refine .tup xs cs vs h1 h2 fun j x hj => ih j x hj ?_
    rcases hk with hk | ⟨hl, hk⟩
    · exact .inl (mem_of_undL (by simpa [SV.und] using hk) j x hj)
    · exact .inr ⟨hl, mem_of_depL (by simpa [SV.dep] using hk) j x hj⟩
  | fn f xs cs vs h1 h2 h4 ih =>
    refine .fn f xs cs vs h1 h2 fun j x hj => ih j x hj ?_
    rcases hk with hk | ⟨hl, hk⟩
    · exact .inl (mem_of_undL (by simpa [SV.und] using hk) j x hj)
    · exact .inr ⟨hl, mem_of_depL (by simpa [SV.dep] using hk) j x hj⟩
  | undef => exact .undef
  | dead v => exact .dead v

/-- Values that name no block but those that are as they were. -/
theorem SvOk.away {m : Name} {y : SV} {v : Value} (hy : SvOk w S g h y v) (hk : y.nam m = false) (hn : ∀ n r, n ≠ m → h n = some r → h' n = some r) (gn : ∀ n r, n ≠ m → h n = some r → g' n = g n) (ho : ∀ n r, h n = some r → Ow w S r (g n).1 (g n).2)
    (hblk : ∀ n r b, n ≠ m → h n = some r → (g n).2 b → w'.heap[b]? = w.heap[b]?) (hSb : ∀ b, S b → w'.heap[b]? = w.heap[b]?) : SvOk w' S g' h' y v := by
  have hups : ∀ ds, ds.contains m = false → (∀ n, n ∈ ds → (h n).isSome = true) → ∀ b, upon S g ds b → upon S g' ds b ∧ w'.heap[b]? = w.heap[b]? := by
    intro ds hd hdm b hb
    rcases hb with hb | ⟨n, hn', hb⟩
    · exact ⟨.inl hb, hSb b hb⟩
    · have hne := namesOk_of hd hn'
      obtain ⟨r0, hr⟩ := Option.isSome_iff_exists.1 (hdm n hn')
      exact ⟨.inr ⟨n, hn', by rw [gn n r0 hne hr]; exact hb⟩, hblk n r0 b hne hr hb⟩
  have hdom : ∀ ds : List Name, ds.contains m = false → (∀ n, n ∈ ds → (h n).isSome = true) → ∀ n, n ∈ ds → (h' n).isSome = true := by
    intro ds hd hdm n hn'
    obtain ⟨r0, hr⟩ := Option.isSome_iff_exists.1 (hdm n hn')
    simp [hn n r0 (namesOk_of hd hn') hr]
  induction hy with
  | vw ds t0 v hd hna hv =>
    have hc : ds.contains m = false := by simpa [SV.nam] using hk
    exact .vw ds t0 v (hdom ds hc hd) hna ((hv.frame fun b hb => (hups ds hc hd b hb).2).mono fun b hb => (hups ds hc hd b hb).1)
  | pv ds t0 v A hd hA hb hv ha =>
    have hc : ds.contains m = false := by simpa [SV.nam] using hk
    exact .pv ds t0 v A (hdom ds hc hd) hA (hups ds hc hd _ hb).1 ((hv.frame fun b hb => (hups ds hc hd b hb).2).mono fun b hb => (hups ds hc hd b hb).1) (ha.frame (hups ds hc hd _ hb).2)
  | nilI k => exact .nilI k
  | nilR sz => exact .nilR sz
  | nilP => exact .nilP
  | ref n p sz off l r0 base L C b hr hz hhd hsp hb0 hl hlc had ha =>
    have hnm : n ≠ m := by simpa [SV.nam] using hk
    have hsame := rloc_frame (w' := w') (ho n r0 hr) (fun b hb => hblk n r0 b hnm hr hb) p
    refine .ref n p sz off l r0 base L C b (hn n r0 hnm hr) hz ?_ hsp hb0 hl hlc had ha
    rw [gn n r0 hnm hr]
    cases p with
    | nil => exact hhd
    | cons s p =>
      simp only [hdr, Option.bind_eq_some_iff] at hhd ⊢
      obtain ⟨Y, hY, hc⟩ := hhd
      exact ⟨Y, by rw [hsame.1]; exact hY, by rw [hsame.2.2 Y (sz, L) hY hz]; exact hc⟩
  | ptrC n p r0 Y hr hY =>
    have hnm : n ≠ m := by simpa [SV.nam] using hk
    exact .ptrC n p r0 Y (hn n r0 hnm hr) (by rw [gn n r0 hnm hr, (rloc_frame (w' := w') (ho n r0 hr) (fun b hb => hblk n r0 b hnm hr hb) p).1]; exact hY)
  | ptrA n p o r0 Y hr hY =>
    have hnm : n ≠ m := by simpa [SV.nam] using hk
    exact .ptrA n p o r0 Y (hn n r0 hnm hr) (by rw [gn n r0 hnm hr, (rloc_frame (w' := w') (ho n r0 hr) (fun b hb => hblk n r0 b hnm hr hb) p).1]; exact hY)
  | agg xs cs vs h1 h2 h3 h4 ih => exact .agg xs cs vs h1 h2 h3 fun j x hj => ih j x hj (mem_of_namL (by simpa [SV.nam] using hk) j x hj)
  | tup xs cs vs h1 h2 h4 ih => exact .tup xs cs vs h1 h2 fun j x hj => ih j x hj (mem_of_namL (by simpa [SV.nam] using hk) j x hj)
  | fn f xs cs vs h1 h2 h4 ih => exact .fn f xs cs vs h1 h2 fun j x hj => ih j x hj (mem_of_namL (by simpa [SV.nam] using hk) j x hj)
  | undef => exact .undef
  | dead v => exact .dead v
end
end Go.Proofs.Ytdblfocadcgmaaa.Ev
namespace Go.Proofs.Ytdblfocadcgmaaa.Ev
open Go
set_option linter.unusedSimpArgs false
set_option linter.unusedVariables false

section
variable {P : Program} {cx : Cx} {w w' : World} {S : Nat → Prop} {g g' : Gh} {h h' : Hp} {s : Env} {a : Act}

theorem sub_ints {k : IntKind} {xs : List Int} {off l : Nat} : T.sub (.ints k xs) off l = some (.ints k ((xs.drop off).take l)) := by
  simp only [T.sub]
  split
  · rename_i hc
    obtain ⟨rfl, rfl⟩ := hc
    simp
  · rfl
theorem sub_rows {k : Nat} {xs : List T} {off l : Nat} : T.sub (.rows k xs) off l = some (.rows k ((xs.drop off).take l)) := by
  simp only [T.sub]
  split
  · rename_i hc
    obtain ⟨rfl, rfl⟩ := hc
    simp
  · rfl

theorem rput_na {r u r' : T} {p : Path} (hr : r.rput u p = some r') (hn : aggT r = false) (hu : aggT u = false) : aggT r' = false := by
  cases r with
  | ptr t =>
    simp only [T.rput, Option.map_eq_some_iff] at hr
    obtain ⟨_, _, rfl⟩ := hr
    rfl
  | _ => exact T.put_agg (by simpa [T.rput] using hr) hu hn

theorem drop_take_get {α : Type} {xs : List α} {off l i : Nat} {x : α} (hi : ((xs.drop off).take l)[i]? = some x) : i < l ∧ xs[off + i]? = some x := by
  rw [List.getElem?_take] at hi
  split at hi
  · rename_i hlt
    rw [List.getElem?_drop] at hi
    exact ⟨hlt, hi⟩
  · simp at hi

theorem Blk.part {a : Addr} {n ad m : Nat} (hb : Blk w a n) (hm : ad + m ≤ n) : Blk w (a.add ad) m := by
  obtain ⟨hs, c, el, fr, hc, hn, hf⟩ := hb
  rw [add_none hs]
  exact ⟨rfl, c, el, fr, hc, by simp; omega, hf⟩

/-- A part of a row is a row. -/
theorem ow_sub {r t : T} {base : Option Addr} {L C z off l ad : Nat} {F : Nat → Prop} (ho : Ow w S r (.slice base L C) F) (hz : r.shp = some (z, L)) (hs : r.sub off l = some t) (hl : off + l ≤ L) (had : ad ≤ C * z) (ha : C - off ≠ 0 → ad = off * z) :
    Ow w S t (.slice (base.map (·.add ad)) l (C - off)) F ∧ t.shp = some (z, l) ∧ aggT t = false := by
  cases ho with
  | ints0 k =>
    rw [sub_ints] at hs
    obtain rfl := by simpa using hs
    have : l = 0 := by omega
    subst this
    simp only [T.shp, Option.some.injEq, Prod.mk.injEq] at hz
    simp
    exact ⟨.ints0 k _, by simp [T.shp]; exact hz.1, rfl⟩
  | rows0 k =>
    rw [sub_rows] at hs
    obtain rfl := by simpa using hs
    have : l = 0 := by omega
    subst this
    simp only [T.shp, Option.some.injEq, Prod.mk.injEq] at hz
    simp
    exact ⟨.rows0 k _, by simp [T.shp]; exact hz.1, rfl⟩
  | ints k xs b _ _ h1 h2 h3 h4 =>
    rw [sub_ints] at hs
    obtain rfl := by simpa using hs
    simp only [T.shp, Option.some.injEq, Prod.mk.injEq] at hz
    obtain ⟨rfl, _⟩ := hz
    have hlen : ((xs.drop off).take l).length = l := by simp; omega
    have := Ow.ints (w := w) (S := S) k ((xs.drop off).take l) (b.add ad) (C - off) F (by rw [add_block]; exact h1) (h2.part (by
      by_cases hC : C - off = 0
      · omega
      · have := ha hC; omega)) (by omega) (by
      intro i n hi
      obtain ⟨hlt, hx⟩ := drop_take_get hi
      have := get_lt hx
      rw [ha (by omega), Nat.mul_one, add_add h2.1]
      exact h4 _ n hx)
    rw [hlen] at this
    exact ⟨this, by rw [T.shp, hlen], rfl⟩
  | rows sz xs b _ vs G _ h1 h2 h3 h4 h5 h6 h7 h8 =>
    rw [sub_rows] at hs
    obtain rfl := by simpa using hs
    simp only [T.shp, Option.some.injEq, Prod.mk.injEq] at hz
    obtain ⟨rfl, _⟩ := hz
    have hlen : ((xs.drop off).take l).length = l := by simp; omega
    have := Ow.rows (w := w) (S := S) sz ((xs.drop off).take l) (b.add ad) (C - off) (fun i => vs (off + i)) (fun i => G (off + i)) F (by rw [add_block]; exact h1) (h2.part (by
      by_cases hC : C - off = 0
      · rw [hC]; omega
      · rw [ha hC, ← Nat.add_mul]; exact Nat.mul_le_mul_right _ (by omega))) (by omega) (fun i t hi => h4 _ t (drop_take_get hi).2) (by
      intro i t hi
      obtain ⟨hlt, hx⟩ := drop_take_get hi
      have := get_lt hx
      rw [ha (by omega), add_add h2.1, ← Nat.add_mul]
      exact h5 _ t hx) (fun i t hi => h6 _ t (drop_take_get hi).2) (fun i j b hij => h7 _ _ b (by omega)) (fun i b hb => by
      rw [add_block]
      exact h8 _ b hb)
    rw [hlen] at this
    exact ⟨this, by rw [T.shp, hlen], rfl⟩
  | sh t v _ hr hv => simp [T.shp] at hz
  | dead => simp [T.shp] at hz

/-- What is taken over. -/
structure Abs (cx : Cx) (w : World) (S : Nat → Prop) (g : Gh) (h : Hp) (v : Value) (t : T) (kill : Kill) (h1 : Hp) (g1 : Gh) (Ft : Nat → Prop) : Prop where
  own : Ow w S t v Ft
  ft : ∀ b, Ft b → (cx.M b ∨ cx.w0.heap.size ≤ b) ∧ b < w.heap.size ∧ ¬ S b
  apart : ∀ n r b, h1 n = some r → (g1 n).2 b → ¬ Ft b
  hp : HpOk cx w S g1 h1
  keep : ∀ y u, SvOk w S g h y u → kill y = false → SvOk w S g1 h1 y u
  src : ∀ b, Ft b → ∃ n r, h n = some r ∧ (g n).2 b
  shrink : ∀ n r, h1 n = some r → (g1 n).1 = (g n).1 ∧ ∃ r', h n = some r' ∧ ∀ b, (g1 n).2 b → (g n).2 b

theorem SvOk.shp_ref {n p z off l v} (hv : SvOk w S g h (.ref n p z off l) v) : ∃ r base L C ad, h n = some r ∧ (r.rget p).bind T.shp = some (z, L) ∧ hdr w r (g n).1 p = some (.slice base L C) ∧ (∀ b, base = some b → b.spot = none) ∧ (base = none → L = 0) ∧ off + l ≤ L ∧ L ≤ C ∧ ad ≤ C * z ∧ (C - off ≠ 0 → ad = off * z) ∧ v = .slice (base.map (·.add ad)) l (C - off) := by
  cases hv with | ref _ _ _ _ _ r base L C ad h1 h2 h3 h4 h5 h6 h7 h8 h9 => exact ⟨r, base, L, C, ad, h1, h2, h3, h4, h5, h6, h7, h8, h9, rfl⟩

theorem abs_ok {x : SV} {v : Value} {q : T × Kill × Hp} (hp : HpOk cx w S g h) (hv : SvOk w S g h x v) (hx : x.abs h = some q) : (∃ g1 Ft, Abs cx w S g h v q.1 q.2.1 q.2.2 g1 Ft) ∧ aggT q.1 = false ∧ v.oneCell' = true := by
  unfold SV.abs at hx
  split at hx
  · rename_i t
    have hvw : Vw w S t v := by
      cases hv with | vw _ _ _ _ _ hv => exact hv.mono fun b hb => upon_nil hb
    split at hx
    · rename_i hsc
      obtain rfl := by simpa using hx
      refine ⟨⟨g, fun _ => False, ?_, by simp, by simp, hp, fun y u hy _ => hy, fun b hb => hb.elim, fun n r hr => ⟨rfl, r, hr, fun b hb => hb⟩⟩, ?_, ?_⟩
      · cases hvw <;> simp [T.scalar] at hsc
        · exact .int _ _ _
        · exact .bool _ _
        · exact .str _ _
      · cases t <;> simp_all [T.scalar, aggT]
      · cases hvw <;> simp_all [T.scalar, Value.oneCell']
    · split at hx
      · rename_i hrow
        obtain rfl := by simpa using hx
        refine ⟨⟨g, fun _ => False, .sh t v _ hrow hvw, by simp, by simp, hp, fun y u hy _ => hy, fun b hb => hb.elim, fun n r hr => ⟨rfl, r, hr, fun b hb => hb⟩⟩, rfl, ?_⟩
        cases hvw <;> simp_all [T.isRow, Value.oneCell']
      · simp at hx
  · obtain rfl := by simpa using hx
    cases hv with
    | nilI k => exact ⟨⟨g, fun _ => False, .ints0 k _, by simp, by simp, hp, fun y u hy _ => hy, fun b hb => hb.elim, fun n r hr => ⟨rfl, r, hr, fun b hb => hb⟩⟩, rfl, rfl⟩
    | nilR k => exact ⟨⟨g, fun _ => False, .rows0 k _, by simp, by simp, hp, fun y u hy _ => hy, fun b hb => hb.elim, fun n r hr => ⟨rfl, r, hr, fun b hb => hb⟩⟩, rfl, rfl⟩
    | nilP => exact ⟨⟨g, fun _ => False, .dead _ _ rfl, by simp, by simp, hp, fun y u hy _ => hy, fun b hb => hb.elim, fun n r hr => ⟨rfl, r, hr, fun b hb => hb⟩⟩, rfl, rfl⟩
  · rename_i m z off l
    obtain ⟨r, base, L, C, ad, h1, h2, h3, h4, h5, h6, h7, h8, h9, rfl⟩ := hv.shp_ref
    simp only [h1, Option.bind_some, Option.map_eq_some_iff] at hx
    obtain ⟨t, ht, rfl⟩ := hx
    have how := hp.own m r h1
    have hrv : (g m).1 = .slice base L C := by simpa [hdr] using h3
    rw [hrv] at how
    have hbody : r.body = r := by cases how <;> rfl
    have hz : r.shp = some (z, L) := by simpa [T.rget, T.get, hbody] using h2
    obtain ⟨q1, q2, q3⟩ := ow_sub how hz ht h6 h8 h9
    refine ⟨⟨g, (g m).2, q1, ?_, ?_, ?_, ?_, fun b hb => ⟨m, r, h1, hb⟩, ?_⟩, q3, rfl⟩
    · intro b hb
      exact ⟨hp.inM m r b h1 hb, hp.lt m r b h1 hb, hp.Sapart m r b h1 hb⟩
    · intro n r0 b hr hb hb'
      dsimp only at hr
      by_cases e : n = m
      · subst e; simp at hr
      · rw [upd_ne _ _ e] at hr
        exact hp.apart n m r0 r b hr h1 e hb hb'
    · have hsub : ∀ n r0, upd h m none n = some r0 → n ≠ m ∧ h n = some r0 := by
        intro n r0 hr
        by_cases e : n = m
        · subst e; simp at hr
        · rw [upd_ne _ _ e] at hr; exact ⟨e, hr⟩
      exact ⟨hp.fr, fun n r0 hr => hp.own n r0 (hsub n r0 hr).2, fun n r0 hr => hp.row n r0 (hsub n r0 hr).2, fun n r0 b hr => hp.inM n r0 b (hsub n r0 hr).2, fun n m' r0 r1 b hr hr' => hp.apart n m' r0 r1 b (hsub n r0 hr).2 (hsub m' r1 hr').2,
        fun n r0 b hr => hp.lt n r0 b (hsub n r0 hr).2, fun n r0 b hr => hp.Sapart n r0 b (hsub n r0 hr).2, hp.Slt, hp.SR, hp.RS, fun n hn => by
          obtain ⟨r0, q1, q2, q3⟩ := hp.root n hn
          exact ⟨r0, by dsimp only; rw [upd_ne _ _ (hp.root_row h1 (by simpa [T.rget, T.get, hbody] using hz : (r.rget []).bind T.shp = some (z, L)) n hn)]; exact q1, q2, q3⟩⟩
    · intro y u hy hk
      exact hy.away (m := m) hk (fun n r0 hn hr => by dsimp only; rw [upd_ne _ _ hn]; exact hr) (fun n r0 hn hr => rfl) hp.own (fun n r0 b hn hr hb => rfl) (fun b hb => rfl)
    · intro n r0 hr
      dsimp only at hr
      by_cases e : n = m
      · subst e; simp at hr
      · rw [upd_ne _ _ e] at hr; exact ⟨rfl, r0, hr, fun b hb => hb⟩
  · rename_i m p z off l hne
    have hp0 : p ≠ [] := fun e => hne e
    obtain ⟨r, base, L, C, ad, h1, h2, h3, h4, h5, h6, h7, h8, h9, rfl⟩ := hv.shp_ref
    simp only [h1, Option.bind_some, Option.bind_eq_some_iff, Option.map_eq_some_iff] at hx h2
    obtain ⟨u, hu, t, ht, r', hr', rfl⟩ := hx
    obtain ⟨u', hu', hz⟩ := h2
    rw [hu] at hu'
    obtain rfl := by simpa using hu'
    have hna : aggT u = false := by cases u <;> simp_all [T.shp, aggT]
    obtain ⟨X, val, Fu, f⟩ := rfo (hp.own m r h1) hu hna hp0 (hp.row m r h1)
    have hval : val = .slice base L C := by
      cases p with
      | nil => exact absurd rfl hp0
      | cons s p =>
        simp only [hdr, f.loc, Option.bind_some, f.cell, Option.some.injEq] at h3
        exact h3
    subst hval
    obtain ⟨q1, q2, q3⟩ := ow_sub f.own hz ht h6 h8 h9
    obtain ⟨e1, e2, e3⟩ := f.upd w .dead (.slice base L C) (fun _ => False) r' (Upd.same f.cell f.spot) rfl hr' (.dead _ _ rfl) (fun b hb => hb.elim) (fun hb => hp.Sapart m r _ h1 f.inF hb)
    have hturn : Turn w w g (upd g m ((g m).1, fun b => ((g m).2 b ∧ ¬ Fu b) ∨ False)) h (upd h m (some r')) m r r' u p X :=
      ⟨h1, by simp, fun n hn => upd_ne _ _ hn, by simp, fun n hn => upd_ne _ _ hn, hu, f.loc, e2, e3, fun b _ => rfl, f.inF⟩
    have hrow' : aggT r' = false := rput_na hr' (hp.row m r h1) rfl
    have hg2 : ∀ n r0 b, upd h m (some r') n = some r0 → (upd g m ((g m).1, fun b => ((g m).2 b ∧ ¬ Fu b) ∨ False) n).2 b → ∃ r1, h n = some r1 ∧ (g n).2 b ∧ (n = m → ¬ Fu b) := by
      intro n r0 b hr hb
      by_cases e : n = m
      · subst e
        simp at hb
        exact ⟨r, h1, hb.1, fun _ => hb.2⟩
      · rw [upd_ne _ _ e] at hr hb
        exact ⟨r0, hr, hb, fun h => absurd h e⟩
    refine ⟨⟨upd g m ((g m).1, fun b => ((g m).2 b ∧ ¬ Fu b) ∨ False), Fu, q1, ?_, ?_, ?_, ?_, fun b hb => ⟨m, r, h1, f.sub b hb⟩, ?_⟩, q3, rfl⟩
    · intro b hb
      have hb' := f.sub b hb
      exact ⟨hp.inM m r b h1 hb', hp.lt m r b h1 hb', hp.Sapart m r b h1 hb'⟩
    · intro n r0 b hr hb hb'
      obtain ⟨r1, hr1, hb1, hb2⟩ := hg2 n r0 b hr hb
      by_cases e : n = m
      · exact hb2 e hb'
      · exact hp.apart n m r1 r b hr1 h1 e hb1 (f.sub b hb')
    · refine ⟨hp.fr, ?_, ?_, ?_, ?_, ?_, ?_, hp.Slt, hp.SR, hp.RS, root_upd hp.root h1 (rput_isV hr') rfl⟩ <;> dsimp only
      · intro n r0 hr
        by_cases e : n = m
        · subst e
          simp at hr ⊢
          subst hr
          simpa using e1
        · rw [upd_ne _ _ e] at hr ⊢
          exact hp.own n r0 hr
      · intro n r0 hr
        by_cases e : n = m
        · subst e
          simp at hr
          subst hr
          exact hrow'
        · rw [upd_ne _ _ e] at hr
          exact hp.row n r0 hr
      · intro n r0 b hr hb
        obtain ⟨r1, hr1, hb1, _⟩ := hg2 n r0 b hr hb
        exact hp.inM n r1 b hr1 hb1
      · intro n m' r0 r1 b hr hr' hne' hb hb'
        obtain ⟨r2, hr2, hb2, _⟩ := hg2 n r0 b hr hb
        obtain ⟨r3, hr3, hb3, _⟩ := hg2 m' r1 b hr' hb'
        exact hp.apart n m' r2 r3 b hr2 hr3 hne' hb2 hb3
      · intro n r0 b hr hb
        obtain ⟨r1, hr1, hb1, _⟩ := hg2 n r0 b hr hb
        exact hp.lt n r1 b hr1 hb1
      · intro n r0 b hr hb
        obtain ⟨r1, hr1, hb1, _⟩ := hg2 n r0 b hr hb
        exact hp.Sapart n r1 b hr1 hb1
    · intro y u0 hy hk
      exact hturn.keep hp hy (.inl hk)
    · intro n r0 hr
      dsimp only at hr
      refine ⟨?_, ?_⟩
      · by_cases e : n = m
        · subst e; simp
        · rw [upd_ne _ _ e]
      · by_cases e : n = m
        · subst e
          exact ⟨r, h1, fun b hb => (hg2 _ r0 b hr hb).choose_spec.2.1⟩
        · have hr0 := hr
          rw [upd_ne _ _ e] at hr0
          exact ⟨r0, hr0, fun b hb => (hg2 _ r0 b hr hb).choose_spec.2.1⟩
  · simp at hx

/-- A way of taking a value over that is right. -/
def AbsRight (cx : Cx) (w : World) (S : Nat → Prop) (f : Hp → SV → Option (T × Kill × Hp)) (K : SV → T → Value → Prop) : Prop :=
  ∀ g h x v q, HpOk cx w S g h → SvOk w S g h x v → f h x = some q → (∃ g1 Ft, Abs cx w S g h v q.1 q.2.1 q.2.2 g1 Ft) ∧ K x q.1 v

theorem abs_right (cx : Cx) (w : World) (S : Nat → Prop) : AbsRight cx w S (fun h v => v.abs h) (fun _ t v => aggT t = false ∧ v.oneCell' = true) :=
  fun g h x v q hp hv hx => abs_ok hp hv hx

structure AbsL (cx : Cx) (w : World) (S : Nat → Prop) (g : Gh) (h : Hp) (us : List Value) (ts : List T) (kill : Kill) (h1 : Hp) (g1 : Gh) (Fs : Nat → Nat → Prop) : Prop where
  len : us.length = ts.length
  own : ∀ (j : Nat) t u, ts[j]? = some t → us[j]? = some u → Ow w S t u (Fs j)
  ft : ∀ j b, Fs j b → (cx.M b ∨ cx.w0.heap.size ≤ b) ∧ b < w.heap.size ∧ ¬ S b
  disj : ∀ i j b, i ≠ j → Fs i b → ¬ Fs j b
  apart : ∀ n r b, h1 n = some r → (g1 n).2 b → ∀ j, ¬ Fs j b
  hp : HpOk cx w S g1 h1
  keep : ∀ y u, SvOk w S g h y u → kill y = false → SvOk w S g1 h1 y u
  src : ∀ j b, Fs j b → ∃ n r, h n = some r ∧ (g n).2 b
  shrink : ∀ n r, h1 n = some r → (g1 n).1 = (g n).1 ∧ ∃ r', h n = some r' ∧ ∀ b, (g1 n).2 b → (g n).2 b

theorem absW_ok {f : Hp → SV → Option (T × Kill × Hp)} {K : SV → T → Value → Prop} (hf : AbsRight cx w S f K) : ∀ (vs : List SV) (us : List Value) (g : Gh) (h : Hp) (q : List T × Kill × Hp), HpOk cx w S g h → All2 (SvOk w S g h) vs us →
    absW f h vs = some q → (∃ g1 Fs, AbsL cx w S g h us q.1 q.2.1 q.2.2 g1 Fs) ∧ vs.length = us.length ∧ ∀ (j : Nat) t u x, q.1[j]? = some t → us[j]? = some u → vs[j]? = some x → K x t u := by
  intro vs
  induction vs with
  | nil =>
    intro us g h q hp hall hq
    cases hall
    simp [absW] at hq
    subst hq
    exact ⟨⟨g, fun _ _ => False, rfl, by simp, by simp, by simp, by simp, hp, fun y u hy _ => hy, by simp, fun n r hr => ⟨rfl, r, hr, fun b hb => hb⟩⟩, rfl, by simp⟩
  | cons v vs ih =>
    intro us g h q hp hall hq
    cases hall with | @cons _ u _ us hv hall =>
    simp only [absW, Option.bind_eq_some_iff] at hq
    obtain ⟨q1, hq1, hq⟩ := hq
    split at hq
    · simp at hq
    · rename_i hany
      simp only [Option.map_eq_some_iff] at hq
      obtain ⟨q2, hq2, rfl⟩ := hq
      obtain ⟨⟨g1, F1, a1⟩, k1⟩ := hf g h v u q1 hp hv hq1
      have hall1 : All2 (SvOk w S g1 q1.2.2) vs us := by
        have hk : ∀ x, x ∈ vs → q1.2.1 x = false := by
          intro x hx
          have := hany
          simp only [List.any_eq_true, not_exists, not_and, Bool.not_eq_true] at this
          exact this x hx
        clear hq2 ih
        induction hall with
        | nil => exact .nil
        | cons hx _ ih2 => exact .cons (a1.keep _ _ hx (hk _ (by simp))) (ih2 (by simp at hany ⊢; exact fun x hx => hany.2 x hx) (fun x hx => hk x (by simp [hx])))
      obtain ⟨⟨g2, Fs, a2⟩, l2, k2⟩ := ih us g1 q1.2.2 q2 a1.hp hall1 hq2
      refine ⟨⟨g2, fun j => match j with | 0 => F1 | j + 1 => Fs j, by simp [a2.len], ?_, ?_, ?_, ?_, a2.hp, ?_, ?_, ?_⟩, by simp [l2], ?_⟩
      · intro j t x hj hx
        cases j with
        | zero => simp at hj hx; subst hj; subst hx; exact a1.own
        | succ j => exact a2.own j t x (by simpa using hj) (by simpa using hx)
      · intro j b hb
        cases j with
        | zero => exact a1.ft b hb
        | succ j => exact a2.ft j b hb
      · intro i j b hij hi hj
        cases i with
        | zero =>
          cases j with
          | zero => exact hij rfl
          | succ j =>
            obtain ⟨n, r, hr, hb⟩ := a2.src j b hj
            exact a1.apart n r b hr hb hi
        | succ i =>
          cases j with
          | zero =>
            obtain ⟨n, r, hr, hb⟩ := a2.src i b hi
            exact a1.apart n r b hr hb hj
          | succ j => exact a2.disj i j b (by omega) hi hj
      · intro n r b hr hb j
        cases j with
        | zero =>
          obtain ⟨_, r', hr', hsub⟩ := a2.shrink n r hr
          exact a1.apart n r' b hr' (hsub b hb)
        | succ j => exact a2.apart n r b hr hb j
      · intro y x hy hk
        simp only [Bool.or_eq_false_iff] at hk
        exact a2.keep y x (a1.keep y x hy hk.1) hk.2
      · intro j b hb
        cases j with
        | zero => exact a1.src b hb
        | succ j =>
          obtain ⟨n, r, hr, hb'⟩ := a2.src j b hb
          obtain ⟨_, r', hr', hsub⟩ := a1.shrink n r hr
          exact ⟨n, r', hr', hsub b hb'⟩
      · intro n r hr
        obtain ⟨e1, r', hr', hsub⟩ := a2.shrink n r hr
        obtain ⟨e2, r2, hr2, hsub2⟩ := a1.shrink n r' hr'
        exact ⟨e1.trans e2, r2, hr2, fun b hb => hsub2 b (hsub b hb)⟩
      · intro j t x y hj hx hy
        cases j with
        | zero => simp at hj hx hy; subst hj; subst hx; subst hy; exact k1
        | succ j => exact k2 j t x y (by simpa using hj) (by simpa using hx) (by simpa using hy)

theorem agg_all2 {xs : List SV} {cs : Array Value} (hv : SvOk w S g h (.agg xs) (.agg cs)) : All2 (SvOk w S g h) xs cs.toList ∧ cs.size = xs.length := by
  cases hv with | agg _ _ vs h1 h2 h3 h4 =>
  refine ⟨all2_of _ _ (by simp [h1]) ?_, h1⟩
  intro j x c hj hc
  have := h2 j x hj
  rw [← Array.getElem?_toList, hc] at this
  obtain rfl := by simpa using this
  exact h4 j x hj

/-- A struct out of cells that were taken over. -/
theorem absL_agg {cs : Array Value} {ts : List T} {kill : Kill} {h1 : Hp} {g1 : Gh} {Fs : Nat → Nat → Prop} (a : AbsL cx w S g h cs.toList ts kill h1 g1 Fs) (hna : ∀ (j : Nat) t, ts[j]? = some t → aggT t = false) :
    Abs cx w S g h (.agg cs) (.agg ts) kill h1 g1 (fun b => ∃ j, Fs j b) := by
  have hlen : cs.size = ts.length := by have := a.len; simpa using this
  refine ⟨?_, fun b ⟨j, hb⟩ => a.ft j b hb, fun n r b hr hb ⟨j, hb'⟩ => a.apart n r b hr hb j hb', a.hp, a.keep, fun b ⟨j, hb⟩ => a.src j b hb, a.shrink⟩
  refine .agg ts cs (fun j => cs.getD j default) Fs _ hlen ?_ hna ?_ a.disj (fun j b hb => ⟨j, hb⟩)
  · intro j t hj
    have := get_lt hj
    simp [hlen, this]
  · intro j t hj
    have := get_lt hj
    refine a.own j t _ hj ?_
    simp [hlen, this]

theorem absA_right (cx : Cx) (w : World) (S : Nat → Prop) : AbsRight cx w S absA (fun x t v => x.cells.length = v.cells.size) := by
  intro g h x v q hp hv hx
  cases x with
  | agg xs =>
    simp only [absA, Option.map_eq_some_iff, absL] at hx
    obtain ⟨q', hq', rfl⟩ := hx
    obtain ⟨cs, rfl⟩ : ∃ cs, v = .agg cs := by cases hv; exact ⟨_, rfl⟩
    obtain ⟨hall, hsz⟩ := agg_all2 hv
    obtain ⟨⟨g1, Fs, a⟩, hl, hk⟩ := absW_ok (abs_right cx w S) xs cs.toList g h q' hp hall hq'
    refine ⟨⟨g1, _, absL_agg a ?_⟩, by simp [SV.cells, Value.cells, hsz]⟩
    intro j t hj
    have h1 := get_lt hj
    have h2 := a.len
    exact (hk j t cs.toList[j] xs[j] hj (List.getElem?_eq_getElem (by omega)) (List.getElem?_eq_getElem (by omega))).1
  | _ =>
    simp only [absA] at hx
    obtain ⟨h1, h2, h3⟩ := abs_ok hp hv hx
    have h4 : v.cells.size = 1 := by cases v <;> simp_all [Value.oneCell', Value.cells]
    exact ⟨h1, by simp [SV.cells, h4]⟩
end
end Go.Proofs.Ytdblfocadcgmaaa.Ev
namespace Go.Proofs.Ytdblfocadcgmaaa.Ev
open Go
set_option linter.unusedSimpArgs false
set_option linter.unusedVariables false

section
variable {P : Program} {cx : Cx} {w w' : World} {S : Nat → Prop} {g g' : Gh} {h h' : Hp} {s : Env} {a : Act}

theorem get_split : ∀ (p : Path) (t c : T) (s : Step), t.get (p ++ [s]) = some c → ∃ u, t.get p = some u ∧ u.child s = some c := by
  intro p
  induction p with
  | nil => intro t c s hc; simp [T.get] at hc; exact ⟨t, rfl, hc⟩
  | cons s' p ih =>
    intro t c s hc
    simp only [List.cons_append, T.get, Option.bind_eq_some_iff] at hc
    obtain ⟨d, hd, hc⟩ := hc
    obtain ⟨u, h1, h2⟩ := ih d c s hc
    exact ⟨u, by simp [T.get, hd, h1], h2⟩

theorem Upd.fr {X : Addr} {v : Value} {M : Nat → Prop} {w0 : World} (hu : Upd w (w.setCell X v) X v) (hf : Fr M w0 w) (hX : M X.block ∨ w0.heap.size ≤ X.block) : Fr M w0 (w.setCell X v) :=
  ⟨hf.os, hf.tape, hf.output, by simpa using hf.size, fun b hb hm => by
    rw [hu.other b (by
      rintro rfl
      rcases hX with h | h
      · exact hm h
      · omega)]
    exact hf.block b hb hm⟩

/-- A cell of the block m gets a value that was taken over. -/
theorem put_ok {t u r r' : T} {v : Value} {kill : Kill} {h1 : Hp} {g1 : Gh} {Ft : Nat → Prop} {m : Name} {q : Path} {X : Addr} (A : Abs cx w S g h v t kill h1 g1 Ft) (hna : aggT t = false) (hone : v.oneCell' = true) (hm : h1 m = some r) (hu : r.rget q = some u) (hua : aggT u = false)
    (hX : rloc w r (g1 m).1 q = some X) (hr : r.rput t q = some r') :
    X.spot = none ∧ (∃ c, w.cell? X = some c) ∧ w.frozen? X = false ∧ ∃ g2, HpOk cx (w.setCell X v) S g2 (upd h1 m (some r')) ∧
      ∀ y x, SvOk w S g1 h1 y x → (y.und m q = false ∨ (Leaf u ∧ y.dep m = false)) → SvOk (w.setCell X v) S g2 (upd h1 m (some r')) y x := by
  have hp := A.hp
  have hq : q ≠ [] := by
    rintro rfl
    have := hp.own m r hm
    obtain ⟨rv, hrv⟩ : ∃ rv, (g1 m).1 = rv := ⟨_, rfl⟩
    rw [hrv] at this hX
    cases this with
    | ptr ts cs a G _ h1 h2 h3 h4 h5 =>
      simp [T.rget, T.body, T.get] at hu
      subst hu
      simp [aggT] at hua
    | _ => simp [rloc] at hX
  obtain ⟨X', val, Fu, f⟩ := rfo (hp.own m r hm) hu hua hq (hp.row m r hm)
  obtain rfl : X' = X := by have := f.loc; rw [hX] at this; simpa using this.symm
  refine ⟨f.spot, ⟨val, f.cell⟩, f.free, ?_⟩
  have hup : Upd w (w.setCell X' v) X' v := Upd.set w X' v f.spot
  have hXS : ¬ S X'.block := hp.Sapart m r _ hm f.inF
  have hXt : ¬ Ft X'.block := A.apart m r _ hm f.inF
  have how : Ow (w.setCell X' v) S t v Ft := A.own.frame (fun b hb => hup.other b (by rintro rfl; exact hXt hb)) (fun b hb => hup.other b (by rintro rfl; exact hXS hb))
  obtain ⟨e1, e2, e3⟩ := f.upd (w.setCell X' v) t v Ft r' hup hna hr how (fun b hb hF => absurd hb (A.apart m r b hm hF)) hXS
  let F2 : Nat → Prop := fun b => ((g1 m).2 b ∧ ¬ Fu b) ∨ Ft b
  let g2 : Gh := upd g1 m ((g1 m).1, F2)
  have hturn : Turn w (w.setCell X' v) g1 g2 h1 (upd h1 m (some r')) m r r' u q X' :=
    ⟨hm, by simp, fun n hn => upd_ne _ _ hn, by simp [g2], fun n hn => upd_ne _ _ hn, hu, f.loc, e2, e3, fun b hb => hup.other b hb, f.inF⟩
  have hg2 : ∀ n r0 b, upd h1 m (some r') n = some r0 → (g2 n).2 b → (∃ r1, h1 n = some r1 ∧ (g1 n).2 b) ∨ (n = m ∧ Ft b) := by
    intro n r0 b hr hb
    by_cases e : n = m
    · subst e
      simp only [g2, upd_same] at hb
      rcases hb with hb | hb
      · exact .inl ⟨r, hm, hb.1⟩
      · exact .inr ⟨rfl, hb⟩
    · rw [upd_ne _ _ e] at hr
      simp only [g2] at hb
      rw [upd_ne _ _ e] at hb
      exact .inl ⟨r0, hr, hb⟩
  refine ⟨g2, ⟨?_, ?_, ?_, ?_, ?_, ?_, ?_, ?_, hp.SR, hp.RS, root_upd hp.root hm (rput_isV hr) rfl⟩, ?_⟩
  · exact hup.fr hp.fr (hp.inM m r _ hm f.inF)
  · intro n r0 hr0
    by_cases e : n = m
    · subst e
      simp only [upd_same, Option.some.injEq] at hr0
      subst hr0
      simp only [g2, upd_same]
      exact e1
    · rw [upd_ne _ _ e] at hr0
      simp only [g2]
      rw [upd_ne _ _ e]
      exact (hp.own n r0 hr0).frame (fun b hb => hup.other b (by rintro rfl; exact hp.apart n m r0 r _ hr0 hm e hb f.inF)) (fun b hb => hup.other b (by rintro rfl; exact hXS hb))
  · intro n r0 hr0
    by_cases e : n = m
    · subst e
      simp only [upd_same, Option.some.injEq] at hr0
      subst hr0
      exact rput_na hr (hp.row n r hm) hna
    · rw [upd_ne _ _ e] at hr0
      exact hp.row n r0 hr0
  · intro n r0 b hr0 hb
    rcases hg2 n r0 b hr0 hb with ⟨r1, h1, h2⟩ | ⟨_, h2⟩
    · exact hp.inM n r1 b h1 h2
    · exact (A.ft b h2).1
  · intro n n' r0 r1 b hr0 hr1 hne hb hb'
    rcases hg2 n r0 b hr0 hb with ⟨r2, q1, q2⟩ | ⟨e1, q2⟩ <;> rcases hg2 n' r1 b hr1 hb' with ⟨r3, q3, q4⟩ | ⟨e2, q4⟩
    · exact hp.apart n n' r2 r3 b q1 q3 hne q2 q4
    · exact A.apart n r2 b q1 q2 q4
    · exact A.apart n' r3 b q3 q4 q2
    · exact hne (e1.trans e2.symm)
  · intro n r0 b hr0 hb
    rw [World.size_setCell]
    rcases hg2 n r0 b hr0 hb with ⟨r1, h1, h2⟩ | ⟨_, h2⟩
    · exact hp.lt n r1 b h1 h2
    · exact (A.ft b h2).2.1
  · intro n r0 b hr0 hb
    rcases hg2 n r0 b hr0 hb with ⟨r1, h1, h2⟩ | ⟨_, h2⟩
    · exact hp.Sapart n r1 b h1 h2
    · exact (A.ft b h2).2.2
  · intro b hb
    rw [World.size_setCell]
    exact hp.Slt b hb
  · intro y x hy hk
    exact hturn.keep hp hy hk

theorem run_store1 {X : Addr} {v : Value} (hone : v.oneCell' = true) (hc : ∃ c, w.cell? X = some c) (hf : w.frozen? X = false) : (store X v).run P w = .ok () (w.setCell X v) := by
  obtain ⟨c, hc⟩ := hc
  have := run_store P w X v .plain hone
  simp [this, hc, hf]

/-- The cell that an address names. -/
def tpath (p : Path) : Option Nat → Path
  | none => p
  | some o => p ++ [.f o]

theorem ptrA_inv {m : Name} {p : Path} {o : Nat} {v : Value} (hy : SvOk w S g h (.ptr m p (some o)) v) : ∃ r X, h m = some r ∧ rloc w r (g m).1 p = some X ∧ v = .pointer (some (X.add o)) := by
  cases hy with | ptrA _ _ _ r X hr hX => exact ⟨r, X, hr, hX, rfl⟩

theorem add_cancel {X Y : Addr} {o : Nat} (hx : X.spot = none) (hy : Y.spot = none) (e : X.add o = Y.add o) : X = Y := by
  rw [add_none hx, add_none hy] at e
  cases X; cases Y
  simp_all

/-- The place that an address names, behind a taking over. -/
theorem tp_place {m : Name} {p : Path} {o : Option Nat} {A : Addr} (hy : SvOk w S g h (.ptr m p o) (.pointer (some A))) {r u : T} (hm : h m = some r) (hu : r.rget (tpath p o) = some u) :
    rloc w r (g m).1 (tpath p o) = some A := by
  cases o with
  | none =>
    cases hy with | ptrC _ _ r0 _ hr hX =>
    rw [hm] at hr
    obtain rfl := by simpa using hr
    exact hX
  | some o =>
    cases hy with | ptrA _ _ _ r0 X hr hX =>
    rw [hm] at hr
    obtain rfl := by simpa using hr
    obtain ⟨d, hd, hc⟩ := get_split p r.body u (.f o) hu
    simp only [tpath]
    rw [rloc_snoc w hX hd]
    cases d <;> simp [T.child] at hc
    simp [loc, T.child, hc]

theorem st1_ok {tp x : SV} {v : Value} {m : Name} {p : Path} {o : Option Nat} {A : Addr} {q : Kill × Hp} (hp : HpOk cx w S g h) (htp : SvOk w S g h (.ptr m p o) (.pointer (some A))) (hv : SvOk w S g h x v)
    (hq : st1 h (.ptr m p o) m (tpath p o) x = some q) :
    (store A v).run P w = .ok () (w.setCell A v) ∧ v.oneCell' = true ∧ ∃ g2, HpOk cx (w.setCell A v) S g2 q.2 ∧ ∀ y u, SvOk w S g h y u → q.1 y = false → SvOk (w.setCell A v) S g2 q.2 y u := by
  simp only [st1, Option.bind_eq_some_iff] at hq
  obtain ⟨q1, hq1, hq⟩ := hq
  obtain ⟨⟨g1, Ft, a⟩, hna, hone⟩ := abs_ok hp hv hq1
  split at hq
  · simp at hq
  · rename_i hk
    simp only [Option.bind_eq_some_iff] at hq
    obtain ⟨r, hr, u, hu, hq⟩ := hq
    split at hq
    · simp at hq
    · rename_i hua
      simp only [Option.map_eq_some_iff] at hq
      obtain ⟨r', hr', rfl⟩ := hq
      have htp1 := a.keep _ _ htp (by simpa using hk)
      obtain ⟨z1, z2, z3, g2, z4, z5⟩ := put_ok a hna hone hr hu (by simpa using hua) (tp_place htp1 hr hu) hr'
      refine ⟨run_store1 hone z2 z3, hone, g2, z4, ?_⟩
      intro y x' hy hk'
      by_cases hsc : (q1.1.scalar && u.scalar) = true
      · simp only [hsc, if_true, Bool.or_eq_false_iff] at hk'
        simp only [Bool.and_eq_true] at hsc
        exact z5 y x' (a.keep y x' hy hk'.1) (.inr ⟨leaf_scalar hsc.2, hk'.2⟩)
      · simp only [hsc, Bool.false_eq_true, if_false, Bool.or_eq_false_iff] at hk'
        exact z5 y x' (a.keep y x' hy hk'.1) (.inl hk'.2)

theorem stL_ok {m : Name} {p : Path} {o0 : Nat} {Y : Addr} : ∀ (vs : List SV) (us : List Value) (w : World) (g : Gh) (h : Hp) (o : Nat) (q : Kill × Hp), HpOk cx w S g h → SvOk w S g h (.ptr m p (some o0)) (.pointer (some (Y.add o0))) → Y.spot = none →
    All2 (SvOk w S g h) vs us → stL h (.ptr m p (some o0)) m p o vs = some q → (∃ r, h m = some r ∧ rloc w r (g m).1 p = some Y) → ∀ i0, o0 + i0 = o →
    ∃ w' g2, (storeCells (Y.add o0) us i0).run P w = .ok () w' ∧ HpOk cx w' S g2 q.2 ∧ ∀ y u, SvOk w S g h y u → q.1 y = false → SvOk w' S g2 q.2 y u := by
  intro vs
  induction vs with
  | nil =>
    intro us w g h o q hp htp hsp hall hq hY i0 hi
    cases hall
    simp [stL] at hq
    subst hq
    exact ⟨w, g, by simp [storeCells], hp, fun y u hy _ => hy⟩
  | cons v vs ih =>
    intro us w g h o q hp htp hsp hall hq hY i0 hi
    cases hall with | @cons _ u _ us hv hall =>
    simp only [stL, Option.bind_eq_some_iff] at hq
    obtain ⟨q1, hq1, hq⟩ := hq
    split at hq
    · simp at hq
    · rename_i hany
      simp only [Bool.or_eq_true, not_or, Bool.not_eq_true] at hany
      simp only [Option.map_eq_some_iff] at hq
      obtain ⟨q2, hq2, rfl⟩ := hq
      obtain ⟨r, hr, hrY⟩ := hY
      have htp' : SvOk w S g h (.ptr m p (some o)) (.pointer (some (Y.add o))) := .ptrA m p o r Y hr hrY
      have hq1' : st1 h (.ptr m p (some o)) m (p ++ [.f o]) v = some q1 := by
        -- the address behind another cell of the same struct is taken away by the same things
        have : ∀ k : Kill, (∀ n q', k = SV.und n q' ∨ k = SV.nam n ∨ k = fun _ => false) → True := fun _ _ => trivial
        revert hq1
        simp only [st1]
        cases hv' : v.abs h with
        | none => simp
        | some a =>
          simp only [Option.bind_some]
          have hsame : a.2.1 (.ptr m p (some o)) = a.2.1 (.ptr m p (some o0)) := by
            unfold SV.abs at hv'
            split at hv'
            · split at hv'
              · simp at hv'; subst hv'; rfl
              · split at hv' <;> simp at hv'; subst hv'; rfl
            · simp at hv'; subst hv'; rfl
            · simp only [Option.bind_eq_some_iff, Option.map_eq_some_iff] at hv'
              obtain ⟨_, _, _, _, rfl⟩ := hv'
              rfl
            · simp only [Option.bind_eq_some_iff, Option.map_eq_some_iff] at hv'
              obtain ⟨_, _, _, _, _, _, _, _, rfl⟩ := hv'
              rfl
            · simp at hv'
          rw [hsame]
          exact id
      obtain ⟨z1, z2, g2, z3, z4⟩ := st1_ok (P := P) (o := some o) (tp := v) hp htp' hv hq1'
      have hall2 : All2 (SvOk (w.setCell (Y.add o) u) S g2 q1.2) vs us := by
        have hk : ∀ x, x ∈ vs → q1.1 x = false := by
          intro x hx
          have := hany.1
          simp only [List.any_eq_false, Bool.not_eq_true] at this
          exact this x hx
        clear hq2 ih hany hq1
        induction hall with
        | nil => exact .nil
        | cons hx _ ih2 => exact .cons (z4 _ _ hx (hk _ (by simp))) (ih2 (fun x hx => hk x (by simp [hx])))
      have htp2 := z4 _ _ htp hany.2
      have hY2 : ∃ r, q1.2 m = some r ∧ rloc (w.setCell (Y.add o) u) r (g2 m).1 p = some Y := by
        obtain ⟨r2, Y2, hr2, hY2, e⟩ := ptrA_inv htp2
        have e' : Y.add o0 = Y2.add o0 := by simpa using e
        obtain rfl := add_cancel hsp (z3.spot m r2 p Y2 hr2 hY2) e'
        exact ⟨r2, hr2, hY2⟩
      obtain ⟨w', g3, y1, y2, y3⟩ := ih us (w.setCell (Y.add o) u) g2 q1.2 (o + 1) q2 z3 htp2 hsp hall2 hq2 hY2 (i0 + 1) (by omega)
      refine ⟨w', g3, ?_, y2, ?_⟩
      · simp only [storeCells, Sem.run_bind]
        rw [add_add hsp, hi, z1]
        exact y1
      · intro y x hy hk
        simp only [Bool.or_eq_false_iff] at hk
        exact y3 y x (z4 y x hy hk.1) hk.2
end
end Go.Proofs.Ytdblfocadcgmaaa.Ev
namespace Go.Proofs.Ytdblfocadcgmaaa.Ev
open Go
set_option linter.unusedSimpArgs false
set_option linter.unusedVariables false

section
variable {P : Program} {cx : Cx} {w w' : World} {S : Nat → Prop} {g g' : Gh} {h h' : Hp} {s : Env} {a : Act}

/-- Several cells are stored in a row. -/
theorem run_storeCells : ∀ (vs : List Value) (w : World) (A : Addr) (i0 : Nat) (c : Array Value) (el : TypeId) (fr : Nat × Nat), A.spot = none → w.heap[A.block]? = some (.cells c el fr) → A.off + i0 + vs.length ≤ c.size →
    (∀ j, j < c.size → (decide (fr.1 ≤ j) && decide (j < fr.2)) = false) → (∀ v, v ∈ vs → v.oneCell' = true) →
    ∃ w' c', (storeCells A vs i0).run P w = .ok () w' ∧ w'.os = w.os ∧ w'.tape = w.tape ∧ w'.output = w.output ∧ w'.heap.size = w.heap.size ∧ (∀ b, b ≠ A.block → w'.heap[b]? = w.heap[b]?) ∧
      w'.heap[A.block]? = some (.cells c' el fr) ∧ c'.size = c.size ∧ ∀ j, c'[j]? = if A.off + i0 ≤ j ∧ j < A.off + i0 + vs.length then vs[j - (A.off + i0)]? else c[j]? := by
  intro vs
  induction vs with
  | nil =>
    intro w A i0 c el fr hs hb hl hf h1
    exact ⟨w, c, by simp [storeCells], rfl, rfl, rfl, rfl, fun _ _ => rfl, hb, rfl, fun j => by rw [if_neg (by simp only [List.length_nil]; omega)]⟩
  | cons v vs ih =>
    intro w A i0 c el fr hs hb hl hf h1
    simp only [List.length_cons] at hl
    have hX : (A.add i0) = ⟨A.block, A.off + i0, none⟩ := add_none hs i0
    have hcell : w.cell? (A.add i0) = some c[A.off + i0] := by
      rw [hX]
      simp only [World.cell?, hb]
      simp
    have hfree : w.frozen? (A.add i0) = false := by
      rw [hX]
      simp only [World.frozen?, hb]
      exact hf _ (by omega)
    have hst := run_store1 (P := P) (h1 v (by simp)) ⟨_, hcell⟩ hfree
    have hup := Upd.set w (A.add i0) v (add_spot hs i0)
    have hb' : (w.setCell (A.add i0) v).heap[A.block]? = some (.cells (c.setIfInBounds (A.off + i0) v) el fr) := by
      have := hup.here c el fr (by rw [add_block]; exact hb)
      rw [add_block] at this
      rw [this, hX]
    obtain ⟨w', c', e1, e2, e3, e4, e5, e6, e7, e8, e9⟩ := ih (w.setCell (A.add i0) v) A (i0 + 1) _ el fr hs hb' (by rw [Array.size_setIfInBounds]; omega) (by rw [Array.size_setIfInBounds]; exact hf) (fun v hv => h1 v (by simp [hv]))
    refine ⟨w', c', ?_, e2, e3, e4, by rw [e5]; simp, ?_, e7, by rw [e8]; simp, ?_⟩
    · simp only [storeCells, Sem.run_bind, hst, Result.andThen_ok]
      exact e1
    · intro b hb
      rw [e6 b hb]
      exact hup.other b (by rw [add_block]; exact hb)
    · intro j
      rw [e9 j]
      by_cases hj : j = A.off + i0
      · subst hj
        rw [if_neg (by omega), if_pos (by simp), Array.getElem?_setIfInBounds, if_pos rfl, if_pos (by omega)]
        simp
      · by_cases hj2 : A.off + (i0 + 1) ≤ j ∧ j < A.off + (i0 + 1) + vs.length
        · rw [if_pos hj2, if_pos (by simp; omega)]
          have : j - (A.off + i0) = (j - (A.off + (i0 + 1))) + 1 := by omega
          rw [this, List.getElem?_cons_succ]
        · rw [if_neg hj2, if_neg (by simp; omega), Array.getElem?_setIfInBounds, if_neg (fun h => hj h.symm)]

/-- What is appended: its cells, read where they lie. -/
structure Src (P : Program) (w : World) (sz n : Nat) (x : Value) (news : List Value) : Prop where
  len : (Builtin.lenOf x).run P w = .ok n w
  cells : ∀ w', (∀ A c, w.cell? A = some c → w'.cell? A = some c) → (Builtin.firstCells sz n x).run P w' = .ok news.toArray w'
  num : news.length = n * sz
  one : ∀ v, v ∈ news → v.oneCell' = true

/-- What an append leaves: a row of the old cells and the new ones. -/
theorem append_run {t t' ty e : TypeId} {sz : Nat} {z : Value} {b : Option Addr} {l C n : Nat} {x : Value} {news : List Value} (he : ElT P t e sz z) (ht' : ∃ d, P.underlying t' = some d ∧ ∀ k, d ≠ .int k) (hx : Src P w sz n x news)
    (hb : ∀ A, b = some A → Blk w A (C * sz)) (hb0 : b = none → l = 0 ∧ C = 0) (hl : l ≤ C) (olds : List Value) (hol : olds.length = l * sz) (holds : ∀ A, b = some A → ∀ j v, olds[j]? = some v → w.cell? (A.add j) = some v) (hmax : l + n < maxN) :
    ∃ w' b' C', (Builtin.append_ #[t, t'] ty #[.slice b l C, x]).run P w = .ok (.slice b' (l + n) C') w' ∧ w'.os = w.os ∧ w'.tape = w.tape ∧ w'.output = w.output ∧ w.heap.size ≤ w'.heap.size ∧
      (∀ k, k < w.heap.size → (∀ A, b = some A → k ≠ A.block) → w'.heap[k]? = w.heap[k]?) ∧ l + n ≤ C' ∧
      ((b' = none ∧ l + n = 0 ∧ C' = 0 ∧ w' = w) ∨ ∃ A', b' = some A' ∧ Blk w' A' (C' * sz) ∧ (∀ j v, (olds ++ news)[j]? = some v → w'.cell? (A'.add j) = some v) ∧ A'.block < w'.heap.size ∧ (b = some A' ∨ (w.heap.size ≤ A'.block))) := by
  obtain ⟨i, hi, hsz, hz, hby⟩ := he.ex
  obtain ⟨d, hd, hdi⟩ := ht'
  have hnz : (match d with | .int _ => true | _ => false) = false := by
    cases d
    case int k => exact absurd rfl (hdi k)
    all_goals rfl
  have hin : ∀ w, (Builtin.append_ #[t, t'] ty #[.slice b l C, x]).run P w = (Builtin.append_ #[t, t'] ty #[.slice b l C, x]).run P w := fun _ => rfl
  by_cases hroom : l + n ≤ C
  · cases b with
    | none =>
      obtain ⟨rfl, rfl⟩ := hb0 rfl
      have hn : n = 0 := by omega
      subst hn
      refine ⟨w, none, 0, ?_, rfl, rfl, rfl, Nat.le_refl _, fun _ _ _ => rfl, by omega, .inl ⟨rfl, rfl, rfl, rfl⟩⟩
      simp [Builtin.append_, run_underlying' he.sl, run_sizeOf' he.isz, run_underlying' hd, hnz, hx.len, hx.cells w (fun A c h => h)]
    | some A =>
      obtain ⟨hs, c, el, fr, hc, hsize, hf⟩ := hb A rfl
      have hmul : (l + n) * sz ≤ C * sz := Nat.mul_le_mul_right _ hroom
      rw [Nat.add_mul] at hmul
      obtain ⟨w', c', e1, e2, e3, e4, e5, e6, e7, e8, e9⟩ := run_storeCells (P := P) news w (A.add (l * sz)) 0 c el fr (add_spot hs _) (by rw [add_block]; exact hc) (by rw [add_none hs, hx.num]; simp; omega) hf hx.one
      refine ⟨w', some A, C, ?_, e2, e3, e4, by rw [e5]; exact Nat.le_refl _, ?_, hroom, .inr ⟨A, rfl, ⟨hs, c', el, fr, by rw [add_block] at e7; exact e7, by rw [e8]; exact hsize, by rw [e8]; exact hf⟩, ?_, ?_, .inl rfl⟩⟩
      · simp [Builtin.append_, run_underlying' he.sl, run_sizeOf' he.isz, run_underlying' hd, hnz, hx.len, hx.cells w (fun A c h => h), hroom, e1]
      · intro k hk hne
        exact e6 k (by rw [add_block]; exact hne A rfl)
      · intro j v hj
        rw [add_block] at e7
        rw [add_none hs]
        simp only [World.cell?, e7]
        have hoff : (A.add (l * sz)).off = A.off + l * sz := by rw [add_none hs]
        rw [hoff] at e9
        simp only [Option.isSome_none, Bool.false_eq_true, if_false]
        rw [e9]
        by_cases hjl : j < olds.length
        · rw [if_neg (by omega)]
          rw [List.getElem?_append_left hjl] at hj
          have := holds A rfl j v hj
          rw [add_none hs] at this
          simpa [World.cell?, hc] using this
        · rw [List.getElem?_append_right (by omega)] at hj
          have := get_lt hj
          rw [if_pos (by omega)]
          rw [← hj]
          congr 1
          omega
      · rw [e5]
        rcases Nat.lt_or_ge A.block w.heap.size with h | h
        · exact h
        · simp [Array.getElem?_eq_none h] at hc
  · have hneed : ¬ (l + n ≤ C) := hroom
    have h63 : ¬ (((l + n : Nat) : Int) > IntKind.i64.max ∧ ((false : Bool) = true ∨ i.bytes = 0)) := by
      simp only [maxN] at hmax
      simp [IntKind.max, IntKind.bits, IntKind.signed]
      omega
    have h48 : ¬ (Builtin.nextslicecap (l + n) C * i.bytes > 2 ^ 48) := by
      have h1 : Builtin.nextslicecap (l + n) C ≤ 2 * (l + n) := nextslicecap_le (by omega)
      have h2 : Builtin.nextslicecap (l + n) C * i.bytes ≤ 2 * (l + n) * 4096 := Nat.mul_le_mul h1 hby
      simp only [maxN] at hmax
      omega
    obtain ⟨cap, hcap, hge⟩ : ∃ cap, grownCap w (l + n) C e = cap ∧ l + n ≤ cap := ⟨_, rfl, grownCap_ge w _ _ _⟩
    have hch : (choose (.appendCap (l + n) C e)).run P w = .ok cap w.drew := by
      rw [← hcap]
      simp [choose, Sem.run, Question.forced, grownCap]
    have hold : (Builtin.firstCells sz l (.slice b l C)).run P w.drew = .ok olds.toArray w.drew := by
      cases b with
      | none =>
        obtain ⟨rfl, rfl⟩ := hb0 rfl
        have : olds = [] := by simpa using hol
        subst this
        simp [Builtin.firstCells]
      | some A => exact run_firstCells_some w.drew sz l A l C olds hol (fun j v hv => holds A rfl j v hv)
    have hnew := hx.cells w.drew (fun A c h => h)
    obtain ⟨cs, hcs⟩ : ∃ cs : Array Value, cs = olds.toArray ++ news.toArray ++ Builtin.zeroCells z.cells (cap - (l + n)) := ⟨_, rfl⟩
    have hzc : (Builtin.zeroCells z.cells (cap - (l + n))).size = (cap - (l + n)) * sz := by rw [size_zeroCells, he.zs]
    have hcsz : cs.size = cap * sz := by
      have hm : cap * sz = (l + n) * sz + (cap - (l + n)) * sz := by rw [← Nat.add_mul]; congr 1; omega
      rw [hcs]
      simp only [Array.size_append, List.size_toArray, hol, hx.num, hzc, hm, Nat.add_mul]
    refine ⟨w.drew.alloc (.cells cs e), some ⟨w.heap.size, 0, none⟩, cap, ?_, rfl, rfl, rfl, by simp, fun k hk _ => heap_alloc_old w.drew _ k hk, hge, .inr ⟨_, rfl, blk_new w.drew cs e _ (by rw [hcsz]; exact Nat.le_refl _), ?_, by simp, .inr (Nat.le_refl _)⟩⟩
    · have hti : (typeInfo e).run P w = .ok i w := by simp [typeInfo, hi]
      have hz0 : (zeroValue e).run P w.drew = .ok z w.drew := run_zero he
      have h63' : ¬ (9223372036854775807 < ((l : Int) + (n : Int)) ∧ i.bytes = 0) := by
        simp only [maxN] at hmax
        omega
      have h48' : ¬ (281474976710656 < Builtin.nextslicecap (l + n) C * i.bytes) := h48
      have hti' : (typeInfo e).run P w.drew = .ok i w.drew := by simp [typeInfo, hi]
      have hcap' : (Question.appendCap (l + n) C e).cut (w.tape w.drawn (.appendCap (l + n) C e)) = cap := hcap
      have hcs' : olds.toArray ++ (news.toArray ++ Builtin.zeroCells z.cells (cap - (l + n))) = cs := by rw [hcs, Array.append_assoc]
      have hforced : (Question.appendCap (l + n) C e).forced = false := rfl
      simp [Builtin.append_, run_underlying' he.sl, run_sizeOf' he.isz, run_underlying' hd, hnz, hx.len, hneed, hti, hti', h63', h48', hforced, hcap', hold, hnew, hz0, newRow, hcs', IntKind.max, IntKind.bits, IntKind.signed]
    · intro j v hj
      have : (w.drew.alloc (.cells cs e)).cell? ((⟨w.drew.heap.size, 0, none⟩ : Addr).add j) = cs[j]? := cell_new w.drew cs e j
      have hlt := get_lt hj
      rw [show ((⟨w.heap.size, 0, none⟩ : Addr)) = ⟨w.drew.heap.size, 0, none⟩ from rfl, this, hcs, Array.getElem?_append_left (by simpa using hlt)]
      simpa using hj
end
end Go.Proofs.Ytdblfocadcgmaaa.Ev
namespace Go.Proofs.Ytdblfocadcgmaaa.Ev
open Go
set_option linter.unusedSimpArgs false
set_option linter.unusedVariables false

section
variable {P : Program} {cx : Cx} {w w' : World} {S : Nat → Prop} {g g' : Gh} {h h' : Hp} {s : Env} {a : Act}

theorem HpOk.grow (hp : HpOk cx w S g h) (hfr : Fr cx.M cx.w0 w') (hF : ∀ n r b, h n = some r → (g n).2 b → w'.heap[b]? = w.heap[b]?) (hS : ∀ b, S b → w'.heap[b]? = w.heap[b]?) (hsz : w.heap.size ≤ w'.heap.size) : HpOk cx w' S g h :=
  ⟨hfr, fun n r hr => (hp.own n r hr).frame (fun b hb => hF n r b hr hb) hS, hp.row, hp.inM, hp.apart, fun n r b hr hb => Nat.lt_of_lt_of_le (hp.lt n r b hr hb) hsz, hp.Sapart, fun b hb => Nat.lt_of_lt_of_le (hp.Slt b hb) hsz, hp.SR, hp.RS, hp.root⟩

theorem HpOk.add {nm : Name} {t : T} {rv : Value} {F : Nat → Prop} (hp : HpOk cx w S g h) (hn : h nm = none) (ho : Ow w S t rv F) (hna : aggT t = false) (hF : ∀ b, F b → (cx.M b ∨ cx.w0.heap.size ≤ b) ∧ b < w.heap.size ∧ ¬ S b)
    (hap : ∀ n r b, h n = some r → (g n).2 b → ¬ F b) : HpOk cx w S (upd g nm (rv, F)) (upd h nm (some t)) := by
  have cs : ∀ n r, upd h nm (some t) n = some r → (n = nm ∧ t = r) ∨ (n ≠ nm ∧ h n = some r) := by
    intro n r hr
    by_cases e : n = nm
    · subst e; left; exact ⟨rfl, by simpa using hr⟩
    · rw [upd_ne _ _ e] at hr; exact .inr ⟨e, hr⟩
  have g1 : ∀ n, n ≠ nm → upd g nm (rv, F) n = g n := fun n e => upd_ne _ _ e
  refine ⟨hp.fr, ?_, ?_, ?_, ?_, ?_, ?_, hp.Slt, hp.SR, hp.RS, root_add hp.root hn⟩
  · intro n r hr
    rcases cs n r hr with ⟨rfl, rfl⟩ | ⟨e, hr⟩
    · simpa using ho
    · rw [g1 n e]; exact hp.own n r hr
  · intro n r hr
    rcases cs n r hr with ⟨rfl, rfl⟩ | ⟨e, hr⟩
    · exact hna
    · exact hp.row n r hr
  · intro n r b hr hb
    rcases cs n r hr with ⟨rfl, rfl⟩ | ⟨e, hr⟩
    · exact (hF b (by simpa using hb)).1
    · rw [g1 n e] at hb; exact hp.inM n r b hr hb
  · intro n m r r' b hr hr' hne hb hb'
    by_cases e : n = nm
    · by_cases e' : m = nm
      · exact hne (e.trans e'.symm)
      · rw [upd_ne _ _ e'] at hr'
        rw [g1 m e'] at hb'
        subst e
        exact hap m r' b hr' hb' (by simpa using hb)
    · rw [upd_ne _ _ e] at hr
      rw [g1 n e] at hb
      by_cases e' : m = nm
      · subst e'
        exact hap n r b hr hb (by simpa using hb')
      · rw [upd_ne _ _ e'] at hr'
        rw [g1 m e'] at hb'
        exact hp.apart n m r r' b hr hr' hne hb hb'
  · intro n r b hr hb
    rcases cs n r hr with ⟨rfl, rfl⟩ | ⟨e, hr⟩
    · exact (hF b (by simpa using hb)).2.1
    · rw [g1 n e] at hb; exact hp.lt n r b hr hb
  · intro n r b hr hb
    rcases cs n r hr with ⟨rfl, rfl⟩ | ⟨e, hr⟩
    · exact (hF b (by simpa using hb)).2.2
    · rw [g1 n e] at hb; exact hp.Sapart n r b hr hb

/-- Slots' values outlive what touches none of their blocks, and a new name. -/
theorem SvOk.add {nm : Name} {t : T} {rv : Value} {F : Nat → Prop} {y : SV} {v : Value} (hp : HpOk cx w S g h) (hy : SvOk w S g h y v) (hn : h nm = none) (hF : ∀ n r b, h n = some r → (g n).2 b → w'.heap[b]? = w.heap[b]?) (hS : ∀ b, S b → w'.heap[b]? = w.heap[b]?) :
    SvOk w' S (upd g nm (rv, F)) (upd h nm (some t)) y v :=
  hy.frame (fun b hb => hb) hS (fun n r hr => by
    have : n ≠ nm := by rintro rfl; rw [hn] at hr; simp at hr
    rw [upd_ne _ _ this]; exact hr) (fun n r hr => by
    have : n ≠ nm := by rintro rfl; rw [hn] at hr; simp at hr
    rw [upd_ne _ _ this]) hp.own hF

/-- What a writing operation leaves. -/
def WrOk (P : Program) (cx : Cx) (w : World) (S : Nat → Prop) (g : Gh) (h : Hp) (o : Oper) (a : Act) (q : SV × Kill × Hp) : Prop :=
  ∃ (w' : World) (g2 : Gh) (n : Next) (val : Value), (execOp a.eval o).run P w = .ok n w' ∧ ((n = .skip ∧ val = undef) ∨ n = .value val) ∧ HpOk cx w' S g2 q.2.2 ∧
    (∀ y u, SvOk w S g h y u → q.2.1 y = false → SvOk w' S g2 q.2.2 y u) ∧ SvOk w' S g2 q.2.2 q.1 val

theorem ints_olds {k : IntKind} {xs : List Int} {b : Option Addr} {l C : Nat} {F : Nat → Prop} (ho : Ow w S (.ints k xs) (.slice b l C) F) :
    l = xs.length ∧ (∀ A, b = some A → Blk w A (C * 1) ∧ F A.block) ∧ (b = none → l = 0 ∧ C = 0) ∧ l ≤ C ∧ ∀ A, b = some A → ∀ (j : Nat) v, (xs.map (Value.int k))[j]? = some v → w.cell? (A.add j) = some v := by
  cases ho with
  | ints0 => simp
  | ints _ _ A C _ h1 h2 h3 h4 =>
    refine ⟨rfl, fun A' e => by cases e; exact ⟨by rw [Nat.mul_one]; exact h2, h1⟩, by simp, h3, ?_⟩
    intro A' e j v hj
    cases e
    simp only [List.getElem?_map, Option.map_eq_some_iff] at hj
    obtain ⟨x, hx, rfl⟩ := hj
    exact h4 j x hx

theorem ints_out {k : IntKind} {zs : List Int} {b' : Option Addr} {C' : Nat} {F : Nat → Prop} (hC : zs.length ≤ C')
    (hb : (b' = none ∧ zs.length = 0 ∧ C' = 0) ∨ ∃ A', b' = some A' ∧ Blk w A' (C' * 1) ∧ (∀ (j : Nat) v, (zs.map (Value.int k))[j]? = some v → w.cell? (A'.add j) = some v) ∧ F A'.block) : Ow w S (.ints k zs) (.slice b' zs.length C') F := by
  rcases hb with ⟨rfl, h1, rfl⟩ | ⟨A', rfl, h1, h2, h3⟩
  · have : zs = [] := List.eq_nil_of_length_eq_zero h1
    subst this
    exact .ints0 k _
  · refine .ints k zs A' C' F h3 (by rw [Nat.mul_one] at h1; exact h1) hC ?_
    intro i n hi
    exact h2 i _ (by simp [hi])

/-- An append of numbers. -/
theorem append_ints {t t' ty e : TypeId} {z : Value} {k : IntKind} {xs ys : List Int} {v x : Value} {Ft : Nat → Prop} (he : ElT P t e 1 z) (ht' : ∃ d, P.underlying t' = some d ∧ ∀ k, d ≠ .int k) (ho : Ow w S (.ints k xs) v Ft) (hFt : ∀ b, Ft b → b < w.heap.size)
    (hx : Src P w 1 ys.length x (ys.map (Value.int k))) (hmax : xs.length + ys.length < maxN) (hS : ∀ b, S b → b < w.heap.size ∧ ¬ Ft b) :
    ∃ w' rv, (Builtin.append_ #[t, t'] ty #[v, x]).run P w = .ok rv w' ∧ Ow w' S (.ints k (xs ++ ys)) rv (fun b => Ft b ∨ (w.heap.size ≤ b ∧ b < w'.heap.size)) ∧ w'.os = w.os ∧ w'.tape = w.tape ∧ w'.output = w.output ∧ w.heap.size ≤ w'.heap.size ∧
      (∀ b, b < w.heap.size → ¬ Ft b → w'.heap[b]? = w.heap[b]?) ∧ SvOk w' S (fun _ => (rv, fun _ => False)) (fun _ => some (.ints k (xs ++ ys))) (.ref 0 [] 1 0 (xs.length + ys.length)) rv := by
  obtain ⟨b, l, C, rfl⟩ : ∃ b l C, v = .slice b l C := by cases ho <;> exact ⟨_, _, _, rfl⟩
  obtain ⟨rfl, q1, q2, q3, q4⟩ := ints_olds ho
  obtain ⟨w', b', C', e1, e2, e3, e4, e5, e6, e7, e8⟩ := append_run (P := P) (ty := ty) he ht' hx (fun A hA => (q1 A hA).1) q2 q3 (xs.map (Value.int k)) (by simp) q4 hmax
  have hw : ∀ b, b < w.heap.size → ¬ Ft b → w'.heap[b]? = w.heap[b]? := fun b hb hF => e6 b hb fun A hA hbA => hF (hbA ▸ (q1 A hA).2)
  have hcase : (b' = none ∧ (xs ++ ys).length = 0 ∧ C' = 0) ∨ ∃ A', b' = some A' ∧ Blk w' A' (C' * 1) ∧ (∀ (j : Nat) v, ((xs ++ ys).map (Value.int k))[j]? = some v → w'.cell? (A'.add j) = some v) ∧ (Ft A'.block ∨ (w.heap.size ≤ A'.block ∧ A'.block < w'.heap.size)) := by
    rcases e8 with ⟨h1, h2, h3, _⟩ | ⟨A', h1, h2, h3, h4, h5⟩
    · exact .inl ⟨h1, by simpa using h2, h3⟩
    · refine .inr ⟨A', h1, h2, fun j v hj => h3 j v (by simpa using hj), ?_⟩
      rcases h5 with h5 | h5
      · exact .inl (q1 A' h5).2
      · exact .inr ⟨h5, h4⟩
  have how := ints_out (w := w') (S := S) (k := k) (zs := xs ++ ys) (F := fun b => Ft b ∨ (w.heap.size ≤ b ∧ b < w'.heap.size)) (by simpa using e7) hcase
  rw [show (xs ++ ys).length = xs.length + ys.length by simp] at how
  refine ⟨w', _, e1, how, e2, e3, e4, e5, hw, ?_⟩
  have := SvOk.ref (w := w') (S := S) (g := fun _ => (Value.slice b' (xs.length + ys.length) C', fun _ => False)) (h := fun _ => some (.ints k (xs ++ ys))) 0 [] 1 0 (xs.length + ys.length) (.ints k (xs ++ ys)) b' (xs.length + ys.length) C' 0 rfl (by simp [T.rget, T.body, T.get, T.shp]) (by simp [hdr])
    (by rcases hcase with ⟨h, _⟩ | ⟨A', h, h2, _⟩
        · intro x hx; rw [h] at hx; simp at hx
        · intro x hx; rw [h] at hx; cases hx; exact h2.1)
    (by rcases hcase with ⟨_, h, _⟩ | ⟨A', h, _⟩
        · intro _; simpa using h
        · intro hn; rw [h] at hn; simp at hn) (by omega) e7 (by omega) (by simp)
  have e : b'.map (·.add 0) = b' := by cases b' <;> simp [Addr.add]
  rw [e] at this
  simpa using this

/-- Numbers that are read. -/
theorem readInts_ok {v : SV} {val : Value} {k : IntKind} {xs : List Int} (hp : HpOk cx w S g h) (hv : SvOk w S g h v val) (hr : readInts h v = some (k, xs)) :
    ∃ b C, val = .slice b xs.length C ∧ (b = none → xs = []) ∧ ∀ A, b = some A → ∀ (j : Nat) u, (xs.map (Value.int k))[j]? = some u → w.cell? (A.add j) = some u := by
  unfold readInts at hr
  split at hr
  · obtain ⟨rfl, rfl⟩ := by simpa using hr
    cases hv with | vw _ _ _ _ _ hv =>
    cases hv with
    | ints0 => exact ⟨none, 0, rfl, fun _ => rfl, by simp⟩
    | ints _ _ A C h1 h2 h3 h4 =>
      refine ⟨some A, C, rfl, by simp, ?_⟩
      intro A' e j u hj
      cases e
      simp only [List.getElem?_map, Option.map_eq_some_iff] at hj
      obtain ⟨x, hx, rfl⟩ := hj
      exact h4 j x hx
  · rename_i m p z off l
    simp only [Option.bind_eq_some_iff] at hr
    obtain ⟨u, ⟨r, hr0, hu⟩, t, ht, hr⟩ := hr
    obtain ⟨r', base, L, C, ad, h1, h2, h3, h4, h5, h6, h7, h8, h9, rfl⟩ := hv.shp_ref
    rw [h1] at hr0
    obtain rfl := by simpa using hr0
    simp only [hu, Option.bind_some] at h2
    -- the row where it lies
    have how : ∃ F, Ow w S u (.slice base L C) F := by
      cases p with
      | nil =>
        have := hp.own m r' h1
        simp only [hdr, Option.some.injEq] at h3
        rw [h3] at this
        have hb : r'.body = r' := by cases this <;> rfl
        obtain rfl : r' = u := by simpa [T.rget, T.get, hb] using hu
        exact ⟨_, this⟩
      | cons s p =>
        have hna : aggT u = false := by cases u <;> simp_all [T.shp, aggT]
        obtain ⟨X, vl, Fu, f⟩ := rfo (hp.own m r' h1) hu hna (by simp) (hp.row m r' h1)
        simp only [hdr, f.loc, Option.bind_some, f.cell, Option.some.injEq] at h3
        subst h3
        exact ⟨Fu, f.own⟩
    obtain ⟨F, how⟩ := how
    obtain ⟨q1, q2, q3⟩ := ow_sub how h2 ht h6 h8 h9
    split at hr
    · rename_i k' xs'
      obtain ⟨rfl, rfl⟩ := by simpa using hr
      obtain ⟨rfl, _, q5, q6, q7⟩ := ints_olds q1
      refine ⟨_, _, rfl, ?_, q7⟩
      intro e
      exact List.eq_nil_of_length_eq_zero (q5 e).1
    · simp at hr
  · simp at hr

theorem src_slice {n : Nat} {b : Option Addr} {C sz : Nat} {news : List Value} (hn : news.length = n * sz) (h0 : b = none → n = 0) (hc : ∀ A, b = some A → ∀ (j : Nat) u, news[j]? = some u → w.cell? (A.add j) = some u) (h1 : ∀ v, v ∈ news → v.oneCell' = true) : Src P w sz n (.slice b n C) news := by
  refine ⟨by simp [Builtin.lenOf], ?_, hn, h1⟩
  intro w' hw
  cases b with
  | none =>
    have := h0 rfl
    subst this
    have : news = [] := by simpa using hn
    subst this
    simp [Builtin.firstCells]
  | some A => exact run_firstCells_some w' sz n A n C news hn (fun j u hj => hw _ _ (hc A rfl j u hj))

theorem readBytes_ok {y : SV} {val : Value} {k : IntKind} {ys : List Int} (hp : HpOk cx w S g h) (hv : SvOk w S g h y val) (hr : readBytes h k y = some ys) : Src P w 1 ys.length val (ys.map (Value.int k)) := by
  have hints : ∀ q, readInts h y = some q → q.1 = k → q.2 = ys → Src P w 1 ys.length val (ys.map (Value.int k)) := by
    rintro ⟨k', xs⟩ hq rfl rfl
    obtain ⟨b, C, rfl, h0, hc⟩ := readInts_ok hp hv hq
    exact src_slice (by simp) (fun e => by rw [h0 e]; rfl) hc (by intro v hv; simp at hv; obtain ⟨x, _, rfl⟩ := hv; rfl)
  unfold readBytes at hr
  split at hr
  · rename_i ds b
    split at hr
    · rename_i hk
      subst hk
      obtain rfl := by simpa using hr
      have e := ok_str hv
      subst e
      refine ⟨by simp [Builtin.lenOf, size_mk], ?_, by simp, by intro v hv; simp at hv; obtain ⟨x, _, rfl⟩ := hv; rfl⟩
      intro w' _
      have he : (⟨⟨b⟩⟩ : ByteArray).extract 0 b.length = ⟨⟨b⟩⟩ := by
        apply ByteArray.ext
        simp [ByteArray.data_extract]
      simp only [Builtin.firstCells, List.length_map, he]
      simp
    · simp at hr
  · obtain ⟨hrow, rfl⟩ := by simpa using hr
    have e := ok_nil hv hrow
    subst e
    exact src_slice (by simp) (fun _ => rfl) (by simp) (by simp)
  · simp only [Option.bind_eq_some_iff] at hr
    obtain ⟨q, hq, hr⟩ := hr
    split at hr
    · rename_i hk
      exact hints q hq hk (by simpa using hr)
    · simp at hr
end
end Go.Proofs.Ytdblfocadcgmaaa.Ev
