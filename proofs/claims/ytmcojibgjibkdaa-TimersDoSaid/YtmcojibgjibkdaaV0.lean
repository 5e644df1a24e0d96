/-
  The value interpreter: a deterministic reading of the model's code. Slices that nobody writes are lists; variables of a call's own are a table; objects lie in a small heap.
-/
import Derived.Tactics
import Derived.Orders
import Derived.LoopN
import Derived.Laws.Cells
import Derived.Laws.Entries
import Derived.Laws.StructEq
import Derived.LaidEql
import Derived.Laws.AppendOwn
import Derived.Laws.CopyOwn
namespace Go.Vi
set_option linter.unusedVariables false

/-- what a slot of memory, an argument or a result can be -/
inductive VV where
  | int (k : IntKind) (n : Int)
  | bool (b : Bool)
  | str (s : ByteArray)
  | nil
  | ptr (o off : Nat)
  | elt (es : List VV) (i off : Nat)
  | nils
  | lst (es : List VV)
  | row (o off n sz : Nat)
  | map (o : Option Nat)
  | func (f : FuncId) (first captured : List VV)
  | nilf
  | iface (t : TypeId) (v : VV)
  | nili
  | agg (cs : List VV)
  | undef
  deriving Inhabited

def VV.cells : VV → List VV
  | .agg cs => cs
  | v => [v]

def VV.one : VV → Bool
  | .agg _ => false
  | _ => true

/-- what a temporary holds: besides values: full: a slice whose capacity is its length; own: a slice of a row of the call's own; rel: the address of a cell of such a row;
    loc: the address of a cell of a variable of its own; lsl: a slice of an array of its own; st: a struct with such cells; several results -/
inductive SV where
  | val (v : VV)
  | full (es : List VV)
  | own (d g off n sz : Nat)
  | rel (d g i off sz : Nat)
  | loc (d g off : Nat)
  | lsl (d g off n sz : Nat) (ag : Bool)
  | st (cs : List SV)
  | tup (l : List SV)
  deriving Inhabited

/-- the table of a call's own memory, a row for each place of the code that makes some: a variable (cells); a row of elements, of so many cells each, of which others may know -/
inductive TC where
  | gone (g : Nat)
  | box (g : Nat) (cs : List SV) (wr : Bool)
  | row (g : Nat) (es : List VV) (sz : Nat) (lk : Bool)
  deriving Inhabited

def TC.gen : TC → Nat
  | .gone g => g
  | .box g _ _ => g
  | .row g _ _ _ => g

structure Fr where
  slots : List SV
  tab : List TC

inductive Obj where
  | cells (cs : List VV)
  | row (es : List VV) (sz : Nat)
  | map (es : List (VV × VV × Nat)) (clock : Nat)

structure Hp where
  next : Nat
  objs : Nat → Option Obj

def Hp.empty : Hp := ⟨0, fun _ => none⟩

/-- a new object -/
def Hp.put (H : Hp) (x : Obj) : Hp := ⟨H.next + 1, fun i => if i = H.next then some x else H.objs i⟩
/-- an object becomes another one, or is no more -/
def Hp.set (H : Hp) (o : Nat) (x : Option Obj) : Hp := ⟨H.next, fun i => if i = o then x else H.objs i⟩

/-- no object at hand; the names go on -/
def Hp.bare (n : Nat) : Hp := ⟨n, fun _ => none⟩

/-- an argument, or a result: own: a row that nobody else knows; box: the address of a cell of a variable that is lent; st: a struct with rows that nobody else knows -/
inductive RV where
  | val (v : VV)
  | full (es : List VV)
  | own (es : List VV) (sz : Nat)
  | box (cs : List VV) (off : Nat)
  | st (cs : List RV)
  deriving Inhabited

def ofScalar : Value → Option VV
  | .int k n => some (.int k n)
  | .bool b => some (.bool b)
  | .string s => some (.str s)
  | .pointer none => some .nil
  | .slice none 0 0 => some .nils
  | .map none => some (.map none)
  | .nilFunc => some .nilf
  | .nilIface => some .nili
  | _ => none

def ofConst : Value → Option VV
  | .agg cs => (cs.toList.mapM ofScalar).map .agg
  | .tuple vs => if vs.size = 0 then some .undef else none
  | .func (.func f) x y => if x.size = 0 ∧ y.size = 0 then some (.func f [] []) else none
  | v => ofScalar v

def ev (slots : List SV) : Operand → Option SV
  | .tmp t => slots[t]?
  | .const v => (ofConst v).map .val
  | .func f => some (.val (.func f [] []))
  | .global _ => none

def out : SV → Option VV
  | .val v => some v
  | .full es => some (.lst es)
  | _ => none

section
variable (P : Program)

def isAggT (t : TypeId) : Option Bool :=
  match P.underlying t with
  | some (.struct _) | some (.array _ _) => some true
  | some _ => some false
  | none => none

def sizeT (t : TypeId) : Option Nat := (P.info? t).map (·.size)

def zeroT (t : TypeId) : Option VV := ((P.info? t).bind (·.zero)).bind ofConst

/-- the value of a type in some cells -/
def ldV (t : TypeId) (cs : List VV) (off : Nat) : Option VV :=
  match isAggT P t, sizeT P t with
  | some true, some n => if off + n ≤ cs.length then some (.agg ((cs.drop off).take n)) else none
  | some false, some _ => cs[off]?
  | _, _ => none

/-- a struct of some cells -/
def stOf (cs : List SV) : SV :=
  match cs.mapM out with
  | some vs => .val (.agg vs)
  | none => .st cs

def ldS (t : TypeId) (cs : List SV) (off : Nat) : Option SV :=
  match isAggT P t, sizeT P t with
  | some true, some n => if off + n ≤ cs.length then some (stOf ((cs.drop off).take n)) else none
  | some false, some _ => cs[off]?
  | _, _ => none

/-- the cells of what is stored -/
def svCells : SV → List SV
  | .val (.agg cs) => cs.map .val
  | .st cs => cs
  | v => [v]

def oneCell : SV → Bool
  | .val (.agg _) => false
  | .st _ => false
  | .val .undef => false
  | .tup _ => false
  | _ => true

def putCells {α : Type} (cs : List α) (off : Nat) : List α → List α
  | [] => cs
  | v :: r => putCells (cs.set off v) (off + 1) r

def fieldsOf (t : TypeId) : Option (List Field) :=
  match P.underlying t with
  | some (.struct fs) => some fs.toList
  | _ => none

def elemOfSlice (t : TypeId) : Option TypeId :=
  match P.underlying t with
  | some (.slice e) => some e
  | _ => none

def fillE (es : List VV) (size : Nat) : List (Nat × VV) → Option (List VV)
  | [] => some es
  | (i, v) :: r => if v.cells.length = size ∧ i < es.length then fillE (es.set i v) size r else none

inductive Lf where
  | bool | int | str

/-- are two cells alike: numbers, bools, strings -/
def eqCell : Lf → VV → VV → Option Bool
  | .int, .int k a, .int k' b => if k = k' then some (a == b) else none
  | .bool, .bool a, .bool b => some (a == b)
  | .str, .str a, .str b => some (a.toList == b.toList)
  | _, _, _ => none

def eqCells : List Lf → List VV → List VV → Option Bool
  | [], [], [] => some true
  | t :: ts, x :: xs, y :: ys =>
    match eqCell t x y, eqCells ts xs ys with
    | some a, some b => some (a && b)
    | _, _ => none
  | _, _, _ => none

/-- a type of numbers, bools and strings alone (a struct of such, and so on): its cells -/
def flatT : Nat → TypeId → Option (List Lf)
  | 0, _ => none
  | d + 1, t =>
    match P.underlying t with
    | some .bool => if sizeT P t = some 1 then some [.bool] else none
    | some (.int _) => if sizeT P t = some 1 then some [.int] else none
    | some .string => if sizeT P t = some 1 then some [.str] else none
    | some (.struct fs) => if P.stoodInHeld t then none else flatFs d fs.toList 0
    | _ => none
 where
  flatFs : Nat → List Field → Nat → Option (List Lf)
    | 0, _, _ => none
    | d + 1, [], off => some []
    | d + 1, f :: r, off =>
      if f.name = "_" ∨ f.offset ≠ off then none
      else match flatT d f.type with
        | some l =>
          if sizeT P f.type = some l.length then
            match flatFs d r (off + l.length) with
            | some l' => some (l ++ l')
            | none => none
          else none
        | none => none

def intBin (op : BinOp) (k : IntKind) (a b : Int) : Option VV :=
  match op with
  | .add => some (.int k (k.wrap (a + b)))
  | .sub => some (.int k (k.wrap (a - b)))
  | .mul => some (.int k (k.wrap (a * b)))
  | .quo => if b = 0 then none else some (.int k (k.wrap (a.tdiv b)))
  | .rem => if b = 0 then none else some (.int k (a.tmod b))
  | .and => some (.int k (k.wrap (BitVec.ofInt k.bits a &&& BitVec.ofInt k.bits b).toNat))
  | .or => some (.int k (k.wrap (BitVec.ofInt k.bits a ||| BitVec.ofInt k.bits b).toNat))
  | .xor => some (.int k (k.wrap (BitVec.ofInt k.bits a ^^^ BitVec.ofInt k.bits b).toNat))
  | .andNot => some (.int k (k.wrap (BitVec.ofInt k.bits a &&& ~~~ BitVec.ofInt k.bits b).toNat))
  | .eql => some (.bool (a == b))
  | .neq => some (.bool (a != b))
  | .lss => some (.bool (decide (a < b)))
  | .leq => some (.bool (decide (a ≤ b)))
  | .gtr => some (.bool (decide (a > b)))
  | .geq => some (.bool (decide (a ≥ b)))
  | _ => none

def strBin (op : BinOp) (a b : ByteArray) : Option VV :=
  match op with
  | .add => if a.size + b.size ≤ 140737488355328 then some (.str (a ++ b)) else none
  | .eql => some (.bool (a.toList == b.toList))
  | .neq => some (.bool !(a.toList == b.toList))
  | .lss => some (.bool (Op.bytesLess a.toList b.toList))
  | .leq => some (.bool (Op.bytesLess a.toList b.toList || a.toList == b.toList))
  | .gtr => some (.bool !(Op.bytesLess a.toList b.toList || a.toList == b.toList))
  | .geq => some (.bool !(Op.bytesLess a.toList b.toList))
  | _ => none

/-- an address, a slice, a function: is it nil? -/
def nilP : SV → Option Bool
  | .val .nil => some true
  | .val (.ptr _ _) | .val (.elt _ _ _) | .loc _ _ _ | .rel _ _ _ _ _ => some false
  | _ => none
def nilS : SV → Option Bool
  | .val .nils => some true
  | .val (.lst _) | .val (.row _ _ _ _) | .full _ | .own _ _ _ _ _ | .lsl _ _ _ _ _ _ => some false
  | _ => none
def nilF : SV → Option Bool
  | .val .nilf => some true
  | .val (.func _ _ _) => some false
  | _ => none
def nilM : SV → Option Bool
  | .val (.map none) => some true
  | .val (.map (some _)) => some false
  | _ => none
def nilEq : Option Bool → Option Bool → Option Bool
  | some true, some b => some b
  | some b, some true => some b
  | _, _ => none

/-- '==' of what is neither two numbers nor two strings -/
def eqOf (t : TypeId) (x y : SV) : Option Bool :=
  match P.underlying t with
  | some .bool => match x, y with
    | .val (.bool a), .val (.bool b) => some (a == b)
    | _, _ => none
  | some (.struct _) => match x, y with
    | .val (.agg a), .val (.agg b) =>
      if P.eqGuardType P.depth t then none else
      match flatT P 100 t with
      | some l => eqCells l a b
      | none => none
    | _, _ => none
  | some (.pointer _) => nilEq (nilP x) (nilP y)
  | some (.slice _) => nilEq (nilS x) (nilS y)
  | some (.func _ _ _) => nilEq (nilF x) (nilF y)
  | some (.map _ _) => nilEq (nilM x) (nilM y)
  | _ => none

def binV (op : BinOp) (t : TypeId) (x y : SV) : Option VV :=
  match x, y with
  | .val (.int k a), .val (.int k' b) =>
    match op with
    | .shl => if b < 0 then none else some (.int k (k.wrap (a * 2 ^ (min b.toNat k.bits))))
    | .shr => if b < 0 then none else some (.int k (a.fdiv (2 ^ (min b.toNat k.bits))))
    | _ => if k = k' then intBin op k a b else none
  | .val (.str a), .val (.str b) => strBin op a b
  | x, y =>
    match op with
    | .eql => (eqOf P t x y).map .bool
    | .neq => (eqOf P t x y).map fun b => .bool !b
    | _ => none

def unV (op : UnOp) : VV → Option VV
  | .int k n => match op with
    | .neg => some (.int k (k.wrap (0 - n)))
    | .xor => some (.int k (k.wrap (BitVec.ofInt k.bits (if k.signed then -1 else k.max) ^^^ BitVec.ofInt k.bits n).toNat))
    | _ => none
  | .bool b => match op with
    | .not => some (.bool !b)
    | _ => none
  | _ => none

def convV (src dst : TypeId) (v : VV) : Option VV :=
  match P.underlying src, P.underlying dst, v with
  | some _, some (.int k), .int _ n => some (.int k (k.wrap n))
  | some _, some .string, .str s => some (.str s)
  | _, _, _ => none

def fieldAddrV (s : TypeId) (x : SV) (f : Nat) : Option SV := do
  let fs ← fieldsOf P s
  let fd ← fs[f]?
  let n ← sizeT P fd.type
  if n = 0 then none else
  match x with
  | .loc d g off => some (.loc d g (off + fd.offset))
  | .rel d g i off sz => some (.rel d g i (off + fd.offset) sz)
  | .val (.elt es i off) => some (.val (.elt es i (off + fd.offset)))
  | .val (.ptr o off) => some (.val (.ptr o (off + fd.offset)))
  | _ => none

def fieldV (s : TypeId) (x : SV) (f : Nat) : Option SV := do
  let fs ← fieldsOf P s
  let fd ← fs[f]?
  match x with
  | .val (.agg cs) => (ldV P fd.type cs fd.offset).map .val
  | .st cs => ldS P fd.type cs fd.offset
  | _ => none

def intOfV : SV → Option Int
  | .val (.int _ n) => some n
  | _ => none

def indexAddrV (t : TypeId) (x i : SV) : Option SV := do
  let n ← intOfV i
  match P.underlying t with
  | some (.slice e) => do
    let sz ← sizeT P e
    match x with
    | .val (.lst es) | .full es =>
      if 0 ≤ n then
        match es[n.toNat]? with
        | some e => if e.cells.length = sz then some (.val (.elt es n.toNat 0)) else none
        | none => none
      else none
    | .own d g off len s => if 0 ≤ n ∧ n < len ∧ s = sz then some (.rel d g (off + n.toNat) 0 sz) else none
    | .lsl d g off len s _ => if 0 ≤ n ∧ n < len ∧ s = sz then some (.loc d g (off + n.toNat * sz)) else none
    | .val (.row o off len s) => if 0 ≤ n ∧ n < len ∧ s = sz then some (.val (.ptr o (off + n.toNat * sz))) else none
    | _ => none
  | some (.array len e) => do
    let sz ← sizeT P e
    if 0 ≤ n ∧ n < len then
      match x with
      | .loc d g off => some (.loc d g (off + n.toNat * sz))
      | .val (.ptr o off) => some (.val (.ptr o (off + n.toNat * sz)))
      | _ => none
    else none
  | _ => none

def indexV (t : TypeId) (x i : SV) : Option SV := do
  let n ← intOfV i
  match P.underlying t, x with
  | some .string, .val (.str s) =>
    match (if 0 ≤ n then s[n.toNat]? else none) with
    | some b => some (.val (.int .u8 b.toNat))
    | none => none
  | some (.array len e), .val (.agg cs) => do
    let sz ← sizeT P e
    if 0 ≤ n ∧ n < len then (ldV P e cs (n.toNat * sz)).map .val else none
  | _, _ => none

/-- a bound of a cut: at most y; d, if it isn't told -/
def boundV (y d : Nat) : Option SV → Option Nat
  | none => some d
  | some v =>
    match intOfV v with
    | some n => if 0 ≤ n ∧ n ≤ y then some n.toNat else none
    | none => none

def cutAt (len : Nat) (lo hi : Option SV) : Option (Nat × Nat) :=
  match boundV len len hi with
  | some h =>
    match boundV h 0 lo with
    | some l => some (l, h)
    | none => none
  | none => none

def opt (ρ : Operand → Option SV) : Option Operand → Option (Option SV)
  | none => some none
  | some x => (ρ x).map some

def sliceV (t : TypeId) (x : SV) (lo hi mx : Option SV) : Option SV :=
  match P.underlying t, x, mx with
  | some .string, .val (.str s), none =>
    match cutAt s.size lo hi with
    | some (l, h) => some (.val (.str (s.extract l h)))
    | none => none
  | some (.slice e), .val .nils, none =>
    match cutAt 0 lo hi, sizeT P e with
    | some (l, h), some _ => some (.val .nils)
    | _, _ => none
  | some (.slice e), .own d g off len sz, none =>
    if sizeT P e = some sz then
      match cutAt len lo hi with
      | some (l, h) => some (.own d g (off + l) (h - l) sz)
      | none => none
    else none
  | some (.slice e), .val (.lst es), m | some (.slice e), .full es, m =>
    match sizeT P e, cutAt es.length lo hi with
    | some sz, some (l, h) =>
      if es.all fun x => x.cells.length == sz then
        match m with
        | some m => if intOfV m = some (h : Int) ∧ hi.isSome then some (.full ((es.take h).drop l)) else none
        | none => some (.val (.lst ((es.take h).drop l)))
      else none
    | _, _ => none
  | some (.slice e), .val (.row o off len sz), none =>
    if sizeT P e = some sz then
      match cutAt len lo hi with
      | some (l, h) => some (.val (.row o (off + l * sz) (h - l) sz))
      | none => none
    else none
  | some (.array len e), .loc d g off, none =>
    match sizeT P e, isAggT P e, cutAt len lo hi with
    | some sz, some ag, some (l, h) => some (.lsl d g (off + l * sz) (h - l) sz ag)
    | _, _, _ => none
  | _, _, _ => none

def lenV : SV → Option Nat
  | .val (.str s) => some s.size
  | .val .nils => some 0
  | .val (.lst es) | .full es => some es.length
  | .own _ _ _ n _ => some n
  | .lsl _ _ _ n _ _ => some n
  | .val (.row _ _ n _) => some n
  | _ => none

def lenOk (t : TypeId) (x : SV) : Bool :=
  match P.underlying t, x with
  | some .string, .val (.str _) => true
  | some (.slice _), .val (.str _) => false
  | some (.slice _), _ => true
  | _, _ => false

def minV : VV → VV → Option VV
  | .int k a, .int _ b => some (.int k (if b < a then b else a))
  | _, _ => none
def maxV : VV → VV → Option VV
  | .int k a, .int _ b => some (.int k (if b > a then b else a))
  | _, _ => none

def foldV (f : VV → VV → Option VV) : List VV → Option VV
  | [] => none
  | x :: r => r.foldlM f x

/-- what an operation that looks at its operands alone comes to -/
def pureV (ρ : Operand → Option SV) : Op → Option SV
  | .move x | .assign x => ρ x
  | .pick c a b =>
    match ρ c with
    | some (.val (.bool t)) => if t then ρ a else ρ b
    | _ => none
  | .nilCheck x =>
    match ρ x with
    | some (.val .nil) | some (.val .nili) | some (.val .nilf) => none
    | v => v
  | .binOp op t x y _ => do
    let a ← ρ x
    let b ← ρ y
    let v ← binV P op t a b
    some (.val v)
  | .unOp op _ x => do
    let a ← ρ x
    let v ← out a
    let u ← unV op v
    some (.val u)
  | .convert s d x => do
    let a ← ρ x
    let v ← out a
    let u ← convV P s d v
    some (.val u)
  | .fieldAddr s x f => do
    let a ← ρ x
    fieldAddrV P s a f
  | .field s x f => do
    let a ← ρ x
    fieldV P s a f
  | .indexAddr t x i => do
    let a ← ρ x
    let j ← ρ i
    indexAddrV P t a j
  | .index t x i => do
    let a ← ρ x
    let j ← ρ i
    indexV P t a j
  | .extract t i =>
    match ρ t with
    | some (.tup l) => l[i]?
    | _ => none
  | .slice t x lo hi mx => do
    let a ← ρ x
    let l ← opt ρ lo
    let h ← opt ρ hi
    let m ← opt ρ mx
    sliceV P t a l h m
  | .load t x =>
    match ρ x with
    | some (.val (.elt es i off)) => do
      let e ← es[i]?
      (ldV P t e.cells off).map .val
    | _ => none
  | .call c =>
    match c.callee, c.args.toList, c.argTypes.toList with
    | .builtin .len, [x], [t] => do
      let a ← ρ x
      if lenOk P t a then (lenV a).map fun n => .val (.int .i64 n) else none
    | .builtin .min, l, _ => do
      let vs ← l.mapM fun x => (ρ x).bind out
      let v ← foldV minV vs
      some (.val v)
    | .builtin .max, l, _ => do
      let vs ← l.mapM fun x => (ρ x).bind out
      let v ← foldV maxV vs
      some (.val v)
    | _, _, _ => none
  | _ => none

end
end Go.Vi

/-
  The value interpreter: what an operation does to a call's own table and to the heap; code; calls.
-/
namespace Go.Vi
set_option linter.unusedVariables false

/-- what may be said of a program's functions ahead of a run: which of them touch no object -/
structure Pol where
  pure : FuncId → Bool
  /-- how a parameter is handed over: 0: to be read; 1: given away; 2: lent, and given back -/
  mode : FuncId → Nat → Nat
  /-- spare rows of the table, for the rows in what a call hands back -/
  keys : FuncId → Nat → List Nat
  /-- functions whose drawn regions are looked at while they run (of the others it is known ahead that they are calm) -/
  dyn : FuncId → Bool
  /-- functions whose answers are told otherwise -/
  ext : FuncId → Option (List RV → Hp → Option (List RV × List RV))
  /-- functions whose results are handed over as what nobody writes any more -/
  frz : FuncId → Bool

/-- calls that leave the heap as it is: of functions that see no object, or whose answers are told otherwise -/
def keepsHeap (pol : Pol) (f : FuncId) : Bool := pol.pure f || (pol.ext f).isSome

abbrev CallV := FuncId → List RV → Hp → Option (List RV × List RV × Hp)

section
variable (P : Program)

/-- a box of the call's own as a list of elements: 'ag': elements are structs -/
def chunks (cs : List VV) (sz : Nat) : Nat → List VV
  | 0 => []
  | n + 1 => .agg (cs.take sz) :: chunks (cs.drop sz) sz n

def tget (tab : List TC) (d : Nat) : TC := tab.getD d (.gone 0)

/-- what others see of a value, and how the table stands if they keep it: what is theirs, too, is written no more -/
def outT1 (tab : List TC) : SV → Option (VV × List TC)
  | .own d g off n s =>
    match tget tab d with
    | .row g' es sz _ => if g' = g ∧ s = sz ∧ off + n ≤ es.length then some (.lst ((es.drop off).take n), tab.set d (.row g es sz true)) else none
    | _ => none
  | .lsl d g off n sz ag =>
    match tget tab d with
    | .box g' cs wr =>
      if g' = g ∧ off + n * sz ≤ cs.length ∧ 0 < sz then
        match ((cs.drop off).take (n * sz)).mapM out with
        | some vs =>
          if ag then some (.lst (chunks vs sz n), tab.set d (.box g cs false))
          else if sz = 1 ∧ vs.all VV.one then some (.lst vs, tab.set d (.box g cs false)) else none
        | none => none
      else none
    | _ => none
  | .loc d g off =>
    match tget tab d with
    | .box g' cs wr =>
      if g' = g then
        match cs.mapM out with
        | some vs => some (.elt [.agg vs] 0 off, tab.set d (.box g cs false))
        | none => none
      else none
    | _ => none
  | .rel d g i off s =>
    match tget tab d with
    | .row g' es sz _ => if g' = g ∧ s = sz then some (.elt es i off, tab.set d (.row g es sz true)) else none
    | _ => none
  | v => (out v).map fun u => (u, tab)

def outAll1 (tab : List TC) : List SV → Option (List VV × List TC)
  | [] => some ([], tab)
  | v :: r =>
    match outT1 tab v with
    | some (u, tab') =>
      match outAll1 tab' r with
      | some (us, tab'') => some (u :: us, tab'')
      | none => none
    | none => none

def outT (tab : List TC) : SV → Option (VV × List TC)
  | .st cs => (outAll1 tab cs).map fun (vs, t) => (.agg vs, t)
  | v => outT1 tab v

def outAll (tab : List TC) : List SV → Option (List VV × List TC)
  | [] => some ([], tab)
  | v :: r =>
    match outT tab v with
    | some (u, tab') =>
      match outAll tab' r with
      | some (us, tab'') => some (u :: us, tab'')
      | none => none
    | none => none

/-- what was lent -/
inductive Lent where
  | row (d g : Nat)
  | box (d g : Nat)

/-- arguments -/
def outArg (m : Nat) (tab : List TC) (v : SV) : Option (RV × List TC × List Lent) :=
  match m, v with
  | 1, .own d g off n s =>
    match tget tab d with
    | .row g' es sz false => if g' = g ∧ s = sz ∧ off + n ≤ es.length then some (.own ((es.drop off).take n) sz, tab.set d (.gone g), []) else none
    | _ => none
  | 2, .own d g off n s =>
    match tget tab d with
    | .row g' es sz false => if g' = g ∧ s = sz ∧ off = 0 ∧ n = es.length then some (.own es sz, tab, [.row d g]) else none
    | _ => none
  | 2, .loc d g off =>
    match tget tab d with
    | .box g' cs true =>
      if g' = g then
        match outAll tab cs with
        | some (vs, tab') => some (.box vs off, tab', [.box d g])
        | none => none
      else none
    | _ => none
  | 1, .full es => some (.full es, tab, [])
  | _, v => (outT tab v).map fun (u, t) => (.val u, t, [])

def outArgs (mode : Nat → Nat) (tab : List TC) : Nat → List SV → Option (List RV × List TC × List Lent)
  | _, [] => some ([], tab, [])
  | i, v :: r =>
    match outArg (mode i) tab v with
    | some (u, tab', l) =>
      match outArgs mode tab' (i + 1) r with
      | some (us, tab'', l') => some (u :: us, tab'', l ++ l')
      | none => none
    | none => none

def Lent.key : Lent → Nat
  | .row d _ => d
  | .box d _ => d

/-- what was lent is still nobody else's -/
def stillOwn (tab : List TC) : Lent → Bool
  | .row d g => match tget tab d with | .row g' _ _ false => g' == g | _ => false
  | .box d g => match tget tab d with | .box g' _ true => g' == g | _ => false

/-- what was lent comes back -/
def backV (tab : List TC) : List Lent → List RV → Option (List TC)
  | [], [] => some tab
  | .row d g :: l, .own es sz :: r =>
    match tget tab d with
    | .row g' es0 sz0 false => if g' = g ∧ sz = sz0 ∧ es.length = es0.length then backV (tab.set d (.row g es sz false)) l r else none
    | _ => none
  | .box d g :: l, .box cs _ :: r =>
    match tget tab d with
    | .box g' cs0 true => if g' = g ∧ cs.length = cs0.length then backV (tab.set d (.box g (cs.map .val) true)) l r else none
    | _ => none
  | _, _ => none

def isOwnS : SV → Bool
  | .own _ _ _ _ _ => true
  | _ => false

/-- nothing is given away -/
def keepsAll (mode : Nat → Nat) : Nat → List SV → Bool
  | _, [] => true
  | i, v :: r => !(mode i == 1 && isOwnS v) && keepsAll mode (i + 1) r

def nodupN : List Nat → Bool
  | [] => true
  | a :: r => !r.contains a && nodupN r

def keyOf1 : SV → List Nat
  | .lsl d _ _ _ _ _ | .loc d _ _ | .own d _ _ _ _ | .rel d _ _ _ _ => [d]
  | _ => []

def keyOf : SV → List Nat
  | .st cs => cs.flatMap keyOf1
  | v => keyOf1 v

def flatV : VV → Bool
  | .int _ _ | .bool _ | .str _ | .nil | .nils | .nilf | .nili | .undef | .map none => true
  | .agg cs => cs.all fun | .int _ _ | .bool _ | .str _ | .nil | .nils | .nilf | .nili | .map none => true | _ => false
  | _ => false

def isOwned : RV → Bool
  | .own _ _ | .box _ _ => true
  | _ => false

def flatR1 : RV → Bool
  | .val v => flatV v
  | .own es _ => es.all flatV
  | .box cs _ => cs.all flatV
  | _ => false

def flatR : RV → Bool
  | .st cs => cs.all flatR1
  | v => flatR1 v

/-- a cell of a result as the caller has it; rows take the spare rows of the table -/
def ofCell (tab : List TC) (keys : List Nat) : RV → Option (SV × List TC × List Nat)
  | .val v => some (.val v, tab, keys)
  | .full es => some (.full es, tab, keys)
  | .own es sz =>
    match keys with
    | d :: ks => if d < tab.length then some (.own d ((tget tab d).gen + 1) 0 es.length sz, tab.set d (.row ((tget tab d).gen + 1) es sz false), ks) else none
    | [] => some (.val (.lst es), tab, [])
  | _ => none

def ofCells (tab : List TC) (keys : List Nat) : List RV → Option (List SV × List TC × List Nat)
  | [] => some ([], tab, keys)
  | c :: r =>
    match ofCell tab keys c with
    | some (v, tab', ks) =>
      match ofCells tab' ks r with
      | some (vs, tab'', ks') => some (v :: vs, tab'', ks')
      | none => none
    | none => none

def ofRV1 (tab : List TC) (keys : List Nat) : RV → Option (SV × List TC × List Nat)
  | .st cs => (ofCells tab keys cs).map fun (vs, t, ks) => (stOf vs, t, ks)
  | c => ofCell tab keys c

def ofRVs (tab : List TC) (keys : List Nat) : List RV → Option (List SV × List TC × List Nat)
  | [] => some ([], tab, keys)
  | c :: r =>
    match ofRV1 tab keys c with
    | some (v, tab', ks) =>
      match ofRVs tab' ks r with
      | some (vs, tab'', ks') => some (v :: vs, tab'', ks')
      | none => none
    | none => none

/-- results as the caller has them -/
def ofRV (tab : List TC) (keys : List Nat) (l : List RV) : Option (SV × List TC) :=
  match ofRVs tab keys l with
  | some ([v], t, _) => some (v, t)
  | some (vs, t, _) => some (.tup vs, t)
  | none => none

structure St where
  v : SV
  tab : List TC
  hp : Hp

/-- the elements that an append adds: they are copied -/
def added (tab : List TC) : SV → Option (List VV)
  | .val .nils => some []
  | .val (.lst es) | .full es => some es
  | .own d g off n s =>
    match tget tab d with
    | .row g' es sz _ => if g' = g ∧ s = sz ∧ off + n ≤ es.length then some ((es.drop off).take n) else none
    | _ => none
  | _ => none

def setElem (e : VV) (off : Nat) (cs : List VV) : Option VV :=
  match e with
  | .agg l => if off + cs.length ≤ l.length then some (.agg (l.take off ++ cs ++ l.drop (off + cs.length))) else none
  | _ => match off, cs with
    | 0, [c] => if c.one then some c else none
    | _, _ => none

def placesOf (fs : List Field) (ps : List (Nat × SV)) : Option (List (Nat × Nat × SV)) :=
  ps.mapM fun (i, v) =>
    match fs[i]? with
    | some f => (sizeT P f.type).map fun n => (f.offset, n, v)
    | none => none

/-- the parts of a struct that is built -/
def fillS (cells : List SV) : List (Nat × Nat × SV) → Option (List SV)
  | [] => some cells
  | (off, size, v) :: r =>
    if (svCells v).length = size ∧ off + size ≤ cells.length ∧ (svCells v).all oneCell then fillS (putCells cells off (svCells v)) r else none

def partsOf (ρ : Operand → Option SV) (ps : List (Nat × Operand)) : Option (List (Nat × SV)) :=
  ps.mapM fun (i, x) => (ρ x).map fun v => (i, v)

/-- a value of so many cells, each of one word -/
def okElem (sz : Nat) (v : VV) : Bool := v.cells.length == sz && v.cells.all fun | .agg _ => false | .undef => false | _ => true

/-- a cell that goes to an object: a row of the call's own becomes an object, or (if it isn't to be written) a value -/
def moveV (mv : Bool) (tab : List TC) (H : Hp) : SV → Option (VV × List TC × Hp)
  | .own d g off n s =>
    if mv then
      match tget tab d with
      | .row g' es sz false => if g' = g ∧ s = sz ∧ off + n ≤ es.length then some (.row H.next (off * sz) n sz, tab.set d (.gone g), H.put (.row es sz)) else none
      | _ => none
    else (outT1 tab (.own d g off n s)).map fun (u, t) => (u, t, H)
  | v => (outT1 tab v).map fun (u, t) => (u, t, H)

def moveAll (mv : Bool) (tab : List TC) (H : Hp) : List SV → Option (List VV × List TC × Hp)
  | [] => some ([], tab, H)
  | v :: r =>
    match moveV mv tab H v with
    | some (u, tab', H') =>
      match moveAll mv tab' H' r with
      | some (us, tab'', H'') => some (u :: us, tab'', H'')
      | none => none
    | none => none

/-- does an allocation become an object; do rows that are stored in objects become objects? -/
def onHeap (keys : Nat → List Nat) (d : Nat) : Bool := !(keys (2000000 + d)).isEmpty
def moves (keys : Nat → List Nat) : Bool := !(keys 3000000).isEmpty

/-- what an object's cells hold -/
def loadH (t : TypeId) (H : Hp) (o off : Nat) : Option VV :=
  match H.objs o with
  | some (.cells cs) => ldV P t cs off
  | some (.row es sz) =>
    match es[off / sz]? with
    | some e => ldV P t e.cells (off % sz)
    | none => none
  | _ => none

def oneVV : VV → Bool
  | .agg _ => false
  | .undef => false
  | _ => true

def storeH (t : TypeId) (H : Hp) (o off : Nat) (us : List VV) : Option Hp :=
  if sizeT P t = some us.length ∧ us.all oneVV then
    match H.objs o with
    | some (.cells cs) => if off + us.length ≤ cs.length then some (H.set o (some (.cells (putCells cs off us)))) else none
    | some (.row es sz) =>
      if us.isEmpty then none else
      match es[off / sz]? with
      | some e =>
        match setElem e (off % sz) us with
        | some e' => some (H.set o (some (.row (es.set (off / sz) e') sz)))
        | none => none
      | none => none
    | _ => none
  else none

def roomOk (n bytes : Nat) : Bool := n * bytes ≤ 140737488355328 && n ≤ 70368744177664

/-- the zero value has as many cells -/
def zeroOk (e : TypeId) (sz : Nat) : Bool :=
  match zeroT P e with
  | some z => z.cells.length == sz
  | none => false

/-- the elements that an append adds, of an object's row, too -/
def addedH (tab : List TC) (H : Hp) : SV → Option (List VV)
  | .val (.row o off n s) =>
    match H.objs o with
    | some (.row es sz) => if s = sz ∧ off % sz = 0 ∧ off / sz + n ≤ es.length then some ((es.drop (off / sz)).take n) else none
    | _ => none
  | v => added tab v

/-- an append to an object's row: the row goes on as another object -/
def appendH (t : TypeId) (o off n s : Nat) (y : Option SV) (tab : List TC) (H : Hp) : Option St :=
  match y, elemOfSlice P t with
  | some a, some e =>
    match sizeT P e, P.info? e, addedH tab H a with
    | some sz, some i, some new =>
      if new.all (okElem sz) ∧ zeroOk P e sz then
        match H.objs o with
        | some (.row es sz') =>
          if sz' = sz ∧ s = sz ∧ off % sz = 0 ∧ off / sz + n ≤ es.length ∧ roomOk (n + new.length) i.bytes then
            if new.isEmpty then some ⟨.val (.row o off n s), tab, H⟩
            else some ⟨.val (.row H.next 0 (n + new.length) sz), tab, (H.set o none).put (.row ((es.drop (off / sz)).take n ++ new) sz)⟩
          else none
        | _ => none
      else none
    | _, _, _ => none
  | _, _ => none

def appendV (dst : Option Tmp) (t : TypeId) (x y : Option SV) (tab : List TC) (H : Hp) : Option St :=
  match dst, x, y, elemOfSlice P t with
  | some d, some s, some a, some e =>
    match sizeT P e, P.info? e, addedH tab H a with
    | some sz, some i, some new =>
      if d < tab.length ∧ 0 < sz ∧ new.all (okElem sz) ∧ zeroOk P e sz then
        match s with
        | .val .nils =>
          if new.isEmpty then some ⟨.val .nils, tab, H⟩
          else if roomOk new.length i.bytes then
            some ⟨.own d ((tget tab d).gen + 1) 0 new.length sz, tab.set d (.row ((tget tab d).gen + 1) new sz false), H⟩ else none
        | .full es =>
          if es.all (fun v => v.cells.length == sz) then
            if new.isEmpty then some ⟨.full es, tab, H⟩
            else if roomOk (es.length + new.length) i.bytes then
              some ⟨.own d ((tget tab d).gen + 1) 0 (es.length + new.length) sz, tab.set d (.row ((tget tab d).gen + 1) (es ++ new) sz false), H⟩ else none
          else none
        | .own d' g' off n s =>
          match tget tab d' with
          | .row g'' es s' lk =>
            if g'' = g' ∧ s' = sz ∧ s = sz ∧ d' < tab.length ∧ off + n ≤ es.length ∧ (lk = false ∨ off + n = es.length) ∧ roomOk (n + new.length) i.bytes then
              some ⟨.own d ((tget (tab.set d' (.gone g')) d).gen + 1) 0 (n + new.length) sz,
                (tab.set d' (.gone g')).set d (.row ((tget (tab.set d' (.gone g')) d).gen + 1) ((es.drop off).take n ++ new) sz lk), H⟩
            else none
          | _ => none
        | _ => none
      else none
    | _, _, _ => none
  | _, _, _, _ => none

def copyV (t : TypeId) (x y : Option SV) (tab : List TC) (H : Hp) : Option St :=
  match x, y, elemOfSlice P t with
  | some (.own d g off n s), some a, some e =>
    match sizeT P e, added tab a, tget tab d with
    | some sz, some new, .row g' es s' false =>
      if g' = g ∧ s' = sz ∧ s = sz ∧ sz = 1 ∧ off + n ≤ es.length ∧ new.all (okElem sz) then
        some ⟨.val (.int .i64 (min new.length n : Nat)),
          tab.set d (.row g (es.take off ++ new.take (min new.length n) ++ es.drop (off + min new.length n)) sz false), H⟩
      else none
    | _, _, _ => none
  | _, _, _ => none

def clearV (t : TypeId) (x : Option SV) (tab : List TC) (H : Hp) : Option St :=
  match x, elemOfSlice P t with
  | some (.own d g off n s), some e =>
    match sizeT P e, zeroT P e, tget tab d with
    | some sz, some z, .row g' es s' false =>
      if g' = g ∧ s' = sz ∧ s = sz ∧ okElem sz z ∧ off + n ≤ es.length then
        some ⟨.val .undef, tab.set d (.row g (es.take off ++ List.replicate n z ++ es.drop (off + n)) sz false), H⟩
      else none
    | _, _, _ => none
  | _, _ => none

def callsV (pol : Pol) (keys : Nat → List Nat) (call : CallV) (dst : Option Tmp) (f : Option SV) (args : List (Option SV)) (tab : List TC) (H : Hp) : Option St :=
  match f, args.mapM id with
  | some (.val (.func fid first captured)), some as =>
    match outArgs (pol.mode fid) tab first.length as with
    | some (vs, tab', lent) =>
      if !(lent.all (stillOwn tab') && nodupN (lent.map Lent.key)) then none else
      match call fid (first.map .val ++ vs ++ captured.map .val) (if pol.pure fid then Hp.bare H.next else H) with
      | some (r, back, H') =>
        if pol.pure fid && H'.next != H.next then none
        else
          match backV (if pol.pure fid && r.all flatR && back.all flatR && keepsAll (pol.mode fid) first.length as then tab else tab') lent back with
          | some tab1 =>
            match ofRV tab1 (dst.toList ++ keys (dst.getD 0)) r with
            | some (v, tab2) => some ⟨v, tab2, if keepsHeap pol fid then H else H'⟩
            | none => none
          | none => none
      | none => none
    | none => none
  | _, _ => none

/-- maps: keys of one kind, that are told apart at once -/
def keyOk : TypeDesc → VV → Bool
  | .int k, .int k' _ => k' == k
  | .string, .str _ => true
  | _, _ => false
def keySame : VV → VV → Bool
  | .int _ a, .int _ b => a == b
  | .str a, .str b => a == b
  | _, _ => false
/-- where a key stands, and its value -/
def findV (d : TypeDesc) (k : VV) : List (VV × VV × Nat) → Nat → Option (Option (Nat × VV))
  | [], _ => some none
  | e :: r, i => if keyOk d e.1 then (if keySame k e.1 then some (some (i, e.2.1)) else findV d k r (i + 1)) else none
/-- a map's key, and its elements -/
def mapDesc (t : TypeId) : Option (TypeDesc × TypeId) :=
  match P.underlying t with
  | some (.map kt e) => (P.underlying kt).map fun d => (d, e)
  | _ => none
/-- two results, or one -/
def okPair (ok : Bool) (v : VV) (b : Bool) : SV := if ok then .tup [.val v, .val (.bool b)] else .val v
def lookupV (t : TypeId) (x i : Option SV) (ok : Bool) (H : Hp) : Option SV :=
  match mapDesc P t, i with
  | some (d, e), some (.val k) =>
    if keyOk d k then
      match x with
      | some (.val (.map none)) => (zeroT P e).map fun z => okPair ok z false
      | some (.val (.map (some o))) =>
        match H.objs o with
        | some (.map es _) =>
          match findV d k es 0 with
          | some (some (_, v)) => some (okPair ok v true)
          | some none => (zeroT P e).map fun z => okPair ok z false
          | none => none
        | _ => none
      | _ => none
    else none
  | _, _ => none
def mapSetV (t : TypeId) (m k x : Option SV) (H : Hp) : Option (SV × Hp) :=
  match mapDesc P t, m, k, x with
  | some (d, _), some (.val (.map (some o))), some (.val k), some (.val v) =>
    if keyOk d k then
      match H.objs o with
      | some (.map es cl) =>
        match findV d k es 0 with
        | some (some (i, _)) => some (.val .undef, H.set o (some (.map (es.modify i fun e => (k, v, e.2.2)) cl)))
        | some none => some (.val .undef, H.set o (some (.map (es ++ [(k, v, cl)]) (cl + 1))))
        | none => none
      | _ => none
    else none
  | _, _, _, _ => none
def mapEntV (t : TypeId) (m k : Option SV) (H : Hp) : Option (SV × Hp) :=
  match mapDesc P t, m, k with
  | some (d, e), some (.val (.map (some o))), some (.val k) =>
    if keyOk d k then
      match H.objs o with
      | some (.map es cl) =>
        match findV d k es 0 with
        | some (some (i, v)) =>
          match es[i]? with
          | some en => some (.tup [.val v, .val (.int .i64 en.2.2)], H.set o (some (.map (es.modify i fun e => (k, e.2.1, e.2.2)) cl)))
          | none => none
        | some none => (zeroT P e).map fun z => (.tup [.val z, .val (.int .i64 cl)], H.set o (some (.map (es ++ [(k, z, cl)]) (cl + 1))))
        | none => none
      | _ => none
    else none
  | _, _, _ => none
def entStoreV (m s x : Option SV) (H : Hp) : Option (SV × Hp) :=
  match m, s, x with
  | some (.val (.map (some o))), some (.val (.int .i64 born)), some (.val v) =>
    match H.objs o with
    | some (.map es cl) =>
      match es.findIdx? fun e => (e.2.2 : Int) == born with
      | some i => some (.val .undef, H.set o (some (.map (es.modify i fun e => (e.1, v, e.2.2)) cl)))
      | none => none
    | _ => none
  | _, _, _ => none
def deleteV (t : TypeId) (m k : Option SV) (H : Hp) : Option (SV × Hp) :=
  match mapDesc P t, m, k with
  | some (d, _), some (.val (.map (some o))), some (.val k) =>
    if keyOk d k then
      match H.objs o with
      | some (.map es cl) =>
        match findV d k es 0 with
        | some (some (i, _)) => some (.tup [], H.set o (some (.map (es.eraseIdx i) cl)))
        | some none => some (.tup [], H.set o (some (.map es cl)))
        | none => none
      | _ => none
    else none
  | some (d, _), some (.val (.map none)), some (.val k) => if keyOk d k then some (.tup [], H) else none
  | _, _, _ => none
def makeMapV (r : Option (Option SV)) (H : Hp) : Option (SV × Hp) :=
  match r with
  | none => some (.val (.map (some H.next)), H.put (.map [] 0))
  | _ => none
def mapSt (tab : List TC) (r : Option (SV × Hp)) : Option St := r.map fun p => ⟨p.1, tab, p.2⟩
/-- what an interface value holds -/
def assertV (a : TypeId) (x : Option SV) (ok : Bool) : Option SV :=
  match P.underlying a, x with
  | some (.interface _), _ => none
  | some _, some (.val (.iface t v)) => if t = a then some (okPair ok v true) else if ok then (zeroT P a).map fun z => okPair true z false else none
  | some _, some (.val .nili) => if ok then (zeroT P a).map fun z => okPair true z false else none
  | _, _ => none

/-- the method of a pointer behind an interface value -/
def methV (t : TypeId) (name : String) : Option FuncId :=
  match P.info? t, P.underlying t with
  | some i, some (.pointer _) =>
    match i.methods.find? (·.name == name) with
    | some m => if m.path.isEmpty then (match m.func with | some (f, true) => some f | _ => none) else none
    | none => none
  | _, _ => none
def invokeF (r : Option SV) (name : String) : Option SV :=
  match r with
  | some (.val (.iface t v)) => (methV P t name).map fun f => .val (.func f [v] [])
  | _ => none

def stepV (pol : Pol) (keys : Nat → List Nat) (call : CallV) (dst : Option Tmp) (ρ : Operand → Option SV) (tab : List TC) (H : Hp) : Op → Option St
  | .alloc e =>
    match dst, zeroT P e with
    | some d, some z =>
      if onHeap keys d then some ⟨.val (.ptr H.next 0), tab, H.put (.cells z.cells)⟩ else
      if d < tab.length then
        some ⟨.loc d ((tget tab d).gen + 1) 0, tab.set d (.box ((tget tab d).gen + 1) (z.cells.map .val) true), H⟩
      else none
    | _, _ => none
  | .box e x =>
    match dst, ρ x with
    | some d, some v =>
      if onHeap keys d then
        if (svCells v).all oneCell then
          match moveAll (moves keys) tab H (svCells v) with
          | some (us, tab', H') => some ⟨.val (.ptr H'.next 0), tab', H'.put (.cells us)⟩
          | none => none
        else none
      else
      if d < tab.length ∧ (svCells v).all oneCell then
        some ⟨.loc d ((tget tab d).gen + 1) 0, tab.set d (.box ((tget tab d).gen + 1) (svCells v) true), H⟩
      else none
    | _, _ => none
  | .build t parts =>
    match zeroT P t, fieldsOf P t, partsOf ρ parts.toList with
    | some z, some fs, some ps =>
      match placesOf P fs ps with
      | some qs =>
        match fillS (z.cells.map .val) qs with
        | some cs => if fs.all fun f => (sizeT P f.type).isSome then some ⟨stOf cs, tab, H⟩ else none
        | none => none
      | none => none
    | _, _, _ => none
  | .buildSlice t len parts =>
    match elemOfSlice P t, partsOf ρ parts.toList with
    | some e, some ps =>
      match sizeT P e, zeroT P e, outAll tab (ps.map (·.2)) with
      | some n, some z, some (vs, tab') =>
        if n = 0 ∨ len * n > 16777216 ∨ z.cells.length ≠ n then none else
        match fillE (List.replicate len z) n ((ps.map (·.1)).zip vs), dst with
        | some es, some d =>
          if len = 0 then some ⟨.full es, tab', H⟩
          else if d < tab'.length then some ⟨.own d ((tget tab' d).gen + 1) 0 len n, tab'.set d (.row ((tget tab' d).gen + 1) es n false), H⟩
          else none
        | _, _ => none
      | _, _, _ => none
    | _, _ => none
  | .makeInterface t x =>
    match P.underlying t, ρ x with
    | some (.interface _), _ => none
    | some _, some a =>
      match outT tab a with
      | some (v, tab') => some ⟨.val (.iface t v), tab', H⟩
      | none => none
    | _, _ => none
  | .load t x =>
    match ρ x with
    | some (.loc d g off) =>
      match tget tab d with
      | .box g' cs _ => if g' = g then (ldS P t cs off).map fun v => ⟨v, tab, H⟩ else none
      | _ => none
    | some (.rel d g i off s) =>
      match tget tab d with
      | .row g' es sz _ =>
        if g' = g ∧ s = sz then
          match es[i]? with
          | some e => (ldV P t e.cells off).map fun v => ⟨.val v, tab, H⟩
          | none => none
        else none
      | _ => none
    | some (.val (.ptr o off)) => (loadH P t H o off).map fun v => ⟨.val v, tab, H⟩
    | _ => (pureV P ρ (.load t x)).map fun v => ⟨v, tab, H⟩
  | .store t x y =>
    match ρ x, ρ y with
    | some (.val (.ptr o off)), some v =>
      if (svCells v).all oneCell then
        match moveAll (moves keys) tab H (svCells v) with
        | some (us, tab', H') => (storeH P t H' o off us).map fun H'' => ⟨.val .undef, tab', H''⟩
        | none => none
      else none
    | some (.loc d g off), some v =>
      match tget tab d with
      | .box g' cs true =>
        if g' = g ∧ sizeT P t = some (svCells v).length ∧ (svCells v).all oneCell ∧ off + (svCells v).length ≤ cs.length then
          some ⟨.val .undef, tab.set d (.box g (putCells cs off (svCells v)) true), H⟩
        else none
      | _ => none
    | some (.rel d g i off s), some v =>
      match outT tab v with
      | some (u, tab') =>
        match tget tab' d with
        | .row g' es sz false =>
          if g' = g ∧ s = sz ∧ sizeT P t = some u.cells.length ∧ (svCells v).all oneCell ∧ u.cells.isEmpty = false then
            match es[i]? with
            | some e =>
              match setElem e off u.cells with
              | some e' => some ⟨.val .undef, tab'.set d (.row g (es.set i e') sz false), H⟩
              | none => none
            | none => none
          else none
        | _ => none
      | none => none
    | _, _ => none
  | .makeSlice t l c =>
    match dst, ρ l, ρ c, elemOfSlice P t with
    | some d, some (.val (.int .i64 n)), some (.val (.int .i64 m)), some e =>
      match zeroT P e, sizeT P e, P.info? e with
      | some z, some sz, some i =>
        if d < tab.length ∧ 0 ≤ n ∧ n ≤ m ∧ 0 < sz ∧ z.cells.length = sz ∧ roomOk m.toNat i.bytes then
          some ⟨.own d ((tget tab d).gen + 1) 0 n.toNat sz, tab.set d (.row ((tget tab d).gen + 1) (List.replicate n.toNat z) sz false), H⟩
        else none
      | _, _, _ => none
    | _, _, _, _ => none
  | .makeFunc fn first captured =>
    match fn, first.toList.mapM ρ, captured.toList.mapM ρ with
    | .func f, some fs, some cs =>
      match outAll tab fs with
      | some (us, tab') =>
        match outAll tab' cs with
        | some (ws, tab'') => some ⟨.val (.func f us ws), tab'', H⟩
        | none => none
      | none => none
    | _, _, _ => none
  | .call c =>
    match c.callee, c.args.toList, c.argTypes.toList with
    | .builtin .append, [x, y], [t, t'] =>
      if t' = t then
        match ρ x with
        | some (.val (.row o off n s)) => appendH P t o off n s (ρ y) tab H
        | rx => appendV P dst t rx (ρ y) tab H
      else none
    | .builtin .copy, [x, y], [t, t'] => if t' = t then copyV P t (ρ x) (ρ y) tab H else none
    | .builtin .clear, [x], [t] => clearV P t (ρ x) tab H
    | .builtin .delete, [m, k], [t, _] => mapSt tab (deleteV P t (ρ m) (ρ k) H)
    | .value f, l, _ => callsV pol keys call dst (ρ f) (l.map ρ) tab H
    | .invoke r name, l, _ => callsV pol keys call dst (invokeF P (ρ r) name) (l.map ρ) tab H
    | _, _, _ => (pureV P ρ (.call c)).map fun v => ⟨v, tab, H⟩
  | .lookup t x i ok => (lookupV P t (ρ x) (ρ i) ok H).map fun v => ⟨v, tab, H⟩
  | .mapUpdate t m k x => mapSt tab (mapSetV P t (ρ m) (ρ k) (ρ x) H)
  | .mapEntry t m k => mapSt tab (mapEntV P t (ρ m) (ρ k) H)
  | .entryStore _ m s x => mapSt tab (entStoreV (ρ m) (ρ s) (ρ x) H)
  | .makeMap _ r => mapSt tab (makeMapV (r.map ρ) H)
  | .typeAssert x _ a ok => (assertV P a (ρ x) ok).map fun v => ⟨v, tab, H⟩
  | op => (pureV P ρ op).map fun v => ⟨v, tab, H⟩

/-- the rows of the table that an operation reads, and writes; does it touch the heap? -/
structure Foot where
  reads : List Nat
  writes : List Nat
  heap : Bool
  hr : Bool

def keysAt (ρ : Operand → Option SV) (x : Operand) : List Nat :=
  match ρ x with
  | some v => keyOf v
  | none => []

/-- what a variable that is lent holds -/
def deepOf (tab : List TC) : SV → List Nat
  | .loc d _ _ =>
    match tget tab d with
    | .box _ cs _ => cs.flatMap keyOf
    | _ => []
  | _ => []

def deepAt (ρ : Operand → Option SV) (tab : List TC) (x : Operand) : List Nat :=
  match ρ x with
  | some v => deepOf tab v
  | none => []

def rowS : SV → Bool
  | .val (.row _ _ _ _) => true
  | _ => false

def ptrAt (ρ : Operand → Option SV) (x : Operand) : Bool :=
  match ρ x with
  | some (.val (.ptr _ _)) => true
  | _ => false
def rowAt (ρ : Operand → Option SV) (x : Operand) : Bool :=
  match ρ x with
  | some v => rowS v
  | none => false
def pureAt (pol : Pol) (ρ : Operand → Option SV) (x : Operand) : Bool :=
  match ρ x with
  | some (.val (.func f _ _)) => keepsHeap pol f
  | _ => false

def footV (pol : Pol) (keys : Nat → List Nat) (dst : Option Tmp) (ρ : Operand → Option SV) (tab : List TC) : Op → Foot
  | .alloc _ => ⟨[], dst.toList, onHeap keys (dst.getD 0), false⟩
  | .makeSlice _ _ _ => ⟨[], dst.toList, false, false⟩
  | .box _ x => ⟨[], dst.toList ++ (if onHeap keys (dst.getD 0) then keysAt ρ x else []), onHeap keys (dst.getD 0), false⟩
  | .load _ x => ⟨keysAt ρ x, [], false, ptrAt ρ x⟩
  | .store _ x y => ⟨[], keysAt ρ x ++ keysAt ρ y, ptrAt ρ x, false⟩
  | .buildSlice _ _ ps => ⟨[], dst.toList ++ ps.toList.flatMap fun p => keysAt ρ p.2, false, false⟩
  | .makeInterface _ x => ⟨[], keysAt ρ x, false, false⟩
  | .makeFunc _ first captured => ⟨[], (first.toList ++ captured.toList).flatMap (keysAt ρ), false, false⟩
  | .call c =>
    match c.callee, c.args.toList with
    | .builtin .append, [x, y] => ⟨keysAt ρ y, dst.toList ++ keysAt ρ x, rowAt ρ x, rowAt ρ y⟩
    | .builtin .copy, [x, y] => ⟨keysAt ρ y, keysAt ρ x, false, false⟩
    | .builtin .clear, [x] => ⟨[], keysAt ρ x, false, false⟩
    | .builtin .delete, _ => ⟨[], [], true, false⟩
    | .value f, l => ⟨[], dst.toList ++ keys (dst.getD 0) ++ l.flatMap (keysAt ρ) ++ l.flatMap (deepAt ρ tab), !pureAt pol ρ f, true⟩
    | .invoke _ _, l => ⟨[], dst.toList ++ keys (dst.getD 0) ++ l.flatMap (keysAt ρ) ++ l.flatMap (deepAt ρ tab), true, true⟩
    | _, _ => ⟨[], [], false, false⟩
  | .lookup _ _ _ _ => ⟨[], [], false, true⟩
  | .mapUpdate _ _ _ _ | .mapEntry _ _ _ | .entryStore _ _ _ _ | .makeMap _ _ => ⟨[], [], true, false⟩
  | _ => ⟨[], [], false, false⟩

def Foot.apart (a b : Foot) : Bool :=
  a.writes.all (fun d => !b.writes.contains d && !b.reads.contains d) && b.writes.all (fun d => !a.reads.contains d) && !(a.heap && (b.heap || b.hr)) && !(b.heap && a.hr)

def yieldedV (ops : Array Oper) (slots : List SV) (j : Nat) : Option Bool :=
  match ((ops[j]?).bind (·.dst)).bind (slots[·]?) with
  | some (.val (.bool b)) => some b
  | _ => none

def Fr.put (fr : Fr) (dst : Option Tmp) (v : SV) : Fr :=
  match dst with
  | some d => { fr with slots := fr.slots.set d v }
  | none => fr

def opV (pol : Pol) (keys : Nat → List Nat) (call : CallV) (ops : Array Oper) (o : Oper) (fr : Fr) (H : Hp) : Option (Fr × Hp) :=
  if Region.wanted o (yieldedV ops fr.slots) then
    match stepV P pol keys call o.dst (ev fr.slots) fr.tab H o.op with
    | some s => some (({ fr with tab := s.tab } : Fr).put o.dst s.v, s.hp)
    | none => none
  else some (fr.put o.dst (.val .undef), H)

def opsV (pol : Pol) (keys : Nat → List Nat) (call : CallV) (ops : Array Oper) : List Oper → Fr → Hp → Option (Fr × Hp)
  | [], fr, H => some (fr, H)
  | o :: r, fr, H =>
    match opV P pol keys call ops o fr H with
    | some (fr', H') => opsV pol keys call ops r fr' H'
    | none => none

/-- the footprints as they stand when each operation's turn comes -/
def feetV (pol : Pol) (keys : Nat → List Nat) (call : CallV) (ops : Array Oper) : List Oper → Fr → Hp → List Foot
  | [], _, _ => []
  | o :: r, fr, H =>
    (if Region.wanted o (yieldedV ops fr.slots) then footV pol keys o.dst (ev fr.slots) fr.tab o.op else ⟨[], [], false, false⟩) ::
    match opV P pol keys call ops o fr H with
    | some (fr', H') => feetV pol keys call ops r fr' H'
    | none => []

def consN (a : Nat) (r : List Nat) : List Nat := if r.contains a then r else a :: r
/-- each once -/
def dedN : List Nat → List Nat
  | [] => []
  | a :: r => consN a (dedN r)
/-- what stands ahead of an operation in every order: itself told by its edges -/
def above (ops : Array Oper) : List (List Nat) :=
  ops.toList.foldl (fun acc o => acc ++ [dedN ((o.after.toList.filter (Region.binds .any)).flatMap fun e => e.on :: acc.getD e.on [])]) []

/-- all pairs whose order is open are apart -/
def pairsOk (ops : Array Oper) (feet : List Foot) : Bool :=
  let ab := above ops
  (List.range ops.size).all fun i => (List.range i).all fun j =>
    (ab.getD i []).contains j ||
    match ops[i]?, ops[j]?, feet[i]?, feet[j]? with
    | some oi, some oj, some fi, some fj => oj.apart ops oi && fj.apart fi
    | _, _, _, _ => false

/-- edges lead back -/
def edgesOk (ops : Array Oper) : Bool :=
  Region.noSelect ops && (List.range ops.size).all fun i =>
    match ops[i]? with
    | some o => o.after.all fun e => !Region.binds .any e || e.on < i
    | none => true

/-- an operation that keeps off the table -/
def keyless : Op → Bool
  | .alloc _ | .box _ _ | .makeSlice _ _ _ | .load _ _ | .store _ _ _ | .buildSlice _ _ _ | .makeInterface _ _ | .makeFunc _ _ _ => false
  | .lookup _ _ _ _ | .mapUpdate _ _ _ _ | .mapEntry _ _ _ | .entryStore _ _ _ _ | .makeMap _ _ => false
  | .call c =>
    match c.callee with
    | .builtin .append | .builtin .copy | .builtin .clear | .builtin .delete | .value _ | .invoke _ _ => false
    | _ => true
  | _ => true

def readsOnly : Op → Bool
  | .load _ _ => true
  | .lookup _ _ _ _ => true
  | op => keyless op

/-- of all pairs whose order is open, one keeps off the table, or both only read -/
def calmB (ops : Array Oper) : Bool :=
  let ab := above ops
  (List.range ops.size).all fun i => (List.range i).all fun j =>
    (ab.getD i []).contains j ||
    match ops[i]?, ops[j]? with
    | some oi, some oj => oj.apart ops oi && (keyless oi.op || keyless oj.op || (readsOnly oi.op && readsOnly oj.op))
    | _, _ => false

/-- all drawn regions of a code are calm -/
def staticOk : Code → Bool
  | .seq a b => staticOk a && staticOk b
  | .region _ ops draws => !draws || (edgesOk ops && calmB ops)
  | .cond _ a b => staticOk a && staticOk b
  | .block _ b => staticOk b
  | .loop b => staticOk b
  | .scope b => staticOk b
  | _ => true

inductive VEx where
  | normal
  | exit (id : Nat)
  | ret

def iterV (body : Fr → Hp → Option (VEx × Fr × Hp)) : Nat → Fr → Hp → Option (VEx × Fr × Hp)
  | 0, _, _ => none
  | n + 1, fr, H =>
    match body fr H with
    | some (.normal, fr', H') => iterV body n fr' H'
    | r => r

/-- a slot, or the cells of a variable, become what nobody writes any more -/
def frzSlot (tab : List TC) : SV → Option (SV × List TC)
  | .loc d g off =>
    match tget tab d with
    | .box g' cs true =>
      if g' = g then
        match outAll tab cs with
        | some (us, t) =>
          match tget t d with
          | .box g'' cs' true => if g'' = g ∧ cs'.length = us.length then some (.loc d g off, t.set d (.box g (us.map .val) true)) else none
          | _ => none
        | none => none
      else none
    | _ => none
  | v => (outT tab v).map fun (u, t) => (.val u, t)

def frzAll : List Nat → Fr → Option Fr
  | [], fr => some fr
  | t :: r, fr =>
    match fr.slots[t]? with
    | some v =>
      match frzSlot fr.tab v with
      | some (u, tab) => frzAll r ⟨fr.slots.set t u, tab⟩
      | none => none
    | none => none

def execV (pol : Pol) (keys : Nat → List Nat) (call : CallV) (dyn : Bool) (k : Nat) : Code → Fr → Hp → Option (VEx × Fr × Hp)
  | .skip, fr, H => some (.normal, fr, H)
  | .seq a b, fr, H =>
    match execV pol keys call dyn k a fr H with
    | some (.normal, fr', H') => execV pol keys call dyn k b fr' H'
    | r => r
  | .region id ops draws, fr, H =>
    if dyn && draws && !(edgesOk ops && pairsOk ops (feetV P pol keys call ops ops.toList fr H)) then none
    else
      match opsV P pol keys call ops ops.toList fr H with
      | some (fr', H') => (frzAll (keys (1000000 + id)) fr').map fun fr2 => (.normal, fr2, H')
      | none => none
  | .cond c a b, fr, H =>
    match ev fr.slots c with
    | some (.val (.bool true)) => execV pol keys call dyn k a fr H
    | some (.val (.bool false)) => execV pol keys call dyn k b fr H
    | _ => none
  | .block id b, fr, H =>
    match execV pol keys call dyn k b fr H with
    | some (.exit id', fr', H') => if id' = id then some (.normal, fr', H') else some (.exit id', fr', H')
    | r => r
  | .loop b, fr, H => iterV (fun fr H => execV pol keys call dyn k b fr H) k fr H
  | .exit id, fr, H => some (.exit id, fr, H)
  | .ret, fr, H => some (.ret, fr, H)
  | .label _, fr, H => some (.normal, fr, H)
  | .scope b, fr, H => execV pol keys call dyn k b fr H
  | _, _, _ => none

/-- a cell of a result that leaves -/
def retCell (tab : List TC) (v : SV) : Option (RV × List TC) :=
  match v with
  | .full es => some (.full es, tab)
  | .own d g off n s =>
    match tget tab d with
    | .row g' es sz false => if g' = g ∧ s = sz ∧ off + n ≤ es.length then some (.own ((es.drop off).take n) sz, tab.set d (.gone g)) else none
    | _ => (outT tab v).map fun (u, tab') => (.val u, tab')
  | v => (outT tab v).map fun (u, tab') => (.val u, tab')

def retCells (tab : List TC) : List SV → Option (List RV × List TC)
  | [] => some ([], tab)
  | v :: r =>
    match retCell tab v with
    | some (u, tab') => (retCells tab' r).map fun (l, t) => (u :: l, t)
    | none => none

/-- a result that leaves -/
def retV (tab : List TC) : SV → Option (RV × List TC)
  | .st cs => (retCells tab cs).map fun (l, t) => (.st l, t)
  | v => retCell tab v

def resultV (fr : Fr) : ResultVar → Option SV
  | .tmp t => fr.slots[t]?
  | .cell a t =>
    match fr.slots[a]? with
    | some (.loc d g off) =>
      match tget fr.tab d with
      | .box g' cs _ => if g' = g then ldS P t cs off else none
      | _ => none
    | _ => none

def retsV (tab : List TC) : List SV → Option (List RV × List TC)
  | [] => some ([], tab)
  | v :: r =>
    match retV tab v with
    | some (u, tab') => (retsV tab' r).map fun (l, t) => (u :: l, t)
    | none => none

def resultsV (z : Bool) (fn : Func) (fr : Fr) : Option (List RV × List TC) :=
  match fn.results.toList.mapM (resultV P fr) with
  | some l => if z then (outAll fr.tab l).map fun (us, t) => (us.map .val, t) else retsV fr.tab l
  | none => none

/-- parameters as a call finds them -/
def argSlots : Nat → List RV → List SV
  | _, [] => []
  | i, .val v :: r => .val v :: argSlots (i + 1) r
  | i, .full es :: r => .full es :: argSlots (i + 1) r
  | i, .own es sz :: r => .own i 1 0 es.length sz :: argSlots (i + 1) r
  | i, .box _ off :: r => .loc i 1 off :: argSlots (i + 1) r
  | i, .st _ :: r => .val .undef :: argSlots (i + 1) r

def okArg : RV → Bool
  | .st _ => false
  | _ => true

def argTab : List RV → List TC
  | [] => []
  | .own es sz :: r => .row 1 es sz false :: argTab r
  | .box cs _ :: r => .box 1 (cs.map .val) true :: argTab r
  | _ :: r => .gone 0 :: argTab r

/-- what was lent is given back as it stands -/
def backs (mode : Nat → Nat) (tab : List TC) : Nat → List RV → Option (List RV × List TC)
  | _, [] => some ([], tab)
  | i, v :: r =>
    if mode i = 2 ∧ isOwned v = true then
      match v, tget tab i with
      | .own _ _, .row 1 es sz false => (backs mode tab (i + 1) r).map fun (l, t) => (.own es sz :: l, t)
      | .box _ off, .box 1 cs true =>
        match outAll tab cs with
        | some (vs, tab') => (backs mode tab' (i + 1) r).map fun (l, t) => (.box vs off :: l, t)
        | none => none
      | _, _ => none
    else backs mode tab (i + 1) r

/-- what was lent is nobody else's in the end -/
def lentOk (mode : Nat → Nat) (tab : List TC) : Nat → List RV → Bool
  | _, [] => true
  | i, v :: r =>
    (if mode i = 2 ∧ isOwned v = true then
      match tget tab i with
      | .row _ _ _ false => true
      | .box _ _ true => true
      | _ => false
    else true) && lentOk mode tab (i + 1) r

def callV (pol : Pol) : Nat → CallV
  | 0, _, _, _ => none
  | k + 1, f, args, H =>
    match pol.ext f with
    | some g => (g args H).map fun (r, b) => (r, b, H)
    | none =>
    match P.funcs[f]? with
    | none => none
    | some fn =>
      match fn.body with
      | none => none
      | some c =>
        if fn.name == "runtime.NumGoroutine" || decide (fn.ntmps < args.length) || !args.all okArg then none else
        match execV P pol (pol.keys f) (callV pol k) (pol.dyn f) k c
            ⟨argSlots 0 args ++ List.replicate (fn.ntmps - args.length) (.val .undef), argTab args ++ List.replicate (fn.ntmps - args.length) (.gone 0)⟩ H with
        | some (.normal, fr, H') | some (.ret, fr, H') =>
          match resultsV P (pol.frz f) fn fr with
          | some (r, tab) =>
            match backs (pol.mode f) tab 0 args with
            | some (b, tab') => if lentOk (pol.mode f) tab' 0 args then some (r, b, H') else none
            | none => none
          | none => none
        | _ => none

end
end Go.Vi

/-
  What a value of the interpreter says of a value of the model.
-/
namespace Go.Vi
set_option linter.unusedVariables false

/-- the cell of a block -/
abbrev cellAt (w : World) (b o : Nat) : Option Value := w.cell? ⟨b, o, none⟩

/-- where an object lies: its block, where it begins, the block's size -/
structure Ob where
  blk : Nat
  off : Nat
  size : Nat

structure Gh where
  /-- where an object lies -/
  μ : Nat → Ob
  /-- so many cells at a block's head never change again -/
  G : Nat → Nat
  /-- the block of a row of the table; where its first element lies; how many cells the block has -/
  β : Nat → Nat
  bo : Nat → Nat
  bs : Nat → Nat

section
variable (μ : Nat → Ob) (nx : Nat) (G : Nat → Nat) (w : World)

inductive VRel : VV → Value → Prop
  | int (k n) : VRel (.int k n) (.int k n)
  | bool (b) : VRel (.bool b) (.bool b)
  | str (s) : VRel (.str s) (.string s)
  | nil : VRel .nil (.pointer none)
  | ptr (o off) (h : o < nx) : VRel (.ptr o off) (.pointer (some ⟨(μ o).blk, (μ o).off + off, none⟩))
  | elt (es : List VV) (i off b base sz : Nat) (vs : Nat → Nat → Value)
      (hs : ∀ (i : Nat) (e : VV), es[i]? = some e → e.cells.length = sz)
      (hc : ∀ (i : Nat) (e : VV) (j : Nat) (c : VV), es[i]? = some e → e.cells[j]? = some c → base + i * sz + j < G b ∧ cellAt w b (base + i * sz + j) = some (vs i j))
      (hv : ∀ (i : Nat) (e : VV) (j : Nat) (c : VV), es[i]? = some e → e.cells[j]? = some c → VRel c (vs i j)) :
      VRel (.elt es i off) (.pointer (some ⟨b, base + i * sz + off, none⟩))
  | nils : VRel .nils (.slice none 0 0)
  | lst (es : List VV) (b base sz cap : Nat) (vs : Nat → Nat → Value)
      (hs : ∀ (i : Nat) (e : VV), es[i]? = some e → e.cells.length = sz)
      (hc : ∀ (i : Nat) (e : VV) (j : Nat) (c : VV), es[i]? = some e → e.cells[j]? = some c → base + i * sz + j < G b ∧ cellAt w b (base + i * sz + j) = some (vs i j))
      (hv : ∀ (i : Nat) (e : VV) (j : Nat) (c : VV), es[i]? = some e → e.cells[j]? = some c → VRel c (vs i j))
      (hcap : es.length ≤ cap) :
      VRel (.lst es) (.slice (some ⟨b, base, none⟩) es.length cap)
  | lste (a : Addr) (cap : Nat) : VRel (.lst []) (.slice (some a) 0 cap)
  | row (o off n sz cap b' o') (h : o < nx) (hn : n ≤ cap) (hp : 0 < sz) (hc : (b' = (μ o).blk ∧ o' = (μ o).off + off ∧ (μ o).off + off + cap * sz ≤ (μ o).size) ∨ (n = 0 ∧ cap = 0)) : VRel (.row o off n sz) (.slice (some ⟨b', o', none⟩) n cap)
  | mapn : VRel (.map none) (.map none)
  | map (o) (h : o < nx) : VRel (.map (some o)) (.map (some (μ o).blk))
  | func (f : FuncId) (first captured : List VV) (l1 l2 : List Value) (h1 : l1.length = first.length) (h2 : l2.length = captured.length)
      (hf : ∀ (i : Nat) (x : VV) (v : Value), first[i]? = some x → l1[i]? = some v → VRel x v)
      (hc : ∀ (i : Nat) (x : VV) (v : Value), captured[i]? = some x → l2[i]? = some v → VRel x v) :
      VRel (.func f first captured) (.func (.func f) l1.toArray l2.toArray)
  | nilf : VRel .nilf .nilFunc
  | iface (t : TypeId) (v : VV) (x : Value) (h : VRel v x) : VRel (.iface t v) (.iface t x)
  | nili : VRel .nili .nilIface
  | agg (cs : List VV) (l : List Value) (h1 : l.length = cs.length)
      (h : ∀ (i : Nat) (x : VV) (v : Value), cs[i]? = some x → l[i]? = some v → VRel x v) : VRel (.agg cs) (.agg l.toArray)
  | undef : VRel .undef (.tuple #[])

/-- many of them -/
structure VsRel (l : List VV) (vs : List Value) : Prop where
  len : vs.length = l.length
  rel : ∀ (i : Nat) (x : VV) (v : Value), l[i]? = some x → vs[i]? = some v → VRel μ nx G w x v
end

theorem VRel.mono {μ μ' : Nat → Ob} {nx nx' : Nat} {G G' : Nat → Nat} {w w' : World} (h1 : nx ≤ nx') (h2 : ∀ o, o < nx → μ' o = μ o)
    (h3 : ∀ b, G b ≤ G' b) (h4 : ∀ b o, o < G b → cellAt w' b o = cellAt w b o) {x : VV} {v : Value} (h : VRel μ nx G w x v) : VRel μ' nx' G' w' x v := by
  induction h with
  | int => exact .int _ _
  | bool => exact .bool _
  | str => exact .str _
  | nil => exact .nil
  | ptr o off h => rw [← h2 o h]; exact .ptr o off (by omega)
  | elt es i off b base sz vs hs hc hv ih =>
    exact .elt es i off b base sz vs hs (fun i e j c h h' => by
      obtain ⟨a, b'⟩ := hc i e j c h h'
      exact ⟨Nat.lt_of_lt_of_le a (h3 b), by rw [h4 b _ a]; exact b'⟩) ih
  | nils => exact .nils
  | lst es b base sz cap vs hs hc hv hcap ih =>
    exact .lst es b base sz cap vs hs (fun i e j c h h' => by
      obtain ⟨a, b'⟩ := hc i e j c h h'
      exact ⟨Nat.lt_of_lt_of_le a (h3 b), by rw [h4 b _ a]; exact b'⟩) ih hcap
  | lste a cap => exact .lste a cap
  | row o off n sz cap b' o' h hn hp hc => rw [← h2 o h] at hc; exact .row o off n sz cap b' o' (by omega) hn hp hc
  | mapn => exact .mapn
  | map o h => rw [← h2 o h]; exact .map o (by omega)
  | func f a b l1 l2 h1 h2 _ _ i1 i2 => exact .func f a b l1 l2 h1 h2 i1 i2
  | nilf => exact .nilf
  | iface t v x _ ih => exact .iface t v x ih
  | nili => exact .nili
  | agg cs l h1 _ ih => exact .agg cs l h1 ih
  | undef => exact .undef

/-- a value without addresses hangs on no memory -/
theorem VRel.flat {μ μ' : Nat → Ob} {nx nx' : Nat} {G G' : Nat → Nat} {w w' : World} {x : VV} {v : Value} (hf : flatV x = true) (h : VRel μ nx G w x v) :
    VRel μ' nx' G' w' x v := by
  cases h <;> simp only [flatV, Bool.false_eq_true] at hf <;> try (constructor; done)
  case agg cs l h1 h =>
    refine .agg cs l h1 fun i x v hx hv => ?_
    have hr := h i x v hx hv
    have := List.all_eq_true.1 hf x (List.mem_of_getElem? hx)
    cases hr <;> first | (constructor; done) | (simp at this; done)

section
variable (gh : Gh) (tab : List TC) (nx : Nat) (w : World)

abbrev VR := VRel gh.μ nx gh.G w

inductive SRel : SV → Value → Prop
  | val (v : VV) (x : Value) (h : VR gh nx w v x) : SRel (.val v) x
  | full (es : List VV) (a : Option Addr) (n : Nat) (h : VR gh nx w (.lst es) (.slice a n n)) : SRel (.full es) (.slice a n n)
  | own (d g off n sz cap b o : Nat) (hg : g ≤ (tget tab d).gen) (hn : n ≤ cap)
      (h : ∀ es lk, tget tab d = .row g es sz lk → (b = gh.β d ∧ o = gh.bo d + off * sz ∧ gh.bo d + (off + cap) * sz ≤ gh.bs d) ∨ (n = 0 ∧ cap = 0)) :
      SRel (.own d g off n sz) (.slice (some ⟨b, o, none⟩) n cap)
  | rel (d g i off sz b o : Nat) (hg : g ≤ (tget tab d).gen)
      (h : ∀ es lk, tget tab d = .row g es sz lk → b = gh.β d ∧ o = gh.bo d + i * sz + off) : SRel (.rel d g i off sz) (.pointer (some ⟨b, o, none⟩))
  | loc (d g off b o : Nat) (hg : g ≤ (tget tab d).gen)
      (h : ∀ cs wr, tget tab d = .box g cs wr → b = gh.β d ∧ o = off) : SRel (.loc d g off) (.pointer (some ⟨b, o, none⟩))
  | lsl (d g off n sz : Nat) (ag : Bool) (cap b o : Nat) (hg : g ≤ (tget tab d).gen) (hn : n ≤ cap)
      (h : ∀ cs wr, tget tab d = .box g cs wr → (b = gh.β d ∧ o = off) ∨ n = 0) : SRel (.lsl d g off n sz ag) (.slice (some ⟨b, o, none⟩) n cap)
  | st (cs : List SV) (l : List Value) (h1 : l.length = cs.length)
      (h : ∀ (i : Nat) (x : SV) (v : Value), cs[i]? = some x → l[i]? = some v → SRel x v) : SRel (.st cs) (.agg l.toArray)
  | tup (cs : List SV) (l : List Value) (h1 : l.length = cs.length)
      (h : ∀ (i : Nat) (x : SV) (v : Value), cs[i]? = some x → l[i]? = some v → SRel x v) : SRel (.tup cs) (.tuple l.toArray)

structure SsRel (l : List SV) (vs : List Value) : Prop where
  len : vs.length = l.length
  rel : ∀ (i : Nat) (x : SV) (v : Value), l[i]? = some x → vs[i]? = some v → SRel gh tab nx w x v

end

/-- the memory goes on: what is told of values stays true -/
structure Goes (gh : Gh) (tab : List TC) (nx : Nat) (w : World) (gh' : Gh) (tab' : List TC) (nx' : Nat) (w' : World) : Prop where
  tnx : nx ≤ nx'
  tμ : ∀ o, o < nx → gh'.μ o = gh.μ o
  tG : ∀ b, gh.G b ≤ gh'.G b
  cell : ∀ b o, o < gh.G b → cellAt w' b o = cellAt w b o
  gen : ∀ d, (tget tab d).gen ≤ (tget tab' d).gen
  row : ∀ d g es sz lk, tget tab' d = .row g es sz lk → g ≤ (tget tab d).gen →
    ∃ es0 lk0, tget tab d = .row g es0 sz lk0 ∧ gh'.β d = gh.β d ∧ gh'.bo d = gh.bo d ∧ gh'.bs d = gh.bs d
  box : ∀ d g cs wr, tget tab' d = .box g cs wr → g ≤ (tget tab d).gen → ∃ cs0 wr0, tget tab d = .box g cs0 wr0 ∧ gh'.β d = gh.β d

theorem Goes.refl (gh : Gh) (tab : List TC) (nx : Nat) (w : World) : Goes gh tab nx w gh tab nx w :=
  ⟨Nat.le_refl _, fun _ _ => rfl, fun _ => Nat.le_refl _, fun _ _ _ => rfl, fun _ => Nat.le_refl _,
    fun _ _ es _ lk h _ => ⟨es, lk, h, rfl, rfl, rfl⟩, fun _ _ cs wr h _ => ⟨cs, wr, h, rfl⟩⟩

theorem Goes.trans {gh : Gh} {tab : List TC} {nx : Nat} {w : World} {gh1 : Gh} {tab1 : List TC} {nx1 : Nat} {w1 : World} {gh2 : Gh} {tab2 : List TC} {nx2 : Nat} {w2 : World}
    (h : Goes gh tab nx w gh1 tab1 nx1 w1) (h' : Goes gh1 tab1 nx1 w1 gh2 tab2 nx2 w2) : Goes gh tab nx w gh2 tab2 nx2 w2 where
  tnx := Nat.le_trans h.tnx h'.tnx
  tμ := fun o ho => (h'.tμ o (Nat.lt_of_lt_of_le ho h.tnx)).trans (h.tμ o ho)
  tG := fun b => Nat.le_trans (h.tG b) (h'.tG b)
  cell := fun b o ho => (h'.cell b o (Nat.lt_of_lt_of_le ho (h.tG b))).trans (h.cell b o ho)
  gen := fun d => Nat.le_trans (h.gen d) (h'.gen d)
  row := fun d g es sz lk he hg => by
    obtain ⟨es1, lk1, h1, b1, o1, s1⟩ := h'.row d g es sz lk he (Nat.le_trans hg (h.gen d))
    obtain ⟨es0, lk0, h0, b0, o0, s0⟩ := h.row d g es1 sz lk1 h1 hg
    exact ⟨es0, lk0, h0, b1.trans b0, o1.trans o0, s1.trans s0⟩
  box := fun d g cs wr he hg => by
    obtain ⟨cs1, wr1, h1, b1⟩ := h'.box d g cs wr he (Nat.le_trans hg (h.gen d))
    obtain ⟨cs0, wr0, h0, b0⟩ := h.box d g cs1 wr1 h1 hg
    exact ⟨cs0, wr0, h0, b1.trans b0⟩

section
variable {gh : Gh} {tab : List TC} {nx : Nat} {w : World} {gh' : Gh} {tab' : List TC} {nx' : Nat} {w' : World}

theorem Goes.v (T : Goes gh tab nx w gh' tab' nx' w') {x : VV} {v : Value} (h : VR gh nx w x v) : VR gh' nx' w' x v :=
  VRel.mono T.tnx T.tμ T.tG T.cell h

theorem Goes.s (T : Goes gh tab nx w gh' tab' nx' w') {x : SV} {v : Value} (h : SRel gh tab nx w x v) : SRel gh' tab' nx' w' x v := by
  induction h with
  | val v x h => exact .val v x (T.v h)
  | full es a n h => exact .full es a n (T.v h)
  | own d g off n sz cap b o hg hn h =>
    refine .own d g off n sz cap b o (Nat.le_trans hg (T.gen d)) hn fun es lk he => ?_
    obtain ⟨es0, lk0, h0, e1, e2, e3⟩ := T.row d g es sz lk he hg
    rw [e1, e2, e3]; exact h es0 lk0 h0
  | rel d g i off sz b o hg h =>
    refine .rel d g i off sz b o (Nat.le_trans hg (T.gen d)) fun es lk he => ?_
    obtain ⟨es0, lk0, h0, e1, e2, e3⟩ := T.row d g es sz lk he hg
    rw [e1, e2]; exact h es0 lk0 h0
  | loc d g off b o hg h =>
    refine .loc d g off b o (Nat.le_trans hg (T.gen d)) fun cs wr he => ?_
    obtain ⟨cs0, wr0, h0, e1⟩ := T.box d g cs wr he hg
    rw [e1]; exact h cs0 wr0 h0
  | lsl d g off n sz ag cap b o hg hn h =>
    refine .lsl d g off n sz ag cap b o (Nat.le_trans hg (T.gen d)) hn fun cs wr he => ?_
    obtain ⟨cs0, wr0, h0, e1⟩ := T.box d g cs wr he hg
    rw [e1]; exact h cs0 wr0 h0
  | st cs l h1 _ ih => exact .st cs l h1 ih
  | tup cs l h1 _ ih => exact .tup cs l h1 ih

theorem Goes.ss (T : Goes gh tab nx w gh' tab' nx' w') {l : List SV} {vs : List Value} (h : SsRel gh tab nx w l vs) : SsRel gh' tab' nx' w' l vs :=
  ⟨h.len, fun i x v hx hv => T.s (h.rel i x v hx hv)⟩

theorem Goes.vs (T : Goes gh tab nx w gh' tab' nx' w') {l : List VV} {vs : List Value} (h : VsRel gh.μ nx gh.G w l vs) : VsRel gh'.μ nx' gh'.G w' l vs :=
  ⟨h.len, fun i x v hx hv => T.v (h.rel i x v hx hv)⟩
end

/-! ### one value's view -/
section
variable {gh : Gh} {tab : List TC} {nx : Nat} {w : World}

theorem SRel.of_val {x : VV} {v : Value} (h : SRel gh tab nx w (.val x) v) : VR gh nx w x v := by cases h; assumption

theorem out_rel {x : SV} {v : Value} {u : VV} (h : SRel gh tab nx w x v) (ho : out x = some u) : VR gh nx w u v := by
  cases h <;> simp [out] at ho <;> subst ho <;> assumption

theorem mapM_some {α β : Type} {f : α → Option β} : ∀ {l : List α} {r : List β}, l.mapM f = some r →
    r.length = l.length ∧ ∀ (i : Nat) (a : α) (b : β), l[i]? = some a → r[i]? = some b → f a = some b
  | [], r, h => by simp at h; subst h; simp
  | a :: l, r, h => by
    rw [List.mapM_cons] at h
    cases hf : f a with
    | none => simp [hf] at h
    | some b =>
      cases hm : l.mapM f with
      | none => simp [hf, hm] at h
      | some s =>
        simp [hf, hm] at h
        subst h
        obtain ⟨h1, h2⟩ := mapM_some hm
        refine ⟨by simp [h1], fun i x y hx hy => ?_⟩
        cases i with
        | zero => simp at hx hy; subst hx; subst hy; exact hf
        | succ i => simp at hx hy; exact h2 i x y hx hy

theorem stOf_rel {cs : List SV} {l : List Value} (h : SsRel gh tab nx w cs l) : SRel gh tab nx w (stOf cs) (.agg l.toArray) := by
  unfold stOf
  split
  · rename_i vs hm
    obtain ⟨h1, h2⟩ := mapM_some hm
    refine .val _ _ (.agg vs l (by rw [h.len, h1]) fun i x v hx hv => ?_)
    have hlt : i < cs.length := by
      have := (List.getElem?_eq_some_iff.1 hx).1; omega
    have hc := List.getElem?_eq_getElem hlt
    exact out_rel (h.rel i _ v hc hv) (h2 i _ x hc hx)
  · exact .st cs l h.len h.rel

/-- the cells of a value -/
theorem VRel.cells {μ : Nat → Ob} {nx : Nat} {G : Nat → Nat} {w : World} {x : VV} {v : Value} (h : VRel μ nx G w x v) :
    VsRel μ nx G w x.cells v.cells.toList := by
  cases h
  case agg cs l h1 h => exact ⟨by simp [Value.cells, VV.cells, h1], fun i x v hx hv => h i x v hx (by simpa [Value.cells] using hv)⟩
  all_goals
    refine ⟨by simp [Value.cells, VV.cells], fun i x v hx hv => ?_⟩
    cases i with
    | zero => simp [VV.cells, Value.cells] at hx hv; subst hx; subst hv; constructor <;> assumption
    | succ i => simp [VV.cells] at hx

theorem SRel.cells {x : SV} {v : Value} (h : SRel gh tab nx w x v) (hne : ∀ l, x ≠ .tup l) : SsRel gh tab nx w (svCells x) v.cells.toList := by
  cases h
  case val u h =>
    have hv := h.cells
    cases h <;> simp only [svCells]
    case agg cs l h1 h =>
      refine ⟨by simp [Value.cells, h1], fun i x v hx hv => ?_⟩
      simp at hx
      obtain ⟨y, hy, rfl⟩ := hx
      exact .val _ _ (h i y v hy (by simpa [Value.cells] using hv))
    all_goals
      refine ⟨by simp [Value.cells], fun i x v hx hv => ?_⟩
      cases i with
      | zero => simp [Value.cells] at hx hv; subst hx; subst hv; refine .val _ _ ?_; constructor <;> assumption
      | succ i => simp at hx
  case st cs l h1 h => exact ⟨by simp [svCells, Value.cells, h1], fun i x v hx hv => h i x v hx (by simpa [Value.cells] using hv)⟩
  case tup => exact absurd rfl (hne _)
  all_goals
    refine ⟨by simp [svCells, Value.cells], fun i x v hx hv => ?_⟩
    cases i with
    | zero => simp [svCells, Value.cells] at hx hv; subst hx; subst hv; constructor <;> assumption
    | succ i => simp [svCells] at hx

end
end Go.Vi

/-
  The memory of a call: its own rows and variables, the objects, and what it leaves alone.
-/
namespace Go.Vi
set_option linter.unusedVariables false

/-- how a call began -/
structure En where
  n0 : Nat
  w0 : World
  H0 : Hp
  μ0 : Nat → Ob
  G0 : Nat → Nat
  /-- blocks that were lent, or given -/
  L : Nat → Prop
  /-- where what is lent lies -/
  lent : Nat → Option (Nat × Nat × Nat)

def upd {α : Type} (f : Nat → α) (d : Nat) (x : α) : Nat → α := fun n => if n = d then x else f n

theorem upd_same {α : Type} (f : Nat → α) (d : Nat) (x : α) : upd f d x d = x := if_pos rfl
theorem upd_ne {α : Type} (f : Nat → α) (d : Nat) (x : α) {n : Nat} (h : n ≠ d) : upd f d x n = f n := if_neg h

def TC.active : TC → Bool
  | .gone _ => false
  | _ => true

theorem tget_set_same {tab : List TC} {d : Nat} {x : TC} (h : d < tab.length) : tget (tab.set d x) d = x := by
  simp [tget, h]
theorem tget_set_ne {tab : List TC} {d e : Nat} {x : TC} (h : e ≠ d) : tget (tab.set d x) e = tget tab e := by
  simp [tget, List.getElem?_set_ne (Ne.symm h)]

def TabAt (E : En) (gh : Gh) (tab : List TC) (nx : Nat) (w : World) (d : Nat) : TC → Prop
  | .gone _ => True
  | .box g cs wr => ∃ (c : Array Value) (ty : TypeId), w.heap[gh.β d]? = some (.cells c ty (0, 0)) ∧ c.size = cs.length ∧
      (∀ (i : Nat) (x : SV) (v : Value), cs[i]? = some x → c[i]? = some v → SRel gh tab nx w x v) ∧
      (E.n0 ≤ gh.β d ∨ E.L (gh.β d)) ∧ (wr = true → gh.G (gh.β d) = 0)
  | .row g es sz lk => ∃ (c : Array Value) (ty : TypeId), w.heap[gh.β d]? = some (.cells c ty (0, 0)) ∧ c.size = gh.bs d ∧ gh.bo d + es.length * sz ≤ c.size ∧
      (∀ (i : Nat) (e : VV), es[i]? = some e → e.cells.length = sz) ∧
      (∀ (i : Nat) (e : VV) (j : Nat) (x : VV) (v : Value), es[i]? = some e → e.cells[j]? = some x → c[gh.bo d + i * sz + j]? = some v → VR gh nx w x v) ∧
      (E.n0 ≤ gh.β d ∨ E.L (gh.β d)) ∧ (lk = false → gh.G (gh.β d) = 0) ∧ gh.G (gh.β d) ≤ gh.bo d + es.length * sz ∧ 0 < sz

def ObjAt (gh : Gh) (nx : Nat) (w : World) (m : Ob) : Obj → Prop
  | .cells cs => ∃ (c : Array Value) (ty : TypeId), w.heap[m.blk]? = some (.cells c ty (0, 0)) ∧ c.size = cs.length ∧ m.off = 0 ∧
      ∀ (i : Nat) (x : VV) (v : Value), cs[i]? = some x → c[i]? = some v → VR gh nx w x v
  | .row es sz => ∃ (c : Array Value) (ty : TypeId), w.heap[m.blk]? = some (.cells c ty (0, 0)) ∧ c.size = m.size ∧ m.off + es.length * sz ≤ c.size ∧ 0 < sz ∧
      (∀ (i : Nat) (e : VV), es[i]? = some e → e.cells.length = sz) ∧
      ∀ (i : Nat) (e : VV) (j : Nat) (x : VV) (v : Value), es[i]? = some e → e.cells[j]? = some x → c[m.off + i * sz + j]? = some v → VR gh nx w x v
  | .map es clock => ∃ (ents : Array MapEntry), w.heap[m.blk]? = some (.map ents clock) ∧ ents.size = es.length ∧
      ∀ (i : Nat) (k v : VV) (born : Nat) (e : MapEntry), es[i]? = some (k, v, born) → ents[i]? = some e → VR gh nx w k e.key ∧ VR gh nx w v e.val ∧ e.born = born

/-- what no code here turns -/
structure Still (w w' : World) : Prop where
  os : w'.os = w.os
  tape : w'.tape = w.tape
  output : w'.output = w.output

theorem Still.refl (w : World) : Still w w := ⟨rfl, rfl, rfl⟩
theorem Still.trans {w w1 w2 : World} (h : Still w w1) (h' : Still w1 w2) : Still w w2 := ⟨h'.os.trans h.os, h'.tape.trans h.tape, h'.output.trans h.output⟩

structure Mem (E : En) (gh : Gh) (tab : List TC) (H : Hp) (w : World) : Prop where
  tabR : ∀ d, TabAt E gh tab H.next w d (tget tab d)
  apart : ∀ d d', d ≠ d' → (tget tab d).active = true → (tget tab d').active = true → gh.β d ≠ gh.β d'
  G0 : ∀ b, w.heap.size ≤ b → gh.G b = 0
  objAt : ∀ o obj, H.objs o = some obj → ObjAt gh H.next w (gh.μ o) obj
  objLt : ∀ o, H.objs o ≠ none → o < H.next ∧ gh.G (gh.μ o).blk = 0 ∧ (gh.μ o).blk < w.heap.size
  objInj : ∀ o o', o ≠ o' → H.objs o ≠ none → H.objs o' ≠ none → (gh.μ o).blk ≠ (gh.μ o').blk
  objApart : ∀ d o, (tget tab d).active = true → H.objs o ≠ none → gh.β d ≠ (gh.μ o).blk
  size : E.n0 ≤ w.heap.size
  old : ∀ b, b < E.n0 → ¬ E.L b → (∀ o, E.H0.objs o ≠ none → (E.μ0 o).blk ≠ b) → w.heap[b]? = E.w0.heap[b]?
  oldG : ∀ b, b < E.n0 → ¬ E.L b → gh.G b = E.G0 b
  μ0 : ∀ o, o < E.H0.next → gh.μ o = E.μ0 o
  next : E.H0.next ≤ H.next
  live : ∀ o, o < E.H0.next → H.objs o ≠ none → E.H0.objs o ≠ none
  newObj : ∀ o, E.H0.next ≤ o → H.objs o ≠ none → E.n0 ≤ (gh.μ o).blk ∨ E.L (gh.μ o).blk ∨ ∃ o', E.H0.objs o' ≠ none ∧ (E.μ0 o').blk = (gh.μ o).blk
  lent : ∀ d b o s, E.lent d = some (b, o, s) → 1 ≤ (tget tab d).gen ∧ ((tget tab d).gen = 1 → (tget tab d).active = true → gh.β d = b ∧ gh.bo d = o ∧ gh.bs d = s)
  still : Still E.w0 w

theorem cellAt_of {w : World} {b : Nat} {c : Array Value} {ty : TypeId} {fr : Nat × Nat} (h : w.heap[b]? = some (.cells c ty fr)) (o : Nat) : cellAt w b o = c[o]? := by
  simp [cellAt, World.cell?, h]

theorem cellAt_congr {w w' : World} {b : Nat} (h : w'.heap[b]? = w.heap[b]?) (o : Nat) : cellAt w' b o = cellAt w b o := by
  simp [cellAt, World.cell?, h]

section
variable {E : En} {gh : Gh} {tab : List TC} {H : Hp} {w : World}

theorem Mem.lt (M : Mem E gh tab H w) {d : Nat} (h : (tget tab d).active = true) : gh.β d < w.heap.size := by
  have := M.tabR d
  cases ht : tget tab d with
  | gone g => simp [ht, TC.active] at h
  | box g cs wr => rw [ht] at this; obtain ⟨c, ty, hc, _⟩ := this; exact (Array.getElem?_eq_some_iff.1 hc).1
  | row g es sz lk => rw [ht] at this; obtain ⟨c, ty, hc, _⟩ := this; exact (Array.getElem?_eq_some_iff.1 hc).1

theorem Mem.own (M : Mem E gh tab H w) {d : Nat} (h : (tget tab d).active = true) : E.n0 ≤ gh.β d ∨ E.L (gh.β d) := by
  have := M.tabR d
  cases ht : tget tab d with
  | gone g => simp [ht, TC.active] at h
  | box g cs wr => rw [ht] at this; obtain ⟨c, ty, hc, _, _, h, _⟩ := this; exact h
  | row g es sz lk => rw [ht] at this; obtain ⟨c, ty, hc, _, _, _, _, h, _⟩ := this; exact h

/-- what is told of a row stays true while its block stays as it is -/
theorem TabAt.keep {nx : Nat} {gh' : Gh} {tab' : List TC} {nx' : Nat} {w' : World} (T : Goes gh tab nx w gh' tab' nx' w') {d : Nat} {tc : TC}
    (hβ : gh'.β d = gh.β d) (hbo : gh'.bo d = gh.bo d) (hbs : gh'.bs d = gh.bs d) (hw : tc.active = true → w'.heap[gh.β d]? = w.heap[gh.β d]?)
    (hG : tc.active = true → gh'.G (gh.β d) = gh.G (gh.β d)) (h : TabAt E gh tab nx w d tc) : TabAt E gh' tab' nx' w' d tc := by
  cases tc with
  | gone g => trivial
  | box g cs wr =>
    obtain ⟨c, ty, h1, h2, h3, h4, h5⟩ := h
    simp only [TabAt, hβ, hw rfl, hG rfl]
    exact ⟨c, ty, h1, h2, fun i x v a b => T.s (h3 i x v a b), h4, h5⟩
  | row g es sz lk =>
    obtain ⟨c, ty, h1, h2, h3, h4, h5, h6, h7, h8, h9⟩ := h
    simp only [TabAt, hβ, hbo, hbs, hw rfl, hG rfl]
    exact ⟨c, ty, h1, h2, h3, h4, fun i e j x v a b c => T.v (h5 i e j x v a b c), h6, h7, h8, h9⟩

theorem ObjAt.keep {nx : Nat} {gh' : Gh} {tab' : List TC} {nx' : Nat} {w' : World} (T : Goes gh tab nx w gh' tab' nx' w') {b : Ob} {obj : Obj}
    (hw : w'.heap[b.blk]? = w.heap[b.blk]?) (h : ObjAt gh nx w b obj) : ObjAt gh' nx' w' b obj := by
  cases obj with
  | cells cs =>
    obtain ⟨c, ty, h1, h2, h0, h3⟩ := h
    exact ⟨c, ty, by rw [hw]; exact h1, h2, h0, fun i x v a b => T.v (h3 i x v a b)⟩
  | row es sz =>
    obtain ⟨c, ty, h1, h2, h3, h4, h5, h6⟩ := h
    exact ⟨c, ty, by rw [hw]; exact h1, h2, h3, h4, h5, fun i e j x v a b c => T.v (h6 i e j x v a b c)⟩
  | map es clock =>
    obtain ⟨c, h1, h2, h3⟩ := h
    refine ⟨c, by rw [hw]; exact h1, h2, fun i k v born e a b => ?_⟩
    obtain ⟨p, q, r⟩ := h3 i k v born e a b
    exact ⟨T.v p, T.v q, r⟩

/-- does one row go on as another: either it is younger, or it is the same one -/
def TC.heir (a b : TC) : Prop :=
  a.gen < b.gen ∨ match a, b with
    | .row g _ sz _, .row g' _ sz' _ => g = g' ∧ sz = sz'
    | .box g _ _, .box g' _ _ => g = g'
    | a, .gone g => a.gen = g
    | _, _ => False

theorem TC.heir.gen {a b : TC} (h : a.heir b) : a.gen ≤ b.gen := by
  rcases h with h | h
  · exact Nat.le_of_lt h
  · cases a <;> cases b <;> simp only [TC.gen] at * <;> first | exact h.elim | omega

/-- one row of the table, and its block, become others -/
theorem Mem.upd (M : Mem E gh tab H w) {d : Nat} {tc : TC} {b bo bs : Nat} {w' : World} (hd : d < tab.length) (hh : (tget tab d).heir tc)
    (hsame : (tget tab d).gen = tc.gen → tc.active = true → b = gh.β d ∧ bo = gh.bo d ∧ bs = gh.bs d)
    (hw : ∀ b', b' ≠ b → w'.heap[b']? = w.heap[b']?) (hsz : w.heap.size ≤ w'.heap.size) (hst : Still w w')
    (hfree : ∀ d', d' ≠ d → (tget tab d').active = true → gh.β d' ≠ b) (hobj : ∀ o, H.objs o ≠ none → (gh.μ o).blk ≠ b) (hnew : E.n0 ≤ b ∨ E.L b)
    (hcell : ∀ o, o < gh.G b → cellAt w' b o = cellAt w b o)
    (ht : Goes gh tab H.next w ⟨gh.μ, gh.G, Vi.upd gh.β d b, Vi.upd gh.bo d bo, Vi.upd gh.bs d bs⟩ (tab.set d tc) H.next w' →
      TabAt E ⟨gh.μ, gh.G, Vi.upd gh.β d b, Vi.upd gh.bo d bo, Vi.upd gh.bs d bs⟩ (tab.set d tc) H.next w' d tc) :
    let gh' : Gh := ⟨gh.μ, gh.G, Vi.upd gh.β d b, Vi.upd gh.bo d bo, Vi.upd gh.bs d bs⟩
    Goes gh tab H.next w gh' (tab.set d tc) H.next w' ∧ Mem E gh' (tab.set d tc) H w' := by
  intro gh'
  have T : Goes gh tab H.next w gh' (tab.set d tc) H.next w' := by
    refine ⟨Nat.le_refl _, fun _ _ => rfl, fun _ => Nat.le_refl _, fun b' o ho => ?_, fun e => ?_, fun e g es sz lk he hg => ?_, fun e g cs wr he hg => ?_⟩
    · by_cases hb : b' = b
      · subst hb; exact hcell o ho
      · exact cellAt_congr (hw b' hb) o
    · by_cases he : e = d
      · subst he; rw [tget_set_same hd]; exact hh.gen
      · rw [tget_set_ne he]; exact Nat.le_refl _
    · by_cases hed : e = d
      · subst hed
        rw [tget_set_same hd] at he
        subst he
        rcases hh with h | h
        · exact absurd (Nat.lt_of_le_of_lt hg h) (Nat.lt_irrefl _)
        · have hs := hsame
          cases hx : tget tab e with
          | gone g' => rw [hx] at h; exact h.elim
          | box g' cs wr => rw [hx] at h; exact h.elim
          | row g' es0 sz0 lk0 =>
            rw [hx] at h hs
            obtain ⟨rfl, rfl⟩ := h
            obtain ⟨h1, h2, h3⟩ := hs rfl rfl
            exact ⟨es0, lk0, rfl, by simp only [gh', upd_same, h1], by simp only [gh', upd_same, h2], by simp only [gh', upd_same, h3]⟩
      · rw [tget_set_ne hed] at he
        exact ⟨es, lk, he, upd_ne _ _ _ hed, upd_ne _ _ _ hed, upd_ne _ _ _ hed⟩
    · by_cases hed : e = d
      · subst hed
        rw [tget_set_same hd] at he
        subst he
        rcases hh with h | h
        · exact absurd (Nat.lt_of_le_of_lt hg h) (Nat.lt_irrefl _)
        · have hs := hsame
          cases hx : tget tab e with
          | gone g' => rw [hx] at h; exact h.elim
          | row g' _ _ _ => rw [hx] at h; exact h.elim
          | box g' cs0 wr0 =>
            rw [hx] at h hs
            subst h
            obtain ⟨h1, h2, h3⟩ := hs rfl rfl
            exact ⟨cs0, wr0, rfl, by simp only [gh', upd_same, h1]⟩
      · rw [tget_set_ne hed] at he
        exact ⟨cs, wr, he, upd_ne _ _ _ hed⟩
  refine ⟨T, ?_⟩
  have act : ∀ e, e ≠ d → (tget (tab.set d tc) e) = tget tab e := fun e he => tget_set_ne he
  refine ⟨fun e => ?_, fun e e' hne h1 h2 => ?_, fun b' hb => M.G0 b' (by omega), fun o obj ho => ?_, fun o ho => ?_, M.objInj, fun e o he ho => ?_, Nat.le_trans M.size hsz,
    fun b' h1 h2 h3 => ?_, M.oldG, M.μ0, M.next, M.live, M.newObj, fun e b' o s he => ?_, M.still.trans hst⟩
  · by_cases he : e = d
    · subst he; rw [tget_set_same hd]; exact ht T
    · rw [act e he]
      refine TabAt.keep T (upd_ne _ _ _ he) (upd_ne _ _ _ he) (upd_ne _ _ _ he) (fun ha => hw _ (hfree e he ha)) (fun _ => rfl) (M.tabR e)
  · by_cases he : e = d
    · subst he
      rw [act e' (Ne.symm hne)] at h2
      simp only [gh', upd_same, upd_ne _ _ _ (Ne.symm hne)]
      exact (hfree e' (Ne.symm hne) h2).symm
    · by_cases he' : e' = d
      · subst he'
        rw [act e he] at h1
        simp only [gh', upd_same, upd_ne _ _ _ he]
        exact hfree e he h1
      · rw [act e he] at h1; rw [act e' he'] at h2
        simp only [gh', upd_ne _ _ _ he, upd_ne _ _ _ he']
        exact M.apart e e' hne h1 h2
  · exact ObjAt.keep T (hw _ (hobj o (by simp [ho]))) (M.objAt o obj ho)
  · obtain ⟨h1, h2, h3⟩ := M.objLt o ho
    exact ⟨h1, h2, Nat.lt_of_lt_of_le h3 hsz⟩
  · by_cases hed : e = d
    · subst hed; simp only [gh', upd_same]; exact (hobj o ho).symm
    · rw [act e hed] at he; simp only [gh', upd_ne _ _ _ hed]; exact M.objApart e o he ho
  · rw [hw b' (fun hb => by subst hb; rcases hnew with h | h; omega; exact h2 h)]
    exact M.old b' h1 h2 h3
  · obtain ⟨hl1, hl2⟩ := M.lent e b' o s he
    by_cases hed : e = d
    · subst hed
      rw [tget_set_same hd]
      refine ⟨Nat.le_trans hl1 hh.gen, fun hg ha => ?_⟩
      have hg0 : (tget tab e).gen = 1 := by have := hh.gen; omega
      obtain ⟨h1, h2, h3⟩ := hsame (hg0.trans hg.symm) ha
      have ha0 : (tget tab e).active = true := by
        rcases hh with h | h
        · omega
        · cases hx : tget tab e <;> cases tc <;> rw [hx] at h <;> first | rfl | exact h.elim | (simp [TC.active] at ha; done)
      obtain ⟨k1, k2, k3⟩ := hl2 hg0 ha0
      simp only [gh', upd_same]
      exact ⟨h1.trans k1, h2.trans k2, h3.trans k3⟩
    · rw [act e hed]
      simp only [gh', upd_ne _ _ _ hed]
      exact ⟨hl1, hl2⟩

/-- a world with the same memory -/
theorem Mem.heap (M : Mem E gh tab H w) {w' : World} (h : w'.heap = w.heap) (hst : Still w w') : Goes gh tab H.next w gh tab H.next w' ∧ Mem E gh tab H w' := by
  have T : Goes gh tab H.next w gh tab H.next w' := { Goes.refl gh tab H.next w with cell := fun b o _ => cellAt_congr (by rw [h]) o }
  refine ⟨T, ⟨fun e => ?_, M.apart, fun b hb => M.G0 b (by rw [← h]; exact hb), fun o obj ho => ObjAt.keep T (by rw [h]) (M.objAt o obj ho), fun o ho => ?_, M.objInj, M.objApart,
    by rw [h]; exact M.size, fun b a c e => by rw [h]; exact M.old b a c e, M.oldG, M.μ0, M.next, M.live, M.newObj, M.lent, M.still.trans hst⟩⟩
  · exact TabAt.keep T rfl rfl rfl (fun _ => by rw [h]) (fun _ => rfl) (M.tabR e)
  · obtain ⟨h1, h2, h3⟩ := M.objLt o ho
    exact ⟨h1, h2, by rw [h]; exact h3⟩

/-- some cells of a block of the call's own are never written again -/
theorem Mem.mark (M : Mem E gh tab H w) {d : Nat} {tc : TC} {n : Nat} (hd : d < tab.length) (hact : (tget tab d).active = true) (hh : (tget tab d).heir tc)
    (hg : (tget tab d).gen = tc.gen) (hn : gh.G (gh.β d) ≤ n)
    (ht : Goes gh tab H.next w { gh with G := Vi.upd gh.G (gh.β d) n } (tab.set d tc) H.next w →
      TabAt E { gh with G := Vi.upd gh.G (gh.β d) n } (tab.set d tc) H.next w d tc) :
    Goes gh tab H.next w { gh with G := Vi.upd gh.G (gh.β d) n } (tab.set d tc) H.next w ∧ Mem E { gh with G := Vi.upd gh.G (gh.β d) n } (tab.set d tc) H w := by
  have hGle : ∀ b, gh.G b ≤ Vi.upd gh.G (gh.β d) n b := fun b => by
    by_cases hb : b = gh.β d
    · subst hb; rw [upd_same]; exact hn
    · rw [upd_ne _ _ _ hb]; exact Nat.le_refl _
  have T : Goes gh tab H.next w { gh with G := Vi.upd gh.G (gh.β d) n } (tab.set d tc) H.next w := by
    refine ⟨Nat.le_refl _, fun _ _ => rfl, hGle, fun _ _ _ => rfl, fun e => ?_, fun e g es sz lk he hg' => ?_, fun e g cs wr he hg' => ?_⟩
    · by_cases he : e = d
      · subst he; rw [tget_set_same hd]; exact hh.gen
      · rw [tget_set_ne he]; exact Nat.le_refl _
    · by_cases hed : e = d
      · subst hed
        rw [tget_set_same hd] at he
        subst he
        rcases hh with h | h
        · omega
        · cases hx : tget tab e <;> rw [hx] at h <;> first | exact h.elim | (obtain ⟨rfl, rfl⟩ := h; exact ⟨_, _, rfl, rfl, rfl, rfl⟩)
      · rw [tget_set_ne hed] at he
        exact ⟨es, lk, he, rfl, rfl, rfl⟩
    · by_cases hed : e = d
      · subst hed
        rw [tget_set_same hd] at he
        subst he
        rcases hh with h | h
        · omega
        · cases hx : tget tab e <;> rw [hx] at h <;> first | exact h.elim | (subst h; exact ⟨_, _, rfl, rfl⟩)
      · rw [tget_set_ne hed] at he
        exact ⟨cs, wr, he, rfl⟩
  have act : ∀ e, (tget (tab.set d tc) e).active = true → (tget tab e).active = true := fun e he => by
    by_cases hed : e = d
    · subst hed; exact hact
    · rw [tget_set_ne hed] at he; exact he
  refine ⟨T, ⟨fun e => ?_, fun e e' hne h1 h2 => M.apart e e' hne (act e h1) (act e' h2), fun b hb => ?_, fun o obj ho => ObjAt.keep T rfl (M.objAt o obj ho), fun o ho => ?_, M.objInj,
    fun e o he ho => M.objApart e o (act e he) ho, M.size, M.old, fun b h1 h2 => ?_, M.μ0, M.next, M.live, M.newObj, fun e b o s he => ?_, M.still⟩⟩
  · by_cases he : e = d
    · subst he; rw [tget_set_same hd]; exact ht T
    · rw [tget_set_ne he]
      exact TabAt.keep T rfl rfl rfl (fun _ => rfl) (fun ha => upd_ne _ _ _ (M.apart e d he ha hact)) (M.tabR e)
  · have : b ≠ gh.β d := fun hb' => by have := M.lt hact; omega
    show Vi.upd gh.G (gh.β d) n b = 0
    rw [upd_ne _ _ _ this]; exact M.G0 b hb
  · obtain ⟨h1, h2, h3⟩ := M.objLt o ho
    exact ⟨h1, by show Vi.upd gh.G (gh.β d) n (gh.μ o).blk = 0; rw [upd_ne _ _ _ (M.objApart d o hact ho).symm]; exact h2, h3⟩
  · show Vi.upd gh.G (gh.β d) n b = E.G0 b
    rw [upd_ne _ _ _ (fun hb => by subst hb; rcases M.own hact with h | h; omega; exact h2 h)]
    exact M.oldG b h1 h2
  · obtain ⟨hl1, hl2⟩ := M.lent e b o s he
    by_cases hed : e = d
    · subst hed; rw [tget_set_same hd, ← hg]; exact ⟨hl1, fun h _ => hl2 h hact⟩
    · rw [tget_set_ne hed]; exact ⟨hl1, hl2⟩

/-! ### new blocks, written blocks -/

theorem push_size (w : World) (o : Go.Obj) : (w.alloc o).heap.size = w.heap.size + 1 := by simp only [World.alloc, Array.size_push]
theorem push_at (w : World) (o : Go.Obj) : (w.alloc o).heap[w.heap.size]? = some o := by simp only [World.alloc, Array.getElem?_push, if_true]
theorem push_ne (w : World) (o : Go.Obj) {b : Nat} (h : b ≠ w.heap.size) : (w.alloc o).heap[b]? = w.heap[b]? := by
  simp only [World.alloc, Array.getElem?_push]
  rw [if_neg h]

/-- a new row, or variable, in a new block -/
theorem Mem.fresh (M : Mem E gh tab H w) {d : Nat} {tc : TC} {c : Array Value} {ty : TypeId} (hd : d < tab.length) (hh : (tget tab d).gen < tc.gen)
    (ht : let gh' : Gh := ⟨gh.μ, gh.G, Vi.upd gh.β d w.heap.size, Vi.upd gh.bo d 0, Vi.upd gh.bs d c.size⟩
      Goes gh tab H.next w gh' (tab.set d tc) H.next (w.alloc (.cells c ty (0, 0))) → (w.alloc (.cells c ty (0, 0))).heap[w.heap.size]? = some (.cells c ty (0, 0)) →
      gh.G w.heap.size = 0 → TabAt E gh' (tab.set d tc) H.next (w.alloc (.cells c ty (0, 0))) d tc) :
    let gh' : Gh := ⟨gh.μ, gh.G, Vi.upd gh.β d w.heap.size, Vi.upd gh.bo d 0, Vi.upd gh.bs d c.size⟩
    Goes gh tab H.next w gh' (tab.set d tc) H.next (w.alloc (.cells c ty (0, 0))) ∧ Mem E gh' (tab.set d tc) H (w.alloc (.cells c ty (0, 0))) :=
  M.upd hd (.inl hh) (fun h => by omega) (fun b' hb => push_ne w _ hb) (by rw [push_size]; omega) ⟨rfl, rfl, rfl⟩ (fun d' _ ha => Nat.ne_of_lt (M.lt ha))
    (fun o ho => Nat.ne_of_lt (M.objLt o ho).2.2) (.inl M.size) (fun o ho => by rw [M.G0 _ (Nat.le_refl _)] at ho; omega)
    (fun T => ht T (push_at w _) (M.G0 _ (Nat.le_refl _)))

end
end Go.Vi

/-
  What an operation that looks at its operands alone comes to: as the model's.
-/
namespace Go.Vi
set_option linter.unusedVariables false
set_option linter.unusedSimpArgs false

section
variable {P : Program} {gh : Gh} {tab : List TC} {nx : Nat} {w : World}

theorem ofScalar_rel {μ : Nat → Ob} {G : Nat → Nat} {v : Value} {u : VV} (h : ofScalar v = some u) : VRel μ nx G w u v := by
  unfold ofScalar at h
  split at h <;> simp at h <;> subst h <;> constructor

theorem ofConst_rel {μ : Nat → Ob} {G : Nat → Nat} {v : Value} {u : VV} (h : ofConst v = some u) : VRel μ nx G w u v := by
  unfold ofConst at h
  split at h
  · rename_i cs
    cases hm : cs.toList.mapM ofScalar with
    | none => simp [hm] at h
    | some l =>
      simp [hm] at h
      subst h
      obtain ⟨h1, h2⟩ := mapM_some hm
      have : VRel μ nx G w (.agg l) (.agg cs.toList.toArray) := .agg l cs.toList (by omega) fun i x v hx hv => ofScalar_rel (h2 i v x hv hx)
      simpa using this
  · rename_i vs
    split at h
    · rename_i hz
      simp at h; subst h
      obtain rfl : vs = #[] := by simpa using hz
      exact .undef
    · simp at h
  · rename_i f x y
    split at h
    · rename_i hz
      simp at h; subst h
      obtain rfl : x = #[] := by simpa using hz.1
      obtain rfl : y = #[] := by simpa using hz.2
      exact .func _ [] [] [] [] rfl rfl (fun i x v h => by simp at h) (fun i x v h => by simp at h)
    · simp at h
  · exact ofScalar_rel h

theorem ev_rel {slots : List SV} {a : Act} (hs : SsRel gh tab nx w slots a.tmps.toList) {x : Operand} {s : SV} (h : ev slots x = some s) : SRel gh tab nx w s (a.eval x) := by
  cases x with
  | tmp t =>
    simp only [ev] at h
    have hlt : t < slots.length := (List.getElem?_eq_some_iff.1 h).1
    have hl := hs.len
    simp at hl
    have hlt' : t < a.tmps.size := Nat.lt_of_lt_of_eq hlt hl.symm
    have hv : a.tmps.toList[t]? = some a.tmps[t] := by simp [hlt']
    have := hs.rel t s _ h hv
    simpa [Act.eval, hlt'] using this
  | const v =>
    simp only [ev] at h
    cases hc : ofConst v with
    | none => simp [hc] at h
    | some u => simp [hc] at h; subst h; exact .val _ _ (ofConst_rel hc)
  | global g => simp [ev] at h
  | func f =>
    simp [ev] at h; subst h
    exact .val _ _ (.func _ [] [] [] [] rfl rfl (fun i x v h => by simp at h) (fun i x v h => by simp at h))

theorem run_isAgg {t : TypeId} {b : Bool} (h : isAggT P t = some b) (w : World) : (isAgg t).run P w = .ok b w := by
  unfold isAggT at h
  split at h
  · rename_i hu; simp at h; subst h; simp [isAgg, run_underlying hu]
  · rename_i hu; simp at h; subst h; simp [isAgg, run_underlying hu]
  · rename_i d h1 h2 hu
    simp at h; subst h
    simp only [isAgg, Sem.run_bind, run_underlying hu, Result.andThen_ok]
    cases d <;> first | rfl | (exact absurd hu (h1 _)) | (exact absurd hu (h2 _ _))
  · simp at h

theorem run_sizeOf {t : TypeId} {n : Nat} (h : sizeT P t = some n) (w : World) : (sizeOf t).run P w = .ok n w := by
  unfold sizeT at h
  cases hi : P.info? t with
  | none => simp [hi] at h
  | some i => simp [hi] at h; subst h; simp [sizeOf, typeInfo, hi]

theorem run_zeroValue {t : TypeId} {u : VV} (h : zeroT P t = some u) (w : World) : ∃ v, (zeroValue t).run P w = .ok v w ∧ ofConst v = some u := by
  unfold zeroT at h
  cases hi : P.info? t with
  | none => simp [hi] at h
  | some i =>
    cases hz : i.zero with
    | none => simp [hi, hz] at h
    | some v => simp [hi, hz] at h; exact ⟨v, by simp [zeroValue, typeInfo, hi, hz], h⟩

/-- a part of a struct's cells -/
theorem part_run {t : TypeId} {cs : List VV} {l : List Value} {off : Nat} {u : VV} (h : VsRel gh.μ nx gh.G w cs l) (hl : ldV P t cs off = some u) (w' : World) :
    ∃ v, (part t l.toArray off).run P w' = .ok v w' ∧ VR gh nx w u v := by
  unfold ldV at hl
  split at hl
  · rename_i n ha hn
    split at hl
    · rename_i hle
      simp at hl; subst hl
      refine ⟨.agg ((l.drop off).take n).toArray, ?_, .agg _ _ ?_ fun i x v hx hv => ?_⟩
      · simp only [part, Sem.run_bind, run_isAgg ha, Result.andThen_ok, if_true, run_sizeOf hn, Sem.run_pure]
        congr 2
        simp [List.extract_eq_take_drop]
      · have := h.len; simp; omega
      · rw [List.getElem?_take] at hx hv
        split at hx
        · rename_i hi
          rw [if_pos hi] at hv
          rw [List.getElem?_drop] at hx hv
          exact h.rel _ x v hx hv
        · simp at hx
    · simp at hl
  · rename_i n ha hn
    have hlt : off < l.length := by have := (List.getElem?_eq_some_iff.1 hl).1; have := h.len; omega
    refine ⟨l[off], ?_, h.rel off u _ hl (List.getElem?_eq_getElem hlt)⟩
    simp [part, run_isAgg ha, hlt]
  · simp at hl

/-- a variable that is read: values -/
theorem load_run {t : TypeId} {cs : List VV} {b o off : Nat} {u : VV} (f : Nat → Value)
    (hc : ∀ (j : Nat) (c : VV), cs[j]? = some c → cellAt w b (o + j) = some (f j) ∧ VR gh nx w c (f j)) (hl : ldV P t cs off = some u) :
    ∃ v, (loadVar t ⟨b, o + off, none⟩).run P w = .ok v w ∧ VR gh nx w u v := by
  unfold ldV at hl
  split at hl
  · rename_i n ha hn
    split at hl
    · rename_i hle
      simp at hl; subst hl
      have hlen : ((List.range n).map fun j => f (off + j)).length = n := by simp
      have hrun := run_loadCells_list (P := P) (w := w) ⟨b, o + off, none⟩ ((List.range n).map fun j => f (off + j)) fun j v hv => by
        have hj : j < n := by have := (List.getElem?_eq_some_iff.1 hv).1; simpa using this
        simp [hj] at hv
        subst hv
        have hlt : off + j < cs.length := by omega
        rw [Addr.add_lit, Nat.add_assoc]
        exact (hc (off + j) _ (List.getElem?_eq_getElem hlt)).1
      rw [hlen] at hrun
      refine ⟨.agg ((List.range n).map fun j => f (off + j)).toArray, ?_, .agg _ _ ?_ fun i x v hx hv => ?_⟩
      · simp only [loadVar, Sem.run_bind, run_isAgg ha, Result.andThen_ok, if_true, run_sizeOf hn, Sem.run_pure, hrun]
      · simp; omega
      · rw [List.getElem?_take] at hx
        split at hx
        · rename_i hi
          rw [List.getElem?_drop] at hx
          simp [hi] at hv
          subst hv
          exact (hc _ _ hx).2
        · simp at hx
    · simp at hl
  · rename_i n ha hn
    obtain ⟨h1, h2⟩ := hc off u hl
    refine ⟨f off, ?_, h2⟩
    simp only [loadVar, Sem.run_bind, run_isAgg ha, Result.andThen_ok, Bool.false_eq_true, if_false, run_load]
    simp only [cellAt] at h1
    rw [h1]
  · simp at hl

/-- a variable of the call's own that is read -/
theorem loadS_run {t : TypeId} {cs : List SV} {b o off : Nat} {u : SV} (f : Nat → Value)
    (hc : ∀ (j : Nat) (c : SV), cs[j]? = some c → cellAt w b (o + j) = some (f j) ∧ SRel gh tab nx w c (f j)) (hl : ldS P t cs off = some u) :
    ∃ v, (loadVar t ⟨b, o + off, none⟩).run P w = .ok v w ∧ SRel gh tab nx w u v := by
  unfold ldS at hl
  split at hl
  · rename_i n ha hn
    split at hl
    · rename_i hle
      simp at hl; subst hl
      have hlen : ((List.range n).map fun j => f (off + j)).length = n := by simp
      have hrun := run_loadCells_list (P := P) (w := w) ⟨b, o + off, none⟩ ((List.range n).map fun j => f (off + j)) fun j v hv => by
        have hj : j < n := by have := (List.getElem?_eq_some_iff.1 hv).1; simpa using this
        simp [hj] at hv
        subst hv
        have hlt : off + j < cs.length := by omega
        rw [Addr.add_lit, Nat.add_assoc]
        exact (hc (off + j) _ (List.getElem?_eq_getElem hlt)).1
      rw [hlen] at hrun
      refine ⟨.agg ((List.range n).map fun j => f (off + j)).toArray, ?_, stOf_rel ⟨?_, fun i x v hx hv => ?_⟩⟩
      · simp only [loadVar, Sem.run_bind, run_isAgg ha, Result.andThen_ok, if_true, run_sizeOf hn, Sem.run_pure, hrun]
      · simp; omega
      · rw [List.getElem?_take] at hx
        split at hx
        · rename_i hi
          rw [List.getElem?_drop] at hx
          simp [hi] at hv
          subst hv
          exact (hc _ _ hx).2
        · simp at hx
    · simp at hl
  · rename_i n ha hn
    obtain ⟨h1, h2⟩ := hc off u hl
    refine ⟨f off, ?_, h2⟩
    simp only [loadVar, Sem.run_bind, run_isAgg ha, Result.andThen_ok, Bool.false_eq_true, if_false, run_load]
    simp only [cellAt] at h1
    rw [h1]
  · simp at hl

theorem partS_run {t : TypeId} {cs : List SV} {l : List Value} {off : Nat} {u : SV} (h : SsRel gh tab nx w cs l) (hl : ldS P t cs off = some u) (w' : World) :
    ∃ v, (part t l.toArray off).run P w' = .ok v w' ∧ SRel gh tab nx w u v := by
  unfold ldS at hl
  split at hl
  · rename_i n ha hn
    split at hl
    · rename_i hle
      simp at hl; subst hl
      refine ⟨.agg ((l.drop off).take n).toArray, ?_, stOf_rel ⟨?_, fun i x v hx hv => ?_⟩⟩
      · simp only [part, Sem.run_bind, run_isAgg ha, Result.andThen_ok, if_true, run_sizeOf hn, Sem.run_pure]
        congr 2
        simp [List.extract_eq_take_drop]
      · have := h.len; simp; omega
      · rw [List.getElem?_take] at hx hv
        split at hx
        · rename_i hi
          rw [if_pos hi] at hv
          rw [List.getElem?_drop] at hx hv
          exact h.rel _ x v hx hv
        · simp at hx
    · simp at hl
  · rename_i n ha hn
    have hlt : off < l.length := by have := (List.getElem?_eq_some_iff.1 hl).1; have := h.len; omega
    refine ⟨l[off], ?_, h.rel off u _ hl (List.getElem?_eq_getElem hlt)⟩
    simp [part, run_isAgg ha, hlt]
  · simp at hl

end
end Go.Vi

/-
  '==' and the other operators; what an operation that looks at its operands alone comes to.
-/
namespace Go.Vi
set_option linter.unusedVariables false
set_option linter.unusedSimpArgs false

theorem eqCells_len {l : List Lf} : ∀ {xs ys : List VV} {b : Bool}, eqCells l xs ys = some b → xs.length = l.length ∧ ys.length = l.length := by
  induction l with
  | nil => intro xs ys b h; cases xs <;> cases ys <;> simp [eqCells] at h ⊢
  | cons t ts ih =>
    intro xs ys b h
    cases xs <;> cases ys <;> simp only [eqCells] at h <;> try (simp at h; done)
    split at h
    · rename_i h1 h2
      obtain ⟨a, b⟩ := ih h2
      simp [a, b]
    · simp at h

theorem eqCells_append {l1 l2 : List Lf} : ∀ {xs ys : List VV} {b : Bool}, eqCells (l1 ++ l2) xs ys = some b →
    ∃ b1 b2, eqCells l1 (xs.take l1.length) (ys.take l1.length) = some b1 ∧ eqCells l2 (xs.drop l1.length) (ys.drop l1.length) = some b2 ∧ b = (b1 && b2) := by
  induction l1 with
  | nil => intro xs ys b h; exact ⟨true, b, by simp [eqCells], by simpa using h, by simp⟩
  | cons t ts ih =>
    intro xs ys b h
    cases xs <;> cases ys <;> simp only [List.cons_append, eqCells] at h <;> try (simp at h; done)
    split at h
    · rename_i a c h1 h2
      obtain ⟨b1, b2, e1, e2, e3⟩ := ih h2
      simp at h; subst h
      refine ⟨a && b1, b2, ?_, by simpa using e2, by rw [e3, Bool.and_assoc]⟩
      simp [eqCells, h1, e1]
    · simp at h

section
variable {P : Program} {gh : Gh} {tab : List TC} {nx : Nat} {w : World}

theorem VsRel.sub {μ : Nat → Ob} {G : Nat → Nat} {X : List VV} {L : List Value} (h : VsRel μ nx G w X L) (off n : Nat) : VsRel μ nx G w ((X.drop off).take n) ((L.drop off).take n) :=
  ⟨by simp [h.len], fun i x v hx hv => by
    rw [List.getElem?_take] at hx hv
    split at hx
    · rename_i hi
      rw [if_pos hi] at hv
      rw [List.getElem?_drop] at hx hv
      exact h.rel _ x v hx hv
    · simp at hx⟩

theorem one_of {X : List VV} {off : Nat} {x : VV} (h : (X.drop off).take 1 = [x]) : X[off]? = some x := by
  have := congrArg (fun l => l[0]?) h
  simpa using this

theorem drop_eq_cons {X : List VV} {off : Nat} (h : off + 1 ≤ X.length) : ∃ x, (X.drop off).take 1 = [x] := by
  have : off < X.length := by omega
  exact ⟨X[off], by rw [List.drop_eq_getElem_cons this]; rfl⟩

theorem flat_eq (w' : World) : ∀ (d : Nat),
    (∀ (t : TypeId) (l : List Lf), flatT P d t = some l → ∀ (D : Nat) (X Y : List VV) (L1 L2 : List Value) (off : Nat) (b : Bool), d ≤ D →
      VsRel gh.μ nx gh.G w X L1 → VsRel gh.μ nx gh.G w Y L2 → sizeT P t = some l.length →
      eqCells l ((X.drop off).take l.length) ((Y.drop off).take l.length) = some b →
      ∃ v1 v2, (part t L1.toArray off).run P w' = .ok v1 w' ∧ (part t L2.toArray off).run P w' = .ok v2 w' ∧ (Op.equalIn D t v1 v2).run P w' = .ok b w') ∧
    (∀ (fs : List Field) (off : Nat) (l : List Lf), flatT.flatFs P d fs off = some l → ∀ (D : Nat) (X Y : List VV) (L1 L2 : List Value) (b : Bool), d ≤ D →
      VsRel gh.μ nx gh.G w X L1 → VsRel gh.μ nx gh.G w Y L2 → eqCells l (X.drop off) (Y.drop off) = some b →
      (Op.eqFields D L1.toArray L2.toArray fs).run P w' = .ok b w') := by
  intro d
  induction d with
  | zero => exact ⟨fun t l h => by simp [flatT] at h, fun fs off l h => by simp [flatT.flatFs] at h⟩
  | succ d ih =>
    obtain ⟨ihT, ihF⟩ := ih
    refine ⟨fun t l h D X Y L1 L2 off b hD hX hY hsz he => ?_, fun fs off l h D X Y L1 L2 b hD hX hY he => ?_⟩
    · obtain ⟨D, rfl⟩ : ∃ e, D = e + 1 := ⟨D - 1, by omega⟩
      have scalar : ∀ k : Lf, l = [k] → isAggT P t = some false → (∀ x y v1 v2, eqCell k x y = some b → VR gh nx w x v1 → VR gh nx w y v2 →
          (Op.equalIn (D + 1) t v1 v2).run P w' = .ok b w') →
          ∃ v1 v2, (part t L1.toArray off).run P w' = .ok v1 w' ∧ (part t L2.toArray off).run P w' = .ok v2 w' ∧ (Op.equalIn (D + 1) t v1 v2).run P w' = .ok b w' := by
        intro k hk ha hrun
        subst hk
        obtain ⟨q1, q2⟩ := eqCells_len he
        simp only [List.length_cons, List.length_nil, Nat.zero_add] at he q1 q2
        have l1 : off + 1 ≤ X.length := by simp at q1; omega
        have l2 : off + 1 ≤ Y.length := by simp at q2; omega
        obtain ⟨x, hx⟩ := drop_eq_cons l1
        obtain ⟨y, hy⟩ := drop_eq_cons l2
        rw [hx, hy] at he
        simp only [eqCells] at he
        have hc : eqCell k x y = some b := by
          cases hcc : eqCell k x y with
          | none => simp [hcc] at he
          | some a => simp [hcc] at he; rw [he]
        have lx : ldV P t X off = some x := by simp only [ldV, ha, hsz]; exact one_of hx
        have ly : ldV P t Y off = some y := by simp only [ldV, ha, hsz]; exact one_of hy
        obtain ⟨v1, r1, e1⟩ := part_run hX lx w'
        obtain ⟨v2, r2, e2⟩ := part_run hY ly w'
        exact ⟨v1, v2, r1, r2, hrun x y v1 v2 hc e1 e2⟩
      simp only [flatT] at h
      split at h
      · rename_i hu
        split at h
        · simp at h
          refine scalar .bool h.symm (by simp [isAggT, hu]) fun x y v1 v2 hc e1 e2 => ?_
          cases x <;> cases y <;> simp [eqCell] at hc
          cases e1; cases e2; subst hc
          exact run_equalIn_bool' w' D t _ _ hu
        · simp at h
      · rename_i k hu
        split at h
        · simp at h
          refine scalar .int h.symm (by simp [isAggT, hu]) fun x y v1 v2 hc e1 e2 => ?_
          cases x <;> cases y <;> simp [eqCell] at hc
          obtain ⟨rfl, rfl⟩ := hc
          cases e1; cases e2
          exact run_equalIn_int w' D t _ _ _ _ hu
        · simp at h
      · rename_i hu
        split at h
        · simp at h
          refine scalar .str h.symm (by simp [isAggT, hu]) fun x y v1 v2 hc e1 e2 => ?_
          cases x <;> cases y <;> simp [eqCell] at hc
          cases e1; cases e2; subst hc
          exact run_equalIn_string w' D t _ _ hu
        · simp at h
      · rename_i fs hu
        split at h
        · simp at h
        · rename_i hp
          have hp' : P.stoodInHeld t = false := by simpa using hp
          have ha : isAggT P t = some true := by simp [isAggT, hu]
          obtain ⟨q1, q2⟩ := eqCells_len he
          have l1 : off + l.length ≤ X.length ∨ l.length = 0 := by simp at q1; omega
          have l2 : off + l.length ≤ Y.length ∨ l.length = 0 := by simp at q2; omega
          refine ⟨.agg ((L1.drop off).take l.length).toArray, .agg ((L2.drop off).take l.length).toArray, ?_, ?_, ?_⟩
          · simp only [part, Sem.run_bind, run_isAgg ha, Result.andThen_ok, if_true, run_sizeOf hsz, Sem.run_pure]
            congr 2
            simp [List.extract_eq_take_drop]
          · simp only [part, Sem.run_bind, run_isAgg ha, Result.andThen_ok, if_true, run_sizeOf hsz, Sem.run_pure]
            congr 2
            simp [List.extract_eq_take_drop]
          · have hfs : P.underlying t = some (.struct (P.fieldsOf t)) := by simp [Program.fieldsOf, hu]
            rw [run_equalIn_struct w' D t _ _ hfs hp']
            have : (P.fieldsOf t).toList = fs.toList := by simp [Program.fieldsOf, hu]
            rw [this]
            exact ihF _ 0 l h D _ _ _ _ b (by omega) (hX.sub off l.length) (hY.sub off l.length) (by simpa using he)
      · simp at h
    · cases fs with
      | nil =>
        simp only [flatT.flatFs, Option.some.injEq] at h
        subst h
        have : b = true := by
          cases hx : X.drop off <;> cases hy : Y.drop off <;> simp [hx, hy, eqCells] at he
          exact he
        subst this
        simp [Op.eqFields]
      | cons f r =>
        simp only [flatT.flatFs] at h
        split at h
        · simp at h
        · rename_i hne
          have hn : f.name ≠ "_" := fun e => hne (.inl e)
          have ho : f.offset = off := Classical.byContradiction fun e => hne (.inr e)
          split at h
          · rename_i lf hf
            split at h
            · rename_i hsz
              split at h
              · rename_i l' hr
                simp at h; subst h
                obtain ⟨b1, b2, e1, e2, rfl⟩ := eqCells_append he
                obtain ⟨v1, v2, r1, r2, r3⟩ := ihT f.type lf hf D X Y L1 L2 off b1 (by omega) hX hY hsz e1
                have r4 := ihF r (off + lf.length) l' hr D X Y L1 L2 b2 (by omega) hX hY (by
                  rw [List.drop_drop, List.drop_drop] at e2; exact e2)
                simp only [Op.eqFields, if_pos hn, ho, Sem.run_bind, r1, Result.andThen_ok, r2, r3, Sem.run_ite, r4, Sem.run_pure]
                cases b1 <;> simp
              · simp at h
            · simp at h
          · simp at h

/-- an operation of the kind that only hands a value on -/
def Gives (P : Program) (o : Oper) (a : Act) (w : World) (v : Value) : Prop := (execOp a.eval o).run P w = .ok (.value v) w

end
end Go.Vi

/-
  Each operation that looks at its operands alone, as the model's.
-/
namespace Go.Vi
set_option linter.unusedVariables false
set_option linter.unusedSimpArgs false

section
variable {P : Program} {gh : Gh} {tab : List TC} {nx : Nat} {w : World}

theorem isAggT_struct {t : TypeId} {fs : Array Field} (h : P.underlying t = some (.struct fs)) : isAggT P t = some true := by simp [isAggT, h]

theorem equal_agg_run {t : TypeId} {fs : Array Field} {l : List Lf} {xs ys : List VV} {l1 l2 : List Value} {b : Bool} (hu : P.underlying t = some (.struct fs))
    (hf : flatT P 100 t = some l) (h1 : VsRel gh.μ nx gh.G w xs l1) (h2 : VsRel gh.μ nx gh.G w ys l2) (he : eqCells l xs ys = some b) :
    (Op.equalIn 10000 t (.agg l1.toArray) (.agg l2.toArray)).run P w = .ok b w := by
  simp only [flatT, hu] at hf
  split at hf
  · simp at hf
  · rename_i hp
    have hfs : P.underlying t = some (.struct (P.fieldsOf t)) := by simp [Program.fieldsOf, hu]
    rw [run_equalIn_struct w 9999 t _ _ hfs (by simpa using hp)]
    have : (P.fieldsOf t).toList = fs.toList := by simp [Program.fieldsOf, hu]
    rw [this]
    exact (flat_eq (P := P) (gh := gh) (nx := nx) (w := w) w 99).2 fs.toList 0 l hf 9999 xs ys l1 l2 b (by omega) h1 h2 (by simpa using he)

theorem nilEq_some {x y : Option Bool} {b : Bool} (h : nilEq x y = some b) : ∃ b1 b2, x = some b1 ∧ y = some b2 ∧ ((b1 = true ∧ b = b2) ∨ (b2 = true ∧ b = b1)) := by
  unfold nilEq at h
  split at h
  · simp at h; exact ⟨_, _, rfl, rfl, .inl ⟨rfl, h.symm⟩⟩
  · simp at h; exact ⟨_, _, rfl, rfl, .inr ⟨rfl, h.symm⟩⟩
  · simp at h

theorem nilP_rel {x : SV} {v : Value} {b : Bool} (h : SRel gh tab nx w x v) (hn : nilP x = some b) : ∃ a : Option Addr, v = .pointer a ∧ a.isNone = b := by
  unfold nilP at hn
  split at hn <;> simp at hn <;> subst hn
  · cases h with | val _ _ h => cases h; exact ⟨_, rfl, rfl⟩
  · cases h with | val _ _ h => cases h; exact ⟨_, rfl, rfl⟩
  · cases h with | val _ _ h => cases h; exact ⟨_, rfl, rfl⟩
  · cases h; exact ⟨_, rfl, rfl⟩
  · cases h; exact ⟨_, rfl, rfl⟩

theorem nilS_rel {x : SV} {v : Value} {b : Bool} (h : SRel gh tab nx w x v) (hn : nilS x = some b) : ∃ (a : Option Addr) (n c : Nat), v = .slice a n c ∧ a.isNone = b := by
  unfold nilS at hn
  split at hn <;> simp at hn <;> subst hn
  · cases h with | val _ _ h => cases h <;> exact ⟨_, _, _, rfl, rfl⟩
  · cases h with | val _ _ h => cases h <;> exact ⟨_, _, _, rfl, rfl⟩
  · cases h with | val _ _ h => cases h <;> exact ⟨_, _, _, rfl, rfl⟩
  · cases h with | full _ a n h => cases h <;> exact ⟨_, _, _, rfl, rfl⟩
  · cases h <;> exact ⟨_, _, _, rfl, rfl⟩
  · cases h <;> exact ⟨_, _, _, rfl, rfl⟩

theorem nilM_rel {x : SV} {v : Value} {b : Bool} (h : SRel gh tab nx w x v) (hn : nilM x = some b) : ∃ a : Option Nat, v = .map a ∧ a.isNone = b := by
  unfold nilM at hn
  split at hn <;> simp at hn <;> subst hn
  · cases h with | val _ _ h => cases h; exact ⟨_, rfl, rfl⟩
  · cases h with | val _ _ h => cases h; exact ⟨_, rfl, rfl⟩

theorem nilF_rel {x : SV} {v : Value} {b : Bool} (h : SRel gh tab nx w x v) (hn : nilF x = some b) : (b = true ∧ v = .nilFunc) ∨ ∃ f x y, b = false ∧ v = .func f x y := by
  unfold nilF at hn
  split at hn <;> simp at hn <;> subst hn
  · cases h with | val _ _ h => cases h; exact .inl ⟨rfl, rfl⟩
  · cases h with | val _ _ h => cases h; exact .inr ⟨_, _, _, rfl, rfl⟩

theorem eq_finish {t : TypeId} {v u : Value} {b : Bool} {ox oy : Operand} (hb : binOp .eql t v u = (do pure (.bool (← Op.equal t v u))))
    (hn : binOp .neq t v u = (do pure (.bool (!(← Op.equal t v u))))) (h : ∀ D, (Op.equalIn (D + 1) t v u).run P w = .ok b w)
    (g1 : eqGuard .eql t ox oy v u = pure ()) (g2 : eqGuard .neq t ox oy v u = pure ()) :
    (binOp .eql t v u).run P w = .ok (.bool b) w ∧ (binOp .neq t v u).run P w = .ok (.bool !b) w ∧
    (eqGuard .eql t ox oy v u).run P w = .ok () w ∧ (eqGuard .neq t ox oy v u).run P w = .ok () w := by
  have h' : (Op.equal t v u).run P w = .ok b w := h 9999
  refine ⟨?_, ?_, ?_, ?_⟩
  · rw [hb]; simp only [Sem.run_bind, h', Result.andThen_ok, Sem.run_pure]
  · rw [hn]; simp only [Sem.run_bind, h', Result.andThen_ok, Sem.run_pure]
  · rw [g1]; rfl
  · rw [g2]; rfl

/-- '==' of what is neither two numbers nor two strings, and its guard -/
theorem eqOf_run {t : TypeId} {x y : SV} {v u : Value} {b : Bool} (h1 : SRel gh tab nx w x v) (h2 : SRel gh tab nx w y u) (h : eqOf P t x y = some b) (ox oy : Operand) :
    (binOp .eql t v u).run P w = .ok (.bool b) w ∧ (binOp .neq t v u).run P w = .ok (.bool !b) w ∧
    (eqGuard .eql t ox oy v u).run P w = .ok () w ∧ (eqGuard .neq t ox oy v u).run P w = .ok () w := by
  unfold eqOf at h
  split at h
  · rename_i hu
    split at h
    · simp at h; subst h
      cases h1 with | val _ _ h1 => cases h1; cases h2 with | val _ _ h2 => cases h2; exact ⟨run_eql_bool w t _ _ hu, run_neq_bool w t _ _ hu, by simp [go_sem], by simp [go_sem]⟩
    · simp at h
  · rename_i fs hu
    split at h
    · split at h
      · simp at h
      · rename_i hm
        split at h
        · rename_i l hf
          cases h1 with | val _ _ h1 => cases h1 with | agg cs1 l1 e1 r1 => cases h2 with | val _ _ h2 => cases h2 with | agg cs2 l2 e2 r2 =>
            have hr := equal_agg_run hu hf ⟨e1, r1⟩ ⟨e2, r2⟩ h
            have hm' : P.eqGuardType P.depth t = false := by simpa using hm
            exact ⟨by rw [run_eql_struct, hr]; rfl, by rw [run_neq_struct, hr]; rfl, run_eqGuard_agg w _ t _ _ _ _ hm', run_eqGuard_agg w _ t _ _ _ _ hm'⟩
        · simp at h
    · simp at h
  · rename_i e hu
    obtain ⟨b1, b2, e1, e2, hb⟩ := nilEq_some h
    obtain ⟨a1, rfl, n1⟩ := nilP_rel h1 e1
    obtain ⟨a2, rfl, n2⟩ := nilP_rel h2 e2
    refine eq_finish rfl rfl (fun D => ?_) (by simp only [go_sem]) (by simp only [go_sem])
    simp only [Op.equalIn, Sem.run_bind, run_underlying hu, Result.andThen_ok]
    cases a1 <;> cases a2 <;> simp at n1 n2 <;> subst n1 <;> subst n2 <;> simp at hb <;> subst hb <;> simp
  · rename_i e hu
    obtain ⟨b1, b2, e1, e2, hb⟩ := nilEq_some h
    obtain ⟨a1, l1, c1, rfl, n1⟩ := nilS_rel h1 e1
    obtain ⟨a2, l2, c2, rfl, n2⟩ := nilS_rel h2 e2
    refine eq_finish rfl rfl (fun D => ?_) (by simp only [go_sem]) (by simp only [go_sem])
    simp only [Op.equalIn, Sem.run_bind, run_underlying hu, Result.andThen_ok]
    cases a1 <;> cases a2 <;> simp at n1 n2 <;> subst n1 <;> subst n2 <;> simp at hb <;> subst hb <;> simp
  · rename_i hu
    obtain ⟨b1, b2, e1, e2, hb⟩ := nilEq_some h
    rcases nilF_rel h1 e1 with ⟨rfl, rfl⟩ | ⟨f1, x1, y1, rfl, rfl⟩ <;> rcases nilF_rel h2 e2 with ⟨rfl, rfl⟩ | ⟨f2, x2, y2, rfl, rfl⟩ <;> simp at hb <;> subst hb
    all_goals
      refine eq_finish rfl rfl (fun D => ?_) (by simp only [go_sem]) (by simp only [go_sem])
      simp only [Op.equalIn, Sem.run_bind, run_underlying hu, Result.andThen_ok, Sem.run_pure]
  · rename_i hu
    obtain ⟨b1, b2, e1, e2, hb⟩ := nilEq_some h
    obtain ⟨a1, rfl, n1⟩ := nilM_rel h1 e1
    obtain ⟨a2, rfl, n2⟩ := nilM_rel h2 e2
    refine eq_finish rfl rfl (fun D => ?_) (by simp only [go_sem]) (by simp only [go_sem])
    simp only [Op.equalIn, Sem.run_bind, run_underlying hu, Result.andThen_ok]
    cases a1 <;> cases a2 <;> simp at n1 n2 <;> subst n1 <;> subst n2 <;> simp at hb <;> subst hb <;> simp
  · simp at h

end
end Go.Vi

/-
  The other operations that look at their operands alone.
-/
namespace Go.Vi
set_option linter.unusedVariables false
set_option linter.unusedSimpArgs false

section
variable {P : Program} {gh : Gh} {tab : List TC} {nx : Nat} {w : World}

theorem intBin_run {op : BinOp} {k : IntKind} {a b : Int} {u : VV} (h : intBin op k a b = some u) (t : TypeId) :
    ∃ v, (binOp op t (.int k a) (.int k b)).run P w = .ok v w ∧ VR gh nx w u v := by
  have hk : ∀ op, (∀ x : BinOp, x = .shl ∨ x = .shr → op ≠ x) → binOp op t (.int k a) (.int k b) = match op with
      | .add | .sub | .mul => Op.intArith op k a b
      | .quo | .rem => Op.intDiv op k a b
      | .and | .or | .xor | .andNot => Op.intBits op k a b
      | _ => Op.intCmp op a b := by
    intro op ho
    cases op <;> first | (exact absurd rfl (ho _ (.inl rfl))) | (exact absurd rfl (ho _ (.inr rfl))) | (simp only [binOp]; rw [if_neg (fun h => h rfl)])
  have hs : op ≠ .shl ∧ op ≠ .shr := by constructor <;> (rintro rfl; simp [intBin] at h)
  rw [hk op (fun x hx => by rcases hx with rfl | rfl; exact hs.1; exact hs.2)]
  clear hk
  cases op <;> simp only [intBin] at h <;> simp only
  case quo =>
    split at h
    · simp at h
    · rename_i hb
      simp only [Option.some.injEq] at h; subst h
      exact ⟨_, by simp only [Op.intDiv, if_neg hb]; rfl, .int _ _⟩
  case rem =>
    split at h
    · simp at h
    · rename_i hb
      simp only [Option.some.injEq] at h; subst h
      exact ⟨_, by simp only [Op.intDiv, if_neg hb]; rfl, .int _ _⟩
  case shl => simp at h
  case shr => simp at h
  all_goals
    simp only [Option.some.injEq] at h
    subst h
    first | exact ⟨_, rfl, .int _ _⟩ | exact ⟨_, rfl, .bool _⟩

theorem strBin_run {op : BinOp} {a b : ByteArray} {u : VV} (h : strBin op a b = some u) (t : TypeId) :
    ∃ v, (binOp op t (.string a) (.string b)).run P w = .ok v w ∧ VR gh nx w u v := by
  have hk : binOp op t (.string a) (.string b) = Op.stringOp op a b := by cases op <;> rfl
  rw [hk]
  cases op <;> simp only [strBin] at h <;> try (simp at h; done)
  case add =>
    split at h
    · rename_i hb
      simp only [Option.some.injEq] at h
      subst h
      refine ⟨_, ?_, .str _⟩
      have : ¬ ((a.size + b.size : Nat) : Int) > IntKind.i64.max := by rw [IntKind.max_i64]; omega
      simp only [Op.stringOp, if_neg this, Sem.run_pure]
    · simp at h
  all_goals
    simp only [Option.some.injEq] at h
    subst h
    exact ⟨_, rfl, .bool _⟩

theorem binV_run {op : BinOp} {t : TypeId} {x y : SV} {v u : Value} {z : VV} (h1 : SRel gh tab nx w x v) (h2 : SRel gh tab nx w y u) (h : binV P op t x y = some z) (ox oy : Operand) :
    ∃ r, (do eqGuard op t ox oy v u; binOp op t v u : Sem Value).run P w = .ok r w ∧ VR gh nx w z r := by
  unfold binV at h
  split at h
  · rename_i k a k' b
    have h1' := h1.of_val; have h2' := h2.of_val
    cases h1'; cases h2'
    rw [show eqGuard op t ox oy (.int k a) (.int k' b) = pure () from by simp only [go_sem]]
    simp only [Sem.run_bind, Sem.run_pure, Result.andThen_ok]
    split at h
    · split at h
      · simp at h
      · rename_i hb
        simp at h; subst h
        exact ⟨_, by simp only [binOp, Op.shift, if_neg hb]; rfl, .int _ _⟩
    · split at h
      · simp at h
      · rename_i hb
        simp at h; subst h
        exact ⟨_, by simp only [binOp, Op.shift, if_neg hb]; rfl, .int _ _⟩
    · split at h
      · rename_i hk
        subst hk
        exact intBin_run h t
      · simp at h
  · rename_i a b
    have h1' := h1.of_val; have h2' := h2.of_val
    cases h1'; cases h2'
    rw [show eqGuard op t ox oy (.string a) (.string b) = pure () from by simp only [go_sem]]
    simp only [Sem.run_bind, Sem.run_pure, Result.andThen_ok]
    exact strBin_run h t
  · split at h
    · cases he : eqOf P t x y with
      | none => simp [he] at h
      | some b =>
        simp [he] at h; subst h
        obtain ⟨r1, r2, r3, r4⟩ := eqOf_run h1 h2 he ox oy
        exact ⟨.bool b, by simp only [Sem.run_bind, r3, Result.andThen_ok, r1], .bool _⟩
    · cases he : eqOf P t x y with
      | none => simp [he] at h
      | some b =>
        simp [he] at h; subst h
        obtain ⟨r1, r2, r3, r4⟩ := eqOf_run h1 h2 he ox oy
        exact ⟨.bool !b, by simp only [Sem.run_bind, r4, Result.andThen_ok, r2], .bool _⟩
    · simp at h

theorem unV_run {op : UnOp} {x u : VV} {v : Value} (h1 : VR gh nx w x v) (h : unV op x = some u) : ∃ r, (Op.unary op v).run P w = .ok r w ∧ VR gh nx w u r := by
  unfold unV at h
  split at h
  · cases h1
    split at h <;> simp only [Option.some.injEq, reduceCtorEq] at h <;> subst h
    · exact ⟨_, rfl, .int _ _⟩
    · exact ⟨_, rfl, .int _ _⟩
  · cases h1
    split at h <;> simp at h <;> subst h
    exact ⟨_, rfl, .bool _⟩
  · simp at h

theorem convV_run {s d : TypeId} {x u : VV} {v : Value} (h1 : VR gh nx w x v) (h : convV P s d x = some u) : ∃ r, (convert s d v).run P w = .ok r w ∧ VR gh nx w u r := by
  unfold convV at h
  split at h
  · rename_i d1 k k' n hs hd
    cases h1; simp at h; subst h
    refine ⟨_, ?_, .int _ _⟩
    simp only [convert, Sem.run_bind, run_underlying hs, run_underlying hd, Result.andThen_ok, Conv.intToInt, Sem.run_pure]
  · rename_i d1 s' hs hd
    cases h1; simp at h; subst h
    refine ⟨_, ?_, .str _⟩
    simp only [convert, Sem.run_bind, run_underlying hs, run_underlying hd, Result.andThen_ok, Sem.run_pure]
  · simp at h

theorem fieldsOf_some {t : TypeId} {l : List Field} (h : fieldsOf P t = some l) : ∃ fs : Array Field, P.underlying t = some (.struct fs) ∧ fs.toList = l := by
  unfold fieldsOf at h
  split at h
  · rename_i fs hu; simp at h; exact ⟨fs, hu, h⟩
  · simp at h

theorem fieldAddrV_run {s : TypeId} {x u : SV} {f : Nat} {v : Value} (h1 : SRel gh tab nx w x v) (h : fieldAddrV P s x f = some u) :
    ∃ r, (Instr.fieldAt s v f).run P w = .ok r w ∧ SRel gh tab nx w u r := by
  unfold fieldAddrV at h
  cases hf : fieldsOf P s with
  | none => simp [hf] at h
  | some l =>
    obtain ⟨fs, hu, rfl⟩ := fieldsOf_some hf
    cases hfd : fs[f]? with
    | none => simp [hf, hfd] at h
    | some fd =>
      cases hn : sizeT P fd.type with
      | none => simp [hf, hfd, hn] at h
      | some n =>
        simp [hf, hfd, hn] at h
        obtain ⟨hn0, h⟩ := h
        have step : ∀ b o : Nat, (Instr.fieldAt s (.pointer (some ⟨b, o, none⟩)) f).run P w = .ok (.pointer (some ⟨b, o + fd.offset, none⟩)) w := by
          intro b o
          simp only [Instr.fieldAt, Sem.run_bind, run_underlying hu, Result.andThen_ok, hfd, Instr.sureAddr, Sem.run_pure, fieldPlace, run_sizeOf hn, if_neg hn0, Addr.add_lit]
        split at h
        · cases h1 with
          | loc d g off b o hg hh =>
            simp only [Option.some.injEq] at h; subst h
            exact ⟨_, step b o, .loc _ _ _ _ _ hg fun cs wr he => by obtain ⟨q1, q2⟩ := hh cs wr he; exact ⟨q1, by omega⟩⟩
        · cases h1 with
          | rel d g i off sz b o hg hh =>
            simp only [Option.some.injEq] at h; subst h
            exact ⟨_, step b o, .rel _ _ _ _ _ _ _ hg fun es lk he => by obtain ⟨q1, q2⟩ := hh es lk he; exact ⟨q1, by omega⟩⟩
        · rename_i es i off
          have h1' := h1.of_val
          cases h1' with
          | elt _ _ _ b base sz vs hs hc hv =>
            simp only [Option.some.injEq] at h; subst h
            refine ⟨_, step b _, .val _ _ ?_⟩
            rw [Nat.add_assoc (base + i * sz)]
            exact .elt es i (off + fd.offset) b base sz vs hs hc hv
        · rename_i o off
          have h1' := h1.of_val
          cases h1' with
          | ptr _ _ ho =>
            simp only [Option.some.injEq] at h; subst h
            exact ⟨_, step _ _, .val _ _ (by rw [Nat.add_assoc]; exact .ptr o _ ho)⟩
        · simp at h

theorem fieldV_run {s : TypeId} {x u : SV} {f : Nat} {v : Value} (h1 : SRel gh tab nx w x v) (h : fieldV P s x f = some u) :
    ∃ r, (Instr.field s v f).run P w = .ok r w ∧ SRel gh tab nx w u r := by
  unfold fieldV at h
  cases hf : fieldsOf P s with
  | none => simp [hf] at h
  | some l =>
    obtain ⟨fs, hu, rfl⟩ := fieldsOf_some hf
    cases hfd : fs[f]? with
    | none => simp [hf, hfd] at h
    | some fd =>
      simp [hf, hfd] at h
      split at h
      · rename_i cs
        have h1' := h1.of_val
        cases h1' with
        | agg _ l e r =>
          cases hl : ldV P fd.type cs fd.offset with
          | none => simp [hl] at h
          | some z =>
            simp [hl] at h; subst h
            obtain ⟨r', e1, e2⟩ := part_run ⟨e, r⟩ hl w
            exact ⟨r', by simp only [Instr.field, Sem.run_bind, run_underlying hu, Result.andThen_ok, hfd, asAgg, Sem.run_pure, e1], .val _ _ e2⟩
      · cases h1 with
        | st cs l e r =>
          obtain ⟨r', e1, e2⟩ := partS_run ⟨e, r⟩ h w
          exact ⟨r', by simp only [Instr.field, Sem.run_bind, run_underlying hu, Result.andThen_ok, hfd, asAgg, Sem.run_pure, e1], e2⟩
      · simp at h

theorem intOfV_rel {x : SV} {n : Int} {v : Value} (h1 : SRel gh tab nx w x v) (h : intOfV x = some n) : ∃ k, v = .int k n := by
  unfold intOfV at h
  split at h
  · simp at h; subst h
    have := h1.of_val
    cases this; exact ⟨_, rfl⟩
  · simp at h

theorem indexAddrV_run {t : TypeId} {x i u : SV} {v j : Value} (h1 : SRel gh tab nx w x v) (h2 : SRel gh tab nx w i j) (h : indexAddrV P t x i = some u) :
    ∃ r, (Instr.indexAt t v j).run P w = .ok r w ∧ SRel gh tab nx w u r := by
  unfold indexAddrV at h
  cases hn : intOfV i with
  | none => simp [hn] at h
  | some n =>
    obtain ⟨k, rfl⟩ := intOfV_rel h2 hn
    simp only [hn, Option.bind_eq_bind, Option.bind_some] at h
    split at h
    · rename_i e hu
      cases hsz : sizeT P e with
      | none => simp [hsz] at h
      | some sz =>
        simp only [hsz, Option.bind_some] at h
        have step : ∀ (b o len cap : Nat), 0 ≤ n → n < len → (Instr.indexAt t (.slice (some ⟨b, o, none⟩) len cap) (.int k n)).run P w = .ok (.pointer (some ⟨b, o + n.toNat * sz, none⟩)) w := by
          intro b o len cap ha hb
          simp [Instr.indexAt, asIntOf, run_underlying hu, run_sizeOf hsz, Addr.add_lit, ha, hb]
        have list : ∀ es : List VV, VR gh nx w (.lst es) v → (if 0 ≤ n then
              match es[n.toNat]? with
              | some e => if e.cells.length = sz then some (SV.val (.elt es n.toNat 0)) else none
              | none => none
            else none) = some u → ∃ r, (Instr.indexAt t v (.int k n)).run P w = .ok r w ∧ SRel gh tab nx w u r := by
          intro es h1' h
          split at h
          · rename_i h0
            split at h
            · rename_i e hes
              split at h
              · rename_i hl
                simp only [Option.some.injEq] at h; subst h
                have hlt := (List.getElem?_eq_some_iff.1 hes).1
                cases h1' with
                | lst _ b base sz' cap vs hs hc hv hcap =>
                  have hss : sz' = sz := by rw [← hs _ _ hes, hl]
                  subst hss
                  exact ⟨_, step b base es.length cap h0 (by omega), .val _ _ (.elt es n.toNat 0 b base sz' vs hs hc hv)⟩
                | lste a cap => simp at hes
              · simp at h
            · simp at h
          · simp at h
        split at h
        · exact list _ h1.of_val h
        · cases h1 with
          | full es a m h1' => exact list _ h1' h
        · rename_i d g off len s
          split at h
          · rename_i hb
            obtain ⟨h0, hlt, rfl⟩ := hb
            simp only [Option.some.injEq] at h; subst h
            cases h1 with
            | own _ _ _ _ _ cap b o hg hn hh =>
              refine ⟨_, step b o len cap h0 hlt, .rel _ _ _ _ _ _ _ hg fun es lk he => ?_⟩
              rcases hh es lk he with ⟨q1, q2, q3⟩ | ⟨q1, q2⟩
              · refine ⟨q1, ?_⟩
                rw [q2, Nat.add_mul]; omega
              · omega
          · simp at h
        · rename_i d g off len s ag
          split at h
          · rename_i hb
            obtain ⟨h0, hlt, rfl⟩ := hb
            simp only [Option.some.injEq] at h; subst h
            cases h1 with
            | lsl _ _ _ _ _ _ cap b o hg hn hh =>
              refine ⟨_, step b o len cap h0 hlt, .loc _ _ _ _ _ hg fun cs wr he => ?_⟩
              rcases hh cs wr he with ⟨q1, q2⟩ | q1
              · exact ⟨q1, by rw [q2]⟩
              · omega
          · simp at h
        · rename_i o off len c
          split at h
          · rename_i hb
            simp only [Option.some.injEq] at h; subst h
            have h1' := h1.of_val
            cases h1' with
            | row _ _ _ _ cap b' o' ho hn hp hc =>
              rcases hc with ⟨rfl, rfl, _⟩ | hc
              · exact ⟨_, step _ _ len cap hb.1 hb.2.1, .val _ _ (by rw [Nat.add_assoc]; exact .ptr o _ ho)⟩
              · omega
          · simp at h
        · simp at h
    · rename_i len e hu
      cases hsz : sizeT P e with
      | none => simp [hsz] at h
      | some sz =>
        simp only [hsz, Option.bind_some] at h
        split at h
        · rename_i hb
          have step : ∀ (b o : Nat), (Instr.indexAt t (.pointer (some ⟨b, o, none⟩)) (.int k n)).run P w = .ok (.pointer (some ⟨b, o + n.toNat * sz, none⟩)) w := by
            intro b o
            simp [Instr.indexAt, asIntOf, run_underlying hu, run_sizeOf hsz, Addr.add_lit, hb.1, hb.2, Instr.sureAddr]
          split at h
          · simp only [Option.some.injEq] at h; subst h
            cases h1 with
            | loc d g off b o hg hh => exact ⟨_, step b o, .loc _ _ _ _ _ hg fun cs wr he => by obtain ⟨q1, q2⟩ := hh cs wr he; exact ⟨q1, by rw [q2]⟩⟩
          · rename_i o off
            simp only [Option.some.injEq] at h; subst h
            have h1' := h1.of_val
            cases h1' with
            | ptr _ _ ho => exact ⟨_, step _ _, .val _ _ (by rw [Nat.add_assoc]; exact .ptr o _ ho)⟩
          · simp at h
        · simp at h
    · simp at h

theorem indexV_run {t : TypeId} {x i u : SV} {v j : Value} (h1 : SRel gh tab nx w x v) (h2 : SRel gh tab nx w i j) (h : indexV P t x i = some u) :
    ∃ r, (Instr.index t v j).run P w = .ok r w ∧ SRel gh tab nx w u r := by
  unfold indexV at h
  cases hn : intOfV i with
  | none => simp [hn] at h
  | some n =>
    obtain ⟨k, rfl⟩ := intOfV_rel h2 hn
    simp only [hn, Option.bind_eq_bind, Option.bind_some] at h
    split at h
    · rename_i s hu
      have h1' := h1.of_val
      cases h1'
      split at h
      · rename_i b hb
        simp only [Option.some.injEq] at h; subst h
        refine ⟨_, ?_, .val _ _ (.int _ _)⟩
        simp only [Instr.index, asIntOf, Sem.run_bind, Sem.run_pure, Result.andThen_ok, run_underlying hu, hb]
      · simp at h
    · rename_i len e cs hu
      cases hsz : sizeT P e with
      | none => simp [hsz] at h
      | some sz =>
        simp only [hsz, Option.bind_some] at h
        split at h
        · rename_i hb
          cases hl : ldV P e cs (n.toNat * sz) with
          | none => simp [hl] at h
          | some z =>
            simp [hl] at h; subst h
            have h1' := h1.of_val
            cases h1' with
            | agg _ l e1 r1 =>
              obtain ⟨r', e2, e3⟩ := part_run ⟨e1, r1⟩ hl w
              refine ⟨r', ?_, .val _ _ e3⟩
              simp [Instr.index, asIntOf, run_underlying hu, hb.1, hb.2, run_sizeOf hsz, e2]
        · simp at h
    · simp at h

end
end Go.Vi

/-
  Cuts, lengths; all operations that look at their operands alone.
-/
namespace Go.Vi
set_option linter.unusedVariables false
set_option linter.unusedSimpArgs false

section
variable {P : Program} {gh : Gh} {tab : List TC} {nx : Nat} {w : World}

inductive ORel (gh : Gh) (tab : List TC) (nx : Nat) (w : World) : Option SV → Option Value → Prop
  | none : ORel gh tab nx w none none
  | some (x : SV) (v : Value) (h : SRel gh tab nx w x v) : ORel gh tab nx w (some x) (some v)

theorem opt_rel {ρ : Operand → Option SV} {ρ' : Operand → Value} (hρ : ∀ x s, ρ x = some s → SRel gh tab nx w s (ρ' x)) {o : Option Operand} {s : Option SV}
    (h : opt ρ o = some s) : ORel gh tab nx w s (o.map ρ') := by
  cases o with
  | none => simp [opt] at h; subst h; exact .none
  | some x =>
    simp only [opt] at h
    cases hx : ρ x with
    | none => simp [hx] at h
    | some y => simp [hx] at h; subst h; exact .some _ _ (hρ x y hx)

theorem bound_run {k : IntKind} {n : Int} {y : Nat} {c : BoundsCode} (h0 : 0 ≤ n) (h : n ≤ y) : (Instr.sliceBound (.int k n) y c).run P w = .ok n.toNat w := by
  simp [Instr.sliceBound, asIntOf, h0, h]

theorem boundV_run {y d r : Nat} {o : Option SV} {o' : Option Value} (h : boundV y d o = some r) (ho : ORel gh tab nx w o o') (hd : d ≤ y) : r ≤ y ∧
    ∀ y', y ≤ y' → ∀ c, (match o' with | some v => Instr.sliceBound v y' c | none => pure d : Sem Nat).run P w = .ok r w := by
  cases ho with
  | none => simp [boundV] at h; subst h; exact ⟨hd, fun _ _ _ => rfl⟩
  | some x v hx =>
    simp only [boundV] at h
    split at h
    · rename_i n hn
      obtain ⟨k, rfl⟩ := intOfV_rel hx hn
      split at h
      · rename_i hb
        simp at h; subst h
        exact ⟨by omega, fun y' hy c => bound_run hb.1 (by omega)⟩
      · simp at h
    · simp at h

theorem cutAt_some {len l h : Nat} {lo hi : Option SV} (hc : cutAt len lo hi = some (l, h)) : boundV len len hi = some h ∧ boundV h 0 lo = some l := by
  unfold cutAt at hc
  split at hc
  · rename_i h' e1
    split at hc
    · rename_i l' e2
      simp at hc
      obtain ⟨rfl, rfl⟩ := hc
      exact ⟨e1, e2⟩
    · simp at hc
  · simp at hc

theorem cut_run {len cap : Nat} {lo hi : Option SV} {lo' hi' : Option Value} {l h : Nat} (hc : cutAt len lo hi = some (l, h)) (h1 : ORel gh tab nx w lo lo') (h2 : ORel gh tab nx w hi hi')
    (hle : len ≤ cap) (b : Bool) : (Instr.sliceBounds b len cap lo' hi' none).run P w = .ok (l, h, cap) w ∧ l ≤ h ∧ h ≤ len := by
  obtain ⟨e1, e2⟩ := cutAt_some hc
  obtain ⟨f1, g1⟩ := boundV_run (P := P) e1 h2 (Nat.le_refl _)
  obtain ⟨f2, g2⟩ := boundV_run (P := P) e2 h1 (Nat.zero_le _)
  have g1 := g1 cap hle (if b then .sliceAcap else .sliceAlen)
  have g2 := g2 h (Nat.le_refl _) .sliceB
  refine ⟨?_, f2, f1⟩
  cases hi' <;> cases lo' <;> simp only at g1 g2 <;>
    simp only [Instr.sliceBounds, Sem.run_bind, Sem.run_pure, Result.andThen_ok, g1, g2, Option.isSome_none, Bool.false_eq_true, if_false] <;>
    first | rfl | (simp only [Sem.run_pure, Result.ok.injEq] at g1 g2; simp_all)

/-- a cut with three numbers: the capacity is the length -/
theorem cut3_run {len cap : Nat} {lo : Option SV} {x m : SV} {lo' : Option Value} {v mv : Value} {l h : Nat} (hc : cutAt len lo (some x) = some (l, h)) (h1 : ORel gh tab nx w lo lo')
    (h2 : SRel gh tab nx w x v) (h3 : SRel gh tab nx w m mv) (hm : intOfV m = some (h : Int)) (hle : len ≤ cap) (b : Bool) :
    (Instr.sliceBounds b len cap lo' (some v) (some mv)).run P w = .ok (l, h, h) w ∧ l ≤ h ∧ h ≤ len := by
  obtain ⟨e1, e2⟩ := cutAt_some hc
  obtain ⟨km, rfl⟩ := intOfV_rel h3 hm
  obtain ⟨f2, g2⟩ := boundV_run (P := P) e2 h1 (Nat.zero_le _)
  have g2 := g2 h (Nat.le_refl _) .slice3C
  simp only [boundV] at e1
  split at e1
  · rename_i n hn
    obtain ⟨k, rfl⟩ := intOfV_rel h2 hn
    split at e1
    · rename_i hb
      simp at e1; subst e1
      refine ⟨?_, f2, by omega⟩
      have a1 : ∀ c, (Instr.sliceBound (.int km ((n.toNat : Nat) : Int)) cap c).run P w = .ok n.toNat w := fun c => by
        have := bound_run (P := P) (w := w) (k := km) (n := ((n.toNat : Nat) : Int)) (y := cap) (c := c) (by omega) (by omega)
        rw [Int.toNat_natCast] at this; exact this
      have a2 : ∀ c, (Instr.sliceBound (.int k n) n.toNat c).run P w = .ok n.toNat w := fun c => bound_run hb.1 (by omega)
      cases lo' <;> simp only at g2 <;>
        simp only [Instr.sliceBounds, Sem.run_bind, Sem.run_pure, Result.andThen_ok, a1, a2, g2, Option.isSome_some, if_true]
      simp only [Sem.run_pure, Result.ok.injEq] at g2
      simp_all
    · simp at e1
  · simp at e1

/-- a part of a list that nobody writes -/
theorem lst_cut {es : List VV} {v : Value} (h : VR gh nx w (.lst es) v) {l h' : Nat} (hl : l ≤ h') (hh : h' ≤ es.length) {sz : Nat}
    (hsz : ∀ x, x ∈ es → x.cells.length = sz) :
    ∃ (a : Addr) (cap : Nat), v = .slice (some a) es.length cap ∧ (es.length ≤ cap ∨ es = []) ∧
      (∀ m, h' ≤ m → VR gh nx w (.lst ((es.take h').drop l)) (.slice (if m = l then some a else some (a.add (l * sz))) (h' - l) (m - l))) := by
  cases h with
  | lst _ b base sz' cap vs hs hc hv hcap =>
    refine ⟨⟨b, base, none⟩, cap, rfl, .inl hcap, fun m hm => ?_⟩
    rw [Addr.add_lit]
    have hlen : ((es.take h').drop l).length = h' - l := by simp; omega
    by_cases hml : m = l
    · rw [if_pos hml]
      have : h' = l := by omega
      have h0 : (es.take h').drop l = [] := by apply List.eq_nil_of_length_eq_zero; omega
      have h1 : h' - l = ([] : List VV).length := by simp; omega
      rw [h0, h1]
      exact .lst [] b base sz (m - l) vs (by simp) (by simp) (by simp) (by simp)
    · rw [if_neg hml]
      have key : ∀ (i : Nat) (x : VV), ((es.take h').drop l)[i]? = some x → es[l + i]? = some x := fun i x hx => by
        rw [List.getElem?_drop, List.getElem?_take] at hx
        split at hx
        · exact hx
        · simp at hx
      have hss : es ≠ [] → sz' = sz := fun hne => by
        cases es with
        | nil => exact absurd rfl hne
        | cons x r => rw [← hs 0 x rfl, hsz x (by simp)]
      rw [← hlen]
      by_cases hne : es = []
      · subst hne
        simp
        exact .lst [] b _ sz (m - l) vs (by simp) (by simp) (by simp) (by simp)
      · obtain rfl := hss hne
        refine .lst _ b (base + l * sz') sz' (m - l) (fun i j => vs (l + i) j) (fun i x hx => hs _ x (key i x hx)) (fun i x j c hx hj => ?_) (fun i x j c hx hj => hv _ x j c (key i x hx) hj) (by omega)
        have := hc _ x j c (key i x hx) hj
        rw [Nat.add_mul, ← Nat.add_assoc] at this
        exact this
  | lste a cap =>
    refine ⟨a, cap, rfl, .inr rfl, fun m hm => ?_⟩
    simp only [List.length_nil, Nat.le_zero_eq] at hh
    subst hh
    have : l = 0 := by omega
    subst this
    simp only [List.take_nil, List.drop_nil, Nat.sub_self, Nat.zero_mul]
    split <;> exact .lste _ _

def listCut (sz : Option Nat) (es : List VV) (c : Option (Nat × Nat)) (hs : Bool) (mx : Option SV) : Option SV :=
  match sz, c with
  | some sz, some (l, h) =>
    if es.all fun x => x.cells.length == sz then
      match mx with
      | some m => if intOfV m = some (h : Int) ∧ hs then some (.full ((es.take h).drop l)) else none
      | none => some (.val (.lst ((es.take h).drop l)))
    else none
  | _, _ => none

theorem listCut_run {t e : TypeId} {es : List VV} {u : SV} {lo hi mx : Option SV} {v : Value} {lo' hi' mx' : Option Value} (hu : P.underlying t = some (.slice e)) (hl : VR gh nx w (.lst es) v)
    (h2 : ORel gh tab nx w lo lo') (h3 : ORel gh tab nx w hi hi') (h4 : ORel gh tab nx w mx mx') (h : listCut (sizeT P e) es (cutAt es.length lo hi) hi.isSome mx = some u) :
    ∃ r, (Instr.sliceAt t v lo' hi' mx').run P w = .ok r w ∧ SRel gh tab nx w u r := by
  unfold listCut at h
  split at h
  · rename_i sz l h' hsz hc
    split at h
    · rename_i hall
      have hall' : ∀ x, x ∈ es → x.cells.length = sz := fun x hx => by have := List.all_eq_true.1 hall x hx; simpa using this
      have hb : l ≤ h' ∧ h' ≤ es.length := (cut_run (P := P) hc h2 h3 (Nat.le_refl _) true).2
      obtain ⟨ad, cap, rfl, hcap, hr⟩ := lst_cut hl hb.1 hb.2 hall'
      have hcap : es.length ≤ cap := by rcases hcap with h | h
                                        · exact h
                                        · rw [h]; exact Nat.zero_le _
      cases h4 with
      | none =>
        simp only [Option.some.injEq] at h; subst h
        have hrun := (cut_run (P := P) hc h2 h3 hcap true).1
        refine ⟨_, ?_, .val _ _ (hr cap (by omega))⟩
        simp only [Instr.sliceAt, Instr.slice, Sem.run_bind, run_underlying hu, Result.andThen_ok, hrun, run_sizeOf hsz, Sem.run_pure]
        split <;> simp [Addr.add_lit]
      | some m mv hm =>
        simp only at h
        split at h
        · rename_i hh
          simp only [Option.some.injEq] at h; subst h
          cases h3 with
          | none => simp at hh
          | some x xv hx =>
            have hrun := (cut3_run (P := P) hc h2 hx hm hh.1 hcap true).1
            have hv := hr h' (Nat.le_refl _)
            refine ⟨_, ?_, .full _ _ _ hv⟩
            simp only [Instr.sliceAt, Instr.slice, Sem.run_bind, run_underlying hu, Result.andThen_ok, hrun, run_sizeOf hsz, Sem.run_pure]
            split <;> simp [Addr.add_lit]
        · simp at h
    · simp at h
  · simp at h

theorem sliceV_run {t : TypeId} {x u : SV} {lo hi mx : Option SV} {v : Value} {lo' hi' mx' : Option Value} (h1 : SRel gh tab nx w x v) (h2 : ORel gh tab nx w lo lo')
    (h3 : ORel gh tab nx w hi hi') (h4 : ORel gh tab nx w mx mx') (h : sliceV P t x lo hi mx = some u) :
    ∃ r, (Instr.sliceAt t v lo' hi' mx').run P w = .ok r w ∧ SRel gh tab nx w u r := by
  unfold sliceV at h
  split at h
  · rename_i s hu
    have h1' := h1.of_val
    cases h1'; cases h4
    split at h
    · rename_i l h' hc
      simp only [Option.some.injEq] at h; subst h
      have hrun := (cut_run (P := P) hc h2 h3 (Nat.le_refl _) false).1
      refine ⟨_, ?_, .val _ _ (.str _)⟩
      simp [Instr.sliceAt, Instr.slice, run_underlying hu, hrun]
    · simp at h
  · rename_i e hu
    have h1' := h1.of_val
    cases h1'; cases h4
    split at h
    · rename_i l h' n hc hsz
      simp only [Option.some.injEq] at h; subst h
      obtain ⟨hrun, q1, q2⟩ := cut_run (P := P) hc h2 h3 (Nat.le_refl _) true
      obtain rfl : h' = 0 := by omega
      obtain rfl : l = 0 := by omega
      refine ⟨_, ?_, .val _ _ .nils⟩
      simp only [Instr.sliceAt, Instr.slice, Sem.run_bind, run_underlying hu, Result.andThen_ok, hrun, run_sizeOf hsz, Sem.run_pure]
      rfl
    · simp at h
  · rename_i e d g off len sz hu
    cases h4
    split at h
    · rename_i hsz
      split at h
      · rename_i l h' hc
        simp only [Option.some.injEq] at h; subst h
        cases h1 with
        | own _ _ _ _ _ cap b o hg hn hh =>
          obtain ⟨hrun, q1, q2⟩ := cut_run (P := P) hc h2 h3 hn true
          by_cases hl : cap = l
          · refine ⟨.slice (some ⟨b, o, none⟩) (h' - l) (cap - l), ?_, .own _ _ _ _ _ _ _ _ hg (by omega) fun es lk he => .inr ⟨by omega, by omega⟩⟩
            simp only [Instr.sliceAt, Instr.slice, Sem.run_bind, run_underlying hu, Result.andThen_ok, hrun, run_sizeOf hsz, Sem.run_pure, if_pos hl]
          · refine ⟨.slice (some ⟨b, o + l * sz, none⟩) (h' - l) (cap - l), ?_, .own _ _ _ _ _ _ _ _ hg (by omega) fun es lk he => ?_⟩
            · simp only [Instr.sliceAt, Instr.slice, Sem.run_bind, run_underlying hu, Result.andThen_ok, hrun, run_sizeOf hsz, Sem.run_pure, if_neg hl, Option.map_some, Addr.add_lit]
            · rcases hh es lk he with ⟨a1, a2, a3⟩ | ⟨a1, a2⟩
              · refine .inl ⟨a1, by rw [a2, Nat.add_mul]; omega, ?_⟩
                have : off + l + (cap - l) = off + cap := by omega
                rw [this]; exact a3
              · exact .inr ⟨by omega, by omega⟩
      · simp at h
    · simp at h
  · rename_i e es hu
    exact listCut_run hu h1.of_val h2 h3 h4 h
  · rename_i e es hu
    cases h1 with
    | full _ a n h1' => exact listCut_run hu h1' h2 h3 h4 h
  · rename_i e o off len sz hu
    cases h4
    split at h
    · rename_i hsz
      split at h
      · rename_i l h' hc
        simp only [Option.some.injEq] at h; subst h
        cases h1.of_val with
        | row _ _ _ _ cap b' o' ho hn hp hh =>
          obtain ⟨hrun, q1, q2⟩ := cut_run (P := P) hc h2 h3 hn true
          by_cases hl : cap = l
          · refine ⟨.slice (some ⟨b', o', none⟩) (h' - l) (cap - l), ?_, .val _ _ (.row _ _ _ _ _ _ _ ho (by omega) hp (.inr ⟨by omega, by omega⟩))⟩
            simp only [Instr.sliceAt, Instr.slice, Sem.run_bind, run_underlying hu, Result.andThen_ok, hrun, run_sizeOf hsz, Sem.run_pure, if_pos hl]
          · refine ⟨.slice (some ⟨b', o' + l * sz, none⟩) (h' - l) (cap - l), ?_, .val _ _ (.row _ _ _ _ _ _ _ ho (by omega) hp ?_)⟩
            · simp only [Instr.sliceAt, Instr.slice, Sem.run_bind, run_underlying hu, Result.andThen_ok, hrun, run_sizeOf hsz, Sem.run_pure, if_neg hl, Option.map_some, Addr.add_lit]
            · rcases hh with ⟨a1, a2, a3⟩ | ⟨a1, a2⟩
              · refine .inl ⟨a1, by rw [a2]; omega, ?_⟩
                have e : l * sz + (cap - l) * sz = cap * sz := by rw [← Nat.add_mul]; congr 1; omega
                omega
              · exact .inr ⟨by omega, by omega⟩
      · simp at h
    · simp at h
  · rename_i len e d g off hu
    cases h4
    split at h
    · rename_i sz ag l h' hsz hag hc
      simp only [Option.some.injEq] at h; subst h
      obtain ⟨hrun, q1, q2⟩ := cut_run (P := P) hc h2 h3 (Nat.le_refl _) false
      cases h1 with
      | loc _ _ _ b o hg hh =>
        refine ⟨.slice (if len = l then some ⟨b, o, none⟩ else some ⟨b, o + l * sz, none⟩) (h' - l) (len - l), ?_, ?_⟩
        · simp only [Instr.sliceAt, Sem.run_bind, run_underlying hu, Result.andThen_ok, Instr.sureAddr, hrun, run_sizeOf hsz, Sem.run_pure]
          split <;> simp [Addr.add_lit]
        · split
          · exact .lsl _ _ _ _ _ _ _ _ _ hg (by omega) fun cs wr he => .inr (by omega)
          · exact .lsl _ _ _ _ _ _ _ _ _ hg (by omega) fun cs wr he => by
              obtain ⟨a1, a2⟩ := hh cs wr he
              exact .inl ⟨a1, by omega⟩
    · simp at h
  · simp at h

theorem lenV_run {t : TypeId} {x : SV} {n : Nat} {v : Value} (h1 : SRel gh tab nx w x v) (ho : lenOk P t x = true) (h : lenV x = some n) (ty : TypeId) :
    (Builtin.len_ #[t] ty #[v]).run P w = .ok (.int .i64 n) w := by
  have slice : ∀ e a m c, P.underlying t = some (.slice e) → v = .slice a m c → m = n → (Builtin.len_ #[t] ty #[v]).run P w = .ok (.int .i64 n) w := by
    intro e a m c hu hv hm
    subst hv; subst hm
    simp [Builtin.len_, run_underlying hu, goInt]
  unfold lenOk at ho
  split at ho
  · rename_i s hu
    simp [lenV] at h; subst h
    have := h1.of_val
    cases this
    simp [Builtin.len_, run_underlying hu, goInt]
  · simp at ho
  · rename_i e hu hns
    unfold lenV at h
    split at h <;> simp at h <;> try subst h
    · exact absurd rfl (hns _)
    · have := h1.of_val; cases this <;> exact slice _ _ _ _ hu rfl rfl
    · have := h1.of_val; cases this <;> exact slice _ _ _ _ hu rfl rfl
    · cases h1 with | full _ a n h => cases h <;> exact slice _ _ _ _ hu rfl rfl
    · cases h1; exact slice _ _ _ _ hu rfl rfl
    · cases h1; exact slice _ _ _ _ hu rfl rfl
    · have := h1.of_val; cases this <;> exact slice _ _ _ _ hu rfl rfl
  · simp at ho

theorem min_run {l : List VV} {vs : List Value} {u : VV} (hl : VsRel gh.μ nx gh.G w l vs) (h : foldV minV l = some u) (ts : Array TypeId) (ty : TypeId) :
    ∃ r, (Builtin.min_ ts ty vs.toArray).run P w = .ok r w ∧ VR gh nx w u r := by
  cases l with
  | nil => simp [foldV] at h
  | cons x l =>
    cases vs with
    | nil => have := hl.len; simp at this
    | cons v vs =>
      simp only [foldV] at h
      simp only [Builtin.min_, List.toList_toArray]
      have hx := hl.rel 0 x v rfl rfl
      have hr : VsRel gh.μ nx gh.G w l vs := ⟨by have := hl.len; simpa using this, fun i a b ha hb => hl.rel (i + 1) a b ha hb⟩
      clear hl
      induction l generalizing x v vs with
      | nil =>
        have : vs = [] := by have := hr.len; simpa using this
        subst this
        simp at h; subst h
        exact ⟨v, rfl, hx⟩
      | cons y l ih =>
        cases vs with
        | nil => have := hr.len; simp at this
        | cons z vs =>
          have hy := hr.rel 0 y z rfl rfl
          simp only [List.foldlM_cons, Option.bind_eq_bind] at h
          cases hm : minV x y with
          | none => simp [hm] at h
          | some m =>
            simp only [hm, Option.bind_some] at h
            have hm' : ∃ r, (Builtin.min2 v z).run P w = .ok r w ∧ VR gh nx w m r := by
              unfold minV at hm
              split at hm
              · cases hx; cases hy; simp at hm; subst hm
                exact ⟨_, rfl, .int _ _⟩
              · simp at hm
            obtain ⟨r, e1, e2⟩ := hm'
            obtain ⟨r', f1, f2⟩ := ih m h r vs e2 ⟨by have := hr.len; simpa using this, fun i a b ha hb => hr.rel (i + 1) a b ha hb⟩
            refine ⟨r', ?_, f2⟩
            simp only [List.foldlM_cons, Sem.run_bind, e1, Result.andThen_ok, f1]

theorem max_run {l : List VV} {vs : List Value} {u : VV} (hl : VsRel gh.μ nx gh.G w l vs) (h : foldV maxV l = some u) (ts : Array TypeId) (ty : TypeId) :
    ∃ r, (Builtin.max_ ts ty vs.toArray).run P w = .ok r w ∧ VR gh nx w u r := by
  cases l with
  | nil => simp [foldV] at h
  | cons x l =>
    cases vs with
    | nil => have := hl.len; simp at this
    | cons v vs =>
      simp only [foldV] at h
      simp only [Builtin.max_, List.toList_toArray]
      have hx := hl.rel 0 x v rfl rfl
      have hr : VsRel gh.μ nx gh.G w l vs := ⟨by have := hl.len; simpa using this, fun i a b ha hb => hl.rel (i + 1) a b ha hb⟩
      clear hl
      induction l generalizing x v vs with
      | nil =>
        have : vs = [] := by have := hr.len; simpa using this
        subst this
        simp at h; subst h
        exact ⟨v, rfl, hx⟩
      | cons y l ih =>
        cases vs with
        | nil => have := hr.len; simp at this
        | cons z vs =>
          have hy := hr.rel 0 y z rfl rfl
          simp only [List.foldlM_cons, Option.bind_eq_bind] at h
          cases hm : maxV x y with
          | none => simp [hm] at h
          | some m =>
            simp only [hm, Option.bind_some] at h
            have hm' : ∃ r, (Builtin.max2 v z).run P w = .ok r w ∧ VR gh nx w m r := by
              unfold maxV at hm
              split at hm
              · cases hx; cases hy; simp at hm; subst hm
                exact ⟨_, rfl, .int _ _⟩
              · simp at hm
            obtain ⟨r, e1, e2⟩ := hm'
            obtain ⟨r', f1, f2⟩ := ih m h r vs e2 ⟨by have := hr.len; simpa using this, fun i a b ha hb => hr.rel (i + 1) a b ha hb⟩
            refine ⟨r', ?_, f2⟩
            simp only [List.foldlM_cons, Sem.run_bind, e1, Result.andThen_ok, f1]

end
end Go.Vi

/-
  All operations that look at their operands alone.
-/
namespace Go.Vi
set_option linter.unusedVariables false
set_option linter.unusedSimpArgs false

section
variable {P : Program} {gh : Gh} {tab : List TC} {nx : Nat} {w : World}

theorem some_bind {α β : Type} {x : Option α} {f : α → Option β} {b : β} (h : (do let a ← x; f a) = some b) : ∃ a, x = some a ∧ f a = some b :=
  Option.bind_eq_some_iff.mp h

theorem mapM_rel {ρ : Operand → Option SV} {ρ' : Operand → Value} (hρ : ∀ x s, ρ x = some s → SRel gh tab nx w s (ρ' x)) {l : List Operand} {r : List VV}
    (h : (l.mapM fun x => (ρ x).bind out) = some r) : VsRel gh.μ nx gh.G w r (l.map ρ') := by
  obtain ⟨h1, h2⟩ := mapM_some h
  refine ⟨by simp [h1], fun i x v hx hv => ?_⟩
  have hlt : i < l.length := by have := (List.getElem?_eq_some_iff.1 hx).1; omega
  have hc := List.getElem?_eq_getElem hlt
  have := h2 i _ x hc hx
  obtain ⟨s, hs, ho⟩ := Option.bind_eq_some_iff.mp this
  simp [hlt] at hv
  subst hv
  exact out_rel (hρ _ s hs) ho

theorem pureV_run {ρ : Operand → Option SV} {ρ' : Operand → Value} (hρ : ∀ x s, ρ x = some s → SRel gh tab nx w s (ρ' x)) (hg : ∀ x y : Operand, True) {o : Oper} {s : SV}
    (h : pureV P ρ o.op = some s) : ∃ v, (execOp ρ' o).run P w = .ok (.value v) w ∧ SRel gh tab nx w s v := by
  obtain ⟨dst, op, type, pos, after, guard⟩ := o
  simp only at h
  cases op <;> simp only [pureV] at h <;> try (simp at h; done)
  case move x => exact ⟨_, rfl, hρ x s h⟩
  case assign x => exact ⟨_, rfl, hρ x s h⟩
  case pick c a b =>
    split at h
    · rename_i t hc
      have := (hρ c _ hc).of_val
      generalize hv : ρ' c = v at this
      cases this
      simp only [execOp, hv, asBool, Sem.run_bind, Sem.run_pure, Result.andThen_ok]
      split at h
      · rename_i ht; subst ht; exact ⟨_, rfl, hρ a s h⟩
      · rename_i ht
        have ht' : t = false := by simpa using ht
        subst ht'; exact ⟨_, rfl, hρ b s h⟩
    · simp at h
  case nilCheck x =>
    have key : ∃ y, ρ x = some y ∧ y = s ∧ y ≠ .val .nil ∧ y ≠ .val .nili ∧ y ≠ .val .nilf := by
      split at h
      · simp at h
      · simp at h
      · simp at h
      · rename_i n1 n2 n3
        exact ⟨s, h, rfl, fun e => n1 (by rw [h, e]), fun e => n2 (by rw [h, e]), fun e => n3 (by rw [h, e])⟩
    obtain ⟨y, hy, rfl, n1, n2, n3⟩ := key
    have hr := hρ x y hy
    refine ⟨ρ' x, ?_, hr⟩
    simp only [execOp]
    generalize ρ' x = v at hr
    cases hr <;> try rfl
    rename_i v h
    cases h <;> first | rfl | (exact absurd rfl n1) | (exact absurd rfl n2) | (exact absurd rfl n3)
  case binOp op t x y t' =>
    obtain ⟨a, ha, h⟩ := some_bind h
    obtain ⟨b, hb, h⟩ := some_bind h
    obtain ⟨v, hv, h⟩ := some_bind h
    simp only [Option.some.injEq] at h; subst h
    obtain ⟨r, e1, e2⟩ := binV_run (P := P) (hρ x a ha) (hρ y b hb) hv x y
    refine ⟨r, ?_, .val _ _ e2⟩
    simp only [execOp]
    rw [Sem.run_bind, e1]; rfl
  case unOp op t x =>
    obtain ⟨a, ha, h⟩ := some_bind h
    obtain ⟨v, hv, h⟩ := some_bind h
    obtain ⟨u, hu, h⟩ := some_bind h
    simp only [Option.some.injEq] at h; subst h
    obtain ⟨r, e1, e2⟩ := unV_run (P := P) (out_rel (hρ x a ha) hv) hu
    exact ⟨r, by simp only [execOp]; rw [Sem.run_bind, e1]; rfl, .val _ _ e2⟩
  case convert s d x =>
    obtain ⟨a, ha, h⟩ := some_bind h
    obtain ⟨v, hv, h⟩ := some_bind h
    obtain ⟨u, hu, h⟩ := some_bind h
    simp only [Option.some.injEq] at h; subst h
    obtain ⟨r, e1, e2⟩ := convV_run (P := P) (out_rel (hρ x a ha) hv) hu
    exact ⟨r, by simp only [execOp]; rw [Sem.run_bind, e1]; rfl, .val _ _ e2⟩
  case fieldAddr t x f =>
    obtain ⟨a, ha, h⟩ := some_bind h
    obtain ⟨r, e1, e2⟩ := fieldAddrV_run (hρ x a ha) h
    exact ⟨r, by simp only [execOp]; rw [Sem.run_bind, e1]; rfl, e2⟩
  case field t x f =>
    obtain ⟨a, ha, h⟩ := some_bind h
    obtain ⟨r, e1, e2⟩ := fieldV_run (hρ x a ha) h
    exact ⟨r, by simp only [execOp]; rw [Sem.run_bind, e1]; rfl, e2⟩
  case indexAddr t x i =>
    obtain ⟨a, ha, h⟩ := some_bind h
    obtain ⟨b, hb, h⟩ := some_bind h
    obtain ⟨r, e1, e2⟩ := indexAddrV_run (hρ x a ha) (hρ i b hb) h
    exact ⟨r, by simp only [execOp]; rw [Sem.run_bind, e1]; rfl, e2⟩
  case index t x i =>
    obtain ⟨a, ha, h⟩ := some_bind h
    obtain ⟨b, hb, h⟩ := some_bind h
    obtain ⟨r, e1, e2⟩ := indexV_run (hρ x a ha) (hρ i b hb) h
    exact ⟨r, by simp only [execOp]; rw [Sem.run_bind, e1]; rfl, e2⟩
  case extract t i =>
    split at h
    · rename_i l hl
      have hr := hρ t _ hl
      generalize hv : ρ' t = v at hr
      cases hr with
      | tup _ vs e1 e2 =>
        have hlt : i < vs.length := by have := (List.getElem?_eq_some_iff.1 h).1; omega
        refine ⟨vs[i], ?_, e2 i s _ h (List.getElem?_eq_getElem hlt)⟩
        simp [execOp, hv, Instr.extract, hlt]
    · simp at h
  case slice t x lo hi mx =>
    obtain ⟨a, ha, h⟩ := some_bind h
    obtain ⟨l, hl, h⟩ := some_bind h
    obtain ⟨hh, hhh, h⟩ := some_bind h
    obtain ⟨m, hm, h⟩ := some_bind h
    obtain ⟨r, e1, e2⟩ := sliceV_run (hρ x a ha) (opt_rel hρ hl) (opt_rel hρ hhh) (opt_rel hρ hm) h
    exact ⟨r, by simp only [execOp]; rw [Sem.run_bind, e1]; rfl, e2⟩
  case load t x =>
    split at h
    · rename_i es i off hx
      obtain ⟨e, he, h⟩ := some_bind h
      cases hl : ldV P t e.cells off with
      | none => simp [hl] at h
      | some u =>
        simp [hl] at h; subst h
        have hr := (hρ x _ hx).of_val
        generalize hv : ρ' x = v at hr
        cases hr with
        | elt _ _ _ b base sz vs hs hc hvv =>
          obtain ⟨r, e1, e2⟩ := load_run (P := P) (b := b) (o := base + i * sz) (vs i) (fun j c hj => ⟨(hc i e j c he hj).2, hvv i e j c he hj⟩) hl
          refine ⟨r, ?_, .val _ _ e2⟩
          simp only [execOp, hv, Instr.loadAt, Instr.sureAddr, Sem.run_bind, Sem.run_pure, Result.andThen_ok, e1]
    · simp at h
  case call c =>
    obtain ⟨callee, args, argTypes⟩ := c
    simp only at h
    split at h
    · rename_i x t ha ht
      obtain ⟨a, hx, h⟩ := some_bind h
      split at h
      · rename_i ho
        cases hl : lenV a with
        | none => simp [hl] at h
        | some n =>
          simp [hl] at h; subst h
          have hr := lenV_run (P := P) (hρ x a hx) ho hl type
          refine ⟨.int .i64 n, ?_, .val _ _ (.int _ _)⟩
          have ha' : args = #[x] := by rw [← Array.toArray_toList (xs := args), ha]
          have ht' : argTypes = #[t] := by rw [← Array.toArray_toList (xs := argTypes), ht]
          subst ha'; subst ht'
          simp only [execOp, resolve, Sem.run_bind, Sem.run_pure, Result.andThen_ok, invoke, builtin]
          simp [hr]
      · simp at h
    · obtain ⟨vs, hvs, h⟩ := some_bind h
      obtain ⟨v, hv, h⟩ := some_bind h
      simp only [Option.some.injEq] at h; subst h
      obtain ⟨r, e1, e2⟩ := min_run (P := P) (mapM_rel hρ hvs) hv argTypes type
      refine ⟨r, ?_, .val _ _ e2⟩
      have : args.map ρ' = (args.toList.map ρ').toArray := by rw [← Array.toList_map]
      simp only [execOp, resolve, Sem.run_bind, Sem.run_pure, Result.andThen_ok, invoke, builtin, this, e1]
    · obtain ⟨vs, hvs, h⟩ := some_bind h
      obtain ⟨v, hv, h⟩ := some_bind h
      simp only [Option.some.injEq] at h; subst h
      obtain ⟨r, e1, e2⟩ := max_run (P := P) (mapM_rel hρ hvs) hv argTypes type
      refine ⟨r, ?_, .val _ _ e2⟩
      have : args.map ρ' = (args.toList.map ρ').toArray := by rw [← Array.toList_map]
      simp only [execOp, resolve, Sem.run_bind, Sem.run_pure, Result.andThen_ok, invoke, builtin, this, e1]
    · simp at h

end
end Go.Vi

/-
  What leaves a call.
-/
namespace Go.Vi
set_option linter.unusedVariables false
set_option linter.unusedSimpArgs false

section
variable {E : En} {gh : Gh} {tab : List TC} {H : Hp} {w : World}

theorem tget_lt {tab : List TC} {d : Nat} (h : (tget tab d).active = true) : d < tab.length := by
  by_cases hd : d < tab.length
  · exact hd
  · have : tget tab d = .gone 0 := by simp [tget, List.getElem?_eq_none (Nat.le_of_not_lt hd)]
    rw [this] at h; simp [TC.active] at h

/-- the same row, or variable -/
def TC.same : TC → TC → Prop
  | .row g es sz _, .row g' es' sz' _ => g = g' ∧ es = es' ∧ sz = sz'
  | .box g cs _, .box g' cs' _ => g = g' ∧ cs = cs'
  | .gone g, .gone g' => g = g'
  | _, _ => False

theorem TC.same.refl (a : TC) : a.same a := by cases a <;> simp [TC.same]
theorem TC.same.trans {a b c : TC} (h : a.same b) (h' : b.same c) : a.same c := by
  cases a <;> cases b <;> simp only [TC.same] at h <;> first | exact h.elim | skip
  all_goals cases c <;> simp only [TC.same] at h' <;> first | exact h'.elim | skip
  · exact h.trans h'
  · exact ⟨h.1.trans h'.1, h.2.trans h'.2⟩
  · exact ⟨h.1.trans h'.1, h.2.1.trans h'.2.1, h.2.2.trans h'.2.2⟩
theorem TC.same.act {a b : TC} (h : a.same b) : b.active = a.active ∧ b.gen = a.gen := by
  cases a <;> cases b <;> simp only [TC.same] at h <;> first | exact h.elim | skip
  · exact ⟨rfl, h.symm⟩
  · exact ⟨rfl, h.1.symm⟩
  · exact ⟨rfl, h.1.symm⟩

/-- the same memory; more of it is never written again -/
structure Marks (E : En) (H : Hp) (w : World) (gh : Gh) (tab : List TC) (gh' : Gh) (tab' : List TC) : Prop where
  goes : Goes gh tab H.next w gh' tab' H.next w
  mem : Mem E gh' tab' H w
  same : gh'.μ = gh.μ ∧ gh'.β = gh.β ∧ gh'.bo = gh.bo ∧ gh'.bs = gh.bs
  G : ∀ b, (∀ d, (tget tab d).active = true → gh.β d ≠ b) → gh'.G b = gh.G b
  len : tab'.length = tab.length
  ent : ∀ d, (tget tab d).same (tget tab' d)

theorem Marks.act {gh1 : Gh} {tab1 : List TC} (h : Marks E H w gh tab gh1 tab1) (d : Nat) : (tget tab1 d).active = (tget tab d).active ∧ (tget tab1 d).gen = (tget tab d).gen := (h.ent d).act

theorem Marks.refl (M : Mem E gh tab H w) : Marks E H w gh tab gh tab :=
  ⟨Goes.refl _ _ _ _, M, ⟨rfl, rfl, rfl, rfl⟩, fun _ _ => rfl, rfl, fun _ => TC.same.refl _⟩

theorem Marks.trans {gh1 gh2 : Gh} {tab1 tab2 : List TC} (h : Marks E H w gh tab gh1 tab1) (h' : Marks E H w gh1 tab1 gh2 tab2) : Marks E H w gh tab gh2 tab2 :=
  ⟨h.goes.trans h'.goes, h'.mem, ⟨h'.same.1.trans h.same.1, h'.same.2.1.trans h.same.2.1, h'.same.2.2.1.trans h.same.2.2.1, h'.same.2.2.2.trans h.same.2.2.2⟩,
    fun b hb => (h'.G b (fun d hd => by rw [h.same.2.1]; exact hb d (by rw [← (h.act d).1]; exact hd))).trans (h.G b hb), h'.len.trans h.len,
    fun d => (h.ent d).trans (h'.ent d)⟩

theorem Mem.marks (M : Mem E gh tab H w) {d : Nat} {tc : TC} {n : Nat} (hact : (tget tab d).active = true) (hh : (tget tab d).heir tc) (ha' : (tget tab d).same tc)
    (hg : (tget tab d).gen = tc.gen) (hn : gh.G (gh.β d) ≤ n)
    (ht : Goes gh tab H.next w { gh with G := Vi.upd gh.G (gh.β d) n } (tab.set d tc) H.next w →
      TabAt E { gh with G := Vi.upd gh.G (gh.β d) n } (tab.set d tc) H.next w d tc) :
    Marks E H w gh tab { gh with G := Vi.upd gh.G (gh.β d) n } (tab.set d tc) := by
  have hd := tget_lt hact
  obtain ⟨T, M'⟩ := M.mark hd hact hh hg hn ht
  refine ⟨T, M', ⟨rfl, rfl, rfl, rfl⟩, fun b hb => upd_ne _ _ _ (fun e => hb d hact e.symm), by simp, fun e => ?_⟩
  by_cases he : e = d
  · subst he; rw [tget_set_same hd]; exact ha'
  · rw [tget_set_ne he]; exact TC.same.refl _

/-- a row's cells -/
theorem row_cells (M : Mem E gh tab H w) {d g : Nat} {es : List VV} {sz : Nat} {lk : Bool} (hr : tget tab d = .row g es sz lk) :
    ∃ (c : Array Value) (ty : TypeId), w.heap[gh.β d]? = some (.cells c ty (0, 0)) ∧ c.size = gh.bs d ∧ gh.bo d + es.length * sz ≤ c.size ∧
      (∀ (i : Nat) (e : VV), es[i]? = some e → e.cells.length = sz) ∧
      (∀ (i : Nat) (e : VV) (j : Nat) (x : VV), es[i]? = some e → e.cells[j]? = some x → gh.bo d + i * sz + j < gh.bo d + es.length * sz ∧
        c[gh.bo d + i * sz + j]? = some (c.getD (gh.bo d + i * sz + j) undef) ∧ VR gh H.next w x (c.getD (gh.bo d + i * sz + j) undef)) ∧
      gh.G (gh.β d) ≤ gh.bo d + es.length * sz ∧ 0 < sz := by
  have h := M.tabR d
  rw [hr] at h
  obtain ⟨c, ty, h1, h2, h3, h4, h5, h6, h7, h8, h9⟩ := h
  refine ⟨c, ty, h1, h2, h3, h4, fun i e j x hi hj => ?_, h8, h9⟩
  have hil : i < es.length := (List.getElem?_eq_some_iff.1 hi).1
  have hjl : j < sz := by have := (List.getElem?_eq_some_iff.1 hj).1; rw [h4 i e hi] at this; exact this
  have hle : (i + 1) * sz ≤ es.length * sz := Nat.mul_le_mul_right _ hil
  rw [Nat.add_mul, Nat.one_mul] at hle
  have hlt : gh.bo d + i * sz + j < c.size := by omega
  have hc : c[gh.bo d + i * sz + j]? = some (c.getD (gh.bo d + i * sz + j) undef) := by simp [hlt]
  exact ⟨by omega, hc, h5 i e j x _ hi hj hc⟩

theorem TabAt.row_lk {d g : Nat} {es : List VV} {sz n : Nat} {lk lk' : Bool} {nx nx' : Nat} {tab' : List TC} (hle : gh.G (gh.β d) ≤ n) (hn : n ≤ gh.bo d + es.length * sz) (hlk : lk' = false → n = 0)
    (T : Goes gh tab nx w { gh with G := Vi.upd gh.G (gh.β d) n } tab' nx' w) (h : TabAt E gh tab nx w d (.row g es sz lk)) :
    TabAt E { gh with G := Vi.upd gh.G (gh.β d) n } tab' nx' w d (.row g es sz lk') := by
  obtain ⟨c, ty, h1, h2, h3, h4, h5, h6, h7, h8, h9⟩ := h
  refine ⟨c, ty, h1, h2, h3, h4, fun i e j x v a b c => T.v (h5 i e j x v a b c), h6, fun hl => ?_, ?_, h9⟩
  · show Vi.upd gh.G (gh.β d) n (gh.β d) = 0
    rw [upd_same]; exact hlk hl
  · show Vi.upd gh.G (gh.β d) n (gh.β d) ≤ _
    rw [upd_same]; exact hn

/-- all that is known of a row of the call's own is told to others -/
theorem row_told (M : Mem E gh tab H w) {d g : Nat} {es : List VV} {sz : Nat} {lk : Bool} (hr : tget tab d = .row g es sz lk) :
    Marks E H w gh tab { gh with G := Vi.upd gh.G (gh.β d) (gh.bo d + es.length * sz) } (tab.set d (.row g es sz true)) ∧
    ∃ c : Array Value, ∀ (i : Nat) (e : VV) (j : Nat) (x : VV), es[i]? = some e → e.cells[j]? = some x →
      gh.bo d + i * sz + j < Vi.upd gh.G (gh.β d) (gh.bo d + es.length * sz) (gh.β d) ∧ cellAt w (gh.β d) (gh.bo d + i * sz + j) = some (c.getD (gh.bo d + i * sz + j) undef) ∧
      VR { gh with G := Vi.upd gh.G (gh.β d) (gh.bo d + es.length * sz) } H.next w x (c.getD (gh.bo d + i * sz + j) undef) := by
  obtain ⟨c, ty, h1, h2, h3, h4, h5, h6, h7⟩ := row_cells M hr
  have K := M.marks (d := d) (tc := .row g es sz true) (n := gh.bo d + es.length * sz) (by rw [hr]; rfl) (by rw [hr]; exact .inr ⟨rfl, rfl⟩) (by rw [hr]; exact ⟨rfl, rfl, rfl⟩) (by rw [hr]; rfl) h6
    (fun T => TabAt.row_lk (lk := lk) h6 (Nat.le_refl _) (fun h => by simp at h) T (by have := M.tabR d; rw [hr] at this; exact this))
  refine ⟨K, c, fun i e j x hi hj => ?_⟩
  obtain ⟨a1, a2, a3⟩ := h5 i e j x hi hj
  exact ⟨by rw [upd_same]; exact a1, by rw [cellAt_of h1]; exact a2, K.goes.v a3⟩

/-- a variable's cells are told to others -/
theorem box_told (M : Mem E gh tab H w) {d g : Nat} {cs : List SV} {wr : Bool} (hr : tget tab d = .box g cs wr) :
    ∃ n, cs.length ≤ n ∧ Marks E H w gh tab { gh with G := Vi.upd gh.G (gh.β d) n } (tab.set d (.box g cs false)) ∧
    ∃ c : Array Value, ∀ (j : Nat) (x : SV) (u : VV), cs[j]? = some x → out x = some u →
      j < Vi.upd gh.G (gh.β d) n (gh.β d) ∧ cellAt w (gh.β d) j = some (c.getD j undef) ∧ VR { gh with G := Vi.upd gh.G (gh.β d) n } H.next w u (c.getD j undef) := by
  have h := M.tabR d
  rw [hr] at h
  obtain ⟨c, ty, h1, h2, h3, h4, h5⟩ := h
  refine ⟨max (gh.G (gh.β d)) cs.length, by omega, ?_⟩
  have K := M.marks (d := d) (tc := .box g cs false) (n := max (gh.G (gh.β d)) cs.length) (by rw [hr]; rfl) (by rw [hr]; exact .inr rfl) (by rw [hr]; exact ⟨rfl, rfl⟩) (by rw [hr]; rfl) (by omega)
    (fun T => ⟨c, ty, h1, h2, fun i x v a b => T.s (h3 i x v a b), h4, fun h => by simp at h⟩)
  refine ⟨K, c, fun j x u hj ho => ?_⟩
  have hjl : j < cs.length := (List.getElem?_eq_some_iff.1 hj).1
  have hc : c[j]? = some (c.getD j undef) := by have : j < c.size := by omega
                                                simp [this]
  exact ⟨by rw [upd_same]; omega, by rw [cellAt_of h1]; exact hc, K.goes.v (out_rel (h3 j x _ hj hc) ho)⟩

theorem chunks_get : ∀ (n : Nat) (vs : List VV) (sz i : Nat) (e : VV), (chunks vs sz n)[i]? = some e → i < n ∧ e = .agg ((vs.drop (i * sz)).take sz) := by
  intro n
  induction n with
  | zero => intro vs sz i e h; simp [chunks] at h
  | succ n ih =>
    intro vs sz i e h
    cases i with
    | zero => simp [chunks] at h; exact ⟨by omega, by simp [← h]⟩
    | succ i =>
      simp [chunks] at h
      obtain ⟨a, b⟩ := ih _ _ _ _ h
      refine ⟨by omega, ?_⟩
      rw [b, List.drop_drop, Nat.add_mul]
      congr 3; omega

theorem chunks_len : ∀ (n : Nat) (vs : List VV) (sz : Nat), (chunks vs sz n).length = n
  | 0, _, _ => rfl
  | n + 1, vs, sz => by simp [chunks, chunks_len n]

theorem outT1_run (M : Mem E gh tab H w) {x : SV} {v : Value} {u : VV} {tab' : List TC} (h : SRel gh tab H.next w x v) (ho : outT1 tab x = some (u, tab')) :
    ∃ gh', Marks E H w gh tab gh' tab' ∧ VR gh' H.next w u v := by
  have plain : (out x).map (fun u => (u, tab)) = some (u, tab') → ∃ gh', Marks E H w gh tab gh' tab' ∧ VR gh' H.next w u v := by
    intro ho
    cases hx : out x with
    | none => simp [hx] at ho
    | some y =>
      simp [hx] at ho
      obtain ⟨rfl, rfl⟩ := ho
      exact ⟨gh, Marks.refl M, out_rel h hx⟩
  cases x with
  | val y => exact plain ho
  | full es => exact plain ho
  | st cs => exact plain ho
  | tup cs => exact plain ho
  | own d g off n s =>
    simp only [outT1] at ho
    split at ho
    · rename_i g' es sz lk hr
      split at ho
      · rename_i hc
        obtain ⟨rfl, rfl, hle⟩ := hc
        simp only [Option.some.injEq, Prod.mk.injEq] at ho
        obtain ⟨rfl, rfl⟩ := ho
        obtain ⟨K, c, hcells⟩ := row_told M hr
        refine ⟨_, K, ?_⟩
        cases h with
        | own _ _ _ _ _ cap b o hg hn hh =>
          have hlen : ((es.drop off).take n).length = n := by simp; omega
          have key : ∀ (i : Nat) (e : VV), ((es.drop off).take n)[i]? = some e → es[off + i]? = some e := fun i e hi => by
            rw [List.getElem?_take] at hi
            split at hi
            · rwa [List.getElem?_drop] at hi
            · simp at hi
          obtain ⟨_, _, _, _, _, hs, _⟩ := row_cells M hr
          rcases hh es lk hr with ⟨rfl, rfl, _⟩ | ⟨h0, hc0⟩
          · rw [show Value.slice (some ⟨gh.β d, gh.bo d + off * s, none⟩) n cap = Value.slice (some ⟨gh.β d, gh.bo d + off * s, none⟩) ((es.drop off).take n).length cap from by rw [hlen]]
            refine .lst _ _ (gh.bo d + off * s) s cap (fun i j => c.getD (gh.bo d + (off + i) * s + j) undef) (fun i e hi => hs _ e (key i e hi)) (fun i e j x hi hj => ?_) (fun i e j x hi hj => ?_) (by omega)
            · obtain ⟨a1, a2, a3⟩ := hcells _ e j x (key i e hi) hj
              rw [Nat.add_mul, ← Nat.add_assoc] at a1 a2 ⊢
              exact ⟨a1, a2⟩
            · exact (hcells _ e j x (key i e hi) hj).2.2
          · subst h0; subst hc0
            simp only [List.take_zero]
            exact .lst [] b o s 0 (fun _ _ => undef) (by simp) (by simp) (by simp) (by simp)
      · simp at ho
    · simp at ho
  | rel d g i off s =>
    simp only [outT1] at ho
    split at ho
    · rename_i g' es sz lk hr
      split at ho
      · rename_i hc
        obtain ⟨rfl, rfl⟩ := hc
        simp only [Option.some.injEq, Prod.mk.injEq] at ho
        obtain ⟨rfl, rfl⟩ := ho
        obtain ⟨K, c, hcells⟩ := row_told M hr
        refine ⟨_, K, ?_⟩
        obtain ⟨_, _, _, _, _, hs, _⟩ := row_cells M hr
        cases h with
        | rel _ _ _ _ _ b o hg hh =>
          obtain ⟨rfl, rfl⟩ := hh es lk hr
          exact .elt es i off _ (gh.bo d) s (fun i j => c.getD (gh.bo d + i * s + j) undef) hs (fun i e j x hi hj => ⟨(hcells i e j x hi hj).1, (hcells i e j x hi hj).2.1⟩)
            (fun i e j x hi hj => (hcells i e j x hi hj).2.2)
      · simp at ho
    · simp at ho
  | loc d g off =>
    simp only [outT1] at ho
    split at ho
    · rename_i g' cs wr hr
      split at ho
      · rename_i hc
        subst hc
        split at ho
        · rename_i vs hm
          simp only [Option.some.injEq, Prod.mk.injEq] at ho
          obtain ⟨rfl, rfl⟩ := ho
          obtain ⟨n, hn, K, c, hcells⟩ := box_told M hr
          refine ⟨_, K, ?_⟩
          obtain ⟨m1, m2⟩ := mapM_some hm
          cases h with
          | loc _ _ _ b o hg hh =>
            obtain ⟨rfl, rfl⟩ := hh cs wr hr
            have key : ∀ (i : Nat) (e : VV) (j : Nat) (x : VV), [VV.agg vs][i]? = some e → e.cells[j]? = some x → i = 0 ∧ ∃ y, cs[j]? = some y ∧ out y = some x := fun i e j x hi hj => by
              cases i with
              | zero =>
                simp at hi; subst hi
                simp [VV.cells] at hj
                have hjl : j < cs.length := by have := (List.getElem?_eq_some_iff.1 hj).1; omega
                exact ⟨rfl, cs[j], List.getElem?_eq_getElem hjl, m2 j _ x (List.getElem?_eq_getElem hjl) hj⟩
              | succ i => simp at hi
            have hel := VRel.elt (μ := gh.μ) (nx := H.next) (G := Vi.upd gh.G (gh.β d) n) (w := w) [VV.agg vs] 0 o (gh.β d) 0 vs.length (fun i j => c.getD j undef)
              (fun i e hi => by cases i with
                | zero => simp at hi; subst hi; rfl
                | succ i => simp at hi)
              (fun i e j x hi hj => by
                obtain ⟨rfl, y, hy, hox⟩ := key i e j x hi hj
                obtain ⟨a1, a2, a3⟩ := hcells j y x hy hox
                simp only [Nat.zero_mul, Nat.zero_add]
                exact ⟨a1, a2⟩)
              (fun i e j x hi hj => by
                obtain ⟨rfl, y, hy, hox⟩ := key i e j x hi hj
                exact (hcells j y x hy hox).2.2)
            simpa using hel
        · simp at ho
      · simp at ho
    · simp at ho
  | lsl d g off n sz ag =>
    simp only [outT1] at ho
    split at ho
    · rename_i g' cs wr hr
      split at ho
      · rename_i hc
        obtain ⟨rfl, hle, hsz⟩ := hc
        split at ho
        · rename_i vs hm
          obtain ⟨m1, m2⟩ := mapM_some hm
          have hvl : vs.length = n * sz := by rw [m1]; simp; omega
          obtain ⟨N, hN, K, c, hcells⟩ := box_told M hr
          have key : ∀ (j : Nat) (x : VV), vs[j]? = some x → ∃ y, cs[off + j]? = some y ∧ out y = some x := fun j x hj => by
            have hjl : j < vs.length := (List.getElem?_eq_some_iff.1 hj).1
            have hcl : off + j < cs.length := by omega
            have hsub : ((cs.drop off).take (n * sz))[j]? = some cs[off + j] := by
              rw [List.getElem?_take, if_pos (by omega), List.getElem?_drop, List.getElem?_eq_getElem hcl]
            exact ⟨_, List.getElem?_eq_getElem hcl, m2 j _ x hsub hj⟩
          cases h with
          | lsl _ _ _ _ _ _ cap b o hg hn hh =>
            have mk : ∀ (es : List VV) (s : Nat), es.length = n → (∀ (i : Nat) (e : VV), es[i]? = some e → e.cells.length = s) →
                (∀ (i : Nat) (e : VV) (j : Nat) (x : VV), es[i]? = some e → e.cells[j]? = some x → vs[i * s + j]? = some x) →
                VRel gh.μ H.next (Vi.upd gh.G (gh.β d) N) w (.lst es) (.slice (some ⟨b, o, none⟩) n cap) := by
              intro es s hl hs hx
              by_cases h0 : n = 0
              · have : es = [] := List.eq_nil_of_length_eq_zero (by omega)
                subst this; subst h0
                exact .lst [] b o s cap (fun _ _ => undef) (by simp) (by simp) (by simp) (by simp)
              · obtain ⟨rfl, rfl⟩ := (hh cs wr hr).resolve_right h0
                rw [← hl]
                refine .lst es _ o s cap (fun i j => c.getD (o + (i * s + j)) undef) hs (fun i e j x hi hj => ?_) (fun i e j x hi hj => ?_) (by omega)
                · obtain ⟨y, hy, hox⟩ := key _ x (hx i e j x hi hj)
                  obtain ⟨a1, a2, a3⟩ := hcells _ y x hy hox
                  rw [Nat.add_assoc]
                  exact ⟨a1, a2⟩
                · obtain ⟨y, hy, hox⟩ := key _ x (hx i e j x hi hj)
                  exact (hcells _ y x hy hox).2.2
            split at ho
            · simp only [Option.some.injEq, Prod.mk.injEq] at ho
              obtain ⟨rfl, rfl⟩ := ho
              refine ⟨_, K, mk _ sz (chunks_len _ _ _) (fun i e hi => ?_) fun i e j x hi hj => ?_⟩
              · obtain ⟨a, b⟩ := chunks_get _ _ _ _ _ hi
                rw [b]
                simp [VV.cells, hvl]
                have : (i + 1) * sz ≤ n * sz := Nat.mul_le_mul_right _ a
                rw [Nat.add_mul, Nat.one_mul] at this
                omega
              · obtain ⟨a, b⟩ := chunks_get _ _ _ _ _ hi
                rw [b] at hj
                simp only [VV.cells] at hj
                rw [List.getElem?_take] at hj
                split at hj
                · rwa [List.getElem?_drop] at hj
                · simp at hj
            · split at ho
              · rename_i h1
                obtain ⟨rfl, hall⟩ := h1
                simp only [Option.some.injEq, Prod.mk.injEq] at ho
                obtain ⟨rfl, rfl⟩ := ho
                have one : ∀ (i : Nat) (e : VV), vs[i]? = some e → e.cells = [e] := fun i e hi => by
                  have := List.all_eq_true.1 hall e (List.mem_of_getElem? hi)
                  cases e <;> first | rfl | (simp [VV.one] at this; done)
                refine ⟨_, K, mk _ 1 (by omega) (fun i e hi => by rw [one i e hi]; rfl) fun i e j x hi hj => ?_⟩
                rw [one i e hi] at hj
                cases j with
                | zero => simp at hj; subst hj; rw [Nat.mul_one, Nat.add_zero]; exact hi
                | succ j => simp at hj
              · simp at ho
        · simp at ho
      · simp at ho
    · simp at ho

theorem outAll1_run {l : List SV} : ∀ {gh : Gh} {tab : List TC} {vs : List Value} {us : List VV} {tab' : List TC}, Mem E gh tab H w → SsRel gh tab H.next w l vs → outAll1 tab l = some (us, tab') →
    ∃ gh', Marks E H w gh tab gh' tab' ∧ VsRel gh'.μ H.next gh'.G w us vs := by
  induction l with
  | nil =>
    intro gh tab vs us tab' M h ho
    simp [outAll1] at ho
    obtain ⟨rfl, rfl⟩ := ho
    exact ⟨gh, Marks.refl M, by simpa using h.len, fun i x v hx => by simp at hx⟩
  | cons x l ih =>
    intro gh tab vs us tab' M h ho
    cases vs with
    | nil => have := h.len; simp at this
    | cons v vs =>
      simp only [outAll1] at ho
      split at ho
      · rename_i u tab1 h1
        split at ho
        · rename_i us1 tab2 h2
          simp only [Option.some.injEq, Prod.mk.injEq] at ho
          obtain ⟨rfl, rfl⟩ := ho
          obtain ⟨gh1, K1, r1⟩ := outT1_run M (h.rel 0 x v rfl rfl) h1
          have hr : SsRel gh1 tab1 H.next w l vs := ⟨by have := h.len; simpa using this, fun i a b ha hb => K1.goes.s (h.rel (i + 1) a b ha hb)⟩
          obtain ⟨gh2, K2, r2⟩ := ih K1.mem hr h2
          refine ⟨gh2, K1.trans K2, by have := r2.len; simp [this], fun i a b ha hb => ?_⟩
          cases i with
          | zero => simp at ha hb; subst ha; subst hb; exact K2.goes.v r1
          | succ i => exact r2.rel i a b ha hb
        · simp at ho
      · simp at ho

theorem outT_run (M : Mem E gh tab H w) {x : SV} {v : Value} {u : VV} {tab' : List TC} (h : SRel gh tab H.next w x v) (ho : outT tab x = some (u, tab')) :
    ∃ gh', Marks E H w gh tab gh' tab' ∧ VR gh' H.next w u v := by
  cases x with
  | st cs =>
    simp only [outT] at ho
    cases hc : outAll1 tab cs with
    | none => simp [hc] at ho
    | some r =>
      simp [hc] at ho
      obtain ⟨rfl, rfl⟩ := ho
      cases h with
      | st _ l h1 h2 =>
        obtain ⟨gh', K, r'⟩ := outAll1_run M ⟨h1, h2⟩ hc
        exact ⟨gh', K, .agg _ l r'.len r'.rel⟩
  | _ => exact outT1_run M h ho

theorem outAll_run {l : List SV} : ∀ {gh : Gh} {tab : List TC} {vs : List Value} {us : List VV} {tab' : List TC}, Mem E gh tab H w → SsRel gh tab H.next w l vs → outAll tab l = some (us, tab') →
    ∃ gh', Marks E H w gh tab gh' tab' ∧ VsRel gh'.μ H.next gh'.G w us vs := by
  induction l with
  | nil =>
    intro gh tab vs us tab' M h ho
    simp [outAll] at ho
    obtain ⟨rfl, rfl⟩ := ho
    exact ⟨gh, Marks.refl M, by simpa using h.len, fun i x v hx => by simp at hx⟩
  | cons x l ih =>
    intro gh tab vs us tab' M h ho
    cases vs with
    | nil => have := h.len; simp at this
    | cons v vs =>
      simp only [outAll] at ho
      split at ho
      · rename_i u tab1 h1
        split at ho
        · rename_i us1 tab2 h2
          simp only [Option.some.injEq, Prod.mk.injEq] at ho
          obtain ⟨rfl, rfl⟩ := ho
          obtain ⟨gh1, K1, r1⟩ := outT_run M (h.rel 0 x v rfl rfl) h1
          have hr : SsRel gh1 tab1 H.next w l vs := ⟨by have := h.len; simpa using this, fun i a b ha hb => K1.goes.s (h.rel (i + 1) a b ha hb)⟩
          obtain ⟨gh2, K2, r2⟩ := ih K1.mem hr h2
          refine ⟨gh2, K1.trans K2, by have := r2.len; simp [this], fun i a b ha hb => ?_⟩
          cases i with
          | zero => simp at ha hb; subst ha; subst hb; exact K2.goes.v r1
          | succ i => exact r2.rel i a b ha hb
        · simp at ho
      · simp at ho

end
end Go.Vi

/-
  Operations that make memory or write it.
-/
namespace Go.Vi
set_option linter.unusedVariables false
set_option linter.unusedSimpArgs false

theorem upd_self {α : Type} (f : Nat → α) (d : Nat) : upd f d (f d) = f := by
  funext n
  by_cases h : n = d
  · subst h; exact upd_same _ _ _
  · exact upd_ne _ _ _ h

section
variable {P : Program} {E : En} {gh : Gh} {tab : List TC} {H : Hp} {w : World}

/-- a block of the call's own is written -/
theorem Mem.write (M : Mem E gh tab H w) {d : Nat} {tc : TC} {c c' : Array Value} {ty : TypeId} (hact : (tget tab d).active = true) (hh : (tget tab d).heir tc) (ha' : tc.active = true)
    (hg : (tget tab d).gen = tc.gen) (hc : w.heap[gh.β d]? = some (.cells c ty (0, 0))) (hs : ∀ o, o < gh.G (gh.β d) → c'[o]? = c[o]?)
    (ht : Goes gh tab H.next w gh (tab.set d tc) H.next (w.setRow (gh.β d) c') → (w.setRow (gh.β d) c').heap[gh.β d]? = some (.cells c' ty (0, 0)) →
      TabAt E gh (tab.set d tc) H.next (w.setRow (gh.β d) c') d tc) :
    Goes gh tab H.next w gh (tab.set d tc) H.next (w.setRow (gh.β d) c') ∧ Mem E gh (tab.set d tc) H (w.setRow (gh.β d) c') := by
  have hrow := setRow_heap w (gh.β d) c c' ty (0, 0) hc
  have := M.upd (d := d) (tc := tc) (b := gh.β d) (bo := gh.bo d) (bs := gh.bs d) (w' := w.setRow (gh.β d) c') (tget_lt hact) hh (fun _ _ => ⟨rfl, rfl, rfl⟩)
    (fun b' hb => setRow_other w _ _ _ hb) (by simp) ⟨rfl, rfl, rfl⟩ (fun d' hd' ha => M.apart d' d hd' ha hact) (fun o ho => (M.objApart d o hact ho).symm) (M.own hact)
    (fun o ho => by rw [cellAt_of hrow, cellAt_of hc]; exact hs o ho)
  simp only [upd_self] at this
  exact this fun T => ht T hrow

/-- a block that nobody knows -/
theorem Mem.garbage (M : Mem E gh tab H w) (o : Go.Obj) : Goes gh tab H.next w gh tab H.next (w.alloc o) ∧ Mem E gh tab H (w.alloc o) := by
  have T : Goes gh tab H.next w gh tab H.next (w.alloc o) := { Goes.refl gh tab H.next w with
    cell := fun b o' hb => cellAt_congr (push_ne w _ (fun hbs => by subst hbs; rw [M.G0 _ (Nat.le_refl _)] at hb; omega)) o' }
  refine ⟨T, ⟨fun k => TabAt.keep T rfl rfl rfl (fun ha => push_ne w _ (Nat.ne_of_lt (M.lt ha))) (fun _ => rfl) (M.tabR k), M.apart, fun b hb => M.G0 b (by rw [push_size] at hb; omega),
    fun o' obj ho' => ObjAt.keep T (push_ne w _ (Nat.ne_of_lt (M.objLt o' (by simp [ho'])).2.2)) (M.objAt o' obj ho'), fun o' ho' => ?_, M.objInj, M.objApart,
    by rw [push_size]; exact Nat.le_succ_of_le M.size, fun b a1 a2 a3 => ?_, M.oldG, M.μ0, M.next, M.live, M.newObj, M.lent, M.still.trans ⟨rfl, rfl, rfl⟩⟩⟩
  · obtain ⟨a1, a2, a3⟩ := M.objLt o' ho'
    exact ⟨a1, a2, by rw [push_size]; omega⟩
  · rw [push_ne w _ (by have := M.size; omega)]
    exact M.old b a1 a2 a3

theorem VR_one {nx : Nat} {x : VV} {v : Value} (h : VR gh nx w x v) (h1 : ∀ l, x ≠ .agg l) (h2 : x ≠ .undef) : v.oneCell' = true := by
  cases h <;> first | rfl | (exact absurd rfl (h1 _)) | (exact absurd rfl h2)

theorem SRel_one {nx : Nat} {x : SV} {v : Value} (h : SRel gh tab nx w x v) (h1 : oneCell x = true) : v.oneCell' = true := by
  cases h
  case val u h =>
    refine VR_one h (fun l e => ?_) (fun e => ?_) <;> subst e <;> simp [oneCell] at h1
  case full es a n h => cases h <;> rfl
  all_goals first | rfl | (simp [oneCell] at h1; done)

theorem value_cells_of_svCells {nx : Nat} {x : SV} {v : Value} (h : SRel gh tab nx w x v) (h1 : (svCells x).all oneCell = true) :
    SsRel gh tab nx w (svCells x) v.cells.toList ∧ ∀ u, u ∈ v.cells.toList → u.oneCell' = true := by
  have hne : ∀ l, x ≠ .tup l := fun l e => by subst e; simp [svCells, oneCell] at h1
  have hc := h.cells hne
  refine ⟨hc, fun u hu => ?_⟩
  obtain ⟨i, hi, rfl⟩ := List.getElem_of_mem hu
  have hlt : i < (svCells x).length := by rw [← hc.len]; exact hi
  exact SRel_one (hc.rel i _ _ (List.getElem?_eq_getElem hlt) (List.getElem?_eq_getElem hi)) (List.all_eq_true.1 h1 _ (List.getElem_mem hlt))

/-- a new variable -/
theorem fresh_box (M : Mem E gh tab H w) {d : Nat} (hd : d < tab.length) {cs : List SV} {c : Array Value} (hc : SsRel gh tab H.next w cs c.toList) (ty : TypeId) :
    ∃ gh', Goes gh tab H.next w gh' (tab.set d (.box ((tget tab d).gen + 1) cs true)) H.next (w.alloc (.cells c ty)) ∧
      Mem E gh' (tab.set d (.box ((tget tab d).gen + 1) cs true)) H (w.alloc (.cells c ty)) ∧
      SRel gh' (tab.set d (.box ((tget tab d).gen + 1) cs true)) H.next (w.alloc (.cells c ty)) (.loc d ((tget tab d).gen + 1) 0) (.pointer (some ⟨w.heap.size, 0, none⟩)) := by
  have := M.fresh (d := d) (tc := .box ((tget tab d).gen + 1) cs true) (c := c) (ty := ty) hd (by simp [TC.gen]) (fun T hb hG =>
    ⟨c, ty, by simp only [upd_same]; exact hb, by have := hc.len; simpa using this, fun i x v hx hv => T.s (hc.rel i x v hx (by simpa using hv)), by simp only [upd_same]; exact .inl M.size,
      fun _ => by simp only [upd_same]; exact hG⟩)
  obtain ⟨T, M'⟩ := this
  refine ⟨_, T, M', .loc _ _ _ _ _ (by rw [tget_set_same hd]; exact Nat.le_refl _) fun cs' wr he => ⟨by simp only [upd_same], rfl⟩⟩

/-- a new row -/
theorem fresh_row (M : Mem E gh tab H w) {d : Nat} (hd : d < tab.length) {es : List VV} {sz : Nat} {c : Array Value} (hsz : 0 < sz) (hlen : es.length * sz ≤ c.size)
    (hs : ∀ (i : Nat) (e : VV), es[i]? = some e → e.cells.length = sz)
    (hc : ∀ (i : Nat) (e : VV) (j : Nat) (x : VV) (v : Value), es[i]? = some e → e.cells[j]? = some x → c[i * sz + j]? = some v → VR gh H.next w x v) (ty : TypeId) (lk : Bool)
    {n cap : Nat} (hn : n ≤ cap) (hcap : cap * sz ≤ c.size) :
    ∃ gh', Goes gh tab H.next w gh' (tab.set d (.row ((tget tab d).gen + 1) es sz lk)) H.next (w.alloc (.cells c ty)) ∧
      Mem E gh' (tab.set d (.row ((tget tab d).gen + 1) es sz lk)) H (w.alloc (.cells c ty)) ∧
      SRel gh' (tab.set d (.row ((tget tab d).gen + 1) es sz lk)) H.next (w.alloc (.cells c ty)) (.own d ((tget tab d).gen + 1) 0 n sz) (.slice (some ⟨w.heap.size, 0, none⟩) n cap) := by
  have := M.fresh (d := d) (tc := .row ((tget tab d).gen + 1) es sz lk) (c := c) (ty := ty) hd (by simp [TC.gen]) (fun T hb hG =>
    ⟨c, ty, by simp only [upd_same]; exact hb, by simp only [upd_same], by simp only [upd_same]; omega, hs, fun i e j x v hi hj hv => T.v (hc i e j x v hi hj (by simpa only [upd_same, Nat.zero_add] using hv)),
      by simp only [upd_same]; exact .inl M.size, fun _ => by simp only [upd_same]; exact hG, by simp only [upd_same]; rw [hG]; exact Nat.zero_le _, hsz⟩)
  obtain ⟨T, M'⟩ := this
  refine ⟨_, T, M', .own _ _ _ _ _ _ _ _ (by rw [tget_set_same hd]; exact Nat.le_refl _) hn fun es' lk' he => .inl ⟨by simp only [upd_same], by simp only [upd_same]; omega, by simp only [upd_same]; rw [Nat.zero_add, Nat.zero_add]; exact hcap⟩⟩

/-- what an operation gives -/
def Out (P : Program) (ρ' : Operand → Value) (o : Oper) (w : World) (v : Value) (w' : World) : Prop :=
  (execOp ρ' o).run P w = .ok (.value v) w' ∨ ((execOp ρ' o).run P w = .ok .skip w' ∧ v = undef)

/-- an operation's step -/
def Stepped (P : Program) (E : En) (gh : Gh) (tab : List TC) (H : Hp) (w : World) (ρ' : Operand → Value) (o : Oper) (s : St) : Prop :=
  ∃ gh' v w', Out P ρ' o w v w' ∧ Goes gh tab H.next w gh' s.tab s.hp.next w' ∧ Mem E gh' s.tab s.hp w' ∧ SRel gh' s.tab s.hp.next w' s.v v

theorem zero_rel {t : TypeId} {z : VV} (h : zeroT P t = some z) : ∃ v, (∀ w : World, (zeroValue t).run P w = .ok v w) ∧ ∀ (w : World) (gh : Gh) (nx : Nat), VR gh nx w z v := by
  unfold zeroT at h
  cases hi : P.info? t with
  | none => simp [hi] at h
  | some i =>
    cases hz : i.zero with
    | none => simp [hi, hz] at h
    | some v =>
      simp [hi, hz] at h
      exact ⟨v, fun w => by simp [zeroValue, typeInfo, hi, hz], fun w gh nx => ofConst_rel h⟩

theorem cells_val {nx : Nat} {z : VV} {v : Value} (h : VR gh nx w z v) : SsRel gh tab nx w (z.cells.map .val) v.cells.toList := by
  have hc := h.cells
  refine ⟨by simp [hc.len], fun i x u hx hu => ?_⟩
  simp at hx
  obtain ⟨y, hy, rfl⟩ := hx
  exact .val _ _ (hc.rel i y u hy hu)

theorem alloc_run (M : Mem E gh tab H w) {ρ' : Operand → Value} {o : Oper} {e : TypeId} {d : Nat} {z : VV} (ho : o.op = .alloc e) (hd : d < tab.length) (hz : zeroT P e = some z) :
    Stepped P E gh tab H w ρ' o ⟨.loc d ((tget tab d).gen + 1) 0, tab.set d (.box ((tget tab d).gen + 1) (z.cells.map .val) true), H⟩ := by
  obtain ⟨v, hr, hv⟩ := zero_rel hz
  obtain ⟨gh', T, M', S⟩ := fresh_box M hd (cells_val (tab := tab) (hv w gh H.next)) e
  refine ⟨gh', _, _, .inl ?_, T, M', S⟩
  simp only [execOp, ho, Instr.alloc, Sem.run_bind, hr, Result.andThen_ok, newVar, newRow, run_newObj, Sem.run_pure]
  rfl

theorem box_run (M : Mem E gh tab H w) {ρ' : Operand → Value} {o : Oper} {e : TypeId} {x : Operand} {d : Nat} {s : SV} (ho : o.op = .box e x) (hd : d < tab.length)
    (hx : SRel gh tab H.next w s (ρ' x)) (h1 : (svCells s).all oneCell = true) :
    Stepped P E gh tab H w ρ' o ⟨.loc d ((tget tab d).gen + 1) 0, tab.set d (.box ((tget tab d).gen + 1) (svCells s) true), H⟩ := by
  obtain ⟨hc, _⟩ := value_cells_of_svCells hx h1
  obtain ⟨gh', T, M', S⟩ := fresh_box M hd hc e
  refine ⟨gh', _, _, .inl ?_, T, M', S⟩
  simp only [execOp, ho, Instr.box, Sem.run_bind, Result.andThen_ok, newVar, newRow, run_newObj, Sem.run_pure]
  rfl

end
end Go.Vi

/-
  Structs and slices that are built.
-/
namespace Go.Vi
set_option linter.unusedVariables false
set_option linter.unusedSimpArgs false

theorem putCells_len {α : Type} : ∀ (vs cs : List α) (off : Nat), (putCells cs off vs).length = cs.length
  | [], _, _ => rfl
  | v :: r, cs, off => by simp [putCells, putCells_len r]

theorem putCells_get {α : Type} : ∀ (vs cs : List α) (off k : Nat), off + vs.length ≤ cs.length →
    (putCells cs off vs)[k]? = if off ≤ k ∧ k < off + vs.length then vs[k - off]? else cs[k]?
  | [], cs, off, k, _ => by
    have : ¬ (off ≤ k ∧ k < off + ([] : List α).length) := by simp
    rw [if_neg this]; rfl
  | v :: r, cs, off, k, h => by
    simp only [List.length_cons] at h ⊢
    simp only [putCells]
    rw [putCells_get r _ _ _ (by simp; omega)]
    by_cases h1 : off + 1 ≤ k ∧ k < off + 1 + r.length
    · rw [if_pos h1, if_pos (by omega)]
      have : k - off = (k - (off + 1)) + 1 := by omega
      rw [this, List.getElem?_cons_succ]
    · rw [if_neg h1]
      by_cases h2 : k = off
      · subst h2
        rw [if_pos (by omega), Nat.sub_self, List.getElem?_cons_zero, List.getElem?_set_self (by omega)]
      · rw [if_neg (by omega), List.getElem?_set_ne (by omega)]

/-- the model's way to put cells -/
theorem foldl_put (off : Nat) : ∀ (vs : List Value) (k : Nat) (c : Array Value),
    ((vs.zipIdx k).foldl (fun cs (x : Value × Nat) => cs.setIfInBounds (off + x.2) x.1) c).toList = putCells c.toList (off + k) vs
  | [], k, c => rfl
  | v :: r, k, c => by
    simp only [List.zipIdx_cons, List.foldl_cons, putCells]
    rw [foldl_put off r (k + 1)]
    simp [Nat.add_assoc]

theorem fill_cells (off : Nat) (vs c : Array Value) :
    (vs.zipIdx.foldl (fun cs (x : Value × Nat) => cs.setIfInBounds (off + x.2) x.1) c) = (putCells c.toList off vs.toList).toArray := by
  apply Array.ext'
  rw [← Array.foldl_toList, Array.toList_zipIdx]
  have := foldl_put off vs.toList 0 c
  simpa using this

section
variable {P : Program} {E : En} {gh : Gh} {tab : List TC} {H : Hp} {w : World}

theorem put_rel {nx : Nat} {cs ns : List SV} {l vs : List Value} {off : Nat} (h : SsRel gh tab nx w cs l) (h' : SsRel gh tab nx w ns vs) (hle : off + ns.length ≤ cs.length) :
    SsRel gh tab nx w (putCells cs off ns) (putCells l off vs) := by
  have e1 := h.len
  have e2 := h'.len
  refine ⟨by rw [putCells_len, putCells_len]; exact e1, fun i x v hx hv => ?_⟩
  rw [putCells_get _ _ _ _ hle] at hx
  rw [putCells_get _ _ _ _ (by omega)] at hv
  by_cases hi : off ≤ i ∧ i < off + ns.length
  · rw [if_pos hi] at hx
    rw [if_pos (by omega)] at hv
    exact h'.rel _ x v hx hv
  · rw [if_neg hi] at hx
    rw [if_neg (by omega)] at hv
    exact h.rel _ x v hx hv

theorem fillS_run {nx : Nat} {place : Nat → Option (Nat × Nat)} : ∀ {qs : List (Nat × Nat × SV)} {ps : List (Nat × Value)} {cs cs' : List SV} {c : Array Value},
    SsRel gh tab nx w cs c.toList → ps.length = qs.length →
    (∀ (i : Nat) (q : Nat × Nat × SV) (p : Nat × Value), qs[i]? = some q → ps[i]? = some p → place p.1 = some (q.1, q.2.1) ∧ SRel gh tab nx w q.2.2 p.2) →
    fillS cs qs = some cs' → ∃ c', Instr.fill place c ps = some c' ∧ SsRel gh tab nx w cs' c'.toList := by
  intro qs
  induction qs with
  | nil =>
    intro ps cs cs' c h hl hq hf
    have : ps = [] := List.eq_nil_of_length_eq_zero (by simpa using hl)
    subst this
    simp [fillS] at hf; subst hf
    exact ⟨c, rfl, h⟩
  | cons q qs ih =>
    intro ps cs cs' c h hl hq hf
    cases ps with
    | nil => simp at hl
    | cons p ps =>
      obtain ⟨off, size, v⟩ := q
      obtain ⟨i, pv⟩ := p
      simp only [fillS] at hf
      split at hf
      · rename_i hb
        obtain ⟨b1, b2, b3⟩ := hb
        obtain ⟨hp, hv⟩ := hq 0 _ _ rfl rfl
        simp only at hp hv
        obtain ⟨hc, _⟩ := value_cells_of_svCells hv b3
        have hn := hc.len
        simp at hn
        have hcl := h.len
        simp at hcl
        have hr := put_rel h hc (by omega : off + (svCells v).length ≤ cs.length)
        obtain ⟨c', e1, e2⟩ := ih (ps := ps) (c := (putCells c.toList off pv.cells.toList).toArray) (by simpa using hr) (by simpa using hl)
          (fun i q p a b => hq (i + 1) q p a b) hf
        refine ⟨c', ?_, e2⟩
        simp only [Instr.fill, hp]
        rw [if_neg (by simp; constructor <;> omega)]
        rw [← e1, ← fill_cells]
      · simp at hf

theorem partsOf_some {ρ : Operand → Option SV} {ps : List (Nat × Operand)} {qs : List (Nat × SV)} (h : partsOf ρ ps = some qs) :
    qs.length = ps.length ∧ ∀ (i : Nat) (p : Nat × Operand) (q : Nat × SV), ps[i]? = some p → qs[i]? = some q → q.1 = p.1 ∧ ρ p.2 = some q.2 := by
  obtain ⟨h1, h2⟩ := mapM_some h
  refine ⟨h1, fun i p q hp hq => ?_⟩
  have := h2 i p q hp hq
  obtain ⟨n, x⟩ := p
  simp only [Option.map_eq_some_iff] at this
  obtain ⟨v, hv, rfl⟩ := this
  exact ⟨rfl, hv⟩

theorem places_run {fs : List Field} (h : fs.all fun f => (sizeT P f.type).isSome) (w : World) :
    (fs.mapM fun (f : Field) => (do pure (f.offset, ← sizeOf f.type) : Sem (Nat × Nat))).run P w = .ok (fs.map fun f => (f.offset, (sizeT P f.type).getD 0)) w := by
  induction fs with
  | nil => rfl
  | cons f fs ih =>
    simp only [List.all_cons, Bool.and_eq_true] at h
    obtain ⟨n, hn⟩ := Option.isSome_iff_exists.1 h.1
    simp only [List.mapM_cons, Sem.run_bind, run_sizeOf hn, Result.andThen_ok, Sem.run_pure, ih h.2, List.map_cons, hn, Option.getD_some]

theorem build_run (M : Mem E gh tab H w) {ρ : Operand → Option SV} {ρ' : Operand → Value} (hρ : ∀ x s, ρ x = some s → SRel gh tab H.next w s (ρ' x)) {o : Oper} {t : TypeId}
    {parts : Array (Nat × Operand)} {z : VV} {fs : List Field} {ps : List (Nat × SV)} {qs : List (Nat × Nat × SV)} {cs : List SV} (ho : o.op = .build t parts) (hz : zeroT P t = some z)
    (hf : fieldsOf P t = some fs) (hp : partsOf ρ parts.toList = some ps) (hq : placesOf P fs ps = some qs) (hc : fillS (z.cells.map .val) qs = some cs)
    (hall : fs.all fun f => (sizeT P f.type).isSome) : Stepped P E gh tab H w ρ' o ⟨stOf cs, tab, H⟩ := by
  obtain ⟨v, hr, hv⟩ := zero_rel hz
  obtain ⟨fa, hu, rfl⟩ := fieldsOf_some hf
  obtain ⟨p1, p2⟩ := partsOf_some hp
  obtain ⟨q1, q2⟩ := mapM_some hq
  have hfill := fillS_run (place := fun (i : Nat) => (fa.toList.map fun (f : Field) => (f.offset, (sizeT P f.type).getD 0))[i]?) (cells_val (tab := tab) (hv w gh H.next))
    (ps := parts.toList.map fun (x : Nat × Operand) => (x.1, ρ' x.2)) (by simp; rw [q1, p1]; simp) (fun i q p hqi hpi => by
      have hil : i < ps.length := by have := (List.getElem?_eq_some_iff.1 hqi).1; omega
      have e1 := q2 i _ q (List.getElem?_eq_getElem hil) hqi
      simp only [List.getElem?_map, Option.map_eq_some_iff] at hpi
      obtain ⟨a, ha, rfl⟩ := hpi
      obtain ⟨e2, e3⟩ := p2 i a _ ha (List.getElem?_eq_getElem hil)
      generalize ps[i] = pp at e1 e2 e3
      obtain ⟨n, s⟩ := pp
      simp only at e1 e2 e3
      subst e2
      split at e1
      · rename_i f hfi
        simp only [Option.map_eq_some_iff] at e1
        obtain ⟨m, hm, rfl⟩ := e1
        refine ⟨?_, hρ _ _ e3⟩
        have hfi' : fa.toList[a.1]? = some f := hfi
        simp only [List.getElem?_map, hfi', Option.map_some, hm, Option.getD_some]
      · simp at e1) hc
  obtain ⟨c', f1, f2⟩ := hfill
  refine ⟨gh, .agg c', w, .inl ?_, Goes.refl _ _ _ _, M, by simpa using stOf_rel f2⟩
  have hplaces := places_run (P := P) hall w
  have hm : (fa.mapM fun (f : Field) => (do pure (f.offset, ← sizeOf f.type) : Sem (Nat × Nat))).run P w = .ok (fa.toList.map fun f => (f.offset, (sizeT P f.type).getD 0)).toArray w := by
    rw [Array.mapM_eq_mapM_toList, Sem.run_map, hplaces]; rfl
  simp only [execOp, ho, Instr.build, Sem.run_bind, hr, Result.andThen_ok, run_underlying hu, hm]
  have hpa : (parts.map fun (x : Nat × Operand) => (x.1, ρ' x.2)).toList = parts.toList.map fun (x : Nat × Operand) => (x.1, ρ' x.2) := by simp
  have hfun : (fun (x : Nat) => (fa.toList.map fun (f : Field) => (f.offset, (sizeT P f.type).getD 0)).toArray[x]?) = fun (i : Nat) => (fa.toList.map fun (f : Field) => (f.offset, (sizeT P f.type).getD 0))[i]? := by
    funext x; simp
  rw [hfun, hpa, f1]
  rfl

end
end Go.Vi
