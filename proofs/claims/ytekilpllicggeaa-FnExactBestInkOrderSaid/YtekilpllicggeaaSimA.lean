/-
  An abstract machine over Go's elaborated code: values without world, tape or NaN payloads; the definitions alone.
-/
import Derived.WalkKit
import Derived.WalkLawsBesides
import Derived.Laws.StructEq
import Derived.ChangeKeysEq
namespace Go.Sim

/-- Abstract values. 'bool', 'int': written out; 'sbool', 'sint': whatever term. Floats: by their bits, every NaN as one. -/
inductive AV where
  | bool (b : Bool)
  | sbool (b : Bool)
  | int (k : IntKind) (n : Int)
  | sint (k : IntKind) (n : Int)
  | flt (k : FloatKind) (x : Nat)
  | str (s : ByteArray)
  | pnil
  | ptr (i off : Nat)
  | sptr (i off n es : Nat) (z : Int)
  | snil
  | slc (i off len es : Nat)
  | sslc (i off len es : Nat)
  | fn (f : Nat) (caps : List AV)
  | nilfn
  | agg (cells : List AV)
  | tup (vs : List AV)

/-! ### Floats without NaN payloads -/

def nanB : FloatKind → Nat
  | .f32 => 2143289344
  | .f64 => 9221120237041090560

def isNan (k : FloatKind) (b : Nat) : Bool := (k.format.read b).isNaN
def canon (k : FloatKind) (b : Nat) : Nat := bif isNan k b then nanB k else b

def farith (op : BinOp) (k : FloatKind) (x y : Nat) : Nat := (floatBits op k x y).getD (nanB k)
def fcmp (op : BinOp) (k : FloatKind) (x y : Nat) : Bool :=
  match op with
  | .eql => k.format.order x y == some .eq
  | .neq => k.format.order x y != some .eq
  | .lss => k.format.order x y == some .lt
  | .leq => k.format.order x y == some .lt || k.format.order x y == some .eq
  | .gtr => k.format.order x y == some .gt
  | .geq => k.format.order x y == some .gt || k.format.order x y == some .eq
  | _ => false
def fmax (k : FloatKind) (x y : Nat) : Nat :=
  match k.format.order x y with
  | none => nanB k
  | some .lt => y
  | some .gt => x
  | some .eq => if (k.decode x).neg then y else x
def fmin (k : FloatKind) (x y : Nat) : Nat :=
  match k.format.order x y with
  | none => nanB k
  | some .lt => x
  | some .gt => y
  | some .eq => if (k.decode x).neg then x else y
def fneg (k : FloatKind) (x : Nat) : Nat := bif isNan k x then nanB k else Op.negFloat k x
/-- 'float64(x)', 'float32(x)'; the second part says that the model fixes what comes. -/
def fconv (s d : FloatKind) (x : Nat) : Nat :=
  match s, d with
  | .f32, .f32 => x
  | .f64, .f64 => x
  | s, d => match s.decode x with
    | .nan _ _ => nanB d
    | .infinity t => d.encode (.infinity t)
    | .number t m e => d.encode (.number t m e)
def fconvOk (s d : FloatKind) (x : Nat) : Bool :=
  match s, d with
  | .f32, .f32 => true
  | .f64, .f64 => true
  | s, d => match s.decode x with
    | .number t m e => !(d.decode (d.encode (.number t m e))).isInfinity
    | _ => true

/-- What must be true of a conversion: nothing, where it widens. -/
def convCs (s d : FloatKind) (x : Nat) : List Bool :=
  match s, d with
  | .f32, .f64 => []
  | s, d => [fconvOk s d x]

/-- A whole number's word. -/
def fnear (k : FloatKind) (n : Int) : Nat := k.nearest n

/-- Wrapped, where it is not written out. -/
def wrapS (k : IntKind) (n : Int) : Int := k.wrap n

/-- A word of this kind. -/
def fltB (k : FloatKind) (x : Nat) : Bool :=
  match k with
  | .f32 => decide (x < 4294967296)
  | .f64 => decide (x < 18446744073709551616)

def icmp (op : BinOp) (x y : Int) : Bool :=
  match op with
  | .eql => x == y
  | .neq => x != y
  | .lss => decide (x < y)
  | .leq => decide (x ≤ y)
  | .gtr => decide (x > y)
  | .geq => decide (x ≥ y)
  | _ => false

/-! ### Lists, written out as they are laid -/

variable {α : Type} {R : Type}

/-- The spine written out, then go on. -/
def forceK : List α → (List α → Option R) → Option R
  | [], k => k []
  | a :: r, k => forceK r fun r' => k (a :: r')

def setK : List α → Nat → α → (List α → Option R) → Option R
  | [], _, _, k => k []
  | _ :: r, 0, v, k => k (v :: r)
  | a :: r, n + 1, v, k => setK r n v fun r' => k (a :: r')

def appendK : List α → List α → (List α → Option R) → Option R
  | [], ys, k => k ys
  | a :: r, ys, k => appendK r ys fun r' => k (a :: r')

/-- 'n' elements from 'off' on. -/
def sliceL : List α → Nat → Nat → Option (List α)
  | _, 0, 0 => some []
  | [], 0, _ + 1 => none
  | a :: r, 0, n + 1 => match sliceL r 0 n with
    | some l => some (a :: l)
    | none => none
  | [], _ + 1, 0 => none
  | [], _ + 1, _ + 1 => none
  | _ :: r, o + 1, n => sliceL r o n

/-- 'vs' written over 'l' from 'off' on. -/
def pasteL : List α → Nat → List α → Option (List α)
  | l, 0, [] => some l
  | [], 0, _ :: _ => none
  | _ :: r, 0, v :: vs => match pasteL r 0 vs with
    | some l => some (v :: l)
    | none => none
  | [], _ + 1, _ => none
  | a :: r, o + 1, vs => match pasteL r o vs with
    | some l => some (a :: l)
    | none => none

/-! ### Whole numbers that are not written out -/

def iadd (x y : Int) : Int := x + y
def isub (x y : Int) : Int := x - y
def imul (x y : Int) : Int := x * y
def iquo (x y : Int) : Int := x.tdiv y
def irem (x y : Int) : Int := x.tmod y
/-- Bit by bit. -/
def ibit (op : BinOp) (k : IntKind) (x y : Int) : Int :=
  match op with
  | .and => (BitVec.ofInt k.bits x &&& BitVec.ofInt k.bits y).toNat
  | .or => (BitVec.ofInt k.bits x ||| BitVec.ofInt k.bits y).toNat
  | .xor => (BitVec.ofInt k.bits x ^^^ BitVec.ofInt k.bits y).toNat
  | _ => (BitVec.ofInt k.bits x &&& ~~~BitVec.ofInt k.bits y).toNat
def ibitS (op : BinOp) (k : IntKind) (x y : Int) : Int := ibit op k x y
def ishl (k : IntKind) (x y : Int) : Int := x * 2 ^ (min y.toNat k.bits)
def ishr (k : IntKind) (x y : Int) : Int := x.fdiv (2 ^ (min y.toNat k.bits))
def ofN (n : Nat) : Int := n
def strL (s : ByteArray) : Nat := s.size
/-- Places. -/
def itn (z : Int) : Nat := z.toNat
def padd (a b : Nat) : Nat := a + b
def pmul (a b : Nat) : Nat := a * b

/-! ### Leaves -/

/-- Leaves without addresses. -/
inductive Kd where
  | flt (k : FloatKind)
  | int (k : IntKind)
  | bool
  | str

/-- What each leaf holds, by its number. -/
structure Vars where
  u : Nat → Nat
  i : Nat → Int
  b : Nat → Bool
  s : Nat → ByteArray

instance : Inhabited Vars := ⟨⟨fun _ => 0, fun _ => 0, fun _ => false, fun _ => .empty⟩⟩

def mkK (x : Vars) (j : Nat) : Kd → AV
  | .flt k => .flt k (x.u j)
  | .int k => .sint k (x.i j)
  | .bool => .sbool (x.b j)
  | .str => .str (x.s j)

def fltOf : AV → Nat
  | .flt _ x => x
  | _ => 0
def intOf : AV → Int
  | .sint _ n => n
  | .int _ n => n
  | _ => 0
def boolOf : AV → Bool
  | .sbool b => b
  | .bool b => b
  | _ => false
def strOf : AV → ByteArray
  | .str s => s
  | _ => .empty

def isK : Kd → AV → Bool
  | .flt k, .flt k' _ => decide (k = k')
  | .int k, .sint k' _ => decide (k = k')
  | .int k, .int k' _ => decide (k = k')
  | .bool, .sbool _ => true
  | .bool, .bool _ => true
  | .str, .str _ => true
  | _, _ => false

def isL : List Kd → List AV → Bool
  | [], [] => true
  | k :: r, v :: l => match isK k v with
    | true => isL r l
    | false => false
  | _, _ => false

def leafN (l : List AV) (j : Nat) : AV := l.getD j .pnil

def varsOf (l : List AV) : Vars := { u := fun j => fltOf (leafN l j), i := fun j => intOf (leafN l j), b := fun j => boolOf (leafN l j), s := fun j => strOf (leafN l j) }

/-- Whether all are of one kind. -/
def isKs (k : Kd) : List AV → Bool
  | [] => true
  | v :: r => match isK k v with
    | true => isKs k r
    | false => false

/-- 'n' cells of one kind, from 'off + j' on. -/
def symL (k : Kd) (y : Vars) (off : Nat) : Nat → Nat → List AV
  | _, 0 => []
  | j, n + 1 => mkK y (padd off j) k :: symL k y off (j + 1) n

def inR (off n j : Nat) : Bool := Nat.ble off j && Nat.blt j (off + n)

/-- Cells written over others from 'off' on. -/
def pasteV (y : Vars) (off : Nat) (vs : List AV) : Vars := {
  u := fun j => bif inR off vs.length j then fltOf (leafN vs (j - off)) else y.u j
  i := fun j => bif inR off vs.length j then intOf (leafN vs (j - off)) else y.i j
  b := fun j => bif inR off vs.length j then boolOf (leafN vs (j - off)) else y.b j
  s := fun j => bif inR off vs.length j then strOf (leafN vs (j - off)) else y.s j }

/-- 'c' cells from 'off' on, and more behind them. -/
def pushV (y : Vars) (off c : Nat) (vs : List AV) : Vars := {
  u := fun j => bif Nat.blt j c then y.u (off + j) else fltOf (leafN vs (j - c))
  i := fun j => bif Nat.blt j c then y.i (off + j) else intOf (leafN vs (j - c))
  b := fun j => bif Nat.blt j c then y.b (off + j) else boolOf (leafN vs (j - c))
  s := fun j => bif Nat.blt j c then y.s (off + j) else strOf (leafN vs (j - c)) }

/-! ### Elements at places that are no literals -/

def kOf : AV → Option Kd
  | .flt k _ => some (.flt k)
  | .int k _ => some (.int k)
  | .sint k _ => some (.int k)
  | .bool _ => some .bool
  | .sbool _ => some .bool
  | _ => none
/-- 'n' cells, 'es' apart. -/
def pickL (cells : List AV) (es : Nat) : Nat → Nat → Option (List AV)
  | _, 0 => some []
  | off, n + 1 => match sliceL cells off 1 with
    | some [v] => match pickL cells es (off + es) n with
      | some r => some (v :: r)
      | none => none
    | _ => none

/-- A column's values. -/
def colV (l : List AV) : Vars := varsOf l

def selA (l : List AV) (z : Int) : Option AV :=
  match l with
  | [] => none
  | v :: _ => match kOf v with
    | none => none
    | some k => match isKs k l with
      | true => some (mkK (colV l) (itn z) k)
      | false => none

/-- An element's cells. -/
def selAs (cells : List AV) (n es : Nat) (z : Int) : Nat → Nat → Option (List AV)
  | _, 0 => some []
  | off, c + 1 => match pickL cells es off n with
    | none => none
    | some l => match selA l z with
      | none => none
      | some v => match selAs cells n es z (off + 1) c with
        | some r => some (v :: r)
        | none => none

def natI (a b : Int) : Bool := decide (a = b)

def merge1 (s : Bool) (x y : AV) : Option AV :=
  match x, y with
  | .bool a, .bool b => match a, b with
    | true, true => some (.bool true)
    | false, false => some (.bool false)
    | a, b => some (.sbool (bif s then a else b))
  | .bool a, .sbool b | .sbool a, .bool b | .sbool a, .sbool b => some (.sbool (bif s then a else b))
  | .int k a, .int k' b => match decide (k = k') with
    | true => match decide (a = b) with
      | true => some (.int k a)
      | false => some (.sint k (bif s then a else b))
    | false => none
  | .int k a, .sint k' b | .sint k a, .int k' b | .sint k a, .sint k' b => match decide (k = k') with
    | true => some (.sint k (bif s then a else b))
    | false => none
  | .flt k a, .flt k' b => match decide (k = k') with
    | true => some (.flt k (bif s then a else b))
    | false => none
  | .str a, .str b => some (.str (bif s then a else b))
  | .pnil, .pnil => some .pnil
  | .snil, .snil => some .snil
  | .nilfn, .nilfn => some .nilfn
  | .sptr i o n e z, .sptr i' o' n' e' z' => match Nat.beq i i' && Nat.beq o o' && Nat.beq n n' && Nat.beq e e' with
    | true => some (.sptr i o n e (bif s then z else z'))
    | false => none
  | .ptr i o, .ptr i' o' => match Nat.beq i i' && Nat.beq o o' with
    | true => some (.ptr i o)
    | false => none
  | .slc i o n e, .slc i' o' n' e' => match Nat.beq i i' && Nat.beq o o' && Nat.beq n n' && Nat.beq e e' with
    | true => some (.slc i o n e)
    | false => none
  | _, _ => none

/-- Cells written at an element that is no literal. -/
def putZ (off n es : Nat) (vs : List AV) (z : Int) : Nat → List AV → (List AV → Option R) → Option R
  | _, [], k => k []
  | p, x :: r, k => match Nat.ble off p && Nat.blt p (off + n * es) && Nat.blt ((p - off) % es) vs.length with
    | false => putZ off n es vs z (p + 1) r fun r' => k (x :: r')
    | true => match merge1 (natI z (ofN ((p - off) / es))) (leafN vs ((p - off) % es)) x with
      | none => none
      | some v => putZ off n es vs z (p + 1) r fun r' => k (v :: r')

/-! ### Slots and memory -/

structure Ent where
  s : Nat
  v : AV
  tg : List (Nat × Bool)

abbrev Env := List Ent

def Env.get : Env → Nat → Option Ent
  | [], _ => none
  | e :: r, t => match Nat.beq e.s t with
    | true => some e
    | false => Env.get r t

def Env.putK : Env → Ent → (Env → Option R) → Option R
  | [], e, k => k [e]
  | a :: r, e, k => match Nat.beq a.s e.s with
    | true => k (e :: r)
    | false => Env.putK r e fun r' => k (a :: r')

def Env.dropK : Env → Nat → (Env → Option R) → Option R
  | [], _, k => k []
  | a :: r, t, k => match Nat.beq a.s t with
    | true => Env.dropK r t k
    | false => Env.dropK r t fun r' => k (a :: r')

inductive Blk where
  | lit (cells : List AV) (rw : Bool)
  | sym (n : Nat) (k : Kd) (y : Vars) (rw : Bool)

abbrev Mem := List (Option Blk)

def Mem.at (m : Mem) (i : Nat) : Option Blk :=
  match m, i with
  | [], _ => none
  | b :: _, 0 => b
  | _ :: r, i + 1 => Mem.at r i

def Blk.rw : Blk → Bool
  | .lit _ rw => rw
  | .sym _ _ _ rw => rw

/-! ### Types -/

inductive TK where
  | scalar
  | arr (n elem : Nat)
  | struct (fields : List (Nat × Nat))
  | slice (elem : Nat)

structure TI where
  kind : TK
  size : Nat
  bytes : Nat
  zero : List AV

def inI (k : IntKind) (n : Int) : Bool := decide (k.min ≤ n) && decide (n ≤ k.max)

/-- Whether each number of kind 'k'' is one of kind 'k'. -/
def subI (k' k : IntKind) : Bool := decide (k.min ≤ k'.min) && decide (k'.max ≤ k.max)

/-- A constant of the program as an abstract value. -/
def cst1 : Value → Option AV
  | .bool b => some (.bool b)
  | .int k n => match inI k n with
    | true => some (.int k n)
    | false => none
  | .float k b => match isNan k b || !fltB k b with
    | true => none
    | false => some (.flt k b)
  | .string s => some (.str s)
  | .pointer none => some .pnil
  | .slice none 0 0 => some .snil
  | .nilFunc => some .nilfn
  | _ => none

def cstL : List Value → Option (List AV)
  | [] => some []
  | v :: r => match cst1 v, cstL r with
    | some a, some l => some (a :: l)
    | _, _ => none

def cst : Value → Option AV
  | .agg cs => match cstL cs.toList with
    | some l => some (.agg l)
    | none => none
  | v => cst1 v

def tkOf : TypeDesc → TK
  | .array n e => .arr n e
  | .struct fs => .struct (fs.toList.map fun f => (f.offset, f.type))
  | .slice e => .slice e
  | _ => .scalar

def tiOf (P : Program) (t : Nat) : Option TI :=
  match P.info? t, P.underlying t with
  | some i, some d => match i.zero with
    | some z => match cstL z.cells.toList with
      | some l => some { kind := tkOf d, size := i.size, bytes := i.bytes, zero := l }
      | none => none
    | none => none
  | _, _ => none

/-! ### One operation -/

/-- What a call of a known function gives: its value, the memory (none: as it was), what must be true. -/
structure CR where
  v : AV
  m : Option Mem := none
  cs : List Bool := []

abbrev Summ := Nat → List AV → Mem → Option CR

/-- 'x' is the end of 'y'. -/
def subTag : List (Nat × Bool) → List (Nat × Bool) → Bool
  | [], _ => true
  | x, y => match decide (x = y) with
    | true => true
    | false => match y with
      | [] => false
      | _ :: r => subTag x r

def rd (E : Env) (tg : List (Nat × Bool)) : Operand → Option AV
  | .tmp t => match E.get t with
    | some e => match subTag e.tg tg with
      | true => some e.v
      | false => none
    | none => none
  | .const v => cst v
  | .func f => some (.fn f [])
  | .global _ => none

def rdL (E : Env) (tg : List (Nat × Bool)) : List Operand → Option (List AV)
  | [] => some []
  | x :: r => match rd E tg x with
    | none => none
    | some v => match rdL E tg r with
      | none => none
      | some l => some (v :: l)

def AV.cells : AV → Option (List AV)
  | .agg l => some l
  | .tup _ => none
  | v => some [v]

/-- An operation's outcome. -/
structure OR where
  v : AV
  nw : Option Blk := none
  m : Option Mem := none
  cs : List Bool := []

/-- An operation that lays one new block. -/
def newA (m : Mem) (cells : List AV) (k : Nat → AV) : Option OR :=
  forceK cells fun cells => some { v := k m.length, nw := some (.lit cells true) }

/-- .. as a step of its own. -/
def newM (m : Mem) (cells : List AV) (k : Nat → AV) : Option OR :=
  forceK cells fun cells => appendK m [some (.lit cells true)] fun m' => some { v := k m.length, m := some m' }

def loadA0 (P : Program) (m : Mem) (t : Nat) (a : AV) : Option OR :=
  match a with
  | .ptr i off => match tiOf P t with
    | none => none
    | some ti => match m.at i with
      | none => none
      | some (.lit cells _) => match ti.kind with
        | .arr _ _ | .struct _ => match sliceL cells off ti.size with
          | some l => some { v := .agg l }
          | none => none
        | _ => match sliceL cells off 1 with
          | some [v] => some { v := v }
          | _ => none
      | some (.sym n k y _) => match ti.kind with
        | .arr _ _ | .struct _ => some { v := .agg (symL k y off 0 ti.size), cs := [decide (padd off ti.size ≤ n)] }
        | _ => some { v := mkK y off k, cs := [decide (off < n)] }
  | _ => none

def loadA (P : Program) (m : Mem) (t : Nat) (a : AV) : Option OR :=
  match a with
  | .sptr i off n es z => match tiOf P t with
    | none => none
    | some ti => match m.at i with
      | some (.lit cells _) => match ti.kind with
        | .arr _ _ | .struct _ => match selAs cells n es z off ti.size with
          | some l => some { v := .agg l }
          | none => none
        | _ => match selAs cells n es z off 1 with
          | some [v] => some { v := v }
          | _ => none
      | some (.sym _ _ _ _) => loadA0 P m t (.ptr i (padd off (pmul (itn z) es)))
      | none => none
  | a => loadA0 P m t a

def storeA0 (P : Program) (m : Mem) (t : Nat) (a v : AV) : Option OR :=
  match a with
  | .ptr i off => match tiOf P t with
    | none => none
    | some ti => match m.at i with
      | some (.lit cells true) => match v.cells with
        | none => none
        | some vs => match Nat.beq vs.length ti.size with
          | false => none
          | true => match pasteL cells off vs with
            | none => none
            | some cells' => forceK cells' fun cells' => setK m i (some (.lit cells' true)) fun m' => some { v := .tup [], m := some m' }
      | some (.sym n k y true) => match v.cells with
        | none => none
        | some vs => match Nat.beq vs.length ti.size && isKs k vs with
          | false => none
          | true => setK m i (some (.sym n k (pasteV y off vs) true)) fun m' => some { v := .tup [], m := some m', cs := [decide (padd off vs.length ≤ n)] }
      | _ => none
  | _ => none

def storeA (P : Program) (m : Mem) (t : Nat) (a v : AV) : Option OR :=
  match a with
  | .sptr i off n es z => match tiOf P t with
    | none => none
    | some ti => match m.at i with
      | some (.lit cells true) => match v.cells with
        | none => none
        | some vs => match Nat.beq vs.length ti.size && Nat.ble ti.size es && Nat.ble (off + n * es) (cells.length + es - ti.size) with
          | false => none
          | true => putZ off n es vs z 0 cells fun cells' => setK m i (some (.lit cells' true)) fun m' => some { v := .tup [], m := some m' }
      | some (.sym _ _ _ _) => storeA0 P m t (.ptr i (padd off (pmul (itn z) es))) v
      | _ => none
  | a => storeA0 P m t a v

/-- A literal's parts over zeroes. -/
def fillA (place : Nat → Option (Nat × Nat)) : List AV → List (Nat × AV) → Option (List AV)
  | cells, [] => some cells
  | cells, (i, v) :: r => match place i with
    | none => none
    | some (off, size) => match v.cells with
      | none => none
      | some vs => match Nat.beq vs.length size with
        | false => none
        | true => match pasteL cells off vs with
          | none => none
          | some cells' => fillA place cells' r

def repL (n : Nat) (l : List AV) : List AV :=
  match n with
  | 0 => []
  | n + 1 => l ++ repL n l

/-- Where each field lies, and its size. -/
def placesA (P : Program) : List (Nat × Nat) → Option (List (Nat × Nat))
  | [] => some []
  | (off, u) :: r => match tiOf P u with
    | none => none
    | some ui => match placesA P r with
      | none => none
      | some l => some ((off, ui.size) :: l)

def buildA (P : Program) (t : Nat) (ps : List (Nat × AV)) : Option OR :=
  match tiOf P t with
  | none => none
  | some ti => match ti.kind with
    | .struct fs => match placesA P fs with
      | none => none
      | some pl => match fillA (fun i => pl[i]?) ti.zero ps with
        | some l => forceK l fun l => some { v := .agg l }
        | none => none
    | .arr _ e => match tiOf P e with
      | some ei => match fillA (fun i => some (i * ei.size, ei.size)) ti.zero ps with
        | some l => forceK l fun l => some { v := .agg l }
        | none => none
      | none => none
    | _ => none

def buildSliceA (P : Program) (m : Mem) (t n : Nat) (ps : List (Nat × AV)) : Option OR :=
  match tiOf P t with
  | none => none
  | some ti => match ti.kind with
    | .slice e => match tiOf P e with
      | some ei => match decide (n * ei.size ≤ 16777216) && Nat.beq ei.zero.length ei.size with
        | true => match fillA (fun i => some (i * ei.size, ei.size)) (repL n ei.zero) ps with
          | some l => newA m l fun i => .slc i 0 n ei.size
          | none => none
        | false => none
      | none => none
    | _ => none

def iarithS (op : BinOp) (x y : Int) : Option Int :=
  match op with
  | .add => some (iadd x y)
  | .sub => some (isub x y)
  | .mul => some (imul x y)
  | _ => none

def iarith (op : BinOp) (_ : IntKind) (x y : Int) : Option Int :=
  match op with
  | .add => some (x + y)
  | .sub => some (x - y)
  | .mul => some (x * y)
  | _ => none

/-- An arithmetical operation on integers: written out, wrapped at once; else: signed kinds by their bounds, the others wrapped. -/
def intA (op : BinOp) (k : IntKind) (x y : Int) (lit : Bool) : Option OR :=
  match op with
  | .add | .sub | .mul => match lit with
    | true => match iarith op k x y with
      | none => none
      | some z => some { v := .int k (k.wrap z) }
    | false => match iarithS op x y with
      | none => none
      | some z => match k.signed with
        | true => some { v := .sint k z, cs := [inI k z] }
        | false => some { v := .sint k (wrapS k z) }
  | .quo => match lit with
    | true => match decide (y = 0) with
      | true => none
      | false => some { v := .int k (k.wrap (x.tdiv y)) }
    | false => some { v := .sint k (wrapS k (iquo x y)), cs := [!decide (y = 0)] }
  | .rem => match lit with
    | true => match decide (y = 0) with
      | true => none
      | false => some { v := .int k (x.tmod y) }
    | false => some { v := .sint k (irem x y), cs := [!decide (y = 0)] }
  | .and => some { v := bif lit then .int k (k.wrap (ibit .and k x y)) else .sint k (wrapS k (ibitS .and k x y)) }
  | .or => some { v := bif lit then .int k (k.wrap (ibit .or k x y)) else .sint k (wrapS k (ibitS .or k x y)) }
  | .xor => some { v := bif lit then .int k (k.wrap (ibit .xor k x y)) else .sint k (wrapS k (ibitS .xor k x y)) }
  | .andNot => some { v := bif lit then .int k (k.wrap (ibit .andNot k x y)) else .sint k (wrapS k (ibitS .andNot k x y)) }
  | .eql | .neq | .lss | .leq | .gtr | .geq => some { v := bif lit then .bool (icmp op x y) else .sbool (icmp op x y) }
  | _ => none

def shiftA (op : BinOp) (k : IntKind) (x y : Int) (lit : Bool) : Option OR :=
  match op with
  | .shl => match lit with
    | true => match decide (y < 0) with
      | true => none
      | false => some { v := .int k (k.wrap (x * 2 ^ (min y.toNat k.bits))) }
    | false => some { v := .sint k (wrapS k (ishl k x y)), cs := [!decide (y < 0)] }
  | .shr => match lit with
    | true => match decide (y < 0) with
      | true => none
      | false => some { v := .int k (x.fdiv (2 ^ (min y.toNat k.bits))) }
    | false => some { v := .sint k (ishr k x y), cs := [!decide (y < 0)] }
  | _ => none

def boolA (op : BinOp) (x y : Bool) : Option Bool :=
  match op with
  | .eql => some (x == y)
  | .neq => some (!(x == y))
  | _ => none

def isShift : BinOp → Bool
  | .shl | .shr => true
  | _ => false

def isArith : BinOp → Bool
  | .add | .sub | .mul | .quo => true
  | _ => false

def isCmp : BinOp → Bool
  | .eql | .neq | .lss | .leq | .gtr | .geq => true
  | _ => false

def isBoolT (P : Program) (t : Nat) : Bool :=
  match P.underlying t with
  | some .bool => true
  | _ => false

def isSliceT (P : Program) (t : Nat) : Bool :=
  match P.underlying t with
  | some (.slice _) => true
  | _ => false

def binA (P : Program) (t : Nat) (op : BinOp) (x y : AV) : Option OR :=
  match x, y with
  | .int k a, .int k' b => match isShift op with
    | true => shiftA op k a b true
    | false => match decide (k = k') with
      | true => intA op k a b true
      | false => none
  | .int k a, .sint k' b | .sint k a, .int k' b | .sint k a, .sint k' b => match isShift op with
    | true => shiftA op k a b false
    | false => match decide (k = k') with
      | true => intA op k a b false
      | false => none
  | .flt k a, .flt k' b => match decide (k = k') with
    | false => none
    | true => match isArith op with
      | true => some { v := .flt k (farith op k a b) }
      | false => match isCmp op with
        | true => some { v := .sbool (fcmp op k a b) }
        | false => none
  | .bool a, .bool b => match boolA op a b, isBoolT P t with
    | some c, true => some { v := .bool c }
    | _, _ => none
  | .bool a, .sbool b | .sbool a, .bool b | .sbool a, .sbool b => match boolA op a b, isBoolT P t with
    | some c, true => some { v := .sbool c }
    | _, _ => none
  | .snil, .snil => match boolA op true true, isSliceT P t with
    | some c, true => some { v := .bool c }
    | _, _ => none
  | .slc _ _ _ _, .snil | .sslc _ _ _ _, .snil => match boolA op true false, isSliceT P t with
    | some c, true => some { v := .bool c }
    | _, _ => none
  | .str a, .str b => match op with
    | .add => some { v := .str (a ++ b), cs := [decide (a.size + b.size ≤ 9223372036854775807)] }
    | .eql => some { v := .sbool (a.toList == b.toList) }
    | .neq => some { v := .sbool !(a.toList == b.toList) }
    | _ => none
  | _, _ => none

def unA (op : UnOp) (x : AV) : Option OR :=
  match op, x with
  | .not, .bool b => some { v := .bool !b }
  | .not, .sbool b => some { v := .sbool !b }
  | .neg, .flt k b => some { v := .flt k (fneg k b) }
  | .neg, .int k n => some { v := .int k (k.wrap (0 - n)) }
  | _, _ => none

def convA (P : Program) (src dst : Nat) (x : AV) : Option OR :=
  match P.underlying src, P.underlying dst, x with
  | some _, some (.int k), .int _ n => some { v := .int k (k.wrap n) }
  | some _, some (.int k), .sint k' n => some { v := .sint k (bif subI k' k then n else wrapS k n) }
  | some _, some (.float k), .int _ n => some { v := .flt k (fnear k n) }
  | some _, some (.float k), .sint _ n => some { v := .flt k (fnear k n) }
  | some _, some (.float k), .flt s b => some { v := .flt k (fconv s k b), cs := convCs s k b }
  | _, _, _ => none

def optA (E : Env) (tg : List (Nat × Bool)) : Option Operand → Option (Option AV)
  | none => some none
  | some x => match rd E tg x with
    | some v => some (some v)
    | none => none

/-- A bound of a slice expression: an integer from 0 to y. -/
def boundA (x : Option AV) (dflt y : Nat) : Option Nat :=
  match x with
  | none => some dflt
  | some (.int _ n) => match n with
    | .ofNat i => match Nat.ble i y with
      | true => some i
      | false => none
    | .negSucc _ => none
  | _ => none

def Blk.len : Blk → Nat
  | .lit cells _ => cells.length
  | .sym n _ _ _ => n

def Blk.isLit : Blk → Bool
  | .lit _ _ => true
  | .sym _ _ _ _ => false

/-- Where a slice of an array begins: an empty one at the end stays at the front. -/
def slOff (l n : Nat) : Nat := match decide (l < n) with
  | true => l
  | false => 0

def sliceAV (P : Program) (m : Mem) (t : Nat) (x : AV) (lo hi : Option AV) : Option OR :=
  match tiOf P t with
  | none => none
  | some ti => match ti.kind, x with
    | .arr n e, .ptr i off => match tiOf P e, m.at i with
      | some ei, some bk => match boundA hi n n with
        | none => none
        | some h => match boundA lo 0 h with
          | none => none
          | some l => match bk.isLit with
            | true => match decide (off + n * ei.size ≤ bk.len) with
              | true => some { v := .slc i (off + slOff l n * ei.size) (h - l) ei.size }
              | false => none
            | false => some { v := .slc i (off + slOff l n * ei.size) (h - l) ei.size, cs := [decide (off + n * ei.size ≤ bk.len)] }
      | _, _ => none
    | .slice e, .slc i off len es => match tiOf P e with
      | none => none
      | some ei => match Nat.beq ei.size es with
       | false => none
       | true => match boundA hi len len with
        | none => none
        | some h => match boundA lo 0 h with
          | none => none
          | some l => match decide (l < len) || decide (l = 0) with
            | true => some { v := .slc i (off + l * es) (h - l) es }
            | false => none
    | .slice e, .sslc i off len es => match tiOf P e with
      | none => none
      | some ei => match Nat.beq ei.size es, lo, hi with
        | true, none, some (.sint _ z) => some { v := .sslc i off (itn z) es, cs := [decide (0 ≤ z), decide (z ≤ ofN len)] }
        | _, _, _ => none
    | _, _ => none

def fieldAddrA (P : Program) (t : Nat) (x : AV) (f : Nat) : Option OR :=
  match x with
  | .ptr i off => match tiOf P t with
    | none => none
    | some ti => match ti.kind with
      | .struct fs => match fs[f]? with
        | none => none
        | some (o, u) => match tiOf P u with
          | none => none
          | some ui => match Nat.beq ui.size 0 with
            | true => none
            | false => some { v := .ptr i (off + o) }
      | _ => none
  | .sptr i off n es z => match tiOf P t with
    | none => none
    | some ti => match ti.kind with
      | .struct fs => match fs[f]? with
        | none => none
        | some (o, u) => match tiOf P u with
          | none => none
          | some ui => match Nat.beq ui.size 0 with
            | true => none
            | false => some { v := .sptr i (off + o) n es z }
      | _ => none
  | _ => none

def partA (ti : TI) (l : List AV) (off : Nat) : Option OR :=
  match ti.kind with
  | .arr _ _ | .struct _ => match sliceL l off ti.size with
    | some c => some { v := .agg c }
    | none => none
  | _ => match sliceL l off 1 with
    | some [v] => some { v := v }
    | _ => none

/-- Whether two leaves are equal, of type 't'. -/
def eqS (P : Program) (t : Nat) (x y : AV) : Option Bool :=
  match x, y with
  | .flt k a, .flt k' b => match P.underlying t with
    | some (.float _) => match decide (k = k') with
      | true => some (fcmp .eql k a b)
      | false => none
    | _ => none
  | .int k a, .int k' b | .int k a, .sint k' b | .sint k a, .int k' b | .sint k a, .sint k' b => match P.underlying t with
    | some (.int _) => match decide (k = k') with
      | true => some (a == b)
      | false => none
    | _ => none
  | .bool a, .bool b | .bool a, .sbool b | .sbool a, .bool b | .sbool a, .sbool b => match P.underlying t with
    | some .bool => some (a == b)
    | _ => none
  | _, _ => none

def eqFl (P : Program) (eq : Nat → AV → AV → Option Bool) (l l' : List AV) : List Field → Option Bool
  | [] => some true
  | f :: r => match decide (f.name = "_"), tiOf P f.type with
    | false, some ti => match partA ti l f.offset, partA ti l' f.offset with
      | some a, some b => match eq f.type a.v b.v, eqFl P eq l l' r with
        | some x, some y => some (bif x then y else false)
        | _, _ => none
      | _, _ => none
    | _, _ => none

def eqIt (ei : TI) (eq : AV → AV → Option Bool) (l l' : List AV) : List Nat → Option Bool
  | [] => some true
  | i :: r => match partA ei l (i * ei.size), partA ei l' (i * ei.size) with
    | some a, some b => match eq a.v b.v, eqIt ei eq l l' r with
      | some x, some y => some (bif x then y else false)
      | _, _ => none
    | _, _ => none

/-- Whether two values are equal. -/
def eqV (P : Program) : Nat → Nat → AV → AV → Option Bool
  | 0, _, _, _ => none
  | d + 1, t, x, y => match x, y with
    | .agg l, .agg l' => match P.underlying t with
      | some (.struct fs) => match P.stoodInHeld t with
        | true => none
        | false => eqFl P (eqV P d) l l' fs.toList
      | some (.array n e) => match tiOf P e with
        | some ei => eqIt ei (eqV P d e) l l' (List.range n)
        | none => none
      | _ => none
    | x, y => eqS P t x y

/-- '==', '!=' of arrays and structs. -/
def eqAggA (P : Program) (op : BinOp) (t : Nat) (l l' : List AV) : Option OR :=
  match P.eqGuardType P.depth t with
  | true => none
  | false => match eqV P 6 t (.agg l) (.agg l') with
    | none => none
    | some b => match op with
      | .eql => some { v := .sbool b }
      | .neq => some { v := .sbool !b }
      | _ => none

def binV (P : Program) (t : Nat) (op : BinOp) (x y : AV) : Option OR :=
  match x, y with
  | .agg l, .agg l' => eqAggA P op t l l'
  | x, y => binA P t op x y

def fieldA (P : Program) (t : Nat) (x : AV) (f : Nat) : Option OR :=
  match x with
  | .agg l => match tiOf P t with
    | none => none
    | some ti => match ti.kind with
      | .struct fs => match fs[f]? with
        | none => none
        | some (o, u) => match tiOf P u with
          | none => none
          | some ui => partA ui l o
      | _ => none
  | _ => none

def indexAddrA (P : Program) (t : Nat) (x ix : AV) : Option OR :=
  match tiOf P t with
  | none => none
  | some ti => match ti.kind, x, ix with
    | .arr n e, .ptr i off, .int _ (.ofNat j) => match tiOf P e with
      | none => none
      | some ei => match Nat.blt j n with
        | true => some { v := .ptr i (off + j * ei.size) }
        | false => none
    | .arr n e, .ptr i off, .sint _ z => match tiOf P e with
      | none => none
      | some ei => some { v := .sptr i off n ei.size z, cs := [decide (0 ≤ z), decide (z < n)] }
    | .slice e, .slc i off len _, .int _ (.ofNat j) => match tiOf P e with
      | none => none
      | some ei => match Nat.blt j len with
        | true => some { v := .ptr i (off + j * ei.size) }
        | false => none
    | .slice e, .slc i off len _, .sint _ z => match tiOf P e with
      | none => none
      | some ei => some { v := .sptr i off len ei.size z, cs := [decide (0 ≤ z), decide (z < len)] }
    | .slice e, .sslc i off len _, .int _ z => match tiOf P e with
      | none => none
      | some ei => some { v := .ptr i (padd off (pmul (itn z) ei.size)), cs := [decide (0 ≤ z), decide (z < len)] }
    | .slice e, .sslc i off len _, .sint _ z => match tiOf P e with
      | none => none
      | some ei => some { v := .sptr i off len ei.size z, cs := [decide (0 ≤ z), decide (z < len)] }
    | .arr n' e, .sptr i off n es z, .int _ (.ofNat j) => match tiOf P e with
      | none => none
      | some ei => match Nat.blt j n' with
        | true => some { v := .sptr i (off + j * ei.size) n es z }
        | false => none
    | _, _, _ => none

def indexAZ (l : List AV) (n : Nat) (ei : TI) (z : Int) : Option OR :=
  match Nat.beq l.length (n * ei.size) with
  | false => none
  | true => match ei.kind with
    | .arr _ _ | .struct _ => match selAs l n ei.size z 0 ei.size with
      | some c => some { v := .agg c, cs := [decide (0 ≤ z), decide (z < n)] }
      | none => none
    | _ => match selAs l n ei.size z 0 1 with
      | some [v] => some { v := v, cs := [decide (0 ≤ z), decide (z < n)] }
      | _ => none

def indexA (P : Program) (t : Nat) (x ix : AV) : Option OR :=
  match x, ix with
  | .agg l, .int _ (.ofNat j) => match tiOf P t with
    | none => none
    | some ti => match ti.kind with
      | .arr n e => match tiOf P e with
        | none => none
        | some ei => match Nat.blt j n with
          | true => partA ei l (j * ei.size)
          | false => none
      | _ => none
  | .agg l, .sint _ z => match tiOf P t with
    | none => none
    | some ti => match ti.kind with
      | .arr n e => match tiOf P e with
        | none => none
        | some ei => indexAZ l n ei z
      | _ => none
  | _, _ => none

def lenA (P : Program) (t : Nat) (x : AV) : Option OR :=
  match P.underlying t, x with
  | some (.slice _), .slc _ _ n _ => match inI .i64 n with
    | true => some { v := .int .i64 n }
    | false => none
  | some (.slice _), .sslc _ _ n _ => some { v := .sint .i64 (ofN n), cs := [inI .i64 (ofN n)] }
  | some (.slice _), .snil => some { v := .int .i64 0 }
  | some .string, .str s => some { v := .sint .i64 (ofN (strL s)), cs := [inI .i64 (ofN (strL s))] }
  | some (.array n _), _ => match inI .i64 n with
    | true => some { v := .int .i64 n }
    | false => none
  | _, _ => none

/-- What is appended: its cells, and how many elements. -/
def srcA (m : Mem) (es : Nat) : AV → Option (List AV × Nat)
  | .snil => some ([], 0)
  | .slc j off n _ => match m.at j with
    | some (.lit cells _) => match sliceL cells off (n * es) with
      | some l => some (l, n)
      | none => none
    | _ => none
  | _ => none

/-- 'append' onto a slice of the call's own, which is not looked at afterwards. -/
def appendA (P : Program) (m : Mem) (ts tx : Nat) (s x : AV) : Option OR :=
  match P.underlying ts, P.underlying tx with
  | some (.slice e), some (.slice _) => match tiOf P e with
    | none => none
    | some ei => match decide (ei.bytes ≤ 1048576) && Nat.beq ei.zero.length ei.size with
      | false => none
      | true => match srcA m ei.size x with
        | none => none
        | some (new, n) => match s with
          | .snil => match n with
            | 0 => some { v := .snil }
            | n + 1 => match decide (n + 1 ≤ 16777216) with
              | true => newM m new fun i => .slc i 0 (n + 1) ei.size
              | false => none
          | .slc j off len es => match m.at j with
            | some (.lit cells true) => match sliceL cells off (len * ei.size), decide (len + n ≤ 16777216) && Nat.beq es ei.size with
              | some old, true => appendK old new fun l => setK m j none fun m1 => appendK m1 [some (.lit l true)] fun m2 => some { v := .slc m.length 0 (len + n) es, m := some m2 }
              | _, _ => none
            | _ => none
          | _ => none
  | _, _ => none

/-- .. onto one of a length that is not written out. -/
def appendS (P : Program) (m : Mem) (ts tx j off len es : Nat) (x : AV) : Option OR :=
  match P.underlying ts, P.underlying tx with
  | some (.slice e), some (.slice _) => match tiOf P e with
    | none => none
    | some ei => match decide (ei.bytes ≤ 1048576) && Nat.beq ei.zero.length ei.size && Nat.beq es ei.size with
      | false => none
      | true => match srcA m ei.size x with
        | none => none
        | some (new, n) => match m.at j with
          | some (.sym n' k y true) => match isKs k new with
            | true => setK m j none fun m1 => appendK m1 [some (.sym (pmul (padd len n) es) k (pushV y off (pmul len es) new) true)] fun m2 => some { v := .sslc m.length 0 (padd len n) es, m := some m2, cs := [decide (padd off (pmul len es) ≤ n'), decide (padd len n ≤ 16777216)] }
            | false => none
          | _ => none
  | _, _ => none

def appendX (P : Program) (m : Mem) (ts tx : Nat) (s x : AV) : Option OR :=
  match s with
  | .sslc j off len es => appendS P m ts tx j off len es x
  | s => appendA P m ts tx s x

def minmaxA (isMax : Bool) : AV → List AV → Option AV
  | a, [] => some a
  | .flt k x, .flt k' y :: r => match decide (k = k') with
    | true => minmaxA isMax (.flt k (bif isMax then fmax k x y else fmin k x y)) r
    | false => none
  | _, _ => none

/-- Zeroes of one kind. -/
def zeroV : Vars := ⟨fun _ => 0, fun _ => 0, fun _ => false, fun _ => .empty⟩
def isZ : AV → Bool
  | .flt _ 0 => true
  | .int _ 0 => true
  | .bool false => true
  | _ => false
def isZs : List AV → Bool
  | [] => true
  | v :: r => match isZ v with
    | true => isZs r
    | false => false
def zeroK : List AV → Option Kd
  | [] => none
  | v :: r => match kOf v with
    | some k => match isKs k (v :: r) && isZs (v :: r) with
      | true => some k
      | false => none
    | none => none

def makeSliceA (P : Program) (m : Mem) (t : Nat) (l c : AV) : Option OR :=
  match l, c with
  | .int _ (.ofNat n), .int _ (.ofNat n') => match decide (n = n'), decide (n ≤ 1048576) with
    | true, true => match tiOf P t with
      | none => none
      | some ti => match ti.kind with
        | .slice e => match tiOf P e with
          | none => none
          | some ei => match decide (ei.bytes ≤ 1048576) && Nat.beq ei.zero.length ei.size with
            | true => newA m (repL n ei.zero) fun i => .slc i 0 n ei.size
            | false => none
        | _ => none
    | _, _ => none
  | _, _ => none

/-- .. of a length that is not written out. -/
def makeS (P : Program) (m : Mem) (t : Nat) (z z' : Int) : Option OR :=
  match tiOf P t with
  | none => none
  | some ti => match ti.kind with
    | .slice e => match tiOf P e with
      | none => none
      | some ei => match decide (ei.bytes ≤ 1048576) && Nat.beq ei.zero.length ei.size, zeroK ei.zero with
        | true, some k => appendK m [some (.sym (pmul (itn z) ei.size) k zeroV true)] fun m' => some { v := .sslc m.length 0 (itn z) ei.size, m := some m', cs := [decide (z = z'), decide (0 ≤ z), decide (z ≤ 1048576)] }
        | _, _ => none
    | _ => none

def makeX (P : Program) (m : Mem) (t : Nat) (l c : AV) : Option OR :=
  match l, c with
  | .sint _ z, .sint _ z' => makeS P m t z z'
  | l, c => makeSliceA P m t l c

def callA (P : Program) (G : Summ) (E : Env) (tg : List (Nat × Bool)) (m : Mem) (c : Call) : Option OR :=
  match c.callee with
  | .value f => match rd E tg f, rdL E tg c.args.toList with
    | some (.fn g caps), some args => appendK args caps fun as => match G g as m with
      | some r => some { v := r.v, m := r.m, cs := r.cs }
      | none => none
    | _, _ => none
  | .builtin .len => match c.argTypes.toList, rdL E tg c.args.toList with
    | [t], some [x] => lenA P t x
    | _, _ => none
  | .builtin .append => match c.argTypes.toList, rdL E tg c.args.toList with
    | [ts, tx], some [s, x] => appendX P m ts tx s x
    | _, _ => none
  | .builtin .max => match rdL E tg c.args.toList with
    | some (x :: r) => match minmaxA true x r with
      | some v => some { v := v }
      | none => none
    | _ => none
  | .builtin .min => match rdL E tg c.args.toList with
    | some (x :: r) => match minmaxA false x r with
      | some v => some { v := v }
      | none => none
    | _ => none
  | _ => none

def partsL (E : Env) (tg : List (Nat × Bool)) : List (Nat × Operand) → Option (List (Nat × AV))
  | [] => some []
  | (i, x) :: r => match rd E tg x with
    | none => none
    | some v => match partsL E tg r with
      | none => none
      | some l => some ((i, v) :: l)

/-- A choice: '&&', '||'. -/
def pickA (E : Env) (tg : List (Nat × Bool)) (c a b : Operand) : Option OR :=
  match rd E tg c with
  | some (.bool true) => match rd E tg a with
    | some v => some { v := v }
    | none => none
  | some (.bool false) => match rd E tg b with
    | some v => some { v := v }
    | none => none
  | some (.sbool s) => match c with
    | .tmp t => match rd E ((t, true) :: tg) a, rd E ((t, false) :: tg) b with
      | some (.bool x), some (.bool y) | some (.bool x), some (.sbool y) | some (.sbool x), some (.bool y) | some (.sbool x), some (.sbool y) =>
        some { v := .sbool (bif s then x else y) }
      | _, _ => none
    | _ => none
  | _ => none

def scL : List AV → Bool
  | [] => true
  | .agg _ :: _ => false
  | .tup _ :: _ => false
  | _ :: r => scL r

def opA (P : Program) (G : Summ) (E : Env) (tg : List (Nat × Bool)) (m : Mem) (op : Op) : Option OR :=
  match op with
  | .move x | .assign x => match rd E tg x with
    | some v => some { v := v }
    | none => none
  | .pick c a b => pickA E tg c a b
  | .alloc t => match tiOf P t with
    | some ti => newA m ti.zero fun i => .ptr i 0
    | none => none
  | .box _ x => match rd E tg x with
    | some v => match v.cells with
      | some vs => newA m vs fun i => .ptr i 0
      | none => none
    | none => none
  | .build t ps => match partsL E tg ps.toList with
    | some l => buildA P t l
    | none => none
  | .buildSlice t n ps => match partsL E tg ps.toList with
    | some l => buildSliceA P m t n l
    | none => none
  | .load t a => match rd E tg a with
    | some v => loadA P m t v
    | none => none
  | .store t a x => match rd E tg a, rd E tg x with
    | some v, some u => storeA P m t v u
    | _, _ => none
  | .nilCheck x => match rd E tg x with
    | some (.ptr i off) => some { v := .ptr i off }
    | some (.sptr i off n es z) => some { v := .sptr i off n es z }
    | some (.fn f caps) => some { v := .fn f caps }
    | _ => none
  | .binOp op t x y _ => match rd E tg x, rd E tg y with
    | some a, some b => binV P t op a b
    | _, _ => none
  | .unOp op _ x => match rd E tg x with
    | some a => unA op a
    | none => none
  | .convert s d x => match rd E tg x with
    | some a => convA P s d a
    | none => none
  | .makeFunc (.func f) first caps => match first.toList, rdL E tg caps.toList with
    | [], some l => match scL l with
      | true => some { v := .fn f l }
      | false => none
    | _, _ => none
  | .makeSlice t l c => match rd E tg l, rd E tg c with
    | some a, some b => makeX P m t a b
    | _, _ => none
  | .slice t x lo hi none => match rd E tg x, optA E tg lo, optA E tg hi with
    | some a, some l, some h => sliceAV P m t a l h
    | _, _, _ => none
  | .fieldAddr t x f => match rd E tg x with
    | some a => fieldAddrA P t a f
    | none => none
  | .field t x f => match rd E tg x with
    | some a => fieldA P t a f
    | none => none
  | .indexAddr t x i => match rd E tg x, rd E tg i with
    | some a, some b => indexAddrA P t a b
    | _, _ => none
  | .index t x i => match rd E tg x, rd E tg i with
    | some a, some b => indexA P t a b
    | _, _ => none
  | .extract x i => match rd E tg x with
    | some (.tup vs) => match vs[i]? with
      | some v => some { v := v }
      | none => none
    | _ => none
  | .call c => callA P G E tg m c
  | _ => none

/-! ### Regions -/

/-- What a guard says: wanted where the tag holds; never wanted. -/
inductive GW where
  | yes (tg : List (Nat × Bool))
  | no

def guardA (ops : Array Oper) (E : Env) (o : Oper) : Option GW :=
  match o.guard with
  | none => some (.yes [])
  | some (j, pol) => match ops[j]? with
    | none => none
    | some oj => match oj.dst with
      | none => none
      | some t => match E.get t with
        | some ⟨_, .bool b, tg⟩ => match b, pol with
          | true, true | false, false => some (.yes tg)
          | _, _ => some .no
        | some ⟨_, .sbool _, tg⟩ => some (.yes ((t, pol) :: tg))
        | some ⟨_, .tup [], []⟩ => some .no
        | _ => none

def hasTag (t : Nat) : List (Nat × Bool) → Bool
  | [] => false
  | x :: r => match Nat.beq x.1 t with
    | true => true
    | false => hasTag t r

def tagged (t : Nat) : Env → Bool
  | [] => false
  | e :: r => match hasTag t e.tg with
    | true => true
    | false => tagged t r

/-- Operation 'o' waits for number 'j'. -/
def waits (o : Oper) (j : Nat) : Bool := o.after.toList.any fun e => Region.binds .any e && Nat.beq e.on j

def natMem (j : Nat) : List Nat → Bool
  | [] => false
  | x :: r => match Nat.beq x j with
    | true => true
    | false => natMem j r

/-- Whom each operation waits for, at last: 'acc' tells it of the operations before. -/
def ancOf (acc : List (List Nat)) : List Edge → List Nat
  | [] => []
  | e :: r => match Region.binds .any e with
    | false => ancOf acc r
    | true => match acc[e.on]? with
      | none => e.on :: ancOf acc r
      | some l => e.on :: (l ++ ancOf acc r)

def ancs : List Oper → List (List Nat) → List (List Nat)
  | [], acc => acc
  | o :: r, acc => ancs r (acc ++ [ancOf acc o.after.toList])

/-- Operations that look at no memory. -/
def freeOp : Op → Bool
  | .move _ | .assign _ | .pick .. | .nilCheck _ | .binOp .. | .unOp .. | .convert .. | .fieldAddr .. | .field .. | .indexAddr .. | .index .. | .extract .. | .build .. | .makeFunc .. => true
  | _ => false

/-- Operations that lay one new block, and look at none. -/
def layOp : Op → Bool
  | .alloc _ | .box .. | .buildSlice .. | .makeSlice .. => true
  | _ => false

def putA (nt : Nat) (d : Option Nat) (v : AV) (tg : List (Nat × Bool)) (E : Env) (k : Env → Option R) : Option R :=
  match d with
  | none => k E
  | some d => match tagged d E || hasTag d tg || !Nat.blt d nt with
    | true => none
    | false => E.putK ⟨d, v, tg⟩ k

/-- What an operation of a region comes to: its value, under which tag, a new block, a new memory, what must be true. -/
structure SRes where
  v : AV
  tg : List (Nat × Bool)
  nw : Option Blk
  m : Option Mem
  cs : List Bool

def stepR (P : Program) (G : Summ) (ops : Array Oper) (o : Oper) (E : Env) (m : Mem) : Option SRes :=
  match guardA ops E o with
  | none => none
  | some .no => some ⟨.tup [], [], none, none, []⟩
  | some (.yes tg) => match opA P G E tg m o.op with
    | none => none
    | some ⟨v, none, none, cs⟩ => some ⟨v, tg, none, none, cs⟩
    | some ⟨v, nw, m', cs⟩ => match tg with
      | [] => some ⟨v, [], nw, m', cs⟩
      | _ :: _ => none

def memK (m : Mem) (nw : Option Blk) (m' : Option Mem) (k : Mem → Option R) : Option R :=
  match nw, m' with
  | none, none => k m
  | some b, none => appendK m [some b] k
  | none, some m' => k m'
  | some _, some _ => none

/-- One operation of a region. -/
def stepA (P : Program) (G : Summ) (nt : Nat) (ops : Array Oper) (o : Oper) (E : Env) (m : Mem) (cs : List Bool) (k : SRes → Env → Mem → List Bool → Option R) : Option R :=
  match stepR P G ops o E m with
  | none => none
  | some r => appendK r.cs cs fun cs' => memK m r.nw r.m fun m' => putA nt o.dst r.v r.tg E fun E' => k r E' m' cs'

/-- Whether tags on slot 't' alone hold where it is 'b'. -/
def cutT (t : Nat) (b : Bool) : List (Nat × Bool) → Option Bool
  | [] => some true
  | x :: r => match Nat.beq x.1 t with
    | true => match decide (x.2 = b) with
      | true => cutT t b r
      | false => some false
    | false => none

/-- Slot 't' is 'b' from here on; no tags are left. -/
def forkK (t : Nat) (b : Bool) : Env → (Env → Option R) → Option R
  | [], k => k []
  | e :: r, k => match Nat.beq e.s t with
    | true => forkK t b r fun r' => k (⟨e.s, .bool b, []⟩ :: r')
    | false => match cutT t b e.tg with
      | some true => forkK t b r fun r' => k (⟨e.s, e.v, []⟩ :: r')
      | some false => forkK t b r fun r' => k (⟨e.s, .tup [], []⟩ :: r')
      | none => forkK t b r k

/-- An operation under a guard that cannot be made under a tag: the guard's slot, and what it holds. -/
def forkA (P : Program) (G : Summ) (ops : Array Oper) (o : Oper) (E : Env) (m : Mem) : Option (Nat × Bool) :=
  match guardA ops E o with
  | some (.yes [x]) => match E.get x.1 with
    | some ⟨_, .sbool s, []⟩ => match stepR P G ops o E m with
      | none => some (x.1, s)
      | some q => match q.cs with
        | [] => none
        | _ :: _ => some (x.1, s)
    | _ => none
  | _ => none

/-- The operations one behind the other. -/
def opsA (P : Program) (G : Summ) (nt : Nat) (mg : List Bool → Bool → Option R → Option R → Option R) (ops : Array Oper) : List Oper → Env → Mem → List Bool → List Bool → (Env → Mem → List Bool → List Bool → Option R) → Option R
  | [], E, m, cs, D, k => k E m cs D
  | o :: r, E, m, cs, D, k => match forkA P G ops o E m with
    | none => stepA P G nt ops o E m cs fun _ E' m' cs' => opsA P G nt mg ops r E' m' cs' D k
    | some (t, s) => match D with
      | [] => mg cs s (forkK t true E fun E1 => stepA P G nt ops o E1 m [] fun _ E' m' cs' => opsA P G nt mg ops r E' m' cs' [] k) (forkK t false E fun E1 => stepA P G nt ops o E1 m [] fun _ E' m' cs' => opsA P G nt mg ops r E' m' cs' [] k)
      | true :: D' => forkK t true E fun E1 => stepA P G nt ops o E1 m (s :: cs) fun _ E' m' cs' => opsA P G nt mg ops r E' m' cs' D' k
      | false :: D' => forkK t false E fun E1 => stepA P G nt ops o E1 m ((!s) :: cs) fun _ E' m' cs' => opsA P G nt mg ops r E' m' cs' D' k

/-- What an operation does to memory, as far as its order to others goes: nothing; it looks; it lays; it writes. -/
inductive Loud where
  | free
  | looks
  | lays
  | writes

def loudOf (o : Op) (r : SRes) : Loud :=
  match r.m with
  | some _ => .writes
  | none => match r.nw with
    | some _ => match layOp o with
      | true => .lays
      | false => .writes
    | none => match freeOp o || layOp o with
      | true => .free
      | false => .looks

/-- Two operations, the first one earlier in the text and not waited for by the other: whether their order is nothing to memory. -/
def apartM : Loud → Loud → Bool
  | .free, _ | _, .free => true
  | .looks, .looks | .looks, .lays | .lays, .lays => true
  | _, _ => false

/-- An address' block. -/
def adrB : AV → Option Nat
  | .ptr i _ => some i
  | .sptr i _ _ _ _ => some i
  | _ => none

/-- The block that a load or a store is of. -/
def refA (E : Env) (o : Oper) : Option Nat :=
  match o.guard with
  | some _ => none
  | none => match o.op with
    | .load _ a => match rd E [] a with
      | some v => adrB v
      | none => none
    | .store _ a _ => match rd E [] a with
      | some v => adrB v
      | none => none
    | _ => none

/-- A look at one block, a store into another one. -/
def disjM (x y : Loud × Option Nat) : Bool :=
  match x, y with
  | (.looks, some i), (.writes, some j) => !Nat.beq i j
  | (.writes, some i), (.looks, some j) => !Nat.beq i j
  | (.lays, some i), (.looks, some j) => !Nat.beq i j
  | _, _ => false

/-- What is appended to. -/
def apB (E : Env) (o : Oper) : Option Nat :=
  match o.guard with
  | some _ => none
  | none => match o.op with
    | .call c => match c.callee, rdL E [] c.args.toList with
      | .builtin .append, some [.slc j _ _ _, _] => some j
      | .builtin .append, some [.sslc j _ _ _, _] => some j
      | _, _ => none
    | _ => none

/-- .. what is laid, by its place. -/
def refL (E : Env) (m : Mem) (q : SRes) (o : Oper) : Option Nat :=
  match loudOf o.op q with
  | .lays => some m.length
  | _ => refA E o

/-- .. of the later one of two. -/
def refW (E : Env) (m : Mem) (q : SRes) (o : Oper) : Option Nat :=
  match loudOf o.op q with
  | .writes => match refA E o with
    | some i => some i
    | none => apB E o
  | _ => refL E m q o

mutual
def AV.flat : AV → Bool
  | .ptr _ _ | .sptr .. | .slc _ _ _ _ | .sslc _ _ _ _ => false
  | .agg l => flatL l
  | .tup l => flatL l
  | .fn _ l => flatL l
  | _ => true
def flatL : List AV → Bool
  | [] => true
  | v :: r => v.flat && flatL r
end

/-- What those slots hold is no address. -/
def flatSlots (E : Env) : List Nat → Bool
  | [] => true
  | t :: r => match E.get t with
    | some e => match e.v.flat with
      | true => flatSlots E r
      | false => false
    | none => flatSlots E r

def allRw : Mem → Bool
  | [] => true
  | none :: r => allRw r
  | some b :: r => match b.rw with
    | true => allRw r
    | false => false

def flatM : Mem → Bool
  | [] => true
  | some (.lit cells _) :: r => match flatL cells with
    | true => flatM r
    | false => false
  | _ :: r => flatM r

/-- No block comes back to life; those behind the end can be written. -/
def grewM : Mem → Mem → Bool
  | [], m' => allRw m'
  | _ :: _, [] => false
  | none :: _, some _ :: _ => false
  | _ :: r, _ :: r' => grewM r r'

/-- Whether an operation looks at no address and lays blocks of its own. -/
def makesA (ops : Array Oper) (o : Oper) (E : Env) (m : Mem) (q : SRes) : Bool :=
  match q.m with
  | some m' => flatSlots E (o.looksAt ops) && flatM m && grewM m m'
  | none => false

def wlM : Loud → Loud → Bool
  | .writes, .lays => true
  | _, _ => false

/-- What is stored into, by an address that is a literal. -/
def stB (E : Env) (o : Oper) : Option Nat :=
  match o.guard with
  | some _ => none
  | none => match o.op with
    | .store _ a _ => match rd E [] a with
      | some (.ptr i _) => some i
      | _ => none
    | _ => none

def stC (ops : Array Oper) (o : Oper) (E : Env) (m : Mem) (q : SRes) : Option Nat :=
  match makesA ops o E m q with
  | true => none
  | false => stB E o

/-- A block laid, a store into another one. -/
def laM (y : Loud × Option Nat) (s : Option Nat) : Bool :=
  match y, s with
  | (.lays, some i), some j => !Nat.beq i j
  | _, _ => false

def apartAll (x : Loud × Option Nat) (s : Option Nat) (anc : List Nat) : Nat → List ((Loud × Option Nat) × Bool) → Bool
  | _, [] => true
  | i, y :: r => match apartM y.1.1 x.1 || natMem i anc || disjM y.1 x || (wlM y.1.1 x.1 && y.2) || laM y.1 s with
    | true => apartAll x s anc (i + 1) r
    | false => false

/-- The operations of a region that draws its order: as they stand, if any order comes to the same. 'done': how loud those before were. -/
def drawA (P : Program) (G : Summ) (nt : Nat) (ops : Array Oper) : List Oper → List (List Nat) → List ((Loud × Option Nat) × Bool) → Env → Mem → List Bool → (Env → Mem → List Bool → Option R) → Option R
  | [], _, _, E, m, cs, k => k E m cs
  | _ :: _, [], _, _, _, _, _ => none
  | o :: r, anc :: as, done, E, m, cs, k => stepA P G nt ops o E m cs fun q E' m' cs' => match apartAll (loudOf o.op q, refW E m q o) (stC ops o E m q) anc 0 done && Nat.ble m.length m'.length with
    | true => drawA P G nt ops r as (done ++ [((loudOf o.op q, refL E m q o), makesA ops o E m q)]) E' m' cs' k
    | false => none

/-- Behind a region: what was laid under a guard is not kept. -/
def plainK : Env → (Env → Option R) → Option R
  | [], k => k []
  | e :: r, k => match e.tg with
    | [] => plainK r fun r' => k (e :: r')
    | _ :: _ => plainK r k

/-- Whether an operation looks at no slot for its truth: neither a choice nor under a guard. -/
def plainOper (o : Oper) : Bool := (match o.op with | .pick .. => false | _ => true) && o.guard.isNone

/-- Of operation 'o', number 'j', and 'o'', number 'i': whether their slots let them be in whatever order. -/
def slotPair (ops : Array Oper) (o : Oper) (anc : List Nat) (j : Nat) (o' : Oper) (anc' : List Nat) (i : Nat) : Bool :=
  match o'.dst with
  | none => true
  | some d => match Nat.beq i j with
    | true => plainOper o || !(o.looksAt ops).contains d
    | false => o.dst != some d && (!(o.looksAt ops).contains d || (Nat.blt i j && natMem i anc) || (Nat.blt j i && natMem j anc' && plainOper o))

/-- Whether the slots say that any order serves: each slot is written once, and whoever looks at a slot that another operation writes waits for it, or is waited for; a choice's condition is of those before. -/
def slotsOk (ops : Array Oper) (as : List (List Nat)) : Bool :=
  (ops.toList.zip as).zipIdx.all fun x => (x.1.1.after.toList.all fun e => !Region.binds .any e || Nat.blt e.on x.2) && (ops.toList.zip as).zipIdx.all fun y => slotPair ops x.1.1 x.1.2 x.2 y.1.1 y.1.2 y.2

def regionA (P : Program) (G : Summ) (nt : Nat) (mg : List Bool → Bool → Option R → Option R → Option R) (draw : Bool) (ops : Array Oper) (E : Env) (m : Mem) (cs D : List Bool) (k : Env → Mem → List Bool → List Bool → Option R) : Option R :=
  match draw with
  | false => opsA P G nt mg ops ops.toList E m cs D fun E' m' cs' D' => plainK E' fun E'' => k E'' m' cs' D'
  | true => match slotsOk ops (ancs ops.toList []) with
    | true => plainK E fun E => drawA P G nt ops ops.toList (ancs ops.toList []) [] E m cs fun E' m' cs' => plainK E' fun E'' => k E'' m' cs' D
    | false => none

/-! ### Two outcomes of a test that is no literal -/

def mergeL1 (s : Bool) : List AV → List AV → Option (List AV)
  | [], [] => some []
  | x :: r, y :: r' => match merge1 s x y, mergeL1 s r r' with
    | some v, some l => some (v :: l)
    | _, _ => none
  | _, _ => none

def merge2 (s : Bool) (x y : AV) : Option AV :=
  match x, y with
  | .agg l, .agg l' => match mergeL1 s l l' with
    | some l => some (.agg l)
    | none => none
  | x, y => merge1 s x y

def mergeL2 (s : Bool) : List AV → List AV → Option (List AV)
  | [], [] => some []
  | x :: r, y :: r' => match merge2 s x y, mergeL2 s r r' with
    | some v, some l => some (v :: l)
    | _, _ => none
  | _, _ => none

def mergeA (s : Bool) (x y : AV) : Option AV :=
  match x, y with
  | .tup l, .tup l' => match mergeL2 s l l' with
    | some l => some (.tup l)
    | none => none
  | x, y => merge2 s x y

/-- What must be true. -/
def mergeC (s : Bool) (x y : List Bool) : List Bool :=
  match x with
  | [] => y.map fun b => s || b
  | b :: r => (!s || b) :: mergeC s r y

/-- .. both, beside what had to be true before. -/
def mergeV (base : List Bool) (s : Bool) (x y : Option (AV × List Bool)) : Option (AV × List Bool) :=
  match x, y with
  | some (v, cs), some (v', cs') => match mergeA s v v' with
    | some u => appendK (mergeC s cs cs') base fun l => some (u, l)
    | none => none
  | _, _ => none

def noMerge (_ : List Bool) (_ : Bool) (_ _ : Option R) : Option R := none

/-! ### Code -/

inductive EX where
  | normal
  | exit (id : Nat)
  | ret

/-- What a block's summary says: it ends so, in such slots and memory; tests that are no literals. -/
inductive LR where
  | leaf (x : EX) (E : Env) (m : Mem)
  | node (s : Bool) (a b : LR)

/-- Summaries of blocks, by their names: what must be true, and how they end. -/
abbrev LTab := Nat → Env → Mem → Option (List Bool × LR)

def noLT : LTab := fun _ _ _ => none

def lrA (mg : List Bool → Bool → Option R → Option R → Option R) : LR → List Bool → List Bool → (EX → Env → Mem → List Bool → List Bool → Option R) → Option R
  | .leaf x E m, cs, D, k => forceK E fun E => forceK m fun m => k x E m cs D
  | .node s a b, cs, D, k => match D with
    | [] => mg cs s (lrA mg a [] [] k) (lrA mg b [] [] k)
    | true :: D' => lrA mg a (s :: cs) D' k
    | false :: D' => lrA mg b ((!s) :: cs) D' k

/-! ### Two ways of a test brought together behind it, where neither writes -/

def roA : Mem → Mem
  | [] => []
  | some (.lit c _) :: r => some (.lit c false) :: roA r
  | some (.sym n k y _) :: r => some (.sym n k y false) :: roA r
  | none :: r => none :: roA r

/-- No address of a block behind the first 'n'. -/
def inB (n : Nat) : AV → Bool
  | .ptr k _ => Nat.blt k n
  | .sptr k _ _ _ _ => Nat.blt k n
  | .slc k _ _ _ => Nat.blt k n
  | .sslc k _ _ _ => Nat.blt k n
  | v => v.flat

def inBt (n : Nat) : AV → Bool
  | .tup l => flatL l
  | v => inB n v

/-- How a way ends: it goes on (slots), or leaves (how, slots); which of both where it may do either; 'b': both sides of a test go on and one may leave. -/
structure JO where
  n : Option Env
  r : Option (EX × Env)
  c : Bool
  b : Bool
  cs : List Bool

/-- Whether it leaves. -/
def JO.ec (o : JO) : Bool :=
  match o.n, o.r with
  | none, _ => true
  | some _, none => false
  | some _, some _ => o.c

/-- Slots that a code assigns. -/
def asgR : List Oper → List Nat
  | [] => []
  | o :: r => match o.dst with
    | none => asgR r
    | some d => d :: asgR r

def asg : Code → List Nat
  | .region _ ops _ => asgR ops.toList
  | .seq a b => asg a ++ asg b
  | .cond _ a b => asg a ++ asg b
  | .block _ b => asg b
  | .loop b => asg b
  | _ => []

def plainE : Env → Bool
  | [] => true
  | e :: r => match e.tg with
    | [] => plainE r
    | _ :: _ => false

/-- Slots that stood before, as both ways leave them; those that are not of 'L' as they were. -/
def joinE (n : Nat) (L : List Nat) (s : Bool) (E1 E2 : Env) : Env → (Env → Option R) → Option R
  | [], k => k []
  | e :: r, k => match natMem e.s L with
    | false => joinE n L s E1 E2 r fun r' => k (e :: r')
    | true => match E1.get e.s, E2.get e.s with
      | some ⟨_, v1, []⟩, some ⟨_, v2, []⟩ => match mergeA s v1 v2 with
        | some v => match inBt n v with
          | true => joinE n L s E1 E2 r fun r' => k (⟨e.s, v, []⟩ :: r')
          | false => joinE n L s E1 E2 r k
        | none => joinE n L s E1 E2 r k
      | _, _ => joinE n L s E1 E2 r k

/-- .. as one way leaves them. -/
def cutE (n : Nat) (L : List Nat) (E1 : Env) : Env → (Env → Option R) → Option R
  | [], k => k []
  | e :: r, k => match natMem e.s L with
    | false => cutE n L E1 r fun r' => k (e :: r')
    | true => match E1.get e.s with
      | some ⟨_, v, []⟩ => match inBt n v with
        | true => cutE n L E1 r fun r' => k (⟨e.s, v, []⟩ :: r')
        | false => cutE n L E1 r k
      | _ => cutE n L E1 r k

def sameEX : EX → EX → Bool
  | .normal, .normal => true
  | .ret, .ret => true
  | .exit i, .exit j => Nat.beq i j
  | _, _ => false

def joinN (n : Nat) (L : List Nat) (E0 : Env) (s : Bool) (x y : Option Env) (k : Option Env → Option R) : Option R :=
  match x, y with
  | none, none => k none
  | some A, none => cutE n L A E0 fun E => k (some E)
  | none, some B => cutE n L B E0 fun E => k (some E)
  | some A, some B => joinE n L s A B E0 fun E => k (some E)

def joinX (n : Nat) (L : List Nat) (E0 : Env) (s : Bool) (x y : Option (EX × Env)) (k : Option (EX × Env) → Option R) : Option R :=
  match x, y with
  | none, none => k none
  | some (a, A), none => cutE n L A E0 fun E => k (some (a, E))
  | none, some (b, B) => cutE n L B E0 fun E => k (some (b, E))
  | some (a, A), some (b, B) => match sameEX a b with
    | true => joinE n L s A B E0 fun E => k (some (a, E))
    | false => none

def JO.ends (o : JO) : Bool := o.n.isSome || o.r.isSome

def joinO (n : Nat) (L : List Nat) (E0 : Env) (base : List Bool) (s : Bool) (x y : Option JO) : Option JO :=
  match x, y with
  | some x, some y => match x.ends && y.ends with
    | false => none
    | true => appendK (mergeC s x.cs y.cs) base fun cs => joinN n L E0 s x.n y.n fun N => joinX n L E0 s x.r y.r fun X =>
      some { n := N, r := X, c := bif s then x.ec else y.ec, b := x.b || y.b || (x.n.isSome && y.n.isSome && (x.r.isSome || y.r.isSome)), cs := cs }
  | _, _ => none

/-- What stands behind a way. -/
def leafJ (x : EX) (E : Env) (_ : Mem) (cs _ : List Bool) : Option JO :=
  match x with
  | .normal => some { n := some E, r := none, c := false, b := false, cs := cs }
  | x => some { n := none, r := some (x, E), c := true, b := false, cs := cs }

inductive JS where
  | no
  | one (N : Env) (cs : List Bool)
  | two (N : Env) (x : EX) (X : Env) (c : Bool) (cs : List Bool)

def selJ : Option JO → JS
  | some ⟨some N, none, _, _, cs⟩ => .one N cs
  | some ⟨some N, some (x, X), c, true, cs⟩ => .two N x X c cs
  | _ => .no

def ifJ (J : Bool) (o : Option JO) : Option JO :=
  match J with
  | false => none
  | true => o

/-- 'D': which way tests go that are no literals; where it ends, both, brought together by 'mg'; 'J': behind the test, where that can be. -/
def codeA (P : Program) (G : Summ) (nt : Nat) : Nat → LTab → Bool → {R : Type} → (List Bool → Bool → Option R → Option R → Option R) → Code → Env → Mem → List Bool → List Bool → (EX → Env → Mem → List Bool → List Bool → Option R) → Option R
  | 0, _, _, _, _, _, _, _, _, _, _ => none
  | n + 1, H, J, _, mg, c, E, m, cs, D, k =>
    match c with
    | .skip => k .normal E m cs D
    | .region _ ops draw => regionA P G nt mg draw ops E m cs D fun E' m' cs' D' => k .normal E' m' cs' D'
    | .seq a b => codeA P G nt n H J mg a E m cs D fun x E' m' cs' D' => match x with
      | .normal => codeA P G nt n H J mg b E' m' cs' D' k
      | x => k x E' m' cs' D'
    | .cond c a b => match rd E [] c with
      | some (.bool true) => codeA P G nt n H J mg a E m cs D k
      | some (.bool false) => codeA P G nt n H J mg b E m cs D k
      | some (.sbool s) => match D with
        | [] => match selJ (ifJ (J && plainE E) (joinO m.length (asg a ++ asg b) E [] s (codeA P G nt n noLT J (joinO m.length (asg a ++ asg b) E) a E (roA m) [] [] leafJ) (codeA P G nt n noLT J (joinO m.length (asg a ++ asg b) E) b E (roA m) [] [] leafJ))) with
          | .one N cs0 => appendK cs0 cs fun cs' => k .normal N m cs' []
          | .two N x X c cs0 => appendK cs0 cs fun cs' => mg cs' c (k x X m [] []) (k .normal N m [] [])
          | .no => mg cs s (codeA P G nt n H J mg a E m [] [] k) (codeA P G nt n H J mg b E m [] [] k)
        | true :: D' => codeA P G nt n H J mg a E m (s :: cs) D' k
        | false :: D' => codeA P G nt n H J mg b E m ((!s) :: cs) D' k
      | _ => none
    | .block id b => match H id E m with
      | some (cs0, t) => appendK cs0 cs fun cs' => lrA mg t cs' D k
      | none => codeA P G nt n H J mg b E m cs D fun x E' m' cs' D' => match x with
        | .exit id' => match Nat.beq id' id with
          | true => k .normal E' m' cs' D'
          | false => k (.exit id') E' m' cs' D'
        | x => k x E' m' cs' D'
    | .loop b => codeA P G nt n H J mg b E m cs D fun x E' m' cs' D' => match x with
      | .normal => codeA P G nt n H J mg (.loop b) E' m' cs' D' k
      | x => k x E' m' cs' D'
    | .exit id => k (.exit id) E m cs D
    | .ret => k .ret E m cs D
    | _ => none

/-! ### Functions -/

def resA (P : Program) (E : Env) (m : Mem) : List ResultVar → Option (List AV × List Bool)
  | [] => some ([], [])
  | .tmp t :: r => match rd E [] (.tmp t) with
    | none => none
    | some v => match resA P E m r with
      | none => none
      | some (l, cs) => some (v :: l, cs)
  | .cell a t :: r => match rd E [] (.tmp a) with
    | none => none
    | some p => match loadA P m t p with
      | none => none
      | some o => match resA P E m r with
        | none => none
        | some (l, cs) => some (o.v :: l, o.cs ++ cs)

def oneA : List AV → AV
  | [v] => v
  | l => .tup l

def entsA : Nat → List AV → Env
  | _, [] => []
  | i, v :: r => ⟨i, v, []⟩ :: entsA (i + 1) r

/-- A function's body: its value, the memory behind it, what must be true. -/
def bodyA (P : Program) (G : Summ) (n : Nat) (fn : Func) (as : List AV) (m : Mem) (D : List Bool) : Option (AV × Mem × List Bool) :=
  match fn.body, Nat.ble as.length fn.ntmps with
  | none, _ => none
  | some _, false => none
  | some c, true => codeA P G fn.ntmps n noLT false noMerge c (entsA 0 as) m [] D fun x E' m cs _ => match x with
    | .exit _ => none
    | _ => match resA P E' m fn.results.toList with
      | none => none
      | some (l, cs') => forceK m fun m' => appendK cs' cs fun cs => some (oneA l, m', cs)

/-- A function's value alone; tests that are no literals go both ways. -/
def funA (P : Program) (G : Summ) (n : Nat) (f : Nat) (as : List AV) (m : Mem) (D : List Bool) : Option (AV × List Bool) :=
  match P.funcs[f]? with
  | none => none
  | some fn => match fn.body, Nat.ble as.length fn.ntmps with
    | none, _ => none
    | some _, false => none
    | some c, true => codeA P G fn.ntmps n noLT false mergeV c (entsA 0 as) m [] D fun x E' m cs _ => match x with
      | .exit _ => none
      | _ => match resA P E' m fn.results.toList with
        | none => none
        | some (l, cs') => appendK cs' cs fun cs => some (oneA l, cs)

/-! ### Functions that write nothing, looked into where they are called -/

def addG (f : Nat) (g : List AV → Mem → Option CR) (G : Summ) : Summ := fun f' xs m =>
  match Nat.beq f' f with
  | true => g xs m
  | false => G f' xs m

/-- What is read alone, and bears no address. -/
def roM : Mem → Mem
  | [] => []
  | some (.lit c _) :: r => (match flatL c with
    | true => some (.lit c false)
    | false => none) :: roM r
  | some (.sym n k y _) :: r => some (.sym n k y false) :: roM r
  | none :: r => none :: roM r

def inA (n : Nat) : AV → Bool
  | .ptr k _ => Nat.blt k n
  | .sptr k _ _ _ _ => Nat.blt k n
  | .slc k _ _ _ => Nat.blt k n
  | .sslc k _ _ _ => Nat.blt k n
  | v => v.flat

def inAL (n : Nat) : List AV → Bool
  | [] => true
  | v :: r => inA n v && inAL n r

def inlG (P : Program) (n f : Nat) (G : Summ) : Summ := addG f (fun xs M => match inAL M.length xs with
  | false => none
  | true => match funA P G n f xs (roM M) [] with
    | none => none
    | some (v, cs) => match v.flat with
      | true => some { v := v, cs := cs }
      | false => none) G

def inlGs (P : Program) (n : Nat) : List Nat → Summ → Summ
  | [], G => G
  | f :: r, G => inlGs P n r (inlG P n f G)

/-! ### Functions that the model answers itself -/

def bits32 : List AV → Mem → Option CR
  | [.flt .f32 x], _ => some { v := .sint .u32 (Int.ofNat x), cs := [!isNan .f32 x] }
  | _, _ => none

def bits64 : List AV → Mem → Option CR
  | [.flt .f64 x], _ => some { v := .sint .u64 (Int.ofNat x), cs := [!isNan .f64 x] }
  | _, _ => none

/-- The number of a word. -/
def unbits32 : List AV → Mem → Option CR
  | [.sint .u32 n], _ => some { v := .flt .f32 (canon .f32 n.toNat) }
  | _, _ => none

def unbits64 : List AV → Mem → Option CR
  | [.sint .u64 n], _ => some { v := .flt .f64 (canon .f64 n.toNat) }
  | _, _ => none

/-! ### Parts of an evaluation's value -/

def leafL : List AV → List AV
  | [] => []
  | .agg l :: r => l ++ leafL r
  | v :: r => v :: leafL r

def leafAt (i : Nat) (o : Option (AV × List Bool)) : AV :=
  match o with
  | some (.tup l, _) => (leafL l).getD i .pnil
  | some (v, _) => (leafL [v]).getD i .pnil
  | none => .pnil

/-! ### Arguments and results of many leaves: one record of variables -/

/-- An argument, a result: a leaf, or an array or struct of leaves. -/
inductive Sh where
  | sc (k : Kd)
  | ag (ks : List Kd)

def mkL (x : Vars) : Nat → List Kd → List AV
  | _, [] => []
  | j, k :: r => mkK x j k :: mkL x (j + 1) r

def mkA (x : Vars) (j : Nat) : Sh → AV
  | .sc k => mkK x j k
  | .ag ks => .agg (mkL x j ks)

def Sh.size : Sh → Nat
  | .sc _ => 1
  | .ag ks => ks.length

def mkAs (x : Vars) : Nat → List Sh → List AV
  | _, [] => []
  | j, s :: r => mkA x j s :: mkAs x (j + s.size) r

/-- A result. -/
def mkR (x : Vars) : List Sh → AV
  | [s] => mkA x 0 s
  | l => .tup (mkAs x 0 l)

def isSh : Sh → AV → Bool
  | .sc k, v => isK k v
  | .ag ks, .agg l => isL ks l
  | _, _ => false

def isShs : List Sh → List AV → Bool
  | [], [] => true
  | s :: r, v :: l => match isSh s v with
    | true => isShs r l
    | false => false
  | _, _ => false

/-- The variables that arguments hold. -/
def inV (xs : List AV) : Vars := varsOf (leafL xs)

/-- The variables that an evaluation's value holds. -/
def outV (o : Option (AV × List Bool)) : Vars := { u := fun j => fltOf (leafAt j o), i := fun j => intOf (leafAt j o), b := fun j => boolOf (leafAt j o), s := fun j => strOf (leafAt j o) }

/-- A literal where a leaf is asked for: written as a leaf. -/
def normK : AV → AV
  | .bool b => .sbool b
  | .int k n => .sint k n
  | v => v

def normL : List AV → List AV
  | [] => []
  | v :: r => normK v :: normL r

def normA : AV → AV
  | .agg l => .agg (normL l)
  | v => normK v

def normAs : List AV → List AV
  | [] => []
  | v :: r => normA v :: normAs r

def sumG (KS RS : List Sh) (R : List AV → Vars) (xs : List AV) (_ : Mem) : Option CR :=
  match isShs KS xs with
  | true => some { v := mkR (R (normAs xs)) RS }
  | false => none

/-! ### Arguments with pointers to what is read alone -/

/-- An argument: a leaf, an array or struct; a pointer to one that is read alone; a slice of so many elements, which is read alone. -/
inductive PSh where
  | val (s : Sh)
  | ptr (ks : List Kd)
  | slc (ks : List Kd) (n es : Nat)

def PSh.kds : PSh → List Kd
  | .val (.sc k) => [k]
  | .val (.ag ks) => ks
  | .ptr ks => ks
  | .slc ks _ _ => ks

def kdsP : List PSh → List Kd
  | [] => []
  | p :: r => p.kds ++ kdsP r

/-- The leaves of a view. -/
def viewA (M : Mem) (ks : List Kd) (i off : Nat) : Option (List AV) :=
  match M.at i with
  | some (.lit cells _) => match sliceL cells off ks.length with
    | some l => match isL ks l with
      | true => some l
      | false => none
    | none => none
  | _ => none

/-- An argument's leaves. -/
def leavesA (M : Mem) : PSh → AV → Option (List AV)
  | .val (.sc k), v => match isK k v with
    | true => some [v]
    | false => none
  | .val (.ag ks), .agg l => match isL ks l with
    | true => some l
    | false => none
  | .ptr ks, .ptr i off => viewA M ks i off
  | .slc ks n es, .slc i off n' es' => match Nat.beq n n' && Nat.beq es es' with
    | true => viewA M ks i off
    | false => none
  | _, _ => none

def leavesP (M : Mem) : List PSh → List AV → Option (List AV)
  | [], [] => some []
  | p :: r, v :: xs => match leavesA M p v, leavesP M r xs with
    | some l, some l' => some (l ++ l')
    | _, _ => none
  | _, _ => none

/-- Arguments of these leaves, from block 'b' on, and their blocks. -/
def argsP : List PSh → Nat → List AV → List AV
  | [], _, _ => []
  | .val (.sc _) :: r, b, l => match l with
    | v :: l => v :: argsP r b l
    | [] => []
  | .val (.ag ks) :: r, b, l => .agg (l.take ks.length) :: argsP r b (l.drop ks.length)
  | .ptr ks :: r, b, l => .ptr b 0 :: argsP r (b + 1) (l.drop ks.length)
  | .slc ks n es :: r, b, l => .slc b 0 n es :: argsP r (b + 1) (l.drop ks.length)

def memP : List PSh → List AV → Mem
  | [], _ => []
  | .val s :: r, l => memP r (l.drop (PSh.val s).kds.length)
  | .ptr ks :: r, l => some (.lit (l.take ks.length) false) :: memP r (l.drop ks.length)
  | .slc ks _ _ :: r, l => some (.lit (l.take ks.length) false) :: memP r (l.drop ks.length)

/-- A result, its leaves written as leaves. -/
def normR : AV → AV
  | .tup l => .tup (normAs l)
  | v => normA v


/-- No tuple within. -/
def untup : List AV → Bool
  | [] => true
  | .tup _ :: _ => false
  | _ :: r => untup r

def untupR : AV → Bool
  | .tup l => untup l
  | _ => true

def sumP (KS : List PSh) (RS : List Sh) (pre : List AV → List Bool) (R : List AV → Vars) (xs : List AV) (M : Mem) : Option CR :=
  match leavesP M KS xs with
  | some l => some { v := mkR (R (normL l)) RS, cs := pre (normL l) }
  | none => none

/-- Leaf 'j' written out as 'n'. -/
def litL : List AV → Nat → Int → List AV
  | [], _, _ => []
  | .sint k _ :: r, 0, n => .int k n :: r
  | v :: r, 0, _ => v :: r
  | v :: r, j + 1, n => v :: litL r j n

/-! ### Frames: values and memory of a known form -/

inductive VSh where
  | sc (k : Kd)
  | ag (ks : List Kd)
  | ptr (j off : Nat)
  | slc (j off len es : Nat)
  | ssl (j off es : Nat)
  | cst (v : AV)
  | fnp (f : Nat) (js : List Nat)

inductive BSh where
  | lit (cells : List VSh) (rw : Bool)
  | sym (k : Kd) (rw : Bool)

structure Frm where
  vals : List VSh
  blks : List BSh

/-- What stands in a frame: its leaves, lengths, and blocks of one kind. -/
structure SV where
  x : Vars
  len : Nat → Nat
  n : Nat → Nat
  y : Nat → Vars

def VSh.nl : VSh → Nat
  | .sc _ => 1
  | .ag ks => ks.length
  | _ => 0
def VSh.nq : VSh → Nat
  | .ssl _ _ _ => 1
  | _ => 0
def nls : List VSh → Nat
  | [] => 0
  | v :: r => v.nl + nls r
def nqs : List VSh → Nat
  | [] => 0
  | v :: r => v.nq + nqs r

def mkV (s : SV) (j q : Nat) : VSh → AV
  | .sc k => mkK s.x j k
  | .ag ks => .agg (mkL s.x j ks)
  | .ptr i o => .ptr i o
  | .slc i o n e => .slc i o n e
  | .ssl i o e => .sslc i o (s.len q) e
  | .cst v => v
  | .fnp f js => .fn f (js.map fun i => .ptr i 0)

def mkVs (s : SV) : Nat → Nat → List VSh → List AV
  | _, _, [] => []
  | j, q, v :: r => mkV s j q v :: mkVs s (j + v.nl) (q + v.nq) r

def mkBs (s : SV) : Nat → Nat → Nat → List BSh → Mem
  | _, _, _, [] => []
  | b, j, q, .lit shs rw :: r => some (.lit (mkVs s j q shs) rw) :: mkBs s (b + 1) (j + nls shs) (q + nqs shs) r
  | b, j, q, .sym k rw :: r => some (.sym (s.n b) k (s.y b) rw) :: mkBs s (b + 1) j q r

def mkM (F : Frm) (s : SV) : Mem := mkBs s 0 (nls F.vals) (nqs F.vals) F.blks

def mkE : List Nat → List AV → Env
  | t :: ts, v :: vs => ⟨t, v, []⟩ :: mkE ts vs
  | _, _ => []

/-- Which block stands for which. -/
def okS : List Nat → Nat → Nat → Bool
  | [], _, _ => false
  | i' :: _, 0, i => Nat.beq i' i
  | _ :: r, j + 1, i => okS r j i

def sameC : AV → AV → Bool
  | .snil, .snil => true
  | .pnil, .pnil => true
  | .nilfn, .nilfn => true
  | .bool a, .bool b => match a, b with
    | true, true => true
    | false, false => true
    | _, _ => false
  | .int k n, .int k' n' => decide (k = k') && decide (n = n')
  | .flt k n, .flt k' n' => decide (k = k') && Nat.beq n n'
  | .tup [], .tup [] => true
  | _, _ => false

def capsOk (sel : List Nat) : List Nat → List AV → Bool
  | [], [] => true
  | j :: js, .ptr i 0 :: r => match okS sel j i with
    | true => capsOk sel js r
    | false => false
  | _, _ => false

def rdV (sel : List Nat) (sh : VSh) (v : AV) : Option (List AV × List Nat) :=
  match sh, v with
  | .sc k, v => match isK k v with
    | true => some ([v], [])
    | false => none
  | .ag ks, .agg l => match isL ks l with
    | true => some (l, [])
    | false => none
  | .ptr j o, .ptr i o' => match okS sel j i && Nat.beq o o' with
    | true => some ([], [])
    | false => none
  | .slc j o n e, .slc i o' n' e' => match okS sel j i && Nat.beq o o' && Nat.beq n n' && Nat.beq e e' with
    | true => some ([], [])
    | false => none
  | .ssl j o e, .sslc i o' n e' => match okS sel j i && Nat.beq o o' && Nat.beq e e' with
    | true => some ([], [n])
    | false => none
  | .ssl j o e, .slc i o' n e' => match okS sel j i && Nat.beq o o' && Nat.beq e e' with
    | true => some ([], [n])
    | false => none
  | .cst c, v => match sameC c v with
    | true => some ([], [])
    | false => none
  | .fnp f js, .fn f' caps => match Nat.beq f f' && capsOk sel js caps with
    | true => some ([], [])
    | false => none
  | _, _ => none

def rdVs (sel : List Nat) : List VSh → List AV → Option (List AV × List Nat)
  | [], [] => some ([], [])
  | sh :: r, v :: vs => match rdV sel sh v with
    | none => none
    | some (l, q) => match rdVs sel r vs with
      | none => none
      | some (l', q') => some (l ++ l', q ++ q')
  | _, _ => none

def sameKd : Kd → Kd → Bool
  | .flt k, .flt k' => decide (k = k')
  | .int k, .int k' => decide (k = k')
  | .bool, .bool => true
  | .str, .str => true
  | _, _ => false

def rdB (sel : List Nat) (M : Mem) (i : Nat) : BSh → Option (List AV × List Nat × Nat × Vars)
  | .lit shs rw => match M.at i with
    | some (.lit cells rw') => match !rw || rw' with
      | true => match rdVs sel shs cells with
        | some (l, q) => some (l, q, 0, zeroV)
        | none => none
      | false => none
    | _ => none
  | .sym k rw => match M.at i with
    | some (.sym n k' y rw') => match sameKd k k' && (!rw || rw') with
      | true => some ([], [], n, y)
      | false => none
    | some (.lit cells rw') => match isKs k cells && (!rw || rw') with
      | true => some ([], [], cells.length, varsOf cells)
      | false => none
    | none => none

def rdBs (sel : List Nat) (M : Mem) : List Nat → List BSh → Option (List AV × List Nat × List Nat × List Vars)
  | [], [] => some ([], [], [], [])
  | i :: is, b :: r => match rdB sel M i b with
    | none => none
    | some (l, q, n, y) => match rdBs sel M is r with
      | none => none
      | some (l', q', n', y') => some (l ++ l', q ++ q', n :: n', y :: y')
  | _, _ => none

def locC (j : Nat) : List Nat → List AV → Option Nat
  | j' :: js, .ptr i _ :: r => match Nat.beq j' j with
    | true => some i
    | false => locC j js r
  | _, _ => none

/-- Where block 'j' of a frame is told of. -/
def locV (j : Nat) (sh : VSh) (v : AV) : Option Nat :=
  match sh, v with
  | .ptr j' _, .ptr i _ | .slc j' _ _ _, .slc i _ _ _ | .ssl j' _ _, .sslc i _ _ _ | .ssl j' _ _, .slc i _ _ _ => match Nat.beq j' j with
    | true => some i
    | false => none
  | .fnp _ js, .fn _ caps => locC j js caps
  | _, _ => none

def locVs (j : Nat) : List VSh → List AV → Option Nat
  | sh :: r, v :: vs => match locV j sh v with
    | some i => some i
    | none => locVs j r vs
  | _, _ => none

def locBs (j : Nat) (M : Mem) : List BSh → List Nat → Option Nat
  | .lit shs _ :: r, i :: is => match M.at i with
    | some (.lit cells _) => match locVs j shs cells with
      | some i' => some i'
      | none => locBs j M r is
    | _ => locBs j M r is
  | _ :: r, _ :: is => locBs j M r is
  | _, _ => none

def selF (F : Frm) (A : Nat) (xs : List AV) (M : Mem) : List BSh → Nat → List Nat → (List Nat → Option R) → Option R
  | [], _, acc, k => k acc
  | _ :: r, b, acc, k => match Nat.blt b A with
    | true => selF F A xs M r (b + 1) (acc ++ [b]) k
    | false => match locVs b F.vals xs with
      | some i => selF F A xs M r (b + 1) (acc ++ [i]) k
      | none => match locBs b M F.blks acc with
        | some i => selF F A xs M r (b + 1) (acc ++ [i]) k
        | none => none

def nodupN : List Nat → Bool
  | [] => true
  | x :: r => match natMem x r with
    | true => false
    | false => nodupN r

def idsOk (sel : List Nat) : Nat → Bool
  | 0 => true
  | n + 1 => match okS sel n n with
    | true => idsOk sel n
    | false => false

def mkSV (l : List AV) (q ns : List Nat) (ys : List Vars) : SV := { x := varsOf l, len := fun i => q.getD i 0, n := fun i => ns.getD i 0, y := fun i => ys.getD i zeroV }

def matchS (F : Frm) (A : Nat) (xs : List AV) (M : Mem) (k : SV → List Nat → Option R) : Option R :=
  selF F A xs M F.blks 0 [] fun sel => forceK sel fun sel => match nodupN sel && idsOk sel A with
    | false => none
    | true => match rdVs sel F.vals xs, rdBs sel M sel F.blks with
      | some (l1, q1), some (l2, q2, ns, ys) => appendK l1 l2 fun l => k (mkSV l (q1 ++ q2) ns ys) sel
      | _, _ => none

def matchF (F : Frm) (A : Nat) (xs : List AV) (M : Mem) (k : SV → Option R) : Option R := matchS F A xs M fun s _ => k s

def getTs (E : Env) : List Nat → Option (List AV)
  | [] => some []
  | t :: ts => match E.get t with
    | some ⟨_, v, []⟩ => match getTs E ts with
      | some l => some (v :: l)
      | none => none
    | _ => none

def matchE (A : Nat) (ts : List Nat) (F : Frm) (E : Env) (M : Mem) (k : SV → Option R) : Option R :=
  match getTs E ts with
  | some xs => matchF F A xs M k
  | none => none

/-! ### A loop's body, a function's body: where it leads -/

inductive Tr where
  | next (s : SV) (cs : List Bool)
  | out (k : Nat) (s : SV) (cs : List Bool)
  | node (base : List Bool) (s : Bool) (a b : Tr)

def mgT (base : List Bool) (s : Bool) (x y : Option Tr) : Option Tr :=
  match x, y with
  | some a, some b => some (.node base s a b)
  | _, _ => none

inductive Pk where
  | next (s : SV)
  | out (k : Nat) (s : SV)

def Tr.pick : Tr → Pk
  | .next s _ => .next s
  | .out k s _ => .out k s
  | .node _ s a b => bif s then a.pick else b.pick

/-- What must be true on the way. -/
def Tr.ok : Tr → Prop
  | .next _ cs => ∀ b ∈ cs, b = true
  | .out _ _ cs => ∀ b ∈ cs, b = true
  | .node base s a b => (∀ b ∈ base, b = true) ∧ (s = true → a.ok) ∧ (s = false → b.ok)

/-- A loop: how many blocks came with the call; its slots and frame; how it is left. -/
structure LP where
  A : Nat
  ts : List Nat
  F : Frm
  xs : List (EX × List Nat × Frm)

def exitT (A : Nat) (E : Env) (M : Mem) (cs : List Bool) (x : EX) : Nat → List (EX × List Nat × Frm) → Option Tr
  | _, [] => none
  | k, (x', ts, F) :: r => match sameEX x x' with
    | true => match matchE A ts F E M fun s => some (Tr.out k s cs) with
      | some t => some t
      | none => exitT A E M cs x (k + 1) r
    | false => exitT A E M cs x (k + 1) r

def LP.E (L : LP) (s : SV) : Env := mkE L.ts (mkVs s 0 0 L.F.vals)
def LP.M (L : LP) (s : SV) : Mem := mkM L.F s

def stepT (P : Program) (G : Summ) (nt : Nat) (H : LTab) (J : Bool) (n : Nat) (L : LP) (bd : Code) (s : SV) : Option Tr :=
  codeA P G nt n H J mgT bd (L.E s) (L.M s) [] [] fun x E m cs _ => match x with
    | .normal => matchE L.A L.ts L.F E m fun s' => some (Tr.next s' cs)
    | x => exitT L.A E m cs x 0 L.xs

def blkX (id : Nat) : EX → EX
  | .exit i => match Nat.beq i id with
    | true => .normal
    | false => .exit i
  | x => x

def exitLR (id : Nat) (kk : Nat) (s : SV) : Nat → List (EX × List Nat × Frm) → LR
  | _, [] => .leaf .ret [] []
  | _, [(x, ts, F)] => .leaf (blkX id x) (mkE ts (mkVs s 0 0 F.vals)) (mkM F s)
  | k, (x, ts, F) :: r => .node (Nat.beq kk k) (.leaf (blkX id x) (mkE ts (mkVs s 0 0 F.vals)) (mkM F s)) (exitLR id kk s (k + 1) r)

/-- A block's summary: where it leads from 's' on is 'fin s', if 'pre s' is true; where its frame does not fit, another one's. -/
def hookL (id : Nat) (L : LP) (pre : SV → List Bool) (fin : SV → Nat × SV) (H : LTab) : LTab := fun id' E m => match Nat.beq id' id with
  | true => match matchE L.A L.ts L.F E m fun s => some (pre s, exitLR id (fin s).1 (fin s).2 0 L.xs) with
    | some r => some r
    | none => H id' E m
  | false => H id' E m

/-- A block from its frame on, to its ends. -/
def stepB (P : Program) (G : Summ) (nt : Nat) (H : LTab) (J : Bool) (n : Nat) (L : LP) (b : Code) (s : SV) : Option Tr :=
  codeA P G nt n H J mgT b (L.E s) (L.M s) [] [] fun x E m cs _ => exitT L.A E m cs x 0 L.xs

/-- Where a tree leads that has ends alone. -/
def endT (t : Tr) : Nat × SV :=
  match t.pick with
  | .next s => (0, s)
  | .out k s => (k, s)

/-- So many rounds at most. -/
def runT (T : SV → Tr) : Nat → SV → Nat × SV
  | 0, s => (0, s)
  | n + 1, s => match (T s).pick with
    | .next s' => runT T n s'
    | .out k s' => (k, s')

def Code.firstBlk (id : Nat) : Code → Option Code
  | .seq a b => match Code.firstBlk id a with
    | some c => some c
    | none => Code.firstBlk id b
  | .cond _ a b => match Code.firstBlk id a with
    | some c => some c
    | none => Code.firstBlk id b
  | .block i b => match Nat.beq i id with
    | true => some b
    | false => Code.firstBlk id b
  | .loop b => Code.firstBlk id b
  | _ => none

/-- The body of the loop that block 'id' of function 'f' is. -/
def loopOf (P : Program) (f id : Nat) : Code :=
  match P.funcs[f]? with
  | some fn => match fn.body with
    | some c => match Code.firstBlk id c with
      | some (.loop b) => b
      | _ => .skip
    | none => .skip
  | none => .skip

def blkOf (P : Program) (f id : Nat) : Code :=
  match P.funcs[f]? with
  | some fn => match fn.body with
    | some c => match Code.firstBlk id c with
      | some b => b
      | _ => .skip
    | none => .skip
  | none => .skip

def ntOf (P : Program) (f : Nat) : Nat :=
  match P.funcs[f]? with
  | some fn => fn.ntmps
  | none => 0

def outsT (A : Nat) (l : List AV) (M : Mem) (cs : List Bool) : Nat → List Frm → Option Tr
  | _, [] => none
  | k, F :: r => match matchF F A l M fun s => some (Tr.out k s cs) with
    | some t => some t
    | none => outsT A l M cs (k + 1) r

/-- A function's end: its results and memory in one of some frames. -/
def funT (P : Program) (G : Summ) (H : LTab) (J : Bool) (n : Nat) (f : Nat) (A : Nat) (Fs : List Frm) (as : List AV) (m : Mem) (D : List Bool) : Option Tr :=
  match P.funcs[f]? with
  | none => none
  | some fn => match fn.body, Nat.ble as.length fn.ntmps with
    | none, _ => none
    | some _, false => none
    | some c, true => codeA P G fn.ntmps n H J mgT c (entsA 0 as) m [] D fun x E' m cs _ => match x with
      | .exit _ => none
      | _ => match resA P E' m fn.results.toList with
        | none => none
        | some (l, cs') => appendK cs' cs fun cs => outsT A l m cs 0 Fs

/-- A function's value alone, with summaries of its loops. -/
def funH (P : Program) (G : Summ) (H : LTab) (J : Bool) (n : Nat) (f : Nat) (as : List AV) (m : Mem) (D : List Bool) : Option (AV × List Bool) :=
  match P.funcs[f]? with
  | none => none
  | some fn => match fn.body, Nat.ble as.length fn.ntmps with
    | none, _ => none
    | some _, false => none
    | some c, true => codeA P G fn.ntmps n H J mergeV c (entsA 0 as) m [] D fun x E' m cs _ => match x with
      | .exit _ => none
      | _ => match resA P E' m fn.results.toList with
        | none => none
        | some (l, cs') => appendK cs' cs fun cs => some (oneA l, cs)

/-! ### Summaries of functions that write, or hand new blocks back -/

def ren (sel : List Nat) : AV → AV
  | .ptr k o => .ptr (sel.getD k 0) o
  | .sptr k o n e z => .sptr (sel.getD k 0) o n e z
  | .slc k o n e => .slc (sel.getD k 0) o n e
  | .sslc k o n e => .sslc (sel.getD k 0) o n e
  | v => v

def renOk (sel : List Nat) : AV → Bool
  | .ptr k _ => Nat.blt k sel.length
  | .sptr k _ _ _ _ => Nat.blt k sel.length
  | .slc k _ _ _ => Nat.blt k sel.length
  | .sslc k _ _ _ => Nat.blt k sel.length
  | v => v.flat

def renOkL (sel : List Nat) : List AV → Bool
  | [] => true
  | v :: r => renOk sel v && renOkL sel r

def BSh.rw : BSh → Bool
  | .lit _ rw => rw
  | .sym _ rw => rw

def VSh.flat : VSh → Bool
  | .sc _ => true
  | .cst v => v.flat
  | _ => false

def flatVs : List VSh → Bool
  | [] => true
  | v :: r => match v.flat with
    | true => flatVs r
    | false => false

def BSh.flat : BSh → Bool
  | .lit shs _ => flatVs shs
  | .sym _ _ => true

/-- What comes out: blocks that came in to be written are so still; all that is told anew bears no address. -/
def outOk : List BSh → List BSh → Bool
  | [], [] => true
  | [], b :: r => match b.rw && b.flat with
    | true => outOk [] r
    | false => false
  | _ :: _, [] => false
  | a :: r, b :: r' => match !a.rw || (b.rw && b.flat) with
    | true => outOk r r'
    | false => false

def wbK (M : Mem) : List Nat → List BSh → Mem → (Mem → Option R) → Option R
  | i :: is, b :: bs, x :: m, k => match b.rw with
    | true => setK M i x fun M' => wbK M' is bs m k
    | false => wbK M is bs m k
  | _, _, _, k => k M

def upTo : Nat → Nat → List Nat
  | _, 0 => []
  | b, n + 1 => b :: upTo (b + 1) n

def renL (sel : List Nat) : List AV → List AV
  | [] => []
  | v :: r => ren sel v :: renL sel r

def sumW (Fi Fo : Frm) (pre : SV → List Bool) (R : SV → SV) (xs : List AV) (M : Mem) : Option CR :=
  matchS Fi 0 xs M fun s sel => wbK M sel Fi.blks (mkM Fo (R s)) fun M1 => appendK M1 ((mkM Fo (R s)).drop Fi.blks.length) fun M2 =>
    appendK sel (upTo M.length (Fo.blks.length - Fi.blks.length)) fun sel2 => match renOkL sel2 (mkVs (R s) 0 0 Fo.vals) with
      | true => some { v := oneA (renL sel2 (mkVs (R s) 0 0 Fo.vals)), m := some M2, cs := pre s }
      | false => none

/-! ### Functions that write, looked into where they are called -/

def bodyJ (P : Program) (G : Summ) (n : Nat) (f : Nat) (as : List AV) (m : Mem) : Option (AV × Mem × List Bool) :=
  match P.funcs[f]? with
  | none => none
  | some fn => match fn.body, Nat.ble as.length fn.ntmps with
    | none, _ => none
    | some _, false => none
    | some c, true => codeA P G fn.ntmps n noLT true noMerge c (entsA 0 as) m [] [] fun x E' m cs _ => match x with
      | .exit _ => none
      | _ => match resA P E' m fn.results.toList with
        | none => none
        | some (l, cs') => forceK m fun m' => appendK cs' cs fun cs => some (oneA l, m', cs)

def inlW (P : Program) (n f : Nat) (G : Summ) : Summ := addG f (fun xs M => match bodyJ P G n f xs M with
  | none => none
  | some (v, M', cs) => some { v := v, m := some M', cs := cs }) G

def inlWs (P : Program) (n : Nat) : List Nat → Summ → Summ
  | [], G => G
  | f :: r, G => inlWs P n r (inlW P n f G)

end Go.Sim
