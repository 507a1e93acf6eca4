/-
  AN ABSTRACT MACHINE over the model's code: pure data, frame-local boxes and rows. Definitions alone.
-/
import Derived.Calls
import Derived.CallsIn
import Derived.OrdersIn
import Derived.LoopNIn
import Derived.TacticsIn
import Derived.RangeFuncIn
import Derived.Orders
import Derived.LoopN
import Derived.Scope
import Derived.Below
import Derived.Laws.OwnMore
import Derived.Maps.AppendAt
import Derived.Laws.BytesString
namespace Go.AM

/-- pure data -/
inductive AV where
  | bool (b : Bool)
  | int (k : IntKind) (n : Int)
  | str (s : List UInt8)
  | lst (sz : Nat) (xs : List (List AV))
  | agg (cs : List AV)
  | fn (f : Nat) (caps : List AV)
  | tup (vs : List AV)
  | ref (cs : List AV)
  | mp (ks vs : List AV)
  | self (n : Nat)
  | nilp
  | nils
  deriving Inhabited

/-- what a closure has captured, or a cell of an aggregate that is being made: a value, a box, a row or map -/
inductive Cap where
  | v (a : AV)
  | p (id : Nat)
  | r (id : Nat)
  deriving Inhabited

/-- what a slot holds -/
inductive SV where
  | undef
  | any
  | pv (v : AV)
  | ptr (id off : Nat)
  | row (id : Nat)
  | rp (id sz i off : Nat)
  | sub (id sz lo hi : Nat)
  | cp (cs : List AV)
  | cl (f : Nat) (caps : List Cap)
  | two (v : SV) (b : Bool)
  | ag (cs : List Cap)
  deriving Inhabited

/-- what a frame owns: a box (a variable in memory), a row (a slice that may be written and appended to) -/
inductive Ob where
  | box (t : TypeId) (cells : List SV)
  | row (e : TypeId) (sz : Nat) (xs : List (List AV))
  | mp (k e : TypeId) (ks vs : List AV)
  | mr (k e : TypeId) (sz : Nat) (ks : List AV) (vs : List (Option (List (List AV))))
  | it (s : List UInt8) (pos : Nat)
  deriving Inhabited

structure St where
  env : Nat → Option SV
  ob : Nat → Option Ob

def AV.cells : AV → List AV
  | .agg cs => cs
  | v => [v]

def AV.noTup : AV → Bool
  | .tup _ => false
  | _ => true

def AV.noSelf : AV → Bool
  | .self _ => false
  | .tup (.self _ :: _) => false
  | _ => true

def AV.scalar : AV → Bool
  | .bool _ | .int _ _ | .str _ => true
  | _ => false

/-- scalars, or a tuple of scalars -/
def AV.plain : AV → Bool
  | .tup vs => vs.all AV.scalar
  | v => v.scalar

def find {α : Type} : List (Nat × α) → Nat → Option α
  | [], _ => none
  | (j, v) :: l, i => cond (Nat.beq j i) (some v) (find l i)

def put {α : Type} (m : Nat → Option α) (d : Nat) (v : Option α) : Nat → Option α := fun i => cond (Nat.beq d i) v (m i)

def St.set (st : St) (d : Option Nat) (v : SV) : St :=
  match d with
  | some d => { st with env := put st.env d (some v) }
  | none => st

/-- hints of a function: of each loop (by the number of its first region) the slots and objects that are kept at its head; slots whose new slices become rows; slots that hold pure data alone; slots whose rows are lent for writing -/
structure Hint where
  loops : List (Nat × List Nat × List Nat) := []
  rows : List Nat := []
  pubs : List Nat := []
  byref : List Nat := []
  pubAt : List (Nat × List Nat) := []
  stay : List Nat := []
  keep : List Nat := []
  blk : List (Nat × (St → Bool) × (St → Nat × St)) := []
  use : List Nat := []
  owns : List Nat := []
  own : Bool := false
  nils : List (Nat × List (Nat × TypeId × Nat)) := []

def pickAll {α : Type} (m : Nat → Option α) : List Nat → List (Nat × α)
  | [] => []
  | i :: l => match m i with
    | some v => (i, v) :: pickAll m l
    | none => pickAll m l

def Hint.canon (h : Hint) (key : Nat) (st : St) : St :=
  match find h.loops key with
  | some (vars, obs) => { env := find (pickAll st.env vars), ob := find (pickAll st.ob obs) }
  | none => st

/-- a loop's name -/
def firstRegion : Code → Nat
  | .region id _ _ => id
  | .seq a _ => firstRegion a
  | .cond _ a _ => firstRegion a
  | .block _ c => firstRegion c
  | .loop c => firstRegion c
  | .scope c => firstRegion c
  | _ => 0

/-! types -/
def isSlice (P : Program) (t : TypeId) : Option (TypeId × Nat) :=
  match P.underlying t with
  | some (.slice e) => (P.info? e).map fun i => (e, i.size)
  | _ => none

def aggT (P : Program) (t : TypeId) : Option Bool :=
  match P.underlying t with
  | some (.struct _) | some (.array _ _) => some true
  | some _ => some false
  | none => none

def sizeT (P : Program) (t : TypeId) : Option Nat := (P.info? t).map (·.size)

/-- a constant, of a type -/
def ofConst (P : Program) (t : TypeId) : Value → Option AV
  | .bool b => some (.bool b)
  | .int k n => some (.int k n)
  | .string s => some (.str s.data.toList)
  | .slice none 0 0 => (isSlice P t).map fun x => .lst x.2 []
  | .pointer none => some .nilp
  | .map none => match P.underlying t with
    | some (.map _ _) => some (.mp [] [])
    | _ => none
  | _ => none

def opnd (P : Program) (t : TypeId) (st : St) : Operand → Option SV
  | .tmp i => st.env i
  | .const v => (ofConst P t v).map .pv
  | .func f => some (.pv (.fn f []))
  | .global _ => none

/-- the cells of a zero value, by the types of its cells -/
def cellTys (P : Program) : Nat → TypeId → List TypeId
  | 0, _ => []
  | n + 1, t => match P.underlying t with
    | some (.struct fs) => fs.toList.flatMap fun f => cellTys P n f.type
    | some (.array m e) => (List.replicate m (cellTys P n e)).flatten
    | _ => [t]

def zeroAll (P : Program) : List TypeId → List Value → Option (List AV)
  | [], [] => some []
  | t :: ts, v :: vs => match ofConst P t v, zeroAll P ts vs with
    | some a, some as => some (a :: as)
    | _, _ => none
  | _, _ => none

def zeroCells (P : Program) (t : TypeId) : Option (List AV) :=
  match P.info? t with
  | some i => match i.zero with
    | some z => zeroAll P (cellTys P 8 t) z.cells.toList
    | none => none
  | none => none

/-! operators -/
def intBin (op : BinOp) (k : IntKind) (a b : Int) : Option AV :=
  match op with
  | .add => some (.int k (k.wrap (a + b)))
  | .sub => some (.int k (k.wrap (a - b)))
  | .mul => some (.int k (k.wrap (a * b)))
  | .quo => if b = 0 then none else some (.int k (k.wrap (a.tdiv b)))
  | .rem => if b = 0 then none else some (.int k (a.tmod b))
  | .and => some (.int k (k.wrap (BitVec.ofInt k.bits a &&& BitVec.ofInt k.bits b).toNat))
  | .or => some (.int k (k.wrap (BitVec.ofInt k.bits a ||| BitVec.ofInt k.bits b).toNat))
  | .xor => some (.int k (k.wrap (BitVec.ofInt k.bits a ^^^ BitVec.ofInt k.bits b).toNat))
  | .andNot => some (.int k (k.wrap (BitVec.ofInt k.bits a &&& ~~~BitVec.ofInt k.bits b).toNat))
  | .eql => some (.bool (a == b))
  | .neq => some (.bool (a != b))
  | .lss => some (.bool (a < b))
  | .leq => some (.bool (a ≤ b))
  | .gtr => some (.bool (a > b))
  | .geq => some (.bool (a ≥ b))
  | .shl | .shr => none

def shiftBin (op : BinOp) (k : IntKind) (a b : Int) : Option AV :=
  if b < 0 then none else
  match op with
  | .shl => some (.int k (k.wrap (a * 2 ^ min b.toNat k.bits)))
  | .shr => some (.int k (a.fdiv (2 ^ min b.toNat k.bits)))
  | _ => none

def strBin (op : BinOp) (a b : List UInt8) : Option AV :=
  match op with
  | .add => if a.length + b.length ≤ 9223372036854775807 then some (.str (a ++ b)) else none
  | .eql => some (.bool (a == b))
  | .neq => some (.bool !(a == b))
  | .lss => some (.bool (Op.bytesLess a b))
  | .leq => some (.bool (Op.bytesLess a b || a == b))
  | .gtr => some (.bool !(Op.bytesLess a b || a == b))
  | .geq => some (.bool !(Op.bytesLess a b))
  | _ => none

def keyIs : AV → AV → Option Bool
  | .str a, .str b => some (a == b)
  | .int k a, .int k' b => if k = k' then some (a == b) else none
  | .bool a, .bool b => some (a == b)
  | _, _ => none
def keyOk (P : Program) (k : TypeId) (key : AV) : Bool :=
  match P.underlying k, key with
  | some .string, .str _ => true
  | some (.int q), .int q' _ => q == q'
  | some .bool, .bool _ => true
  | _, _ => false
/-- == of structs of scalars, field by field -/
def aggEq (P : Program) (xs ys : List AV) : List Field → Option Bool
  | [] => some true
  | f :: fs => match xs[f.offset]?, ys[f.offset]? with
    | some a, some b => bif !(f.name == "_") && keyOk P f.type a && keyOk P f.type b && (sizeT P f.type).isSome then
        match keyIs a b, aggEq P xs ys fs with
        | some r, some q => some (r && q)
        | _, _ => none
      else none
    | _, _ => none
def aggBin (P : Program) (op : BinOp) (t : TypeId) (xs ys : List AV) : Option AV :=
  match P.underlying t with
  | some (.struct fs) => bif !(P.stoodInHeld t) && !(P.eqGuardType P.depth t) then
      match op, aggEq P xs ys fs.toList with
      | .eql, some b => some (.bool b)
      | .neq, some b => some (.bool !b)
      | _, _ => none
    else none
  | _ => none

def bin (P : Program) (op : BinOp) (t : TypeId) (x y : AV) : Option AV :=
  match x, y with
  | .agg xs, .agg ys => aggBin P op t xs ys
  | .int k a, .int k' b => match op with
    | .shl | .shr => shiftBin op k a b
    | _ => if k = k' then intBin op k a b else none
  | .str a, .str b => strBin op a b
  | .bool a, .bool b => match P.underlying t, op with
    | some .bool, .eql => some (.bool (a == b))
    | some .bool, .neq => some (.bool !(a == b))
    | _, _ => none
  | _, _ => none

def un (op : UnOp) (x : AV) : Option AV :=
  match op, x with
  | .neg, .int k n => some (.int k (k.wrap (0 - n)))
  | .not, .bool b => some (.bool !b)
  | _, _ => none

def pure? : SV → Option AV
  | .pv v => some v
  | _ => none

def allPure : List SV → Option (List AV)
  | [] => some []
  | .pv v :: l => (allPure l).map (v :: ·)
  | _ :: _ => none

/-- cells from a place on, as a value of a type -/
def takeCells (P : Program) (t : TypeId) (cs : List AV) : Option AV :=
  match aggT P t, sizeT P t with
  | some true, some n => if n ≤ cs.length then some (.agg (cs.take n)) else none
  | some false, some _ => cs[0]?
  | _, _ => none

def fieldOf (P : Program) (t : TypeId) (f : Nat) : Option Field :=
  match P.underlying t with
  | some (.struct fs) => fs[f]?
  | _ => none

/-- parts of a literal laid into cells -/
def fillC (place : Nat → Option (Nat × Nat)) (cells : List AV) : List (Nat × AV) → Option (List AV)
  | [] => some cells
  | (i, v) :: rest =>
    match place i with
    | none => none
    | some (off, size) =>
      if v.cells.length = size ∧ off + size ≤ cells.length then fillC place (cells.take off ++ v.cells ++ cells.drop (off + size)) rest else none

def structPlace (P : Program) (t : TypeId) (f : Nat) : Option (Nat × Nat) :=
  match fieldOf P t f with
  | some fd => (sizeT P fd.type).map fun n => (fd.offset, n)
  | none => none

def partsOf (P : Program) (ty : Nat → TypeId) (st : St) : List (Nat × Operand) → Option (List (Nat × AV))
  | [] => some []
  | (i, x) :: l => match (opnd P (ty i) st x).bind pure?, partsOf P ty st l with
    | some v, some vs => some ((i, v) :: vs)
    | _, _ => none

def fieldTy (P : Program) (t : TypeId) (i : Nat) : TypeId := ((fieldOf P t i).map (·.type)).getD 0

/-- cut into elements -/
def chunks (sz : Nat) : Nat → List AV → List (List AV)
  | 0, _ => []
  | n + 1, l => l.take sz :: chunks sz n (l.drop sz)

def repCells (z : List AV) : Nat → List AV
  | 0 => []
  | n + 1 => z ++ repCells z n

/-- the elements of a slice that is read -/
def elems (st : St) : SV → Option (Nat × List (List AV))
  | .pv (.lst sz xs) => some (sz, xs)
  | .row id => match st.ob id with
    | some (.row _ sz xs) => some (sz, xs)
    | _ => none
  | _ => none

/-! maps -/
/-- where a key is -/
def mfind (key : AV) : List AV → Option (Option Nat)
  | [] => some none
  | x :: l => match keyIs key x with
    | some true => some (some 0)
    | some false => (mfind key l).map fun r => r.map (· + 1)
    | none => none
def mget {α : Type} (key : AV) (ks : List AV) (vs : List α) : Option (Option α) :=
  match mfind key ks with
  | some (some i) => (vs[i]?).map some
  | some none => some none
  | none => none
def mput {α : Type} (key : AV) (v : α) (ks : List AV) (vs : List α) : Option (List AV × List α) :=
  match mfind key ks with
  | some (some i) => some (ks, vs.set i v)
  | some none => some (ks ++ [key], vs ++ [v])
  | none => none
def mdel {α : Type} (key : AV) (ks : List AV) (vs : List α) : Option (List AV × List α) :=
  match mfind key ks with
  | some (some i) => some (ks.eraseIdx i, vs.eraseIdx i)
  | some none => some (ks, vs)
  | none => none
def maps (st : St) : SV → Option (List AV × List AV)
  | .pv (.mp ks vs) => some (ks, vs)
  | .row id => match st.ob id with
    | some (.mp _ _ ks vs) => some (ks, vs)
    | _ => none
  | _ => none
/-- the keys of a map of rows -/
def keysR (st : St) : SV → Option (List AV)
  | .row id => match st.ob id with
    | some (.mr _ _ _ ks _) => some ks
    | _ => none
  | _ => none
def zeroVal (P : Program) (t : TypeId) : Option AV :=
  match P.info? t with
  | some i => match i.zero with
    | some (.agg cs) => (zeroAll P (cellTys P 8 t) cs.toList).map .agg
    | some v => ofConst P t v
    | none => none
  | none => none
def found (ok : Bool) (v : AV) (b : Bool) : AV := bif ok then .tup [v, .bool b] else v
/-- bytes -/
def bytesOf : List (List AV) → Option (List UInt8)
  | [] => some []
  | [.int .u8 n] :: l => (bytesOf l).map (UInt8.ofNat n.toNat :: ·)
  | _ => none

def boundOf (lo : Option SV) (dflt : Nat) (hi : Nat) : Option Nat :=
  match lo with
  | none => some dflt
  | some (.pv (.int _ i)) => if 0 ≤ i ∧ i ≤ hi then some i.toNat else none
  | some _ => none

def optOpnd (P : Program) (st : St) : Option Operand → Option (Option SV)
  | none => some none
  | some x => (opnd P 0 st x).map some

def minMax (isMax : Bool) : AV → AV → Option AV
  | .int k a, .int k' b => if k = k' then some (.int k (if isMax then (if b > a then b else a) else (if b < a then b else a))) else none
  | .str a, .str b => some (.str (bif isMax then (bif !(Op.bytesLess a b) then a else b) else (bif Op.bytesLess a b || a == b then a else b)))
  | _, _ => none

def minMaxAll (P : Program) (st : St) (isMax : Bool) (acc : AV) : List Operand → Option AV
  | [] => some acc
  | x :: l => match (opnd P 0 st x).bind pure? with
    | some v => match minMax isMax acc v with
      | some r => minMaxAll P st isMax r l
      | none => none
    | none => none

/-- builtins that change nothing -/
def pcall (P : Program) (c : Call) (st : St) : Option SV :=
  match c.callee, c.args.toList with
  | .builtin .len, [x] => match c.argTypes.toList with
    | [t] => match P.underlying t, opnd P t st x with
      | some .string, some (.pv (.str s)) => some (.pv (.int .i64 s.length))
      | some (.slice _), some (.sub _ _ lo hi) => some (.pv (.int .i64 ((hi - lo : Nat) : Int)))
      | some (.slice _), some v => (elems st v).map fun e => .pv (.int .i64 e.2.length)
      | some (.map _ _), some v => (maps st v).map fun e => .pv (.int .i64 e.1.length)
      | _, _ => none
    | _ => none
  | .builtin .max, x :: l => match (opnd P 0 st x).bind pure? with
    | some v => (minMaxAll P st true v l).map .pv
    | none => none
  | .builtin .min, x :: l => match (opnd P 0 st x).bind pure? with
    | some v => (minMaxAll P st false v l).map .pv
    | none => none
  | _, _ => none

/-- the address of an element, of an array in a box or of a slice -/
def idxArr (P : Program) (st : St) (n : Nat) (e : TypeId) (x ix : Operand) : Option SV :=
  match sizeT P e, opnd P 0 st x, opnd P 0 st ix with
  | some s, some (.ptr id off), some (.pv (.int _ i)) => if 0 ≤ i ∧ i < n ∧ 0 < s then some (.ptr id (off + i.toNat * s)) else none
  | _, _, _ => none
def idxSl (P : Program) (st : St) (t : TypeId) (x ix : Operand) : Option SV :=
  match isSlice P t, opnd P t st x, opnd P 0 st ix with
  | some (_, s), some (.pv (.lst sz xs)), some (.pv (.int _ i)) =>
    if s = sz ∧ 0 ≤ i then (xs[i.toNat]?).map .cp else none
  | some (_, s), some (.row id), some (.pv (.int _ i)) => match st.ob id with
    | some (.row _ sz xs) => if s = sz ∧ 0 ≤ i ∧ i.toNat < xs.length then some (.rp id sz i.toNat 0) else none
    | _ => none
  | some (_, s), some (.sub id sz lo hi), some (.pv (.int _ i)) => if s = sz ∧ 0 ≤ i ∧ i.toNat < hi - lo then some (.rp id sz (lo + i.toNat) 0) else none
  | _, _, _ => none

/-- the value of an operation that changes nothing -/
def pval (P : Program) (o : Oper) (st : St) : Option SV :=
  match o.op with
  | .move x | .assign x => opnd P o.type st x
  | .pick c a b => match opnd P 0 st c with
    | some (.pv (.bool t)) => bif t then opnd P o.type st a else opnd P o.type st b
    | _ => none
  | .binOp op t x y _ => match (opnd P t st x).bind pure?, (opnd P t st y).bind pure? with
    | some a, some b => (bin P op t a b).map .pv
    | _, _ => none
  | .unOp op _ x => match (opnd P 0 st x).bind pure? with
    | some a => (un op a).map .pv
    | none => none
  | .convert src dst x => match P.underlying src, P.underlying dst with
    | some (.slice e), some .string => match P.underlying e, sizeT P e, (opnd P src st x).bind (elems st) with
      | some (.int .u8), some 1, some (1, xs) => (bytesOf xs).map fun b => .pv (.str b)
      | _, _, _ => none
    | some _, some (.int k) => match (opnd P 0 st x).bind pure? with
      | some (.int _ n) => some (.pv (.int k (k.wrap n)))
      | _ => none
    | some _, some .string => match (opnd P 0 st x).bind pure? with
      | some (.str s) => some (.pv (.str s))
      | _ => none
    | _, _ => none
  | .call c => pcall P c st
  | .nilCheck x => match opnd P 0 st x with
    | some (.ptr id off) => some (.ptr id off)
    | some (.cp cs) => some (.cp cs)
    | some (.pv (.ref cs)) => some (.pv (.ref cs))
    | some (.rp id sz i off) => some (.rp id sz i off)
    | _ => none
  | .fieldAddr t x f => match fieldOf P t f with
    | some fd => match sizeT P fd.type with
      | some 0 => none
      | some _ => match opnd P 0 st x with
        | some (.ptr id off) => some (.ptr id (off + fd.offset))
        | some (.cp cs) => some (.cp (cs.drop fd.offset))
        | some (.pv (.ref cs)) => some (.cp (cs.drop fd.offset))
        | some (.rp id sz i off) => some (.rp id sz i (off + fd.offset))
        | _ => none
      | none => none
    | none => none
  | .field t x f => match fieldOf P t f, (opnd P 0 st x).bind pure? with
    | some fd, some (.agg cs) => (takeCells P fd.type (cs.drop fd.offset)).map .pv
    | _, _ => none
  | .indexAddr t x ix => match P.underlying t with
    | some (.array n e) => idxArr P st n e x ix
    | _ => idxSl P st t x ix
  | .index t x ix => match P.underlying t, opnd P t st x, opnd P 0 st ix with
    | some .string, some (.pv (.str s)), some (.pv (.int _ i)) =>
      if 0 ≤ i then (s[i.toNat]?).map fun b => .pv (.int .u8 b.toNat) else none
    | _, _, _ => none
  | .load t x => match opnd P 0 st x with
    | some (.cp cs) => (takeCells P t cs).map .pv
    | some (.pv (.ref cs)) => (takeCells P t cs).map .pv
    | some (.rp id sz i off) => match st.ob id with
      | some (.row _ sz' xs) => if sz = sz' then (xs[i]?).bind fun c => (takeCells P t (c.drop off)).map .pv else none
      | _ => none
    | some (.ptr id off) => match st.ob id with
      | some (.box _ cells) => match aggT P t with
        | some false => if (sizeT P t).isSome then cells[off]? else none
        | some true => match sizeT P t with
          | some n => if off + n ≤ cells.length then (allPure ((cells.drop off).take n)).map fun cs => .pv (.agg cs) else none
          | none => none
        | none => none
      | _ => none
    | _ => none
  | .slice t x lo hi none => match P.underlying t, opnd P t st x, optOpnd P st lo, optOpnd P st hi with
    | some .string, some (.pv (.str s)), some lo, some hi => match boundOf hi s.length s.length with
      | some h => (boundOf lo 0 h).map fun l => .pv (.str ((s.take h).drop l))
      | none => none
    | some (.slice _), some (.pv (.lst sz xs)), some lo, some hi => match isSlice P t, boundOf hi xs.length xs.length with
      | some (_, s), some h => if s = sz then (boundOf lo 0 h).map fun l => .pv (.lst sz ((xs.take h).drop l)) else none
      | _, _ => none
    | some (.slice _), some (.row id), some lo, some hi => match isSlice P t, st.ob id with
      | some (_, s), some (.row _ sz xs) => match boundOf hi xs.length xs.length with
        | some h => if s = sz then (boundOf lo 0 h).map fun l => .sub id sz l h else none
        | none => none
      | _, _ => none
    | some (.slice _), some (.sub id sz a b), some lo, some hi => match isSlice P t, boundOf hi (b - a) (b - a) with
      | some (_, s), some h => if s = sz then (boundOf lo 0 h).map fun l => .sub id sz (a + l) (a + h) else none
      | _, _ => none
    | _, _, _, _ => none
  | .extract x i => match opnd P 0 st x with
    | some (.pv (.tup vs)) => (vs[i]?).map .pv
    | some (.two v b) => match i with
      | 0 => some v
      | 1 => some (.pv (.bool b))
      | _ => none
    | _ => none
  | .lookup t x k ok => match P.underlying t with
    | some (.map kt et) => match (opnd P t st x).bind (keysR st), (opnd P kt st k).bind pure? with
     | some ks, some key => bif ok && keyOk P kt key && (zeroVal P et).isSome then (mfind key ks).map fun r => .two .any r.isSome else none
     | _, _ => match (opnd P t st x).bind (maps st), (opnd P kt st k).bind pure? with
      | some (ks, vs), some key => bif keyOk P kt key then
          match mget key ks vs with
          | some (some v) => some (.pv (found ok v true))
          | some none => (zeroVal P et).map fun z => .pv (found ok z false)
          | none => none
        else none
      | _, _ => none
    | _ => none
  | .build t parts => match P.underlying t with
    | some (.struct fs) => match zeroCells P t, partsOf P (fieldTy P t) st parts.toList with
      | some z, some ps => if ps.all (fun p => p.2.noTup) = true ∧ fs.toList.all (fun f => (sizeT P f.type).isSome) = true then (fillC (structPlace P t) z ps).map fun cs => .pv (.agg cs) else none
      | _, _ => none
    | _ => none
  | _ => none

/-! effects -/
def Cap.mentions (id : Nat) : Cap → Bool
  | .p j | .r j => Nat.beq j id
  | .v _ => false

def SV.mentions (id : Nat) : SV → Bool
  | .ptr j _ | .row j | .rp j _ _ _ | .sub j _ _ _ => Nat.beq j id
  | .cl _ caps => caps.any (Cap.mentions id)
  | .ag caps => caps.any (Cap.mentions id)
  | .two v _ => v.mentions id
  | _ => false

def SV.purge (id : Nat) (v : SV) : SV := bif v.mentions id then .any else v

def Ob.purge (id : Nat) : Ob → Ob
  | .box t cells => .box t (cells.map (SV.purge id))
  | o => o

def St.purge (st : St) (id : Nat) : St :=
  { env := fun i => (st.env i).map (SV.purge id), ob := put (fun i => (st.ob i).map (Ob.purge id)) id none }

/-- a new object: whatever spoke of an elder one of that name is forgotten -/
def St.new (st : St) (id : Nat) (o : Ob) : St :=
  let s := st.purge id
  { s with ob := put s.ob id (some o) }

/-- a row becomes public data -/
def SV.publish (id : Nat) (v : AV) : SV → SV
  | .row j => bif Nat.beq j id then .pv v else .row j
  | s => s.purge id

def allSome {α : Type} : List (Option α) → Option (List α)
  | [] => some []
  | some x :: l => (allSome l).map (x :: ·)
  | none :: _ => none
/-- an object as public data -/
def Ob.val : Ob → Option AV
  | .row _ sz xs => some (.lst sz xs)
  | .mp _ _ ks vs => some (.mp ks vs)
  | .mr _ _ sz ks vs => (allSome vs).map fun l => .mp ks (l.map (.lst sz))
  | .box _ _ => none
  | .it _ _ => none

def Ob.publish (id : Nat) (v : AV) : Ob → Ob
  | .box t cells => .box t (cells.map (SV.publish id v))
  | o => o

/-- a name of the frame's own -/
def ownId (id : Nat) : Bool := Nat.blt id 10000

def St.publish (st : St) (id : Nat) : Option St :=
  match ownId id, (st.ob id).bind Ob.val with
  | true, some v => some { env := fun i => (st.env i).map (SV.publish id v), ob := put (fun i => (st.ob i).map (Ob.publish id v)) id none }
  | _, _ => none

/-- a box becomes public -/
def SV.pubBox (id : Nat) (cs : List AV) : SV → SV
  | .ptr j off => bif Nat.beq j id then .cp (cs.drop off) else .ptr j off
  | s => s.purge id
def Ob.pubBox (id : Nat) (cs : List AV) : Ob → Ob
  | .box t cells => .box t (cells.map (SV.pubBox id cs))
  | o => o
def St.pubBox (st : St) (id : Nat) : Option St :=
  match ownId id, st.ob id with
  | true, some (.box _ cells) => match allPure cells with
    | some cs => some { env := fun i => (st.env i).map (SV.pubBox id cs), ob := put (fun i => (st.ob i).map (Ob.pubBox id cs)) id none }
    | none => none
  | _, _ => none
/-- the boxes that a closure captures -/
def pubCaps (st : St) : List Operand → Option St
  | [] => some st
  | .tmp i :: l => match st.env i with
    | some (.ptr id _) => (st.pubBox id).bind fun st' => pubCaps st' l
    | _ => pubCaps st l
  | _ :: l => pubCaps st l

/-- the value of a slot, rows lent for reading -/
def lend (st : St) : SV → Option AV
  | .pv v => some v
  | .row id => (st.ob id).bind Ob.val
  | _ => none

def lendAll (P : Program) (st : St) : List Operand → List TypeId → Option (List AV)
  | [], _ => some []
  | x :: xs, ts => match (opnd P (ts.headD 0) st x).bind (lend st), lendAll P st xs ts.tail with
    | some v, some vs => some (v :: vs)
    | _, _ => none

/-- does an operand hold a row? -/
def rowIn (st : St) : Operand → Bool
  | .tmp i => match st.env i with
    | some (.row _) => true
    | _ => false
  | _ => false

def capsOf (st : St) : List Operand → Option (List AV)
  | [] => some []
  | .tmp i :: l => match st.env i, capsOf st l with
    | some (.pv v), some vs => some (v :: vs)
    | some (.cp cs), some vs => some (.ref cs :: vs)
    | _, _ => none
  | _ :: _ => none

/-- what a closure captures that is lent its boxes -/
def capsCl (st : St) : List Operand → Option (List Cap)
  | [] => some []
  | .tmp i :: l => match st.env i, capsCl st l with
    | some (.pv v), some cs => some (.v v :: cs)
    | some (.cp cs'), some cs => some (.v (.ref cs') :: cs)
    | some (.ptr id 0), some cs => some (.p id :: cs)
    | _, _ => none
  | _ :: _ => none

def litCells (P : Program) (t : TypeId) (len : Nat) (parts : List (Nat × Operand)) (st : St) : Option (TypeId × Nat × List (List AV)) :=
  match isSlice P t with
  | some (e, s) => match zeroCells P e, partsOf P (fun _ => e) st parts with
    | some z, some ps =>
      if len * s ≤ 16777216 ∧ 0 < s ∧ z.length = s ∧ ps.all (fun p => p.2.noTup) = true then
        (fillC (fun i => some (i * s, s)) (repCells z len) ps).map fun cs => (e, s, chunks s len cs)
      else none
    | _, _ => none
  | none => none

abbrev CallF := Nat → List SV → List (Nat × Ob) → Option (AV × List (Nat × Ob))

/-- arguments, one row among them lent for writing under the name 10000 -/
def refIn (h : Hint) (st : St) : Operand → Option Nat
  | .tmp t => bif h.byref.contains t then
      match st.env t with
      | some (.row id) => some id
      | _ => none
    else none
  | _ => none

/-- does a slot hold a map whose slices are rows? -/
def rowMap (h : Hint) : Operand → Bool
  | .tmp t => h.rows.contains t
  | _ => false
def mayMove (id : Nat) : Bool := Nat.blt id 10000 || (Nat.ble 20000 id && Nat.blt id 30000)

/-! calls that are lent boxes, with what lies in them, and rows -/
def SV.ids : SV → List Nat
  | .ptr j _ | .row j | .rp j _ _ _ | .sub j _ _ _ => [j]
  | .cl _ caps => caps.filterMap fun
    | .p j | .r j => some j
    | .v _ => none
  | .ag caps => caps.filterMap fun
    | .p j | .r j => some j
    | .v _ => none
  | .two v _ => v.ids
  | _ => []
def SV.closed (names : List Nat) : SV → Bool
  | .ptr j _ | .row j | .rp j _ _ _ | .sub j _ _ _ => names.contains j
  | .cl _ caps => caps.all fun
    | .p j | .r j => names.contains j
    | .v _ => true
  | .ag caps => caps.all fun
    | .p j | .r j => names.contains j
    | .v _ => true
  | .two v _ => v.closed names
  | _ => true
def Ob.closed (names : List Nat) : Ob → Bool
  | .box _ cells => cells.all (SV.closed names)
  | .row _ _ _ => true
  | .mp _ _ _ _ => true
  | .mr _ _ _ _ _ => false
  | .it _ _ => true
def isPtr (st : St) : Operand → Bool
  | .tmp t => match st.env t with
    | some (.ptr _ _) => true
    | some (.cl _ _) => true
    | _ => false
  | _ => false
def isCl (st : St) : Operand → Bool
  | .tmp t => match st.env t with
    | some (.cl _ _) => true
    | _ => false
  | _ => false
/-- does a call need boxes of the frame? -/
def wide (st : St) (c : Call) (f : Operand) : Bool := isCl st f || c.args.toList.any (isPtr st)
def isRef (h : Hint) : Operand → Bool
  | .tmp t => h.byref.contains t
  | _ => false
def argSV (P : Program) (h : Hint) (st : St) (t : TypeId) (x : Operand) : Option SV :=
  match opnd P t st x with
  | some (.pv v) => some (.pv v)
  | some (.ptr id off) => some (.ptr id off)
  | some (.row id) => bif isRef h x then some (.row id) else none
  | some (.cl f caps) => some (.cl f caps)
  | some (.cp cs) => some (.cp cs)
  | _ => none
def argSVs (P : Program) (h : Hint) (st : St) : List Operand → List TypeId → Option (List SV)
  | [], _ => some []
  | x :: xs, ts => match argSV P h st (ts.headD 0) x, argSVs P h st xs ts.tail with
    | some v, some vs => some (v :: vs)
    | _, _ => none
def capSV : Cap → SV
  | .v a => .pv a
  | .p id => .ptr id 0
  | .r id => .row id
def fnSV : SV → Option (Nat × List SV)
  | .pv (.fn g caps) => some (g, caps.map .pv)
  | .cl g caps => some (g, caps.map capSV)
  | _ => none
def innerOf (st : St) (id : Nat) : List Nat :=
  match st.ob id with
  | some (.box _ cells) => cells.flatMap SV.ids
  | _ => []
def closeIds (st : St) : Nat → List Nat → List Nat → List Nat
  | 0, _, done => done
  | _ + 1, [], done => done
  | n + 1, id :: todo, done => bif done.contains id then closeIds st n todo done else closeIds st n (todo ++ innerOf st id) (done ++ [id])
def rowIds : List SV → List Nat
  | [] => []
  | .row id :: l => id :: rowIds l
  | _ :: l => rowIds l
def isRowOb (st : St) (id : Nat) : Bool :=
  match st.ob id with
  | some (.row _ _ _) => true
  | _ => false
def movable (stay : Bool) (st : St) (roots : List Nat) (id : Nat) : Bool := isRowOb st id && mayMove id && !(roots.contains id) && !stay
/-- an object's name in the call -/
def nameAll (mv : Nat → Bool) : Nat → List Nat → List (Nat × Nat)
  | _, [] => []
  | k, id :: l => (id, bif mv id then 20000 + k else 10000 + k) :: nameAll mv (k + 1) l
def swap : List (Nat × Nat) → List (Nat × Nat)
  | [] => []
  | (a, b) :: l => (b, a) :: swap l
def renOf (m : List (Nat × Nat)) (id : Nat) : Nat := (find m id).getD id
def Cap.ren (ρ : Nat → Nat) : Cap → Cap
  | .p id => .p (ρ id)
  | .r id => .r (ρ id)
  | c => c
def SV.ren (ρ : Nat → Nat) : SV → SV
  | .ptr j off => .ptr (ρ j) off
  | .row j => .row (ρ j)
  | .rp j sz i off => .rp (ρ j) sz i off
  | .sub j sz lo hi => .sub (ρ j) sz lo hi
  | .cl f caps => .cl f (caps.map (Cap.ren ρ))
  | .ag caps => .ag (caps.map (Cap.ren ρ))
  | .two v b => .two (v.ren ρ) b
  | s => s
def Ob.ren (ρ : Nat → Nat) : Ob → Ob
  | .box t cells => .box t (cells.map (SV.ren ρ))
  | o => o
def lentObs (st : St) (ids : List Nat) (ρ : Nat → Nat) : List (Nat × Nat) → Option (List (Nat × Ob))
  | [] => some []
  | (id, nm) :: l => match st.ob id, lentObs st ids ρ l with
    | some o, some os => bif o.closed ids then some ((nm, o.ren ρ) :: os) else none
    | _, _ => none
/-- the objects that come back, under their old names -/
def backObs (names : List Nat) (ρ : Nat → Nat) : List (Nat × Nat) → List (Nat × Ob) → Option (List (Nat × Ob))
  | [], [] => some []
  | (id, nm) :: l, (nm', o) :: os => bif Nat.beq nm nm' && o.closed names then (backObs names ρ l os).map fun r => (id, o.ren ρ) :: r else none
  | _, _ => none
def distinct : List Nat → Bool
  | [] => true
  | x :: l => !(l.contains x) && distinct l
def purgeIds : List Nat → St → St
  | [], st => st
  | id :: l, st => purgeIds l (st.purge id)
/-! is it the same? -/
mutual
def AV.same : AV → AV → Bool
  | .bool a, .bool b => a == b
  | .int k a, .int k' b => decide (k = k') && decide (a = b)
  | .str a, .str b => decide (a = b)
  | .lst s xs, .lst s' ys => Nat.beq s s' && sameR xs ys
  | .agg a, .agg b => sameC a b
  | .fn f a, .fn g b => Nat.beq f g && sameC a b
  | .tup a, .tup b => sameC a b
  | .ref a, .ref b => sameC a b
  | .mp a b, .mp c d => sameC a c && sameC b d
  | .self a, .self b => Nat.beq a b
  | .nilp, .nilp => true
  | .nils, .nils => true
  | _, _ => false
def sameC : List AV → List AV → Bool
  | [], [] => true
  | a :: l, b :: m => AV.same a b && sameC l m
  | _, _ => false
def sameR : List (List AV) → List (List AV) → Bool
  | [], [] => true
  | a :: l, b :: m => sameC a b && sameR l m
  | _, _ => false
end
def Cap.same : Cap → Cap → Bool
  | .v a, .v b => AV.same a b
  | .p a, .p b => Nat.beq a b
  | .r a, .r b => Nat.beq a b
  | _, _ => false
def sameCaps : List Cap → List Cap → Bool
  | [], [] => true
  | a :: l, b :: m => Cap.same a b && sameCaps l m
  | _, _ => false
def SV.same : SV → SV → Bool
  | .undef, .undef => true
  | .any, .any => true
  | .pv a, .pv b => AV.same a b
  | .ptr a b, .ptr c d => Nat.beq a c && Nat.beq b d
  | .row a, .row b => Nat.beq a b
  | .rp a b c d, .rp a' b' c' d' => Nat.beq a a' && Nat.beq b b' && Nat.beq c c' && Nat.beq d d'
  | .sub a b c d, .sub a' b' c' d' => Nat.beq a a' && Nat.beq b b' && Nat.beq c c' && Nat.beq d d'
  | .cp a, .cp b => sameC a b
  | .cl f a, .cl g b => Nat.beq f g && sameCaps a b
  | .two s a, .two t b => SV.same s t && (a == b)
  | .ag a, .ag b => sameCaps a b
  | _, _ => false
def sameSVs : List SV → List SV → Bool
  | [], [] => true
  | a :: l, b :: m => SV.same a b && sameSVs l m
  | _, _ => false
def sameOR : List (Option (List (List AV))) → List (Option (List (List AV))) → Bool
  | [], [] => true
  | some a :: l, some b :: m => sameR a b && sameOR l m
  | none :: l, none :: m => sameOR l m
  | _, _ => false
def Ob.same : Ob → Ob → Bool
  | .box t a, .box u b => Nat.beq t u && sameSVs a b
  | .row e s xs, .row e' s' ys => Nat.beq e e' && Nat.beq s s' && sameR xs ys
  | .mp k e a b, .mp k' e' c d => Nat.beq k k' && Nat.beq e e' && sameC a c && sameC b d
  | .mr k e s a b, .mr k' e' s' c d => Nat.beq k k' && Nat.beq e e' && Nat.beq s s' && sameC a c && sameOR b d
  | .it s p, .it s' p' => decide (s = s') && Nat.beq p p'
  | _, _ => false
def sameObs : List (Nat × Ob) → List (Nat × Ob) → Bool
  | [], [] => true
  | (i, a) :: l, (j, b) :: m => Nat.beq i j && Ob.same a b && sameObs l m
  | _, _ => false
/-- a call that is lent boxes, with what lies in them, for reading -/
def roArgs (P : Program) (h : Hint) (st : St) (c : Call) (f : Operand) : Option (Nat × List SV) :=
  match (opnd P 0 st f).bind fnSV, argSVs P h st c.args.toList c.argTypes.toList with
  | some (g, caps), some vs => some (g, vs ++ caps)
  | _, _ => none
def roIds (st : St) (args : List SV) : List Nat := closeIds st 200 (args.flatMap SV.ids) []
def roNames (ids : List Nat) : List (Nat × Nat) := nameAll (fun _ => false) 0 ids
def callRO (P : Program) (h : Hint) (callF : CallF) (st : St) (c : Call) (f : Operand) : Option AV :=
  match roArgs P h st c f with
  | some (g, args) =>
    bif distinct (roIds st args) && Nat.blt (roIds st args).length 10000 && args.all (SV.closed (roIds st args)) then
      match lentObs st (roIds st args) (renOf (roNames (roIds st args))) (roNames (roIds st args)) with
      | some lent => match callF g (args.map (SV.ren (renOf (roNames (roIds st args))))) lent with
        | some (r, lent') => bif sameObs lent' lent && r.noSelf then some r else none
        | none => none
      | none => none
    else none
  | none => none
/-- the value of an operation that leaves the frame's objects alone -/
def fval (P : Program) (h : Hint) (callF : CallF) (o : Oper) (st : St) : Option SV :=
  match o.op with
  | .buildSlice t len parts =>
    bif (o.dst.any h.rows.contains) then none else (litCells P t len parts.toList st).map fun x => .pv (.lst x.2.1 x.2.2)
  | .call c => match c.callee with
    | .value f => bif o.dst.any h.owns.contains then none else bif o.dst.any h.stay.contains && wide st c f then (callRO P h callF st c f).map .pv else
      bif wide st c f || c.args.toList.any (fun x => (refIn h st x).isSome) then none else
      match opnd P 0 st f, lendAll P st c.args.toList c.argTypes.toList with
      | some (.pv (.fn g caps)), some vs => match callF g ((vs ++ caps).map .pv) [] with
        | some (r, []) => bif (!(c.args.toList.any (rowIn st)) || r.plain) && r.noSelf then some (.pv r) else none
        | _ => none
      | _, _ => none
    | _ => pcall P c st
  | .lookup _ x _ ok => bif rowMap h x && !ok then none else pval P o st
  | .build _ _ => bif o.dst.any h.rows.contains then none else pval P o st
  | .makeFunc (.func g) first caps => bif first.isEmpty then
      bif o.dst.any h.byref.contains then (capsCl st caps.toList).map fun cs => .cl g cs
      else (capsOf st caps.toList).map fun vs => .pv (.fn g vs)
    else none
  | .assign x => match o.dst, x, pval P o st with
    | some d, .const _, some (.pv (.lst sz xs)) => bif h.rows.contains d then none else some (.pv (.lst sz xs))
    | some d, _, some (.row id) => bif h.pubs.contains d then none else some (.row id)
    | _, _, r => r
  | _ => pval P o st

/-- a value of one cell -/
def oneOK (st : St) : SV → Bool
  | .pv (.agg _) | .pv (.tup _) => false
  | .pv _ => true
  | .ptr _ _ | .rp _ _ _ _ | .cp _ | .cl _ _ => true
  | .row id => match st.ob id with
    | some (.row _ _ _) => true
    | some (.mp _ _ _ _) => true
    | _ => false
  | _ => false

/-- where a store goes -/
def storeAt (P : Program) (t : TypeId) (st : St) (a : SV) (v : SV) : Option St :=
  match a with
  | .ptr id off => match st.ob id, sizeT P t with
    | some (.box bt cells), some n => match v with
      | .ag cs => if cs.length = n ∧ off + n ≤ cells.length then
          some { st with ob := put st.ob id (some (.box bt (cells.take off ++ cs.map capSV ++ cells.drop (off + n)))) } else none
      | .pv (.agg cs) => if cs.length = n ∧ off + n ≤ cells.length then
          some { st with ob := put st.ob id (some (.box bt (cells.take off ++ cs.map .pv ++ cells.drop (off + n)))) } else none
      | v => if n = 1 ∧ off < cells.length ∧ oneOK st v = true then some { st with ob := put st.ob id (some (.box bt (cells.set off v))) } else none
    | _, _ => none
  | .rp id sz i off => match st.ob id, sizeT P t, v with
    | some (.row e sz' xs), some n, .pv v => match xs[i]? with
      | some c => if sz = sz' ∧ v.cells.length = n ∧ off + n ≤ c.length ∧ v.noTup = true then
          some { st with ob := put st.ob id (some (.row e sz' (xs.set i (c.take off ++ v.cells ++ c.drop (off + n))))) } else none
      | none => none
    | _, _, _ => none
  | _ => none

def lendRef (P : Program) (h : Hint) (st : St) : List Operand → List TypeId → Option (List SV × List Nat)
  | [], _ => some ([], [])
  | x :: xs, ts => match refIn h st x, lendRef P h st xs ts.tail with
    | some id, some (vs, ids) => some (.row 10000 :: vs, id :: ids)
    | none, some (vs, ids) => match (opnd P (ts.headD 0) st x).bind pure? with
      | some v => some (.pv v :: vs, ids)
      | none => none
    | _, none => none


/-- a call with a row lent for writing; it may hand back the row, cut -/
def callRef (P : Program) (h : Hint) (callF : CallF) (st : St) (c : Call) (f : Operand) (d : Option Nat) : Option St :=
  match opnd P 0 st f, lendRef P h st c.args.toList c.argTypes.toList with
  | some (.pv (.fn g caps)), some (vs, [id]) => match st.ob id with
    | some (.row e sz xs) => match callF g (vs ++ caps.map .pv) [(10000, .row e sz xs)] with
      | some (r, [(nm, .row e' sz' xs')]) => bif Nat.beq e e' && Nat.beq sz sz' && Nat.beq nm 10000 then
          match r with
          | .self n => bif Nat.ble n xs'.length && mayMove id then some ((st.new id (.row e' sz' (xs'.take n))).set d (.row id)) else none
          | r => bif r.plain then some (St.set { st with ob := put st.ob id (some (.row e' sz' xs')) } d (.pv r)) else none
        else none
      | _ => none
    | _ => none
  | _, _ => none


def callMany (P : Program) (h : Hint) (callF : CallF) (st : St) (c : Call) (f : Operand) (d : Option Nat) : Option St :=
  match (opnd P 0 st f).bind fnSV, argSVs P h st c.args.toList c.argTypes.toList with
  | some (g, caps), some vs =>
    let args := vs ++ caps
    let ids := closeIds st 200 (args.flatMap SV.ids) []
    let mv := movable (d.any h.stay.contains) st (rowIds args)
    let m := nameAll mv 0 ids
    let names := m.map (·.2)
    let ρ := renOf m
    bif distinct ids && Nat.blt ids.length 10000 && args.all (SV.closed ids) then
      match lentObs st ids ρ m with
      | some lent => match callF g (args.map (SV.ren ρ)) lent with
        | some (r, lent') => match backObs names (renOf (swap m)) m lent' with
          | some back => bif r.noSelf then
              let st1 := purgeIds (ids.filter mv) st
              some (St.set { env := st1.env, ob := fun i => (find back i).orElse fun _ => st1.ob i } d (.pv r)) else none
          | none => none
        | none => none
      | none => none
    else none
  | _, _ => none

/-- a box whose slices are rows -/
def zeroVals (P : Program) (t : TypeId) : Option (List Value) :=
  match P.info? t with
  | some i => i.zero.map fun z => z.cells.toList
  | none => none
def cellSVs (P : Program) (d : Nat) : Nat → List TypeId → List Value → Option (List SV × List (Nat × TypeId × Nat))
  | _, [], [] => some ([], [])
  | j, t :: ts, v :: vs => match cellSVs P d (j + 1) ts vs with
    | some (svs, l) => match isSlice P t, v with
      | some (e, s), .slice none 0 0 => bif Nat.blt 0 s && Nat.blt (5000 + 16 * d + j) 10000 then some (.row (5000 + 16 * d + j) :: svs, (5000 + 16 * d + j, e, s) :: l) else none
      | _, v => (ofConst P t v).map fun a => (.pv a :: svs, l)
    | none => none
  | _, _, _ => none
def newRows : List (Nat × TypeId × Nat) → St → St
  | [], st => st
  | (id, e, s) :: l, st => newRows l (st.new id (.row e s []))

/-! calls that hand back a row of their own, or an aggregate with slices that are nil -/
def nilAt (h : Hint) (d : Nat) : Option (List (Nat × TypeId × Nat)) := find h.nils d
/-- the constant that is a nil slice -/
def isNilS : Operand → Bool
  | .const (.slice none 0 0) => true
  | _ => false
/-- values alone -/
def pureArg (P : Program) (b : Bool) (st : St) (t : TypeId) (x : Operand) : Option AV := bif b && isNilS x then some .nils else (opnd P t st x).bind pure?
def pureArgs (P : Program) (b : Bool) (st : St) : List Operand → List TypeId → Option (List AV)
  | [], _ => some []
  | x :: xs, ts => match pureArg P b st (ts.headD 0) x, pureArgs P b st xs ts.tail with
    | some v, some vs => some (v :: vs)
    | _, _ => none
/-- slices that are nil become rows -/
def nilCaps : List AV → List (Nat × TypeId × Nat) → Option (List Cap)
  | [], _ => some []
  | .nils :: cs, x :: l => (nilCaps cs l).map (.r x.1 :: ·)
  | .nils :: _, [] => none
  | a :: cs, l => (nilCaps cs l).map (.v a :: ·)
def callOwn (P : Program) (h : Hint) (callF : CallF) (st : St) (c : Call) (f : Operand) (d : Option Nat) : Option St :=
  match d with
  | some d => match opnd P 0 st f, pureArgs P (nilAt h d).isSome st c.args.toList c.argTypes.toList with
    | some (.pv (.fn g caps)), some vs => match callF g ((vs ++ caps).map .pv) [] with
      | some (.tup [.self e, .lst sz xs], []) => bif (nilAt h d).isSome then none else some ((st.new d (.row e sz xs)).set (some d) (.row d))
      | some (.agg cs, []) => match nilAt h d with
        | some l => match nilCaps cs l with
          | some ks => bif l.all (fun x => Nat.blt x.1 10000) then some ((newRows l st).set (some d) (.ag ks)) else none
          | none => none
        | none => none
      | _ => none
    | _, _ => none
  | none => none

/-! an aggregate some of whose cells are rows or maps -/
def capOf (st : St) (s : SV) : Option Cap :=
  bif oneOK st s then
    match s with
    | .pv a => some (.v a)
    | .row id => some (.r id)
    | _ => none
  else none
def capsAll (st : St) : List SV → Option (List Cap)
  | [] => some []
  | s :: l => match capOf st s, capsAll st l with
    | some c, some cs => some (c :: cs)
    | _, _ => none
def partSV (st : St) : SV → Option (List SV)
  | .pv (.agg cs) => some (cs.map .pv)
  | s => bif oneOK st s then some [s] else none
def partsSV (P : Program) (ty : Nat → TypeId) (st : St) : List (Nat × Operand) → Option (List (Nat × List SV))
  | [] => some []
  | (i, x) :: l => match (opnd P (ty i) st x).bind (partSV st), partsSV P ty st l with
    | some v, some vs => some ((i, v) :: vs)
    | _, _ => none
def fillS (place : Nat → Option (Nat × Nat)) (cells : List SV) : List (Nat × List SV) → Option (List SV)
  | [] => some cells
  | (i, v) :: rest =>
    match place i with
    | none => none
    | some (off, size) =>
      if v.length = size ∧ off + size ≤ cells.length then fillS place (cells.take off ++ v ++ cells.drop (off + size)) rest else none
def buildRows (P : Program) (st : St) (d : Nat) (t : TypeId) (parts : List (Nat × Operand)) : Option St :=
  match P.underlying t, (zeroVals P t).bind fun vs => cellSVs P d 0 (cellTys P 8 t) vs with
  | some (.struct fs), some (svs, l) => bif fs.toList.all (fun f => (sizeT P f.type).isSome) then
      match partsSV P (fieldTy P t) (newRows l st) parts with
      | some ps => match (fillS (structPlace P t) svs ps).bind (capsAll (newRows l st)) with
        | some cs => some ((newRows l st).set (some d) (.ag cs))
        | none => none
      | none => none
    else none
  | _, _ => none
/-- an entry is taken out of a map -/
def mapDelete (P : Program) (st : St) (t : TypeId) (m k : Operand) : Option St :=
  match P.underlying t with
  | some (.map kt _) => match opnd P t st m, (opnd P kt st k).bind pure? with
    | some (.row id), some key => match st.ob id with
      | some (.mp k' e' ks vs) => bif keyOk P kt key then
          match mdel key ks vs with
          | some (ks', vs') => some { st with ob := put st.ob id (some (.mp k' e' ks' vs')) }
          | none => none
        else none
      | _ => none
    | _, _ => none
  | _ => none

def reserveOk (P : Program) (st : St) : Option Operand → Bool
  | none => true
  | some x => match (opnd P 0 st x).bind pure? with
    | some (.int _ _) => true
    | _ => false

def laidIn (P : Program) (st : St) (et : TypeId) (x : Operand) : Option St :=
  match opnd P et st x with
  | some (.pv _) => some st
  | some (.row j) => st.publish j
  | _ => none

/-- a map is written; a row that is laid into it becomes public -/
def mapStore (P : Program) (st : St) (t : TypeId) (m k x : Operand) : Option St :=
  match P.underlying t with
  | some (.map kt et) => match laidIn P st et x with
    | some st' => match opnd P t st' m, (opnd P kt st' k).bind pure?, (opnd P et st' x).bind pure? with
      | some (.row id), some key, some v => match st'.ob id with
        | some (.mp k' e' ks vs) => bif keyOk P kt key && v.noTup then
            match mput key v ks vs with
            | some (ks', vs') => some { st' with ob := put st'.ob id (some (.mp k' e' ks' vs')) }
            | none => none
          else none
        | _ => none
      | _, _, _ => none
    | none => none
  | _ => none

/-! maps of rows: a row is taken out, grown, and laid in again -/
/-- the name of a row that lies in a map -/
def slotId (id n : Nat) : Nat := 30000 + id + 10000 * n
def mrKey (P : Program) (st : St) (t : TypeId) (m k : Operand) : Option (TypeId × Nat × AV × TypeId × TypeId × Nat × List AV × List (Option (List (List AV)))) :=
  match P.underlying t with
  | some (.map kt et) => match opnd P t st m, (opnd P kt st k).bind pure? with
    | some (.row id), some key => match st.ob id with
      | some (.mr k' e sz ks vs) => bif keyOk P kt key && Nat.blt id 10000 then some (et, id, key, k', e, sz, ks, vs) else none
      | _ => none
    | _, _ => none
  | _ => none
/-- taken out, under the name of the slot -/
def mrOut (P : Program) (st : St) (t : TypeId) (m k : Operand) (d : Nat) : Option St :=
  match mrKey P st t m k with
  | some (et, id, key, k', e, sz, ks, vs) => bif Nat.beq id d then none else match mfind key ks with
    | some (some i) => match vs[i]? with
      | some (some xs) => some ((St.new { st with ob := put st.ob id (some (.mr k' e sz ks (vs.set i none))) } d (.row e sz xs)).set (some d) (.row d))
      | _ => none
    | some none => match zeroVal P et, isSlice P et with
      | some (.lst _ []), some (e', s) => if e = e' ∧ s = sz ∧ 0 < s then some ((st.new d (.row e sz [])).set (some d) (.row d)) else none
      | _, _ => none
    | none => none
  | none => none
/-- laid in -/
def mrIn (P : Program) (st : St) (t : TypeId) (m k x : Operand) : Option St :=
  match mrKey P st t m k with
  | some (et, id, key, k', e, sz, ks, vs) => match x with
    | .const (.slice none 0 0) => match isSlice P et with
      | some (e', s) => if e = e' ∧ s = sz ∧ 0 < s then
          match mput key (some []) ks vs with
          | some (ks', vs') => some { st with ob := put st.ob id (some (.mr k' e sz ks' vs')) }
          | none => none
        else none
      | none => none
    | x => match opnd P et st x with
      | some (.row j) => match st.ob j with
        | some (.row e' s xs) => if e = e' ∧ s = sz ∧ j < 10000 then
            match mput key (some xs) ks vs with
            | some (ks', vs') => let s1 := st.purge j; some { s1 with ob := put s1.ob id (some (.mr k' e sz ks' vs')) }
            | none => none
          else none
        | _ => none
      | _ => none
  | none => none

/-- an operation with an effect on the frame's objects -/
def eff (P : Program) (h : Hint) (callF : CallF) (o : Oper) (st : St) : Option St :=
  match o.dst, o.op with
  | some d, .assign (.const (.slice none 0 0)) => match isSlice P o.type with
    | some (e, s) => if 0 < s then some ((st.new d (.row e s [])).set (some d) (.row d)) else none
    | none => none
  | some d, .assign x => match opnd P o.type st x with
    | some (.row id) => match st.publish id with
      | some st' => match opnd P o.type st' x with
        | some v => some (st'.set (some d) v)
        | none => none
      | none => none
    | _ => none
  | some d, .box t x => match opnd P t st x, aggT P t with
    | some (.pv (.agg cs)), some true => some ((st.new d (.box t (cs.map .pv))).set (some d) (.ptr d 0))
    | some (.ag cs), some true => bif (SV.ag cs).mentions d then none else some ((st.new d (.box t (cs.map capSV))).set (some d) (.ptr d 0))
    | some v, some false => if oneOK st v = true then some ((st.new d (.box t [v.purge d])).set (some d) (.ptr d 0)) else none
    | _, _ => none
  | some d, .alloc t => bif h.rows.contains d then
      match (zeroVals P t).bind fun vs => cellSVs P d 0 (cellTys P 8 t) vs with
      | some (svs, l) => some (((newRows l st).new d (.box t (svs.map (SV.purge d)))).set (some d) (.ptr d 0))
      | none => none
    else match zeroCells P t with
    | some z => some ((st.new d (.box t (z.map .pv))).set (some d) (.ptr d 0))
    | none => none
  | some d, .makeSlice t l c => match isSlice P t, (opnd P 0 st l).bind pure?, (opnd P 0 st c).bind pure? with
    | some (e, s), some (.int _ l), some (.int _ c) => match zeroCells P e, P.info? e with
      | some z, some i => if 0 < s ∧ z.length = s ∧ 0 ≤ l ∧ l ≤ c ∧ i.bytes * c.toNat ≤ 281474976710656 ∧ c ≤ 9223372036854775807 then
          some ((st.new d (.row e s (List.replicate l.toNat z))).set (some d) (.row d)) else none
      | _, _ => none
    | _, _, _ => none
  | some d, .buildSlice t len parts => match litCells P t len parts.toList st with
    | some (e, s, xs) => some ((st.new d (.row e s xs)).set (some d) (.row d))
    | none => none
  | none, .store t a x => match opnd P 0 st a, opnd P t st x with
    | some a, some v => storeAt P t st a v
    | _, _ => none
  | some d, .makeMap t r => match P.underlying t with
    | some (.map k e) => bif reserveOk P st r then
        bif h.rows.contains d then
          match isSlice P e with
          | some (e', s) => if 0 < s then some ((st.new d (.mr k e' s [] [])).set (some d) (.row d)) else none
          | none => none
        else some ((st.new d (.mp k e [] [])).set (some d) (.row d)) else none
    | _ => none
  | none, .mapUpdate t m k x => bif rowMap h m then mrIn P st t m k x else mapStore P st t m k x
  | none, .insert t m k x => bif rowMap h m then mrIn P st t m k x else mapStore P st t m k x
  | some d, .lookup t m k false => bif rowMap h m then mrOut P st t m k d else none
  | some d, .range t x => match P.underlying t, (opnd P t st x).bind pure? with
    | some .string, some (.str s) => some ((st.new d (.it s 0)).set (some d) (.ptr d 0))
    | _, _ => none
  | some d, .next x true => match opnd P 0 st x with
    | some (.ptr id 0) => match st.ob id with
      | some (.it s pos) => if pos < s.length then
          some (St.set { st with ob := put st.ob id (some (.it s (pos + (Utf8.decode ⟨s.toArray⟩ pos).2))) } (some d) (.pv (.tup [.bool true, .int .i64 pos, .int .i32 (Utf8.decode ⟨s.toArray⟩ pos).1])))
        else some (st.set (some d) (.pv (.tup [.bool false])))
      | _ => none
    | _ => none
  | some d, .build t parts => bif h.rows.contains d then buildRows P st d t parts.toList else none
  | some d, .makeFunc (.func g) first caps => bif first.isEmpty then
      match pubCaps st caps.toList with
      | some st' => (capsOf st' caps.toList).map fun vs => st'.set (some d) (.pv (.fn g vs))
      | none => none
    else none
  | d, .call c => match c.callee with
    | .builtin .append => match d, c.args.toList, c.argTypes.toList with
      | some d, [x, y], [t, t'] => match isSlice P t, opnd P t st x, opnd P t' st y with
        | some (e, s), some (.row id), some y => match st.ob id, elems st y, P.info? e with
          | some (.row e' sz xs), some (sz', ys), some i =>
            if t = t' ∧ e = e' ∧ s = sz ∧ sz = sz' ∧ 0 < sz ∧ (xs.length + ys.length) * i.bytes ≤ 140737488355328 ∧ xs.length + ys.length ≤ 4611686018427387904 ∧ i.zero.map (fun z => z.cells.size) = some sz ∧ mayMove id = true then
              some ((st.new id (.row e sz (xs ++ ys))).set (some d) (.row id)) else none
          | _, _, _ => none
        | _, _, _ => none
      | _, _, _ => none
    | .builtin .delete => match d, c.args.toList, c.argTypes.toList with
      | none, [m, k], t :: _ => mapDelete P st t m k
      | _, _, _ => none
    | .builtin .clear => match d, c.args.toList, c.argTypes.toList with
      | none, [x], [t] => match isSlice P t, opnd P t st x with
        | some (e, s), some (.sub id sz lo hi) => match st.ob id, zeroCells P e with
          | some (.row e' sz' xs), some z => if s = sz ∧ sz = sz' ∧ z.length = sz ∧ hi ≤ xs.length ∧ e = e' ∧ 0 < sz then
              some { st with ob := put st.ob id (some (.row e' sz' (xs.take lo ++ List.replicate (hi - lo) z ++ xs.drop hi))) } else none
          | _, _ => none
        | _, _ => none
      | _, _, _ => none
    | .value f => bif d.any h.owns.contains then callOwn P h callF st c f d else bif d.any h.stay.contains && wide st c f then none else bif wide st c f then callMany P h callF st c f d else bif c.args.toList.any (fun x => (refIn h st x).isSome) then callRef P h callF st c f d else
      match publishAll st c.args.toList with
      | some st' => match opnd P 0 st' f, lendAll P st' c.args.toList c.argTypes.toList with
        | some (.pv (.fn g caps)), some vs => match callF g ((vs ++ caps).map .pv) [] with
          | some (r, []) => bif c.args.toList.any (rowIn st') || !r.noSelf then none else some (st'.set d (.pv r))
          | _ => none
        | _, _ => none
      | none => none
    | _ => none
  | _, _ => none
where
  publishAll (st : St) : List Operand → Option St
    | [] => some st
    | .tmp i :: l => match st.env i with
      | some (.row id) => (st.publish id).bind fun st' => publishAll st' l
      | _ => publishAll st l
    | _ :: l => publishAll st l

/-- the rows in a box -/
def pubCells : List SV → St → Option St
  | [], st => some st
  | .row id :: l, st => (st.publish id).bind (pubCells l)
  | _ :: l, st => pubCells l st
def step0 (P : Program) (h : Hint) (callF : CallF) (o : Oper) (st : St) : Option St :=
  match fval P h callF o st with
  | some v => some (st.set o.dst v)
  | none => eff P h callF o st

/-- what slots hold is public data from here on -/
def preOne (st : St) (t : Nat) : Option St :=
  match st.env t with
  | some (.row id) => st.publish id
  | some (.ptr id _) => match st.ob id with
    | some (.box _ cells) => pubCells cells st
    | _ => none
  | _ => some st
def preSlots : List Nat → St → Option St
  | [], st => some st
  | t :: l, st => (preOne st t).bind (preSlots l)
def slotsOf (o : Oper) : List Nat := o.op.operands.toList.filterMap fun
  | .tmp t => some t
  | _ => none
def preOf (h : Hint) (o : Oper) : List Nat := bif h.use.isEmpty then [] else (slotsOf o).filter h.use.contains
def step (P : Program) (h : Hint) (callF : CallF) (o : Oper) (st : St) : Option St := (preSlots (preOf h o) st).bind (step0 P h callF o)

def wantedA (ops : Array Oper) (o : Oper) (st : St) : Option Bool :=
  match o.guard with
  | none => some true
  | some (j, want) => match (ops[j]?).bind (·.dst) with
    | some d => match st.env d with
      | some (.pv (.bool b)) => some (b == want)
      | some .undef => some false
      | _ => none
    | none => none

def runOps (P : Program) (h : Hint) (callF : CallF) (ops : Array Oper) : List Oper → St → Option St
  | [], st => some st
  | o :: l, st => match wantedA ops o st with
    | some b => bif b then (step P h callF o st).bind (runOps P h callF ops l) else runOps P h callF ops l (st.set o.dst .undef)
    | none => none

inductive Ex where
  | normal
  | exit (id : Nat)
  | ret
  deriving DecidableEq

def exOf : Nat → Ex
  | 0 => .normal
  | _ => .ret

def iter (h : Hint) (key : Nat) (f : St → Option (Ex × St)) : Nat → St → Option (Ex × St)
  | 0, _ => none
  | n + 1, st => match f (h.canon key st) with
    | some (.normal, st') => iter h key f n st'
    | r => r

/-! a region whose order is open -/
def readsOf (ops : Array Oper) (o : Oper) : List Nat := slotsOf o ++ match o.guard with
  | some (j, _) => ((ops[j]?).bind (·.dst)).toList
  | none => []
def edgeTo (o : Oper) (j : Nat) : Bool := o.after.toList.any fun e => Region.binds .any e && Nat.beq e.on j
/-- every edge that binds goes back in the text -/
def edgesBack : Nat → List Oper → Bool
  | _, [] => true
  | i, o :: l => o.after.toList.all (fun e => !(Region.binds .any e) || Nat.blt e.on i) && edgesBack (i + 1) l

def reach (ops : Array Oper) : Nat → Nat → Nat → Bool
  | 0, _, _ => false
  | n + 1, i, j => match ops[i]? with
    | some o => edgeTo o j || o.after.toList.any fun e => Region.binds .any e && reach ops n e.on j
    | none => false
/-- what an operation reads and writes: slots, objects; mv: objects that move (what speaks of them is forgotten or turns public); men: whatever it has to do with; we, oe: slots and objects that spoke of what moves; 'all': everything -/
structure Foot where
  rs : List Nat := []
  ws : List Nat := []
  ro : List Nat := []
  wo : List Nat := []
  mv : List Nat := []
  men : List Nat := []
  all : Bool := false
  we : Nat → Bool := fun _ => false
  oe : Nat → Bool := fun _ => false
def meets (a b : List Nat) : Bool := a.any fun x => b.any (Nat.beq x)
/-- a before b in the text -/
def Foot.conflict (a b : Foot) : Bool := a.all || b.all || meets a.ws b.rs || meets a.rs b.ws || meets a.ws b.ws || meets a.wo b.ro || meets a.ro b.wo || meets a.wo b.wo || meets a.mv b.men || meets b.mv a.men || b.rs.any a.we || b.ro.any a.oe

def idsIn (st : St) : List Operand → List Nat
  | [] => []
  | .tmp t :: l => (match st.env t with
    | some s => s.ids
    | none => []) ++ idsIn st l
  | _ :: l => idsIn st l
def opIds (st : St) (o : Oper) : List Nat := idsIn st o.op.operands.toList
def targetId : SV → Option Nat
  | .ptr id _ => some id
  | .rp id _ _ _ => some id
  | _ => none
def allocsOf : List Oper → List Nat
  | [] => []
  | o :: l => match o.op, o.dst with
    | .alloc _, some d => d :: allocsOf l
    | _, _ => allocsOf l
def footOk (ops : Array Oper) (prev : List (Nat × Foot)) (i : Nat) (f : Foot) : Bool := prev.all fun p => !(p.2.conflict f) || reach ops 12 i p.1
/-- these look into no object -/
def noObs : Op → Bool
  | .move _ | .assign _ | .pick _ _ _ => true
  | _ => false
def roFoot (P : Program) (h : Hint) (o : Oper) (st : St) : List Nat :=
  match o.op with
  | .call c => match c.callee with
    | .value f => match roArgs P h st c f with
      | some (_, args) => bif o.dst.any h.stay.contains then roIds st args else []
      | none => []
    | _ => []
  | _ => []
def Ob.mentions (id : Nat) : Ob → Bool
  | .box _ cells => cells.any (SV.mentions id)
  | _ => false
def Ob.ids : Ob → List Nat
  | .box _ cells => cells.flatMap SV.ids
  | _ => []
def envIds (st : St) (t : Nat) : List Nat := match st.env t with
  | some s => s.ids
  | none => []
def obIds (st : St) (j : Nat) : List Nat := match st.ob j with
  | some o => o.ids
  | none => []
def Foot.fill (st st' : St) (f : Foot) : Foot :=
  { f with
    men := f.mv ++ (f.ro ++ (f.wo ++ (f.rs.flatMap (envIds st) ++ (f.ws.flatMap (envIds st') ++ (f.ro.flatMap (obIds st) ++ f.wo.flatMap (obIds st'))))))
    we := fun t => match st.env t with
      | some v => f.mv.any fun id => v.mentions id
      | none => false
    oe := fun j => match st.ob j with
      | some o => f.mv.any fun id => o.mentions id
      | none => false }
def footAll : Foot := { all := true }
def footV (P : Program) (h : Hint) (ops : Array Oper) (o : Oper) (st : St) : Foot := { rs := readsOf ops o, ws := o.dst.toList, ro := bif noObs o.op then [] else opIds st o ++ roFoot P h o st }
def footSkip (ops : Array Oper) (o : Oper) : Foot := { rs := readsOf ops o, ws := o.dst.toList }
def footStore (P : Program) (ops : Array Oper) (o : Oper) (st : St) (a : Operand) : Foot := match (opnd P 0 st a).bind targetId with
  | some id => { rs := readsOf ops o, ro := id :: opIds st o, wo := [id] }
  | none => footAll
/-- an append: the row moves -/
def footApp (P : Program) (ops : Array Oper) (o : Oper) (st : St) (c : Call) : Foot := match c.args.toList, c.argTypes.toList, o.dst with
  | [x, _], [t, _], some d => match opnd P t st x with
    | some (.row id) => { rs := readsOf ops o, ws := [d], ro := id :: opIds st o, wo := [id], mv := [id] }
    | _ => footAll
  | _, _, _ => footAll
/-- the footprint of an operation that is no mere value -/
def footE0 (P : Program) (h : Hint) (ops : Array Oper) (o : Oper) (st : St) : Foot :=
  match o.op, o.dst with
  | .store _ x _, none => footStore P ops o st x
  | .alloc _, some d => bif h.rows.contains d then footAll else { rs := readsOf ops o, ws := [d], wo := [d], mv := [d] }
  | .call c, _ => match c.callee with
    | .builtin .append => footApp P ops o st c
    | .value _ => bif o.dst.any h.owns.contains && !(o.dst.any (fun d => (nilAt h d).isSome)) then { rs := readsOf ops o, ws := o.dst.toList, wo := o.dst.toList, mv := o.dst.toList } else footAll
    | _ => footAll
  | _, _ => footAll

def purgeAll : List Nat → St → St
  | [], st => st
  | p :: l, st => purgeAll l (st.purge p)

/-- the operations that only give a value -/
def isF (h : Hint) (st : St) (o : Oper) : Bool :=
  match o.op with
  | .buildSlice _ _ _ => !(o.dst.any h.rows.contains)
  | .call c => match c.callee with
    | .builtin .append => false
    | .builtin .delete => false
    | .builtin .clear => false
    | .value f => !(o.dst.any h.owns.contains) && ((o.dst.any h.stay.contains && wide st c f) || !(wide st c f || c.args.toList.any (fun x => (refIn h st x).isSome)))
    | _ => true
  | .assign x => match o.dst, x with
    | some d, .const (.slice none 0 0) => !(h.rows.contains d)
    | some d, _ => !(h.pubs.contains d)
    | none, _ => true
  | .lookup _ x _ ok => !(rowMap h x && !ok)
  | .makeFunc _ _ _ | .move _ | .pick _ _ _ | .binOp _ _ _ _ _ | .unOp _ _ _ | .convert _ _ _ | .fieldAddr _ _ _ | .field _ _ _ | .indexAddr _ _ _ | .index _ _ _ | .load _ _ | .slice _ _ _ _ _ | .extract _ _ | .nilCheck _ => true
  | .build _ _ => !(o.dst.any h.rows.contains)
  | _ => false

def isW : Op → Bool
  | .buildSlice _ _ _ | .build _ _ | .load _ _ => true
  | _ => false
/-- what is published ahead of an operation -/
def rowsIn : List SV → List Nat
  | [] => []
  | .row id :: l => id :: rowsIn l
  | _ :: l => rowsIn l
def preFoot (st : St) (t : Nat) : Foot :=
  match st.env t with
  | some (.row id) => { rs := [t], ro := [id], wo := [id], mv := [id] }
  | some (.ptr id _) => match st.ob id with
    | some (.box _ cells) => { rs := [t], ro := id :: rowsIn cells, wo := rowsIn cells, mv := rowsIn cells }
    | _ => footAll
  | _ => { rs := [t] }
def Foot.then (a b : Foot) : Foot := { rs := a.rs ++ b.rs, ws := b.ws ++ a.ws, ro := a.ro ++ b.ro, wo := b.wo ++ a.wo, mv := a.mv ++ b.mv, all := a.all || b.all }
/-- an operation, behind what is published ahead of it -/
def footP (P : Program) (h : Hint) (ops : Array Oper) (o : Oper) : List Nat → St → Foot
  | [], st => bif isF h st o then (bif isW o.op then footV P h ops o st else footAll) else footE0 P h ops o st
  | t :: l, st => match preOne st t with
    | some st1 => (preFoot st t).then (footP P h ops o l st1)
    | none => footAll
def footE (P : Program) (h : Hint) (ops : Array Oper) (o : Oper) (st : St) : Foot := (footP P h ops o (preOf h o) st).then { rs := readsOf ops o }

def runDraw (P : Program) (h : Hint) (callF : CallF) (ops : Array Oper) : Nat → List Oper → List (Nat × Foot) → St → Option St
  | _, [], _, st => some st
  | i, o :: l, prev, st => match wantedA ops o st with
    | none => none
    | some b => bif b then
        bif isF h st o && (preOf h o).isEmpty then
          match fval P h callF o st with
          | some v => bif footOk ops prev i ((footV P h ops o st).fill st (st.set o.dst v)) then runDraw P h callF ops (i + 1) l ((i, (footV P h ops o st).fill st (st.set o.dst v)) :: prev) (st.set o.dst v) else none
          | none => none
        else match step P h callF o st with
          | some st' => bif footOk ops prev i ((footE P h ops o st).fill st st') then runDraw P h callF ops (i + 1) l ((i, (footE P h ops o st).fill st st') :: prev) st' else none
          | none => none
      else bif footOk ops prev i ((footSkip ops o).fill st (st.set o.dst .undef)) then runDraw P h callF ops (i + 1) l ((i, (footSkip ops o).fill st (st.set o.dst .undef)) :: prev) (st.set o.dst .undef) else none

def St.pubAny (st : St) (id : Nat) : Option St :=
  match st.ob id with
  | some (.box _ _) => st.pubBox id
  | none => some st
  | _ => st.publish id
def pubObs : List Nat → St → Option St
  | [], st => some st
  | id :: l, st => (st.pubAny id).bind (pubObs l)
/-- objects that are published ahead of a region -/
def Hint.pubR (h : Hint) (id : Nat) (st : St) : Option St :=
  match find h.pubAt id with
  | some l => pubObs l st
  | none => some st

def exec (P : Program) (h : Hint) (callF : CallF) (n : Nat) : Code → St → Option (Ex × St)
  | .skip, st => some (.normal, st)
  | .label _, st => some (.normal, st)
  | .region id ops draw, st => (h.pubR id st).bind fun st =>
    bif draw then
      bif edgesBack 0 ops.toList then (runDraw P h callF ops 0 ops.toList [] (purgeAll (allocsOf ops.toList) st)).map fun s => (.normal, s) else none
    else (runOps P h callF ops ops.toList st).map fun s => (.normal, s)
  | .seq a b, st => match find h.blk (firstRegion a) with
    | some x => bif x.1 st then some (exOf (x.2 st).1, (x.2 st).2) else none
    | none => match exec P h callF n a st with
      | some (.normal, st') => exec P h callF n b st'
      | r => r
  | .cond c a b, st => match opnd P 0 st c with
    | some (.pv (.bool t)) => bif t then exec P h callF n a st else exec P h callF n b st
    | _ => none
  | .block id c, st => match exec P h callF n c st with
    | some (.exit j, st') => bif Nat.beq j id then some (.normal, st') else some (.exit j, st')
    | r => r
  | .loop c, st => iter h (firstRegion c) (exec P h callF n c) n st
  | .exit id, st => some (.exit id, st)
  | .ret, st => some (.ret, st)
  | .scope c, st => exec P h callF n c st
  | _, _ => none

/-! calls -/
def argEnv : Nat → List SV → List (Nat × SV)
  | _, [] => []
  | i, v :: l => (i, v) :: argEnv (i + 1) l

def St.pubDeep (st : St) (id : Nat) : Option St :=
  match st.ob id with
  | some (.box _ cells) => (pubCells cells st).bind fun st' => st'.pubBox id
  | _ => none
def pubSlot (st : St) (t : Nat) : Option (St × AV) :=
  match st.env t with
  | some (.pv v) => some (st, v)
  | some (.ptr id 0) => match st.pubDeep id with
    | some st' => match st'.env t with
      | some (.cp cs) => some (st', .ref cs)
      | _ => none
    | none => none
  | some (.row id) => match st.publish id with
    | some st' => match st'.env t with
      | some (.pv v) => some (st', v)
      | _ => none
    | none => none
  | _ => none

def takeRes (P : Program) : List ResultVar → St → Option (St × List AV)
  | [], st => some (st, [])
  | .tmp t :: l, st => match pubSlot st t with
    | some (st', v) => match takeRes P l st' with
      | some (st2, vs) => some (st2, v :: vs)
      | none => none
    | none => none
  | .cell ad t :: l, st => match pval P ⟨none, .load t (.tmp ad), t, "", #[], none⟩ st with
    | some (.pv v) => match takeRes P l st with
      | some (st2, vs) => some (st2, v :: vs)
      | none => none
    | some (.row id) => match st.publish id with
      | some st' => match pval P ⟨none, .load t (.tmp ad), t, "", #[], none⟩ st' with
        | some (.pv v) => match takeRes P l st' with
          | some (st2, vs) => some (st2, v :: vs)
          | none => none
        | _ => none
      | none => none
    | _ => none

def result : List AV → AV
  | [v] => v
  | vs => .tup vs

def backAll (names : List Nat) (st : St) : List Nat → Option (List (Nat × Ob))
  | [] => some []
  | id :: l => match st.ob id, backAll names st l with
    | some o, some os => bif o.closed names then some ((id, o) :: os) else none
    | _, _ => none

/-- what is asked of a program: every slot that is written is one of the frame's -/
def dstsOk (N : Nat) : Code → Bool
  | .region _ ops _ => ops.toList.all fun o => match o.dst with
    | some d => Nat.blt d N
    | none => true
  | .seq a b => dstsOk N a && dstsOk N b
  | .cond _ a b => dstsOk N a && dstsOk N b
  | .block _ c => dstsOk N c
  | .loop c => dstsOk N c
  | .scope c => dstsOk N c
  | _ => true
def funcOk (fn : Func) : Bool := Nat.ble fn.ntmps 10000 && !(fn.name == "runtime.NumGoroutine") && match fn.body with
  | some c => dstsOk fn.ntmps c
  | none => true
def progOk (P : Program) : Bool := P.follows .mixedOrders && P.funcs.toList.all funcOk

/-- a result that is the lent row, or its beginning -/
def selfRes (fn : Func) (names : List Nat) (st : St) : Option Nat :=
  match fn.results.toList, names with
  | [.tmp t], [10000] => match st.env t, st.ob 10000 with
    | some (.row 10000), some (.row _ _ xs) => some xs.length
    | some (.sub 10000 _ 0 n), some (.row _ _ _) => some n
    | _, _ => none
  | _, _ => none

/-- a result that is a row of the call's own -/
def ownRes (fn : Func) (st : St) : Option AV :=
  match fn.results.toList with
  | [.tmp t] => match st.env t with
    | some (.row id) => match ownId id, st.ob id with
      | true, some (.row e sz xs) => some (.tup [.self e, .lst sz xs])
      | _, _ => none
    | _ => none
  | _ => none
def endN (P : Program) (own : Bool) (fn : Func) (names : List Nat) (e : Ex) (st : St) : Option (AV × List (Nat × Ob)) :=
  match e with
  | .exit _ => none
  | _ => bif own then
      match ownRes fn st, backAll names st names with
      | some r, some l => some (r, l)
      | _, _ => none
    else match selfRes fn names st with
    | some n => match backAll names st names with
      | some l => some (.self n, l)
      | none => none
    | none => match takeRes P fn.results.toList st with
      | some (st', vs) => match backAll names st' names with
        | some l => some (result vs, l)
        | none => none
      | none => none
def endK (P : Program) (own : Bool) (fn : Func) (lent : List (Nat × Ob)) (e : Ex) (st : St) : Option (AV × List (Nat × Ob)) := endN P own fn (lent.map (·.1)) e st

def callD (P : Program) (H : Nat → Hint) (prim : CallF) : Nat → CallF
  | 0 => fun _ _ _ => none
  | n + 1 => fun f args lent =>
    match prim f args lent with
    | some r => some r
    | none => match P.funcs[f]? with
      | some fn => match fn.body with
        | some c =>
          bif Nat.ble args.length fn.ntmps && (lent.map (·.1)).all (fun i => !(ownId i)) then
            match exec P (H f) (callD P H prim n) n c { env := find (argEnv 0 args), ob := find lent } with
            | some (e, st) => endK P (H f).own fn lent e st
            | none => none
          else none
        | none => none
      | none => none

end Go.AM
