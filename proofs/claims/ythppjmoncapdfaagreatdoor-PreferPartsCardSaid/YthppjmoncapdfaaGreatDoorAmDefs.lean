/- AN ABSTRACT MACHINE over the model's code. -/
import Derived.Calls
import Derived.CallsIn
import Derived.OrdersIn
import Derived.LoopNIn
import Derived.TacticsIn
import Derived.RangeFuncIn
import Derived.Orders
import Derived.LoopN
import Derived.Scope
import Derived.Below
import Derived.Laws.OwnMore
import Derived.Maps.AppendAt
import Derived.Laws.BytesString
namespace Go.AM
inductive AV where
 |bool (b:Bool)
 |int (k:IntKind) (n:Int)
 |str (s:List UInt8)
 |aW (sz:Nat) (xs:List (List AV))
 |agg (cs:List AV)
 |fn (f:Nat) (caps:List AV)
 |dI (vs:List AV)
 |ref (cs:List AV)
 |mp (ks vs:List AV)
 |self (n:Nat)
 |tX
 |lE
 |hole
 deriving Inhabited
inductive jJ where
 |v (a:AV)
 |p (id:Nat)
 |r (id:Nat)
 deriving Inhabited
inductive Ak where
 |full
 |nr (i:Nat)
 deriving Inhabited
inductive SV where
 |undef
 |any
 |pv (v:AV)
 |ptr (id off:Nat)
 |row (id:Nat)
 |rp (id sz i off:Nat)
 |sub (id sz lo hi:Nat)
 |cp (cs:List AV)
 |cl (f:Nat) (caps:List jJ)
 |two (v:SV) (b:Bool)
 |ag (cs:List jJ)
 |at (id:Nat) (q:Ak)
 deriving Inhabited
inductive Ob where
 |box (t:TypeId) (cells:List SV)
 |row (e:TypeId) (sz:Nat) (xs:List (List AV))
 |mp (k e:TypeId) (ks vs:List AV)
 |mr (k e:TypeId) (sz:Nat) (ks:List AV) (vs:List (Option (List (List AV))))
 |it (s:List UInt8) (pos:Nat)
  |lp (xs:List AV)
  |rn (e:TypeId) (sz k:Nat) (e':TypeId) (sz':Nat) (xs:List (List AV)) (ys:List (Option (List (List AV))))
 deriving Inhabited
structure St where
 env:Nat→Option SV
 ob:Nat→Option Ob
def AV.cells:AV→List AV
 | .agg cs=>cs
 |v=>[v]
def AV.AL:AV→Bool
 | .dI _=>false
 |_=>true
def AV.SG:AV→Bool
 | .dI _=>true
 |_=>false
def AV.gu:AV→Bool
 | .self _=>false
 | .dI vs=>bif Nat.beq vs.length 1 then !(vs.any AV.SG) else true
 |_=>true
def AV.scalar:AV→Bool
 | .bool _| .int _ _| .str _=>true
 |_=>false
def AV.plain:AV→Bool
 | .dI vs=>vs.all AV.scalar
 |v=>v.scalar
def find {α:Type}:List (Nat×α)→Nat→Option α
 |[],_=>none
 |(j,v)::l,i=>cond (Nat.beq j i) (some v) (find l i)
def put {α:Type} (m:Nat→Option α) (d:Nat) (v:Option α):Nat→Option α:=fun i=>cond (Nat.beq d i) v (m i)
def St.set (st:St) (d:Option Nat) (v:SV):St:=
 match d with
 |some d=>{ st with env:=put st.env d (some v) }
 |none=>st
structure Hint where
 loops:List (Nat×List Nat×List Nat):=[]
 rows:List Nat:=[]
 bw:List Nat:=[]
 aJ:List Nat:=[]
 jt:List (Nat×List Nat):=[]
 stay:List Nat:=[]
 keep:List Nat:=[]
 blk:List (Nat×(St→Bool)×(St→Nat×St)):=[]
 use:List Nat:=[]
 owns:List Nat:=[]
 own:Bool:=false
 lE:List (Nat×List (Nat×TypeId×Nat)):=[]
 take:List Nat:=[]
 YR:List (Nat×List Nat):=[]
 nest:List (Nat×Nat×TypeId×Nat):=[]
 Zt:List Nat:=[]
 bx:List Nat:=[]
def nE {α:Type} (m:Nat→Option α):List Nat→List (Nat×α)
 |[]=>[]
 |i::l=>match m i with
  |some v=>(i,v)::nE m l
  |none=>nE m l
def Hint.canon (h:Hint) (key:Nat) (st:St):St:=
 match find h.loops key with
 |some (vars,obs)=>{ env:=find (nE st.env vars),ob:=find (nE st.ob obs) }
 |none=>st
def cE:Code→Nat
 | .region id _ _=>id
 | .seq a _=>cE a
 | .cond _ a _=>cE a
 | .block _ c=>cE c
 | .loop c=>cE c
 | .scope c=>cE c
 |_=>0
def isSlice (P:Program) (t:TypeId):Option (TypeId×Nat):=
 match P.underlying t with
 |some (.slice e)=>(P.info? e).map fun i=>(e,i.size)
 |_=>none
def xD (P:Program) (t:TypeId):Option Bool:=
 match P.underlying t with
 |some (.struct _)|some (.array _ _)=>some true
 |some _=>some false
 |none=>none
def gB (P:Program) (t:TypeId):Option Nat:=(P.info? t).map (·.size)
def ofConst (P:Program) (t:TypeId):Value→Option AV
 | .bool b=>some (.bool b)
 | .int k n=>some (.int k n)
 | .string s=>some (.str s.data.toList)
 | .slice none 0 0=>(isSlice P t).map fun x=> .aW x.2 []
 | .pointer none=>some .tX
 | .nilFunc=>some .hole
 | .map none=>match P.underlying t with
  |some (.map _ _)=>some (.mp [] [])
  |_=>none
 |_=>none
def aR (P:Program) (t:TypeId) (st:St):Operand→Option SV
 | .tmp i=>st.env i
 | .const v=>(ofConst P t v).map .pv
 | .func f=>some (.pv (.fn f []))
 | .global _=>none
def oE (P:Program):Nat→TypeId→List TypeId
 |0,_=>[]
 |n+1,t=>match P.underlying t with
  |some (.struct fs)=>fs.toList.flatMap fun f=>oE P n f.type
  |some (.array m e)=>(List.replicate m (oE P n e)).flatten
  |_=>[t]
def iw (P:Program):List TypeId→List Value→Option (List AV)
 |[],[]=>some []
 |t::ts,v::vs=>match ofConst P t v,iw P ts vs with
  |some a,some as=>some (a::as)
  |_,_=>none
 |_,_=>none
def zeroCells (P:Program) (t:TypeId):Option (List AV):=
 match P.info? t with
 |some i=>match i.zero with
  |some z=>iw P (oE P 8 t) z.cells.toList
  |none=>none
 |none=>none
def yI:List Nat→List AV→Option (List AV)
 |[],cs=>some cs
 |k::ks,cs=>match cs[k]? with
  |some (.aW _ [])=>(yI ks cs).map fun z=>z.set k .lE
  |_=>none
def Fx (P:Program) (h:Hint) (d:Option Nat) (t:TypeId):Option (List AV):=
 match d.bind (find h.YR) with
 |some ks=>(zeroCells P t).bind (yI ks)
 |none=>zeroCells P t
def za (op:BinOp) (k:IntKind) (a b:Int):Option AV:=
 match op with
 | .add=>some (.int k (k.wrap (a+b)))
 | .sub=>some (.int k (k.wrap (a-b)))
 | .mul=>some (.int k (k.wrap (a *b)))
 | .quo=>if b=0 then none else some (.int k (k.wrap (a.tdiv b)))
 | .rem=>if b=0 then none else some (.int k (a.tmod b))
 | .and=>some (.int k (k.wrap (BitVec.ofInt k.bits a&&&BitVec.ofInt k.bits b).toNat))
 | .or=>some (.int k (k.wrap (BitVec.ofInt k.bits a|||BitVec.ofInt k.bits b).toNat))
 | .xor=>some (.int k (k.wrap (BitVec.ofInt k.bits a^^^ BitVec.ofInt k.bits b).toNat))
 | .andNot=>some (.int k (k.wrap (BitVec.ofInt k.bits a&&& ~~~BitVec.ofInt k.bits b).toNat))
 | .eql=>some (.bool (a==b))
 | .neq=>some (.bool (a !=b))
 | .lss=>some (.bool (a<b))
 | .leq=>some (.bool (a≤b))
 | .gtr=>some (.bool (a>b))
 | .geq=>some (.bool (a≥b))
 | .shl| .shr=>none
def uU (op:BinOp) (k:IntKind) (a b:Int):Option AV:=
 if b<0 then none else
 match op with
 | .shl=>some (.int k (k.wrap (a *2^ min b.toNat k.bits)))
 | .shr=>some (.int k (a.fdiv (2^ min b.toNat k.bits)))
 |_=>none
def Nk (op:BinOp) (a b:List UInt8):Option AV:=
 match op with
 | .add=>if a.length+b.length≤9223372036854775807 then some (.str (a++b)) else none
 | .eql=>some (.bool (a==b))
 | .neq=>some (.bool !(a==b))
 | .lss=>some (.bool (Op.bytesLess a b))
 | .leq=>some (.bool (Op.bytesLess a b||a==b))
 | .gtr=>some (.bool !(Op.bytesLess a b||a==b))
 | .geq=>some (.bool !(Op.bytesLess a b))
 |_=>none
def p9:AV→AV→Option Bool
 | .str a, .str b=>some (a==b)
 | .int k a, .int k' b=>if k=k' then some (a==b) else none
 | .bool a, .bool b=>some (a==b)
 |_,_=>none
def fI (P:Program) (k:TypeId) (key:AV):Bool:=
 match P.underlying k,key with
 |some .string, .str _=>true
 |some (.int q), .int q' _=>q==q'
 |some .bool, .bool _=>true
 |_,_=>false
def ER (P:Program) (xs ys:List AV):List Field→Option Bool
 |[]=>some true
 |f::fs=>match xs[f.offset]?,ys[f.offset]? with
  |some a,some b=>bif !(f.name== "_")&&fI P f.type a&&fI P f.type b&&(gB P f.type).isSome then
    match p9 a b,ER P xs ys fs with
    |some r,some q=>some (r&&q)
    |_,_=>none
   else none
  |_,_=>none
def Lc (P:Program) (op:BinOp) (t:TypeId) (xs ys:List AV):Option AV:=
 match P.underlying t with
 |some (.struct fs)=>bif !(P.stoodInHeld t)&& !(P.eqGuardType P.depth t) then
   match op,ER P xs ys fs.toList with
   | .eql,some b=>some (.bool b)
   | .neq,some b=>some (.bool !b)
   |_,_=>none
  else none
 |_=>none
def bin (P:Program) (op:BinOp) (t:TypeId) (x y:AV):Option AV:=
 match x,y with
 | .agg xs, .agg ys=>Lc P op t xs ys
 | .int k a, .int k' b=>match op with
  | .shl| .shr=>uU op k a b
  |_=>if k=k' then za op k a b else none
 | .str a, .str b=>Nk op a b
 | .bool a, .bool b=>match P.underlying t,op with
  |some .bool, .eql=>some (.bool (a==b))
  |some .bool, .neq=>some (.bool !(a==b))
  |_,_=>none
 |_,_=>none
def un (op:UnOp) (x:AV):Option AV:=
 match op,x with
 | .neg, .int k n=>some (.int k (k.wrap (0-n)))
 | .not, .bool b=>some (.bool !b)
 |_,_=>none
def eR :SV→Option AV
 | .pv v=>some v
 |_=>none
def jm:List SV→Option (List AV)
 |[]=>some []
 | .pv v::l=>(jm l).map (v:: ·)
 |_::_=>none
def qK:List SV→Option (List jJ)
 |[]=>some []
 | .pv v::l=>(qK l).map (.v v:: ·)
 | .row id::l=>(qK l).map (.r id:: ·)
 |_::_=>none
def eS (P:Program) (t:TypeId) (cs:List AV):Option AV:=
 match xD P t,gB P t with
 |some true,some n=>if n≤cs.length then some (.agg (cs.take n)) else none
 |some false,some _=>cs[0]?
 |_,_=>none
def qN (P:Program) (t:TypeId) (f:Nat):Option Field:=
 match P.underlying t with
 |some (.struct fs)=>fs[f]?
 |_=>none
def rM (place:Nat→Option (Nat×Nat)) (cells:List AV):List (Nat×AV)→Option (List AV)
 |[]=>some cells
 |(i,v)::rest=>
  match place i with
  |none=>none
  |some (off,size)=>
   if v.cells.length=size∧off+size≤cells.length then rM place (cells.take off++v.cells++cells.drop (off+size)) rest else none
def jF (P:Program) (t:TypeId) (f:Nat):Option (Nat×Nat):=
 match qN P t f with
 |some fd=>(gB P fd.type).map fun n=>(fd.offset,n)
 |none=>none
def partsOf (P:Program) (ty:Nat→TypeId) (st:St):List (Nat×Operand)→Option (List (Nat×AV))
 |[]=>some []
 |(i,x)::l=>match (aR P (ty i) st x).bind eR,partsOf P ty st l with
  |some v,some vs=>some ((i,v)::vs)
  |_,_=>none
def N4 (P:Program) (t:TypeId) (i:Nat):TypeId:=((qN P t i).map (·.type)).getD 0
def chunks (sz:Nat):Nat→List AV→List (List AV)
 |0,_=>[]
 |n+1,l=>l.take sz::chunks sz n (l.drop sz)
def nY (z:List AV):Nat→List AV
 |0=>[]
 |n+1=>z++nY z n
def elems (st:St):SV→Option (Nat×List (List AV))
 | .pv (.aW sz xs)=>some (sz,xs)
 | .row id=>match st.ob id with
  |some (.row _ sz xs)=>some (sz,xs)
  |_=>none
 | .sub id s lo hi=>match st.ob id with
  |some (.row _ sz xs)=>bif Nat.beq s sz then some (sz,(xs.take hi).drop lo) else none
  |_=>none
 |_=>none
def lenOf (st:St):SV→Option Nat
 | .pv (.aW _ xs)=>some xs.length
 | .row id=>match st.ob id with
  |some (.row _ _ xs)=>some xs.length
  |some (.rn _ _ _ _ _ xs _)=>some xs.length
  |_=>none
 |_=>none
def j8 (key:AV):List AV→Option (Option Nat)
 |[]=>some none
 |x::l=>match p9 key x with
  |some true=>some (some 0)
  |some false=>(j8 key l).map fun r=>r.map (· +1)
  |none=>none
def Kb {α:Type} (key:AV) (ks:List AV) (vs:List α):Option (Option α):=
 match j8 key ks with
 |some (some i)=>(vs[i]?).map some
 |some none=>some none
 |none=>none
def vr {α:Type} (key:AV) (v:α) (ks:List AV) (vs:List α):Option (List AV×List α):=
 match j8 key ks with
 |some (some i)=>some (ks,vs.set i v)
 |some none=>some (ks++[key],vs++[v])
 |none=>none
def YP {α:Type} (key:AV) (ks:List AV) (vs:List α):Option (List AV×List α):=
 match j8 key ks with
 |some (some i)=>some (ks.eraseIdx i,vs.eraseIdx i)
 |some none=>some (ks,vs)
 |none=>none
def maps (st:St):SV→Option (List AV×List AV)
 | .pv (.mp ks vs)=>some (ks,vs)
 | .row id=>match st.ob id with
  |some (.mp _ _ ks vs)=>some (ks,vs)
  |_=>none
 |_=>none
def AF (st:St):SV→Option (List AV)
 | .row id=>match st.ob id with
  |some (.mr _ _ _ ks _)=>some ks
  |_=>none
 |_=>none
def j7 (P:Program) (t:TypeId):Option AV:=
 match P.info? t with
 |some i=>match i.zero with
  |some (.agg cs)=>(iw P (oE P 8 t) cs.toList).map .agg
  |some v=>ofConst P t v
  |none=>none
 |none=>none
def found (ok:Bool) (v:AV) (b:Bool):AV:=bif ok then .dI [v, .bool b] else v
def bytesOf:List (List AV)→Option (List UInt8)
 |[]=>some []
 |[.int .u8 n]::l=>(bytesOf l).map (UInt8.ofNat n.toNat:: ·)
 |_=>none
def eD (lo:Option SV) (dflt:Nat) (hi:Nat):Option Nat:=
 match lo with
 |none=>some dflt
 |some (.pv (.int _ i))=>if 0≤i∧i≤hi then some i.toNat else none
 |some _=>none
def gK (P:Program) (st:St):Option Operand→Option (Option SV)
 |none=>some none
 |some x=>(aR P 0 st x).map some
def MV (isMax:Bool):AV→AV→Option AV
 | .int k a, .int k' b=>if k=k' then some (.int k (if isMax then (if b>a then b else a) else (if b<a then b else a))) else none
 | .str a, .str b=>some (.str (bif isMax then (bif !(Op.bytesLess a b) then a else b) else (bif Op.bytesLess a b||a==b then a else b)))
 |_,_=>none
def fh (P:Program) (st:St) (isMax:Bool) (acc:AV):List Operand→Option AV
 |[]=>some acc
 |x::l=>match (aR P 0 st x).bind eR with
  |some v=>match MV isMax acc v with
   |some r=>fh P st isMax r l
   |none=>none
  |none=>none
def sd (P:Program) (c:Call) (st:St):Option SV:=
 match c.callee,c.args.toList with
 | .builtin .len,[x]=>match c.argTypes.toList with
  |[t]=>match P.underlying t,aR P t st x with
   |some .string,some (.pv (.str s))=>some (.pv (.int .i64 s.length))
   |some (.slice _),some (.pv .lE)=>some (.pv (.int .i64 0))
   |some (.slice _),some (.sub _ _ lo hi)=>some (.pv (.int .i64 ((hi-lo:Nat):Int)))
   |some (.slice _),some v=>(lenOf st v).map fun (n:Nat)=>SV.pv (.int .i64 (n:Int))
   |some (.map _ _),some v=>(maps st v).map fun e=> .pv (.int .i64 e.1.length)
   |_,_=>none
  |_=>none
 | .builtin .max,x::l=>match (aR P 0 st x).bind eR with
  |some v=>(fh P st true v l).map .pv
  |none=>none
 | .builtin .min,x::l=>match (aR P 0 st x).bind eR with
  |some v=>(fh P st false v l).map .pv
  |none=>none
 |_,_=>none
def sM (P:Program) (st:St) (n:Nat) (e:TypeId) (x ix:Operand):Option SV:=
 match gB P e,aR P 0 st x,aR P 0 st ix with
 |some s,some (.ptr id off),some (.pv (.int _ i))=>if 0≤i∧i<n∧0<s then some (.ptr id (off+i.toNat *s)) else none
 |some s,some (.rp id sz j off),some (.pv (.int _ i))=>if 0≤i∧i<n∧0<s then some (.rp id sz j (off+i.toNat *s)) else none
 |some s,some (.cp cs),some (.pv (.int _ i))=>if 0≤i∧i<n∧0<s then some (.cp (cs.drop (i.toNat *s))) else none
 |_,_,_=>none
def rP (P:Program) (st:St) (t:TypeId) (x ix:Operand):Option SV:=
 match isSlice P t,aR P t st x,aR P 0 st ix with
 |some (_,s),some (.pv (.aW sz xs)),some (.pv (.int _ i))=>
  if s=sz∧0≤i then (xs[i.toNat]?).map .cp else none
 |some (_,s),some (.row id),some (.pv (.int _ i))=>match st.ob id with
  |some (.row _ sz xs)=>if s=sz∧0≤i∧i.toNat<xs.length then some (.rp id sz i.toNat 0) else none
  |some (.rn _ sz _ _ _ xs _)=>if s=sz∧0≤i∧i.toNat<xs.length then some (.rp id sz i.toNat 0) else none
  |_=>none
 |some (_,s),some (.sub id sz lo hi),some (.pv (.int _ i))=>if s=sz∧0≤i∧i.toNat<hi-lo then some (.rp id sz (lo+i.toNat) 0) else none
 |_,_,_=>none
def sD (P:Program) (z:Option (List AV)) (t:TypeId) (parts:Array (Nat×Operand)) (st:St):Option SV:=
 match P.underlying t with
 |some (.struct fs)=>match z,partsOf P (N4 P t) st parts.toList with
  |some z,some ps=>if ps.all (fun p=>p.2.AL)=true∧fs.toList.all (fun f=>(gB P f.type).isSome)=true then (rM (jF P t) z ps).map fun cs=> .pv (.agg cs) else none
  |_,_=>none
 |some (.array _ e)=>match z,partsOf P (fun _=>e) st parts.toList,gB P e with
  |some z,some ps,some s=>if ps.all (fun p=>p.2.AL)=true then (rM (fun i=>some (i *s,s)) z ps).map fun cs=> .pv (.agg cs) else none
  |_,_,_=>none
 |_=>none
def N6 (P:Program) (st:St) (t:TypeId) (x:Operand) (lo hi:Option Operand) (mx:Operand):Option SV:=
 match lo,hi with
 |none,some hi=>match aR P t st x with
  |some (.row id)=>match st.ob id,isSlice P t,aR P 0 st hi,aR P 0 st mx with
   |some (.row _ sz xs),some (_,s),some (.pv (.int _ a)),some (.pv (.int _ b))=>if s=sz∧a=(xs.length:Int)∧b=(xs.length:Int) then some (.at id .full) else none
   |_,_,_,_=>none
  |_=>none
 |_,_=>none
def c7 (P:Program) (o:Oper) (st:St):Option SV:=
 match o.op with
 | .move x| .assign x=>aR P o.type st x
 | .pick c a b=>match aR P 0 st c with
  |some (.pv (.bool t))=>bif t then aR P o.type st a else aR P o.type st b
  |_=>none
 | .binOp op t x y _=>match (aR P t st x).bind eR,(aR P t st y).bind eR with
  |some a,some b=>(bin P op t a b).map .pv
  |_,_=>none
 | .unOp op _ x=>match (aR P 0 st x).bind eR with
  |some a=>(un op a).map .pv
  |none=>none
 | .convert src dst x=>match P.underlying src,P.underlying dst with
  |some (.slice e),some .string=>match P.underlying e,gB P e,(aR P src st x).bind (elems st) with
   |some (.int .u8),some 1,some (1,xs)=>(bytesOf xs).map fun b=> .pv (.str b)
   |_,_,_=>none
  |some _,some (.int k)=>match (aR P 0 st x).bind eR with
   |some (.int _ n)=>some (.pv (.int k (k.wrap n)))
   |_=>none
  |some _,some .string=>match (aR P 0 st x).bind eR with
   |some (.str s)=>some (.pv (.str s))
   |_=>none
  |_,_=>none
 | .call c=>sd P c st
 | .nilCheck x=>match aR P 0 st x with
  |some (.ptr id off)=>some (.ptr id off)
  |some (.cp cs)=>some (.cp cs)
  |some (.pv (.ref cs))=>some (.pv (.ref cs))
  |some (.rp id sz i off)=>some (.rp id sz i off)
  |_=>none
 | .fieldAddr t x f=>match qN P t f with
  |some fd=>match gB P fd.type with
   |some 0=>none
   |some _=>match aR P 0 st x with
    |some (.ptr id off)=>some (.ptr id (off+fd.offset))
    |some (.cp cs)=>some (.cp (cs.drop fd.offset))
    |some (.pv (.ref cs))=>some (.cp (cs.drop fd.offset))
    |some (.rp id sz i off)=>some (.rp id sz i (off+fd.offset))
    |_=>none
   |none=>none
  |none=>none
 | .field t x f=>match qN P t f,(aR P 0 st x).bind eR with
  |some fd,some (.agg cs)=>(eS P fd.type (cs.drop fd.offset)).map .pv
  |_,_=>none
 | .indexAddr t x ix=>match P.underlying t with
  |some (.array n e)=>sM P st n e x ix
  |_=>rP P st t x ix
 | .index t x ix=>match P.underlying t,aR P t st x,aR P 0 st ix with
  |some .string,some (.pv (.str s)),some (.pv (.int _ i))=>
   if 0≤i then (s[i.toNat]?).map fun b=> .pv (.int .u8 b.toNat) else none
  |_,_,_=>none
 | .load t x=>match aR P 0 st x with
  |some (.cp cs)=>(eS P t cs).map .pv
  |some (.pv (.ref cs))=>(eS P t cs).map .pv
  |some (.rp id sz i off)=>match st.ob id with
   |some (.row _ sz' xs)=>if sz=sz' then (xs[i]?).bind fun c=>(eS P t (c.drop off)).map .pv else none
   |some (.rn _ sz' k _ _ xs _)=>if sz=sz'∧off=k∧i<xs.length∧xD P t=some false then some (.at id (.nr i)) else none
   |_=>none
  |some (.ptr id off)=>match st.ob id with
   |some (.box _ cells)=>match xD P t with
    |some false=>if (gB P t).isSome then cells[off]? else none
    |some true=>match gB P t with
     |some n=>if off+n≤cells.length then match jm ((cells.drop off).take n) with
       |some cs=>some (.pv (.agg cs))
       |none=>(qK ((cells.drop off).take n)).map .ag
      else none
     |none=>none
    |none=>none
   |_=>none
  |_=>none
 | .slice t x lo hi none=>match P.underlying t,aR P t st x,gK P st lo,gK P st hi with
  |some .string,some (.pv (.str s)),some lo,some hi=>match eD hi s.length s.length with
   |some h=>(eD lo 0 h).map fun l=> .pv (.str ((s.take h).drop l))
   |none=>none
  |some (.slice _),some (.pv (.aW sz xs)),some lo,some hi=>match isSlice P t,eD hi xs.length xs.length with
   |some (_,s),some h=>if s=sz then (eD lo 0 h).map fun l=> .pv (.aW sz ((xs.take h).drop l)) else none
   |_,_=>none
  |some (.slice _),some (.row id),some lo,some hi=>match isSlice P t,st.ob id with
   |some (_,s),some (.row _ sz xs)=>match eD hi xs.length xs.length with
    |some h=>if s=sz then (eD lo 0 h).map fun l=> .sub id sz l h else none
    |none=>none
   |_,_=>none
  |some (.slice _),some (.sub id sz a b),some lo,some hi=>match isSlice P t,eD hi (b-a) (b-a) with
   |some (_,s),some h=>if s=sz then (eD lo 0 h).map fun l=> .sub id sz (a+l) (a+h) else none
   |_,_=>none
  |_,_,_,_=>none
 | .slice t x lo hi (some mx)=>N6 P st t x lo hi mx
 | .extract x i=>match aR P 0 st x with
  |some (.pv (.dI vs))=>(vs[i]?).map .pv
  |some (.two v b)=>match i with
   |0=>some v
   |1=>some (.pv (.bool b))
   |_=>none
  |_=>none
 | .lookup t x k ok=>match P.underlying t with
  |some (.map kt et)=>match (aR P t st x).bind (AF st),(aR P kt st k).bind eR with
   |some ks,some key=>bif ok&&fI P kt key&&(j7 P et).isSome then (j8 key ks).map fun r=> .two .any r.isSome else none
   |_,_=>match (aR P t st x).bind (maps st),(aR P kt st k).bind eR with
   |some (ks,vs),some key=>bif fI P kt key then
     match Kb key ks vs with
     |some (some v)=>some (.pv (found ok v true))
     |some none=>(j7 P et).map fun z=> .pv (found ok z false)
     |none=>none
    else none
   |_,_=>none
  |_=>none
 | .build t parts=>sD P (zeroCells P t) t parts st
 |_=>none
def jJ.mentions (id:Nat):jJ→Bool
 | .p j| .r j=>Nat.beq j id
 | .v _=>false
def SV.mentions (id:Nat):SV→Bool
 | .ptr j _| .row j| .rp j _ _ _| .sub j _ _ _=>Nat.beq j id
 | .cl _ caps=>caps.any (jJ.mentions id)
 | .ag caps=>caps.any (jJ.mentions id)
 | .two v _=>v.mentions id
 | .at j _=>Nat.beq j id||Nat.beq (j+40000) id
 |_=>false
def SV.cn (id:Nat) (v:SV):SV:=bif v.mentions id then .any else v
def Ob.cn (id:Nat):Ob→Ob
 | .box t cells=> .box t (cells.map (SV.cn id))
 |o=>o
def St.cn (st:St) (id:Nat):St:=
 {env:=fun i=>(st.env i).map (SV.cn id),ob:=put (fun i=>(st.ob i).map (Ob.cn id)) id none }
def St.new (st:St) (id:Nat) (o:Ob):St:=
 let s:=st.cn id
 {s with ob:=put s.ob id (some o) }
def SV.cw (id:Nat) (v:AV):SV→SV
 | .row j=>bif Nat.beq j id then .pv v else .row j
 |s=>s.cn id
def jL {α:Type}:List (Option α)→Option (List α)
 |[]=>some []
 |some x::l=>(jL l).map (x:: ·)
 |none::_=>none
def rA (k sz':Nat):List (List AV)→List (List (List AV))→List (List AV)
 |x::xs,y::ys=>x.set k (.aW sz' y)::rA k sz' xs ys
 |_,_=>[]
def Ob.val:Ob→Option AV
 | .row _ sz xs=>some (.aW sz xs)
 | .mp _ _ ks vs=>some (.mp ks vs)
 | .mr _ _ sz ks vs=>(jL vs).map fun l=> .mp ks (l.map (.aW sz))
 | .box _ _=>none
 | .it _ _=>none
 | .lp _=>none
 | .rn _ sz k _ sz' xs ys=>(jL ys).map fun l=> .aW sz (rA k sz' xs l)
def Ob.cw (id:Nat) (v:AV):Ob→Ob
 | .box t cells=> .box t (cells.map (SV.cw id v))
 |o=>o
def r9 (id:Nat):Bool:=Nat.blt id 10000
def St.cw (st:St) (id:Nat):Option St:=
 match r9 id,(st.ob id).bind Ob.val with
 |true,some v=>some { env:=fun i=>(st.env i).map (SV.cw id v),ob:=put (fun i=>(st.ob i).map (Ob.cw id v)) id none }
 |_,_=>none
def SV.jk (id:Nat) (cs:List AV):SV→SV
 | .ptr j off=>bif Nat.beq j id then .cp (cs.drop off) else .ptr j off
 |s=>s.cn id
def Ob.jk (id:Nat) (cs:List AV):Ob→Ob
 | .box t cells=> .box t (cells.map (SV.jk id cs))
 |o=>o
def St.jk (st:St) (id:Nat):Option St:=
 match r9 id,st.ob id with
 |true,some (.box _ cells)=>match jm cells with
  |some cs=>some { env:=fun i=>(st.env i).map (SV.jk id cs),ob:=put (fun i=>(st.ob i).map (Ob.jk id cs)) id none }
  |none=>none
 |_,_=>none
def qU (st:St):List Operand→Option St
 |[]=>some st
 | .tmp i::l=>match st.env i with
  |some (.ptr id _)=>(st.jk id).bind fun st'=>qU st' l
  |_=>qU st l
 |_::l=>qU st l
def fJ (st:St):List jJ→Option (List AV)
 |[]=>some []
 | .v a::l=>(fJ st l).map (a:: ·)
 | .r id::l=>match (st.ob id).bind Ob.val,fJ st l with
  |some v,some vs=>some (v::vs)
  |_,_=>none
 | .p _::_=>none
def ic (st:St):SV→Option AV
 | .pv v=>some v
 | .row id=>(st.ob id).bind Ob.val
 | .ag cs=>(fJ st cs).map .agg
 | .at id (.nr i)=>match st.ob id with
  |some (.rn _ _ _ _ s' _ ys)=>match ys[i]? with
   |some (some zs)=>some (.aW s' zs)
   |_=>none
  |_=>none
 |_=>none
def fq (P:Program) (st:St):List Operand→List TypeId→Option (List AV)
 |[],_=>some []
 |x::xs,ts=>match (aR P (ts.headD 0) st x).bind (ic st),fq P st xs ts.tail with
  |some v,some vs=>some (v::vs)
  |_,_=>none
def gx (st:St):Operand→Bool
 | .tmp i=>match st.env i with
  |some (.row _)=>true
  |some (.ag _)=>true
  |some (.at _ _)=>true
  |_=>false
 |_=>false
def qz (st:St):Operand→Bool
 | .tmp i=>match st.env i with
  |some (.ag _)=>true
  |some (.at _ _)=>true
  |_=>false
 |_=>false
def oh (st:St):List Operand→Option (List AV)
 |[]=>some []
 | .tmp i::l=>match st.env i,oh st l with
  |some (.pv v),some vs=>some (v::vs)
  |some (.cp cs),some vs=>some (.ref cs::vs)
  |_,_=>none
 |_::_=>none
def kU (st:St):List Operand→Option (List jJ)
 |[]=>some []
 | .tmp i::l=>match st.env i,kU st l with
  |some (.pv v),some cs=>some (.v v::cs)
  |some (.cp cs'),some cs=>some (.v (.ref cs')::cs)
  |some (.ptr id 0),some cs=>some (.p id::cs)
  |_,_=>none
 |_::_=>none
def gr (P:Program) (t:TypeId) (len:Nat) (parts:List (Nat×Operand)) (st:St):Option (TypeId×Nat×List (List AV)):=
 match isSlice P t with
 |some (e,s)=>match zeroCells P e,partsOf P (fun _=>e) st parts with
  |some z,some ps=>
   if len *s≤16777216∧0<s∧z.length=s∧ps.all (fun p=>p.2.AL)=true then
    (rM (fun i=>some (i *s,s)) (nY z len) ps).map fun cs=>(e,s,chunks s len cs)
   else none
  |_,_=>none
 |none=>none
abbrev cL:=Nat→List SV→List (Nat×Ob)→Option (AV×List (Nat×Ob))
def jD (h:Hint) (st:St):Operand→Option Nat
 | .tmp t=>bif h.aJ.contains t then
   match st.env t with
   |some (.row id)=>some id
   |_=>none
  else none
 |_=>none
def ko (h:Hint):Operand→Bool
 | .tmp t=>h.rows.contains t
 |_=>false
def eT (id:Nat):Bool:=Nat.blt id 10000||(Nat.ble 20000 id&&Nat.blt id 30000)
def SV.ids:SV→List Nat
 | .ptr j _| .row j| .rp j _ _ _| .sub j _ _ _=>[j]
 | .cl _ caps=>caps.filterMap fun
  | .p j| .r j=>some j
  | .v _=>none
 | .ag caps=>caps.filterMap fun
  | .p j| .r j=>some j
  | .v _=>none
 | .two v _=>v.ids
 | .at j _=>[j,j+40000]
 |_=>[]
def SV.Hv:SV→List Nat
 | .at j _=>[j]
 |v=>v.ids
def SV.closed (names:List Nat):SV→Bool
 | .ptr j _| .row j| .rp j _ _ _| .sub j _ _ _=>names.contains j
 | .cl _ caps=>caps.all fun
  | .p j| .r j=>names.contains j
  | .v _=>true
 | .ag caps=>caps.all fun
  | .p j| .r j=>names.contains j
  | .v _=>true
 | .two v _=>v.closed names
 | .at _ _=>false
 |_=>true
def Ob.closed (names:List Nat):Ob→Bool
 | .box _ cells=>cells.all (SV.closed names)
 | .row _ _ _=>true
 | .mp _ _ _ _=>true
 | .mr _ _ _ _ _=>false
 | .it _ _=>true
 | .lp _=>true
 | .rn _ _ _ _ _ _ _=>false
def x6 (st:St):Operand→Bool
 | .tmp t=>match st.env t with
  |some (.ptr _ _)=>true
  |some (.cl _ _)=>true
  |_=>false
 |_=>false
def L7 (st:St):Operand→Bool
 | .tmp t=>match st.env t with
  |some (.cl _ _)=>true
  |_=>false
 |_=>false
def wide (st:St) (c:Call) (f:Operand):Bool:=L7 st f||c.args.toList.any (x6 st)
def isRef (h:Hint):Operand→Bool
 | .tmp t=>h.aJ.contains t
 |_=>false
def Rt (P:Program) (h:Hint) (st:St) (t:TypeId) (x:Operand):Option SV:=
 match aR P t st x with
 |some (.pv v)=>some (.pv v)
 |some (.ptr id off)=>some (.ptr id off)
 |some (.row id)=>bif isRef h x then some (.row id) else none
 |some (.cl f caps)=>some (.cl f caps)
 |some (.cp cs)=>some (.cp cs)
 |_=>none
def og (P:Program) (h:Hint) (st:St):List Operand→List TypeId→Option (List SV)
 |[],_=>some []
 |x::xs,ts=>match Rt P h st (ts.headD 0) x,og P h st xs ts.tail with
  |some v,some vs=>some (v::vs)
  |_,_=>none
def Cm:jJ→SV
 | .v a=> .pv a
 | .p id=> .ptr id 0
 | .r id=> .row id
def Vk:SV→Option (Nat×List SV×List SV)
 | .pv (.fn g caps)=>bif Nat.blt g 1000000 then some (g,[],caps.map .pv) else none
 | .cl g caps=>bif Nat.blt g 1000000 then some (g,[],caps.map Cm) else bif Nat.blt g 2000000 then some (g-1000000,caps.map Cm,[]) else match caps with
  |[c]=>some (g,[],[Cm c])
  |_=>none
 |_=>none
def Bt (st:St) (id:Nat):List Nat:=
 match st.ob id with
 |some (.box _ cells)=>cells.flatMap SV.ids
 |_=>[]
def eW (st:St):Nat→List Nat→List Nat→List Nat
 |0,_,done=>done
 |_+1,[],done=>done
 |n+1,id::todo,done=>bif done.contains id then eW st n todo done else eW st n (todo++Bt st id) (done++[id])
def iZ:List SV→List Nat
 |[]=>[]
 | .row id::l=>id::iZ l
 |_::l=>iZ l
def Oi (st:St) (id:Nat):Bool:=
 match st.ob id with
 |some (.row _ _ _)=>true
 |_=>false
def fM (stay:Bool) (st:St) (roots:List Nat) (id:Nat):Bool:=Oi st id&&eT id&& !(roots.contains id)&& !stay
def fC (mv:Nat→Bool):Nat→List Nat→List (Nat×Nat)
 |_,[]=>[]
 |k,id::l=>(id,bif mv id then 20000+k else 10000+k)::fC mv (k+1) l
def swap:List (Nat×Nat)→List (Nat×Nat)
 |[]=>[]
 |(a,b)::l=>(b,a)::swap l
def kJ (m:List (Nat×Nat)) (id:Nat):Nat:=(find m id).getD id
def jJ.nX (ρ:Nat→Nat):jJ→jJ
 | .p id=> .p (ρ id)
 | .r id=> .r (ρ id)
 |c=>c
def SV.nX (ρ:Nat→Nat):SV→SV
 | .ptr j off=> .ptr (ρ j) off
 | .row j=> .row (ρ j)
 | .rp j sz i off=> .rp (ρ j) sz i off
 | .sub j sz lo hi=> .sub (ρ j) sz lo hi
 | .cl f caps=> .cl f (caps.map (jJ.nX ρ))
 | .ag caps=> .ag (caps.map (jJ.nX ρ))
 | .two v b=> .two (v.nX ρ) b
 |s=>s
def Ob.nX (ρ:Nat→Nat):Ob→Ob
 | .box t cells=> .box t (cells.map (SV.nX ρ))
 |o=>o
def gJ (st:St) (ids:List Nat) (ρ:Nat→Nat):List (Nat×Nat)→Option (List (Nat×Ob))
 |[]=>some []
 |(id,nm)::l=>match st.ob id,gJ st ids ρ l with
  |some o,some os=>bif o.closed ids then some ((nm,o.nX ρ)::os) else none
  |_,_=>none
def iV (names:List Nat) (ρ:Nat→Nat):List (Nat×Nat)→List (Nat×Ob)→Option (List (Nat×Ob))
 |[],[]=>some []
 |(id,nm)::l,(KZ,o)::os=>bif Nat.beq nm KZ&&o.closed names then (iV names ρ l os).map fun r=>(id,o.nX ρ)::r else none
 |_,_=>none
def distinct:List Nat→Bool
 |[]=>true
 |x::l=> !(l.contains x)&&distinct l
def fe:List Nat→St→St
 |[],st=>st
 |id::l,st=>fe l (st.cn id)
mutual
def AV.same:AV→AV→Bool
 | .bool a, .bool b=>a==b
 | .int k a, .int k' b=>decide (k=k')&&decide (a=b)
 | .str a, .str b=>decide (a=b)
 | .aW s xs, .aW s' ys=>Nat.beq s s'&&uR xs ys
 | .agg a, .agg b=>mw a b
 | .fn f a, .fn g b=>Nat.beq f g&&mw a b
 | .dI a, .dI b=>mw a b
 | .ref a, .ref b=>mw a b
 | .mp a b, .mp c d=>mw a c&&mw b d
 | .self a, .self b=>Nat.beq a b
 | .tX, .tX=>true
 | .lE, .lE=>true
 | .hole, .hole=>true
 |_,_=>false
def mw:List AV→List AV→Bool
 |[],[]=>true
 |a::l,b::m=>AV.same a b&&mw l m
 |_,_=>false
def uR:List (List AV)→List (List AV)→Bool
 |[],[]=>true
 |a::l,b::m=>mw a b&&uR l m
 |_,_=>false
end
def jJ.same:jJ→jJ→Bool
 | .v a, .v b=>AV.same a b
 | .p a, .p b=>Nat.beq a b
 | .r a, .r b=>Nat.beq a b
 |_,_=>false
def mz:List jJ→List jJ→Bool
 |[],[]=>true
 |a::l,b::m=>jJ.same a b&&mz l m
 |_,_=>false
def Ak.same:Ak→Ak→Bool
 | .full, .full=>true
 | .nr i, .nr j=>Nat.beq i j
 |_,_=>false
def SV.same:SV→SV→Bool
 | .undef, .undef=>true
 | .any, .any=>true
 | .pv a, .pv b=>AV.same a b
 | .ptr a b, .ptr c d=>Nat.beq a c&&Nat.beq b d
 | .row a, .row b=>Nat.beq a b
 | .rp a b c d, .rp a' b' c' d'=>Nat.beq a a'&&Nat.beq b b'&&Nat.beq c c'&&Nat.beq d d'
 | .sub a b c d, .sub a' b' c' d'=>Nat.beq a a'&&Nat.beq b b'&&Nat.beq c c'&&Nat.beq d d'
 | .cp a, .cp b=>mw a b
 | .cl f a, .cl g b=>Nat.beq f g&&mz a b
 | .two s a, .two t b=>SV.same s t&&(a==b)
 | .ag a, .ag b=>mz a b
 | .at a q, .at b r=>Nat.beq a b&&Ak.same q r
 |_,_=>false
def qV:List SV→List SV→Bool
 |[],[]=>true
 |a::l,b::m=>SV.same a b&&qV l m
 |_,_=>false
def k9:List (Option (List (List AV)))→List (Option (List (List AV)))→Bool
 |[],[]=>true
 |some a::l,some b::m=>uR a b&&k9 l m
 |none::l,none::m=>k9 l m
 |_,_=>false
def Ob.same:Ob→Ob→Bool
 | .box t a, .box u b=>Nat.beq t u&&qV a b
 | .row e s xs, .row e' s' ys=>Nat.beq e e'&&Nat.beq s s'&&uR xs ys
 | .mp k e a b, .mp k' e' c d=>Nat.beq k k'&&Nat.beq e e'&&mw a c&&mw b d
 | .mr k e s a b, .mr k' e' s' c d=>Nat.beq k k'&&Nat.beq e e'&&Nat.beq s s'&&mw a c&&k9 b d
 | .it s p, .it s' p'=>decide (s=s')&&Nat.beq p p'
 | .lp a, .lp b=>mw a b
 | .rn e s k e2 s2 x y, .rn e' s' k' e3 s3 x' y'=>Nat.beq e e'&&Nat.beq s s'&&Nat.beq k k'&&Nat.beq e2 e3&&Nat.beq s2 s3&&uR x x'&&k9 y y'
 |_,_=>false
def pe:List (Nat×Ob)→List (Nat×Ob)→Bool
 |[],[]=>true
 |(i,a)::l,(j,b)::m=>Nat.beq i j&&Ob.same a b&&pe l m
 |_,_=>false
def ox (P:Program) (h:Hint) (st:St) (c:Call) (f:Operand):Option (Nat×List SV):=
 match (aR P 0 st f).bind Vk,og P h st c.args.toList c.argTypes.toList with
 |some (g,pre,caps),some vs=>some (g,pre++(vs++caps))
 |_,_=>none
def fo (st:St) (args:List SV):List Nat:=eW st 200 (args.flatMap SV.ids) []
def eY (ids:List Nat):List (Nat×Nat):=fC (fun _=>false) 0 ids
def mJ (P:Program) (h:Hint) (aZ:cL) (st:St) (c:Call) (f:Operand):Option AV:=
 match ox P h st c f with
 |some (g,args)=>
  bif distinct (fo st args)&&Nat.blt (fo st args).length 10000&&args.all (SV.closed (fo st args)) then
   match gJ st (fo st args) (kJ (eY (fo st args))) (eY (fo st args)) with
   |some bT=>match aZ g (args.map (SV.nX (kJ (eY (fo st args))))) bT with
    |some (r,dO)=>bif pe dO bT&&r.gu then some r else none
    |none=>none
   |none=>none
  else none
 |none=>none
def cI (P:Program) (h:Hint) (aZ:cL) (o:Oper) (st:St):Option SV:=
 match o.op with
 | .buildSlice t len parts=>
  bif (o.dst.any h.rows.contains) then none else (gr P t len parts.toList st).map fun x=> .pv (.aW x.2.1 x.2.2)
 | .call c=>match c.callee with
  | .value f=>bif o.dst.any h.owns.contains then none else bif o.dst.any h.stay.contains&&wide st c f then (mJ P h aZ st c f).map .pv else
   bif wide st c f||c.args.toList.any (fun x=>(jD h st x).isSome) then none else
   match aR P 0 st f,fq P st c.args.toList c.argTypes.toList with
   |some (.pv (.fn g caps)),some vs=>match aZ g ((vs++caps).map .pv) [] with
    |some (r,[])=>bif (!(c.args.toList.any (gx st))||r.plain)&&r.gu then some (.pv r) else none
    |_=>none
   |_,_=>none
  |_=>sd P c st
 | .lookup _ x _ ok=>bif ko h x&& !ok then none else c7 P o st
 | .build t parts=>bif o.dst.any h.rows.contains then none else sD P (Fx P h o.dst t) t parts st
 | .load _ _=>bif o.dst.any h.take.contains then none else c7 P o st
 | .makeFunc (.func g) first caps=>bif first.isEmpty then
   bif o.dst.any h.aJ.contains then bif Nat.blt g 1000000 then (kU st caps.toList).map fun cs=> .cl g cs else none
   else (oh st caps.toList).map fun vs=> .pv (.fn g vs)
  else bif caps.isEmpty&&o.dst.any h.aJ.contains&&Nat.blt g 1000000 then (kU st first.toList).map fun cs=> .cl (g+1000000) cs else none
 | .assign x=>match o.dst,x,c7 P o st with
  |some d, .const _,some (.pv (.aW sz xs))=>bif h.rows.contains d then none else some (.pv (.aW sz xs))
  |some d,_,some (.row id)=>bif h.bw.contains d||h.Zt.contains d then none else some (.row id)
  |_,_,r=>r
 |_=>c7 P o st
def mc (st:St):SV→Bool
 | .pv (.agg _)| .pv (.dI _)=>false
 | .pv _=>true
 | .ptr _ _| .rp _ _ _ _| .cp _| .cl _ _=>true
 | .row id=>match st.ob id with
  |some (.row _ _ _)=>true
  |some (.mp _ _ _ _)=>true
  |some (.rn _ _ _ _ _ _ _)=>true
  |_=>false
 |_=>false
def storeAt (P:Program) (t:TypeId) (st:St) (a:SV) (v:SV):Option St:=
 match a with
 | .ptr id off=>match st.ob id,gB P t with
  |some (.box bt cells),some n=>match v with
   | .ag cs=>if cs.length=n∧off+n≤cells.length then
     some { st with ob:=put st.ob id (some (.box bt (cells.take off++cs.map Cm++cells.drop (off+n)))) } else none
   | .pv (.agg cs)=>if cs.length=n∧off+n≤cells.length then
     some { st with ob:=put st.ob id (some (.box bt (cells.take off++cs.map .pv++cells.drop (off+n)))) } else none
   |v=>if n=1∧off<cells.length∧mc st v=true then some { st with ob:=put st.ob id (some (.box bt (cells.set off v))) } else none
  |_,_=>none
 | .rp id sz i off=>match st.ob id,gB P t,v with
  |some (.row e sz' xs),some n, .pv v=>match xs[i]? with
   |some c=>if sz=sz'∧v.cells.length=n∧off+n≤c.length∧v.AL=true then
     some { st with ob:=put st.ob id (some (.row e sz' (xs.set i (c.take off++v.cells++c.drop (off+n))))) } else none
   |none=>none
  |_,_,_=>none
 |_=>none
def vi (P:Program) (h:Hint) (st:St):List Operand→List TypeId→Option (List SV×List Nat)
 |[],_=>some ([],[])
 |x::xs,ts=>match jD h st x,vi P h st xs ts.tail with
  |some id,some (vs,ids)=>some (.row 10000::vs,id::ids)
  |none,some (vs,ids)=>match (aR P (ts.headD 0) st x).bind eR with
   |some v=>some (.pv v::vs,ids)
   |none=>none
  |_,none=>none
def jN (P:Program) (h:Hint) (aZ:cL) (st:St) (c:Call) (f:Operand) (d:Option Nat):Option St:=
 match aR P 0 st f,vi P h st c.args.toList c.argTypes.toList with
 |some (.pv (.fn g caps)),some (vs,[id])=>match st.ob id with
  |some (.row e sz xs)=>match aZ g (vs++caps.map .pv) [(10000, .row e sz xs)] with
   |some (r,[(nm, .row e' sz' xs')])=>bif Nat.beq e e'&&Nat.beq sz sz'&&Nat.beq nm 10000 then
     match r with
     | .self n=>bif Nat.ble n xs'.length&&eT id then some ((st.new id (.row e' sz' (xs'.take n))).set d (.row id)) else none
     |r=>bif r.plain then some (St.set { st with ob:=put st.ob id (some (.row e' sz' xs')) } d (.pv r)) else none
    else none
   |_=>none
  |_=>none
 |_,_=>none
def fF (P:Program) (h:Hint) (aZ:cL) (st:St) (c:Call) (f:Operand) (d:Option Nat):Option St:=
 match (aR P 0 st f).bind Vk,og P h st c.args.toList c.argTypes.toList with
 |some (g,pre,caps),some vs=>
  let args:=pre++(vs++caps)
  let ids:=eW st 200 (args.flatMap SV.ids) []
  let mv:=fM (d.any h.stay.contains) st (iZ args)
  let m:=fC mv 0 ids
  let names:=m.map (·.2)
  let ρ:=kJ m
  bif distinct ids&&Nat.blt ids.length 10000&&args.all (SV.closed ids) then
   match gJ st ids ρ m with
   |some bT=>match aZ g (args.map (SV.nX ρ)) bT with
    |some (r,dO)=>match iV names (kJ (swap m)) m dO with
     |some back=>bif r.gu then
       let st1:=fe (ids.filter mv) st
       some (St.set { env:=st1.env,ob:=fun i=>(find back i).orElse fun _=>st1.ob i } d (.pv r)) else none
     |none=>none
    |none=>none
   |none=>none
  else none
 |_,_=>none
def u9 (P:Program) (t:TypeId):Option (List Value):=
 match P.info? t with
 |some i=>i.zero.map fun z=>z.cells.toList
 |none=>none
def oD (P:Program) (d:Nat):Nat→List TypeId→List Value→Option (List SV×List (Nat×TypeId×Nat))
 |_,[],[]=>some ([],[])
 |j,t::ts,v::vs=>match oD P d (j+1) ts vs with
  |some (IQ,l)=>match isSlice P t,v with
   |some (e,s), .slice none 0 0=>bif Nat.blt 0 s&&Nat.blt (5000+16 *d+j) 10000 then some (.row (5000+16 *d+j)::IQ,(5000+16 *d+j,e,s)::l) else none
   |_,v=>(ofConst P t v).map fun a=>(.pv a::IQ,l)
  |none=>none
 |_,_,_=>none
def xV (TR:List (Nat×Nat×TypeId×Nat)) (id:Nat) (e:TypeId) (s:Nat):Ob:=
 match find TR id with
 |some (k,e',s')=>bif Nat.blt k s then .rn e s k e' s' [] [] else .row e s []
 |none=> .row e s []
def oJ (TR:List (Nat×Nat×TypeId×Nat)):List (Nat×TypeId×Nat)→St→St
 |[],st=>st
 |(id,e,s)::l,st=>oJ TR l (st.new id (xV TR id e s))
def qQ (h:Hint) (d:Nat):Option (List (Nat×TypeId×Nat)):=find h.lE d
def L8:Operand→Bool
 | .const (.slice none 0 0)=>true
 |_=>false
def Hl (P:Program) (b:Bool) (st:St) (t:TypeId) (x:Operand):Option AV:=bif b&&L8 x then some .lE else (aR P t st x).bind eR
def mh (P:Program) (b:Bool) (st:St):List Operand→List TypeId→Option (List AV)
 |[],_=>some []
 |x::xs,ts=>match Hl P b st (ts.headD 0) x,mh P b st xs ts.tail with
  |some v,some vs=>some (v::vs)
  |_,_=>none
def ny:List AV→List (Nat×TypeId×Nat)→Option (List jJ)
 |[],_=>some []
 | .lE::cs,x::l=>(ny cs l).map (.r x.1:: ·)
 | .lE::_,[]=>none
 |a::cs,l=>(ny cs l).map (.v a:: ·)
def gz (P:Program) (h:Hint) (aZ:cL) (st:St) (c:Call) (f:Operand) (d:Option Nat):Option St:=
 match d with
 |some d=>match aR P 0 st f,mh P (qQ h d).isSome st c.args.toList c.argTypes.toList with
  |some (.pv (.fn g caps)),some vs=>match aZ g ((vs++caps).map .pv) [] with
   |some (.dI [.dI [.self e, .aW sz xs]],[])=>bif (qQ h d).isSome then none else some ((st.new d (.row e sz xs)).set (some d) (.row d))
   |some (.agg cs,[])=>match qQ h d with
    |some []=>some (st.set (some d) (.pv (.agg cs)))
    |some l=>match ny cs l with
     |some ks=>bif l.all (fun x=>Nat.blt x.1 10000) then some ((oJ h.nest l st).set (some d) (.ag ks)) else none
     |none=>none
    |none=>none
   |_=>none
  |_,_=>none
 |none=>none
def Wr (st:St) (s:SV):Option jJ:=
 bif mc st s then
  match s with
  | .pv a=>some (.v a)
  | .row id=>some (.r id)
  |_=>none
 else none
def xJ (st:St):List SV→Option (List jJ)
 |[]=>some []
 |s::l=>match Wr st s,xJ st l with
  |some c,some cs=>some (c::cs)
  |_,_=>none
def M6 (st:St):SV→Option (List SV)
 | .pv (.agg cs)=>some (cs.map .pv)
 |s=>bif mc st s then some [s] else none
def yx (P:Program) (ty:Nat→TypeId) (st:St):List (Nat×Operand)→Option (List (Nat×List SV))
 |[]=>some []
 |(i,x)::l=>match (aR P (ty i) st x).bind (M6 st),yx P ty st l with
  |some v,some vs=>some ((i,v)::vs)
  |_,_=>none
def JA (place:Nat→Option (Nat×Nat)) (cells:List SV):List (Nat×List SV)→Option (List SV)
 |[]=>some cells
 |(i,v)::rest=>
  match place i with
  |none=>none
  |some (off,size)=>
   if v.length=size∧off+size≤cells.length then JA place (cells.take off++v++cells.drop (off+size)) rest else none
def yZ (P:Program) (h:Hint) (st:St) (d:Nat) (t:TypeId) (parts:List (Nat×Operand)):Option St:=
 match P.underlying t,(u9 P t).bind fun vs=>oD P d 0 (oE P 8 t) vs with
 |some (.struct fs),some (IQ,l)=>bif fs.toList.all (fun f=>(gB P f.type).isSome) then
   match yx P (N4 P t) (oJ h.nest l st) parts with
   |some ps=>match (JA (jF P t) IQ ps).bind (xJ (oJ h.nest l st)) with
    |some cs=>some ((oJ h.nest l st).set (some d) (.ag cs))
    |none=>none
   |none=>none
  else none
 |_,_=>none
def rT (P:Program) (st:St) (t:TypeId) (m k:Operand):Option St:=
 match P.underlying t with
 |some (.map kt _)=>match aR P t st m,(aR P kt st k).bind eR with
  |some (.row id),some key=>match st.ob id with
   |some (.mp k' e' ks vs)=>bif fI P kt key then
     match YP key ks vs with
     |some (ks',vs')=>some { st with ob:=put st.ob id (some (.mp k' e' ks' vs')) }
     |none=>none
    else none
   |_=>none
  |_,_=>none
 |_=>none
def pK (P:Program) (st:St):Option Operand→Bool
 |none=>true
 |some x=>match (aR P 0 st x).bind eR with
  |some (.int _ _)=>true
  |_=>false
def ML (P:Program) (st:St) (et:TypeId) (x:Operand):Option St:=
 match aR P et st x with
 |some (.pv _)=>some st
 |some (.row j)=>st.cw j
 |_=>none
def rU (P:Program) (st:St) (t:TypeId) (m k x:Operand):Option St:=
 match P.underlying t with
 |some (.map kt et)=>match ML P st et x with
  |some st'=>match aR P t st' m,(aR P kt st' k).bind eR,(aR P et st' x).bind eR with
   |some (.row id),some key,some v=>match st'.ob id with
    |some (.mp k' e' ks vs)=>bif fI P kt key&&v.AL then
      match vr key v ks vs with
      |some (ks',vs')=>some { st' with ob:=put st'.ob id (some (.mp k' e' ks' vs')) }
      |none=>none
     else none
    |_=>none
   |_,_,_=>none
  |none=>none
 |_=>none
def E9 (P:Program) (st:St) (t:TypeId) (m k:Operand):Option (TypeId×Nat×AV×TypeId×TypeId×Nat×List AV×List (Option (List (List AV)))):=
 match P.underlying t with
 |some (.map kt et)=>match aR P t st m,(aR P kt st k).bind eR with
  |some (.row id),some key=>match st.ob id with
   |some (.mr k' e sz ks vs)=>bif fI P kt key&&Nat.blt id 10000 then some (et,id,key,k',e,sz,ks,vs) else none
   |_=>none
  |_,_=>none
 |_=>none
def Fa (P:Program) (st:St) (t:TypeId) (m k:Operand) (d:Nat):Option St:=
 match E9 P st t m k with
 |some (et,id,key,k',e,sz,ks,vs)=>bif Nat.beq id d then none else match j8 key ks with
  |some (some i)=>match vs[i]? with
   |some (some xs)=>some ((St.new { st with ob:=put st.ob id (some (.mr k' e sz ks (vs.set i none))) } d (.row e sz xs)).set (some d) (.row d))
   |_=>none
  |some none=>match j7 P et,isSlice P et with
   |some (.aW _ []),some (e',s)=>if e=e'∧s=sz∧0<s then some ((st.new d (.row e sz [])).set (some d) (.row d)) else none
   |_,_=>none
  |none=>none
 |none=>none
def MX (P:Program) (st:St) (t:TypeId) (m k x:Operand):Option St:=
 match E9 P st t m k with
 |some (et,id,key,k',e,sz,ks,vs)=>match x with
  | .const (.slice none 0 0)=>match isSlice P et with
   |some (e',s)=>if e=e'∧s=sz∧0<s then
     match vr key (some []) ks vs with
     |some (ks',vs')=>some { st with ob:=put st.ob id (some (.mr k' e sz ks' vs')) }
     |none=>none
    else none
   |none=>none
  |x=>match aR P et st x with
   |some (.row j)=>match st.ob j with
    |some (.row e' s xs)=>if e=e'∧s=sz∧j<10000 then
      match vr key (some xs) ks vs with
      |some (ks',vs')=>let s1:=st.cn j;some { s1 with ob:=put s1.ob id (some (.mr k' e sz ks' vs')) }
      |none=>none
     else none
    |_=>none
   |_=>none
 |none=>none
def qW (P:Program) (st:St) (t:TypeId) (x:Operand) (d:Nat):Option St:=
 match aR P 0 st x,xD P t with
 |some (.rp id sz i off),some false=>match st.ob id with
  |some (.rn e sz' k e' s' xs ys)=>match ys[i]? with
   |some (some zs)=>bif Nat.beq sz sz'&&Nat.beq off k&& !(Nat.beq id d)&&Nat.blt id 10000 then some ((St.new { st with ob:=put st.ob id (some (.rn e sz' k e' s' xs (ys.set i none))) } d (.row e' s' zs)).set (some d) (.row d)) else none
   |_=>none
  |_=>none
 |_,_=>none
def AS (P:Program) (st:St) (t:TypeId) (id sz i off j:Nat):Option St:=
 match xD P t,gB P t,st.ob id,st.ob j with
 |some false,some 1,some (.rn e sz' k e' s' xs ys),some (.row e2 s2 zs)=>
  bif Nat.beq sz sz'&&Nat.beq off k&&Nat.blt id 10000&&Nat.blt j 10000&&Nat.beq e' e2&&Nat.beq s' s2&&Nat.blt i ys.length&& !(Nat.beq id j) then
   some { (st.cn j).cn (id+40000) with ob:=put ((st.cn j).cn (id+40000)).ob id (some (.rn e sz' k e' s' xs (ys.set i (some zs)))) } else none
 |_,_,_,_=>none
def NV (P:Program) (st:St) (t:TypeId) (id off j sz n:Nat):Option St:=
 match st.ob j with
 |some (.row e sz' xs)=>bif Nat.beq sz sz'&&eT j&& !(Nat.beq id j) then storeAt P t (st.new j (.row e sz' (xs.take n))) (.ptr id off) (.row j) else none
 |_=>none
def MW (st:St) (id d:Nat):Option St:=
 match st.ob id with
 |some (.row e sz xs)=>bif Nat.beq id d then some (st.set (some d) (.row d)) else bif Nat.blt id 10000 then some (((st.cn id).new d (.row e sz xs)).set (some d) (.row d)) else none
 |_=>none
def kQ (k:Nat) (c:List AV):Bool:=match c[k]? with
 |some .lE=>true
 |_=>false
def iM (P:Program) (h:Hint) (aZ:cL) (o:Oper) (st:St):Option St:=
 match o.dst,o.op with
 |some d, .assign (.const (.slice none 0 0))=>match isSlice P o.type with
  |some (e,s)=>if 0<s then some ((st.new d (.row e s [])).set (some d) (.row d)) else none
  |none=>none
 |some d, .assign x=>match aR P o.type st x with
  |some (.row id)=>bif h.Zt.contains d then MW st id d else match st.cw id with
   |some st'=>match aR P o.type st' x with
    |some v=>some (st'.set (some d) v)
    |none=>none
   |none=>none
  |_=>none
 |some d, .box t x=>match aR P t st x,xD P t with
  |some (.pv (.agg cs)),some true=>some ((st.new d (.box t (cs.map .pv))).set (some d) (.ptr d 0))
  |some (.ag cs),some true=>bif (SV.ag cs).mentions d then none else some ((st.new d (.box t (cs.map Cm))).set (some d) (.ptr d 0))
  |some v,some false=>if mc st v=true then some ((st.new d (.box t [v.cn d])).set (some d) (.ptr d 0)) else none
  |_,_=>none
 |some d, .alloc t=>bif h.rows.contains d then
   match (u9 P t).bind fun vs=>oD P d 0 (oE P 8 t) vs with
   |some (IQ,l)=>some (((oJ h.nest l st).new d (.box t (IQ.map (SV.cn d)))).set (some d) (.ptr d 0))
   |none=>none
  else match Fx P h (some d) t with
  |some z=>some ((st.new d (.box t (z.map .pv))).set (some d) (.ptr d 0))
  |none=>none
 |some d, .makeSlice t l c=>match isSlice P t,(aR P 0 st l).bind eR,(aR P 0 st c).bind eR with
  |some (e,s),some (.int _ l),some (.int _ c)=>match zeroCells P e,P.info? e with
   |some z,some i=>if 0<s∧z.length=s∧0≤l∧l≤c∧i.bytes *c.toNat≤281474976710656∧c≤9223372036854775807 then
     some ((st.new d (.row e s (List.replicate l.toNat z))).set (some d) (.row d)) else none
   |_,_=>none
  |_,_,_=>none
 |some d, .buildSlice t len parts=>match gr P t len parts.toList st with
  |some (e,s,xs)=>match find h.nest d with
   |none=>some ((st.new d (.row e s xs)).set (some d) (.row d))
   |some (k,e',s')=>bif Nat.blt k s&&xs.all (kQ k) then some ((st.new d (.rn e s k e' s' (xs.map fun c=>c.set k .hole) (xs.map fun _=>some []))).set (some d) (.row d)) else none
  |none=>none
 |none, .store t a x=>match aR P 0 st a,aR P t st x with
  |some (.rp id sz i off),some (.row j)=>AS P st t id sz i off j
  |some (.ptr id off),some (.sub j sz 0 n)=>NV P st t id off j sz n
  |some a,some v=>storeAt P t st a v
  |_,_=>none
 |some d, .makeMap t r=>match P.underlying t with
  |some (.map k e)=>bif pK P st r then
    bif h.rows.contains d then
     match isSlice P e with
     |some (e',s)=>if 0<s then some ((st.new d (.mr k e' s [] [])).set (some d) (.row d)) else none
     |none=>none
    else some ((st.new d (.mp k e [] [])).set (some d) (.row d)) else none
  |_=>none
 |none, .mapUpdate t m k x=>bif ko h m then MX P st t m k x else rU P st t m k x
 |none, .insert t m k x=>bif ko h m then MX P st t m k x else rU P st t m k x
 |some d, .lookup t m k false=>bif ko h m then Fa P st t m k d else none
 |some d, .range t x=>match P.underlying t,(aR P t st x).bind eR with
  |some .string,some (.str s)=>some ((st.new d (.it s 0)).set (some d) (.ptr d 0))
  |_,_=>none
 |some d, .next x true=>match aR P 0 st x with
  |some (.ptr id 0)=>match st.ob id with
   |some (.it s pos)=>if pos<s.length then
     some (St.set { st with ob:=put st.ob id (some (.it s (pos+(Utf8.decode ⟨s.toArray⟩ pos).2))) } (some d) (.pv (.dI [.bool true, .int .i64 pos, .int .i32 (Utf8.decode ⟨s.toArray⟩ pos).1])))
    else some (st.set (some d) (.pv (.dI [.bool false])))
   |_=>none
  |_=>none
 |some d, .build t parts=>bif h.rows.contains d then yZ P h st d t parts.toList else none
 |some d, .load t x=>bif h.take.contains d then qW P st t x d else none
 |some d, .makeFunc (.func g) first caps=>bif first.isEmpty then
   match qU st caps.toList with
   |some st'=>(oh st' caps.toList).map fun vs=>st'.set (some d) (.pv (.fn g vs))
   |none=>none
  else none
 |d, .call c=>match c.callee with
  | .builtin .append=>match d,c.args.toList,c.argTypes.toList with
   |some d,[x,y],[t,t']=>match isSlice P t,aR P t st x,aR P t' st y with
    |some (e,s),some (.row id),some y=>match st.ob id,elems st y,P.info? e with
     |some (.row e' sz xs),some (sz',ys),some i=>
      if t=t'∧e=e'∧s=sz∧sz=sz'∧0<sz∧(xs.length+ys.length) *i.bytes≤140737488355328∧xs.length+ys.length≤4611686018427387904∧i.zero.map (fun z=>z.cells.size)=some sz∧eT id=true then
       some ((st.new id (.row e sz (xs++ys))).set (some d) (.row id)) else none
     |some (.rn e' sz k e2 s2 xs zs),some (sz',ys),some i=>
      if t=t'∧e=e'∧s=sz∧sz=sz'∧0<sz∧(xs.length+ys.length) *i.bytes≤140737488355328∧xs.length+ys.length≤4611686018427387904∧i.zero.map (fun z=>z.cells.size)=some sz∧eT id=true∧ys.all (kQ k)=true then
       some ((st.new id (.rn e sz k e2 s2 (xs++ys.map fun c=>c.set k .hole) (zs++ys.map fun _=>some []))).set (some d) (.row id)) else none
     |_,_,_=>none
    |some (e,s),some (.at id .full),some y=>match st.ob id,elems st y,P.info? e with
     |some (.row e' sz xs),some (sz',ys),some i=>
      if t=t'∧e=e'∧s=sz∧sz=sz'∧0<sz∧(xs.length+ys.length) *i.bytes≤140737488355328∧xs.length+ys.length≤4611686018427387904∧i.zero.map (fun z=>z.cells.size)=some sz∧eT id=true∧ys.isEmpty=false then
       some ((st.new id (.row e sz (xs++ys))).set (some d) (.row id)) else none
     |_,_,_=>none
    |_,_,_=>none
   |_,_,_=>none
  | .builtin .delete=>match d,c.args.toList,c.argTypes.toList with
   |none,[m,k],t::_=>rT P st t m k
   |_,_,_=>none
  | .builtin .clear=>match d,c.args.toList,c.argTypes.toList with
   |none,[x],[t]=>match isSlice P t,aR P t st x with
    |some (e,s),some (.sub id sz lo hi)=>match st.ob id,zeroCells P e with
     |some (.row e' sz' xs),some z=>if s=sz∧sz=sz'∧z.length=sz∧hi≤xs.length∧e=e'∧0<sz then
       some { st with ob:=put st.ob id (some (.row e' sz' (xs.take lo++List.replicate (hi-lo) z++xs.drop hi))) } else none
     |_,_=>none
    |_,_=>none
   |_,_,_=>none
  | .value f=>bif d.any h.owns.contains then gz P h aZ st c f d else bif d.any h.stay.contains&&wide st c f then none else bif wide st c f then fF P h aZ st c f d else bif c.args.toList.any (fun x=>(jD h st x).isSome) then jN P h aZ st c f d else
   match fk st c.args.toList with
   |some st'=>match aR P 0 st' f,fq P st' c.args.toList c.argTypes.toList with
    |some (.pv (.fn g caps)),some vs=>match aZ g ((vs++caps).map .pv) [] with
     |some (r,[])=>bif c.args.toList.any (gx st')|| !r.gu then none else some (st'.set d (.pv r))
     |_=>none
    |_,_=>none
   |none=>none
  |_=>none
 |_,_=>none
where
 fk (st:St) (l:List Operand):Option St:=bif l.any (qz st) then none else eE st l
 eE (st:St):List Operand→Option St
  |[]=>some st
  | .tmp i::l=>match st.env i with
   |some (.row id)=>(st.cw id).bind fun st'=>eE st' l
   |_=>eE st l
  |_::l=>eE st l
def jc:List SV→St→Option St
 |[],st=>some st
 | .row id::l,st=>(st.cw id).bind (jc l)
 |_::l,st=>jc l st
def step0 (P:Program) (h:Hint) (aZ:cL) (o:Oper) (st:St):Option St:=
 match cI P h aZ o st with
 |some v=>some (st.set o.dst v)
 |none=>iM P h aZ o st
def nh (st:St) (t:Nat):Option St:=
 match st.env t with
 |some (.row id)=>st.cw id
 |some (.ptr id _)=>match st.ob id with
  |some (.box _ cells)=>jc cells st
  |_=>none
 |_=>some st
def gM:List Nat→St→Option St
 |[],st=>some st
 |t::l,st=>(nh st t).bind (gM l)
def slotsOf (o:Oper):List Nat:=o.op.operands.toList.filterMap fun
 | .tmp t=>some t
 |_=>none
def tR (h:Hint) (o:Oper):List Nat:=bif h.use.isEmpty then [] else (slotsOf o).filter h.use.contains
def step (P:Program) (h:Hint) (aZ:cL) (o:Oper) (st:St):Option St:=(gM (tR h o) st).bind (step0 P h aZ o)
def j6 (ops:Array Oper) (o:Oper) (st:St):Option Bool:=
 match o.guard with
 |none=>some true
 |some (j,want)=>match (ops[j]?).bind (·.dst) with
  |some d=>match st.env d with
   |some (.pv (.bool b))=>some (b==want)
   |some .undef=>some false
   |_=>none
  |none=>none
def kq (P:Program) (h:Hint) (aZ:cL) (ops:Array Oper):List Oper→St→Option St
 |[],st=>some st
 |o::l,st=>match j6 ops o st with
  |some b=>bif b then (step P h aZ o st).bind (kq P h aZ ops l) else kq P h aZ ops l (st.set o.dst .undef)
  |none=>none
inductive Ex where
 |normal
 |exit (id:Nat)
 |ret
 deriving DecidableEq
def XO:Nat→Ex
 |0=> .normal
 |_=> .ret
def iter (h:Hint) (key:Nat) (f:St→Option (Ex×St)):Nat→St→Option (Ex×St)
 |0,_=>none
 |n+1,st=>match f (h.canon key st) with
  |some (.normal,st')=>iter h key f n st'
  |r=>r
def dX (ops:Array Oper) (o:Oper):List Nat:=slotsOf o++match o.guard with
 |some (j,_)=>((ops[j]?).bind (·.dst)).toList
 |none=>[]
def RP (o:Oper) (j:Nat):Bool:=o.after.toList.any fun e=>Region.binds .any e&&Nat.beq e.on j
def mL:Nat→List Oper→Bool
 |_,[]=>true
 |i,o::l=>o.after.toList.all (fun e=> !(Region.binds .any e)||Nat.blt e.on i)&&mL (i+1) l
def reach (ops:Array Oper):Nat→Nat→Nat→Bool
 |0,_,_=>false
 |n+1,i,j=>match ops[i]? with
  |some o=>RP o j||o.after.toList.any fun e=>Region.binds .any e&&reach ops n e.on j
  |none=>false
def Ob.kL:Ob→Ob
 | .row e sz xs=> .row e sz (xs.map fun _=>[])
 | .rn e sz k e' sz' xs _=> .rn e sz k e' sz' (xs.map fun _=>[]) []
 |_=> .it [] 0
structure dF where
 rs:List Nat:=[]
 rl:List Nat:=[]
 kp:Nat→Bool:=fun _=>false
 ws:List Nat:=[]
 ro:List Nat:=[]
 wo:List Nat:=[]
 mv:List Nat:=[]
 WU:List Nat:=[]
 all:Bool:=false
 we:Nat→Bool:=fun _=>false
 oe:Nat→Bool:=fun _=>false
def meets (a b:List Nat):Bool:=a.any fun x=>b.any (Nat.beq x)
def dF.conflict (a b:dF):Bool:=a.all||b.all||meets a.ws b.rs||meets a.rs b.ws||meets a.ws b.ws||meets a.wo b.ro||meets a.ro b.wo||meets a.wo b.wo||meets a.mv b.WU||meets b.mv a.WU||b.rs.any a.we||b.ro.any a.oe||b.rl.any (fun j=>a.wo.contains j&& !(a.kp j))||a.rl.any (fun j=>b.wo.contains j&& !(b.kp j))
def CL (st:St):List Operand→List Nat
 |[]=>[]
 | .tmp t::l=>(match st.env t with
  |some s=>s.ids
  |none=>[])++CL st l
 |_::l=>CL st l
def vQ (st:St) (o:Oper):List Nat:=CL st o.op.operands.toList
def targetId:SV→Option Nat
 | .ptr id _=>some id
 | .rp id _ _ _=>some id
 |_=>none
def rG:List Oper→List Nat
 |[]=>[]
 |o::l=>match o.op,o.dst with
  | .alloc _,some d=>d::rG l
  |_,_=>rG l
def rf (ops:Array Oper) (prev:List (Nat×dF)) (i:Nat) (f:dF):Bool:=prev.all fun p=>reach ops 12 i p.1|| !(p.2.conflict f)
def Fc:Op→Bool
 | .move _| .assign _| .pick _ _ _=>true
 |_=>false
def Dx (P:Program) (h:Hint) (o:Oper) (st:St):List Nat:=
 match o.op with
 | .call c=>match c.callee with
  | .value f=>match ox P h st c f with
   |some (_,args)=>bif o.dst.any h.stay.contains then fo st args else []
   |none=>[]
  |_=>[]
 |_=>[]
def Ob.mentions (id:Nat):Ob→Bool
 | .box _ cells=>cells.any (SV.mentions id)
 |_=>false
def Ob.ids:Ob→List Nat
 | .box _ cells=>cells.flatMap SV.ids
 |_=>[]
def F5 (st:St) (t:Nat):List Nat:=match st.env t with
 |some s=>s.ids
 |none=>[]
def OH (st:St) (j:Nat):List Nat:=match st.ob j with
 |some o=>o.ids
 |none=>[]
def dF.fill (st st':St) (f:dF):dF:=
 {f with
  WU:=f.mv++(f.ro++(f.wo++(f.rs.flatMap (F5 st)++(f.ws.flatMap (F5 st')++(f.ro.flatMap (OH st)++f.wo.flatMap (OH st'))))))
  we:=fun t=>match st.env t with
   |some v=>f.mv.any fun id=>v.mentions id
   |none=>false
  oe:=fun j=>match st.ob j with
   |some o=>f.mv.any fun id=>o.mentions id
   |none=>false }
def iq:dF:={ all:=true }
def SF:Op→Bool
 | .indexAddr _ _ _=>true
 |_=>false
def pZ (P:Program) (h:Hint) (ops:Array Oper) (o:Oper) (st:St):dF:=
 {rs:=dX ops o,ws:=o.dst.toList,ro:=bif Fc o.op||SF o.op then [] else vQ st o++Dx P h o st,rl:=bif SF o.op then vQ st o else [] }
def nQ (ops:Array Oper) (o:Oper):dF:={ rs:=dX ops o,ws:=o.dst.toList }
def vf (P:Program) (ops:Array Oper) (o:Oper) (st:St) (a:Operand):dF:=match (aR P 0 st a).bind targetId with
 |some id=>{ rs:=dX ops o,ro:=id::vQ st o,wo:=[id] }
 |none=>iq
def Gb (P:Program) (ops:Array Oper) (o:Oper) (st:St) (c:Call):dF:=match c.args.toList,c.argTypes.toList,o.dst with
 |[x,_],[t,_],some d=>match aR P t st x with
  |some (.row id)=>{ rs:=dX ops o,ws:=[d],ro:=id::vQ st o,wo:=[id],mv:=[id] }
  |some (.at id .full)=>{ rs:=dX ops o,ws:=[d],ro:=id::vQ st o,wo:=[id],mv:=[id] }
  |_=>iq
 |_,_,_=>iq
def JE (P:Program) (ops:Array Oper) (o:Oper) (st:St) (x:Operand) (d:Nat):dF:=match aR P 0 st x with
 |some (.rp id _ _ _)=>match st.ob id with
  |some (.rn _ _ _ _ _ _ _)=>{ rs:=dX ops o,ws:=[d],ro:=[id],wo:=[id,d],mv:=[d],kp:=fun j=>Nat.beq j id&& !(Nat.beq id d) }
  |_=>iq
 |_=>iq
def xU (P:Program) (ops:Array Oper) (o:Oper) (st:St) (t:TypeId) (a x:Operand):dF:=match aR P 0 st a,aR P t st x with
 |some (.rp id _ _ _),some (.row j)=>{ rs:=dX ops o,ro:=[id,j],wo:=[id,j,id+40000],mv:=[j,id+40000],kp:=fun q=>Nat.beq q id&& !(Nat.beq id j) }
 |some (.ptr _ _),some (.sub _ _ _ _)=>iq
 |_,_=>vf P ops o st a
def pY (P:Program) (h:Hint) (ops:Array Oper) (o:Oper) (st:St) (c:Call) (f:Operand):dF:=match ox P h st c f with
 |some (_,args)=>{ rs:=dX ops o,ws:=o.dst.toList,ro:=fo st args,wo:=fo st args,mv:=(fo st args).filter (fM false st (iZ args)) }
 |none=>iq
def gC (P:Program) (h:Hint) (ops:Array Oper) (o:Oper) (st:St):dF:=
 match o.op,o.dst with
 | .store t a x,none=>xU P ops o st t a x
 | .alloc _,some d=>bif h.rows.contains d then iq else { rs:=dX ops o,ws:=[d],wo:=[d],mv:=[d] }
 | .buildSlice _ _ _,some d=>bif h.rows.contains d then { rs:=dX ops o,ws:=[d],wo:=[d],mv:=[d] } else iq
 | .call c,_=>match c.callee with
  | .builtin .append=>Gb P ops o st c
  | .value f=>bif o.dst.any h.owns.contains&& !(o.dst.any (fun d=>(qQ h d).isSome)) then { rs:=dX ops o,ws:=o.dst.toList,wo:=o.dst.toList,mv:=o.dst.toList }
   else bif !(o.dst.any h.owns.contains)&&(!(o.dst.any h.stay.contains)&&wide st c f) then pY P h ops o st c f else iq
  |_=>iq
 | .load _ x,some d=>bif h.take.contains d then JE P ops o st x d else iq
 |_,_=>iq
def mj:List Nat→St→St
 |[],st=>st
 |p::l,st=>mj l (st.cn p)
def SE (h:Hint) (st:St) (o:Oper):Bool:=
 match o.op with
 | .buildSlice _ _ _=> !(o.dst.any h.rows.contains)
 | .call c=>match c.callee with
  | .builtin .append=>false
  | .builtin .delete=>false
  | .builtin .clear=>false
  | .value f=> !(o.dst.any h.owns.contains)&&((o.dst.any h.stay.contains&&wide st c f)|| !(wide st c f||c.args.toList.any (fun x=>(jD h st x).isSome)))
  |_=>true
 | .assign x=>match o.dst,x with
  |some d, .const (.slice none 0 0)=> !(h.rows.contains d)
  |some d,x=>(!(h.bw.contains d)&& !(h.Zt.contains d))|| !(gx st x)
  |none,_=>true
 | .lookup _ x _ ok=> !(ko h x&& !ok)
 | .makeFunc _ _ _| .move _| .pick _ _ _| .binOp _ _ _ _ _| .unOp _ _ _| .convert _ _ _| .fieldAddr _ _ _| .field _ _ _| .indexAddr _ _ _| .index _ _ _| .slice _ _ _ _ _| .extract _ _| .nilCheck _=>true
 | .build _ _=> !(o.dst.any h.rows.contains)
 | .load _ _=> !(o.dst.any h.take.contains)
 |_=>false
def isW:Op→Bool
 | .buildSlice _ _ _| .build _ _| .load _ _=>true
 |_=>false
def Vy (st:St):Op→Bool
 | .call c=>match c.callee with
  | .value _=> !(c.args.toList.any (gx st))
  |_=>false
 |_=>false
def nt:List SV→List Nat
 |[]=>[]
 | .row id::l=>id::nt l
 |_::l=>nt l
def He (st:St) (t:Nat):dF:=
 match st.env t with
 |some (.row id)=>{ rs:=[t],ro:=[id],wo:=[id],mv:=[id] }
 |some (.ptr id _)=>match st.ob id with
  |some (.box _ cells)=>{ rs:=[t],ro:=id::nt cells,wo:=nt cells,mv:=nt cells }
  |_=>iq
 |_=>{ rs:=[t] }
def dF.then (a b:dF):dF:={ rs:=a.rs++b.rs,ws:=b.ws++a.ws,ro:=a.ro++b.ro,wo:=b.wo++a.wo,mv:=a.mv++b.mv,all:=a.all||b.all,rl:=a.rl++b.rl,kp:=fun j=>(a.kp j|| !(a.wo.contains j))&&(b.kp j|| !(b.wo.contains j)) }
def Av (P:Program) (h:Hint) (ops:Array Oper) (o:Oper):List Nat→St→dF
 |[],st=>bif SE h st o then (bif isW o.op||Vy st o.op then pZ P h ops o st else iq) else gC P h ops o st
 |t::l,st=>match nh st t with
  |some st1=>(He st t).then (Av P h ops o l st1)
  |none=>iq
def kC (P:Program) (h:Hint) (ops:Array Oper) (o:Oper) (st:St):dF:=(Av P h ops o (tR h o) st).then { rs:=dX ops o }
def fO (P:Program) (h:Hint) (aZ:cL) (ops:Array Oper):Nat→List Oper→List (Nat×dF)→St→Option St
 |_,[],_,st=>some st
 |i,o::l,prev,st=>match j6 ops o st with
  |none=>none
  |some b=>bif b then
    bif SE h st o&&(tR h o).isEmpty then
     match cI P h aZ o st with
     |some v=>bif rf ops prev i ((pZ P h ops o st).fill st (st.set o.dst v)) then fO P h aZ ops (i+1) l ((i,(pZ P h ops o st).fill st (st.set o.dst v))::prev) (st.set o.dst v) else none
     |none=>none
    else match step P h aZ o st with
     |some st'=>bif rf ops prev i ((kC P h ops o st).fill st st') then fO P h aZ ops (i+1) l ((i,(kC P h ops o st).fill st st')::prev) st' else none
     |none=>none
   else bif rf ops prev i ((nQ ops o).fill st (st.set o.dst .undef)) then fO P h aZ ops (i+1) l ((i,(nQ ops o).fill st (st.set o.dst .undef))::prev) (st.set o.dst .undef) else none
def St.Dl (st:St) (id:Nat):Option St:=
 match st.ob id with
 |some (.box _ _)=>st.jk id
 |none=>some st
 |_=>st.cw id
def tu:List Nat→St→Option St
 |[],st=>some st
 |id::l,st=>(st.Dl id).bind (tu l)
def Hint.Ub (h:Hint) (id:Nat) (st:St):Option St:=
 match find h.jt id with
 |some l=>tu l st
 |none=>some st
def exec (P:Program) (h:Hint) (aZ:cL) (n:Nat):Code→St→Option (Ex×St)
 | .skip,st=>some (.normal,st)
 | .label _,st=>some (.normal,st)
 | .region id ops draw,st=>(h.Ub id st).bind fun st=>
  bif draw then
   bif mL 0 ops.toList then (fO P h aZ ops 0 ops.toList [] (mj (rG ops.toList) st)).map fun s=>(.normal,s) else none
  else (kq P h aZ ops ops.toList st).map fun s=>(.normal,s)
 | .seq a b,st=>match find h.blk (cE a) with
  |some x=>bif x.1 st then some (XO (x.2 st).1,(x.2 st).2) else none
  |none=>match exec P h aZ n a st with
   |some (.normal,st')=>exec P h aZ n b st'
   |r=>r
 | .cond c a b,st=>match aR P 0 st c with
  |some (.pv (.bool t))=>bif t then exec P h aZ n a st else exec P h aZ n b st
  |_=>none
 | .block id c,st=>match exec P h aZ n c st with
  |some (.exit j,st')=>bif Nat.beq j id then some (.normal,st') else some (.exit j,st')
  |r=>r
 | .loop c,st=>iter h (cE c) (exec P h aZ n c) n st
 | .exit id,st=>some (.exit id,st)
 | .ret,st=>some (.ret,st)
 | .scope c,st=>exec P h aZ n c st
 |_,_=>none
def sA:Nat→List SV→List (Nat×SV)
 |_,[]=>[]
 |i,v::l=>(i,v)::sA (i+1) l
def St.Hg (st:St) (id:Nat):Option St:=
 match st.ob id with
 |some (.box _ cells)=>(jc cells st).bind fun st'=>st'.jk id
 |_=>none
def Hi (st:St) (t:Nat):Option (St×AV):=
 match st.env t with
 |some (.pv v)=>some (st,v)
 |some (.ptr id 0)=>match st.Hg id with
  |some st'=>match st'.env t with
   |some (.cp cs)=>some (st', .ref cs)
   |_=>none
  |none=>none
 |some (.row id)=>match st.cw id with
  |some st'=>match st'.env t with
   |some (.pv v)=>some (st',v)
   |_=>none
  |none=>none
 |_=>none
def nK (P:Program):List ResultVar→St→Option (St×List AV)
 |[],st=>some (st,[])
 | .tmp t::l,st=>match Hi st t with
  |some (st',v)=>match nK P l st' with
   |some (st2,vs)=>some (st2,v::vs)
   |none=>none
  |none=>none
 | .cell ad t::l,st=>match c7 P ⟨none, .load t (.tmp ad),t, "", #[],none⟩ st with
  |some (.pv v)=>match nK P l st with
   |some (st2,vs)=>some (st2,v::vs)
   |none=>none
  |some (.row id)=>match st.cw id with
   |some st'=>match c7 P ⟨none, .load t (.tmp ad),t, "", #[],none⟩ st' with
    |some (.pv v)=>match nK P l st' with
     |some (st2,vs)=>some (st2,v::vs)
     |none=>none
    |_=>none
   |none=>none
  |_=>none
def result:List AV→AV
 |[v]=>v
 |vs=> .dI vs
def jM (names:List Nat) (st:St):List Nat→Option (List (Nat×Ob))
 |[]=>some []
 |id::l=>match st.ob id,jM names st l with
  |some o,some os=>bif o.closed names then some ((id,o)::os) else none
  |_,_=>none
def jj (N:Nat):Code→Bool
 | .region _ ops _=>ops.toList.all fun o=>match o.dst with
  |some d=>Nat.blt d N
  |none=>true
 | .seq a b=>jj N a&&jj N b
 | .cond _ a b=>jj N a&&jj N b
 | .block _ c=>jj N c
 | .loop c=>jj N c
 | .scope c=>jj N c
 |_=>true
def LO (fn:Func):Bool:=Nat.ble fn.ntmps 10000&& !(fn.name== "runtime.NumGoroutine")&&match fn.body with
 |some c=>jj fn.ntmps c
 |none=>true
def wR (P:Program):Bool:=P.follows .mixedOrders&&P.funcs.toList.all LO&&Nat.ble P.funcs.size 1000000
def HD (fn:Func) (names:List Nat) (st:St):Option Nat:=
 match fn.results.toList,names with
 |[.tmp t],[10000]=>match st.env t,st.ob 10000 with
  |some (.row 10000),some (.row _ _ xs)=>some xs.length
  |some (.sub 10000 _ 0 n),some (.row _ _ _)=>some n
  |_,_=>none
 |_,_=>none
def M5 (fn:Func) (st:St):Option AV:=
 match fn.results.toList with
 |[.tmp t]=>match st.env t with
  |some (.row id)=>match r9 id,st.ob id with
   |true,some (.row e sz xs)=>some (.dI [.dI [.self e, .aW sz xs]])
   |_,_=>none
  |_=>none
 |_=>none
def RU (P:Program) (own:Bool) (fn:Func) (names:List Nat) (e:Ex) (st:St):Option (AV×List (Nat×Ob)):=
 match e with
 | .exit _=>none
 |_=>bif own then
   match M5 fn st,jM names st names with
   |some r,some l=>some (r,l)
   |_,_=>none
  else match HD fn names st with
  |some n=>match jM names st names with
   |some l=>some (.self n,l)
   |none=>none
  |none=>match nK P fn.results.toList st with
   |some (st',vs)=>match jM names st' names with
    |some l=>some (result vs,l)
    |none=>none
   |none=>none
def RT (P:Program) (own:Bool) (fn:Func) (bT:List (Nat×Ob)) (e:Ex) (st:St):Option (AV×List (Nat×Ob)):=RU P own fn (bT.map (·.1)) e st
def jo (P:Program) (H:Nat→Hint) (dg:cL):Nat→cL
 |0=>fun _ _ _=>none
 |n+1=>fun f args bT=>
  match dg f args bT with
  |some r=>some r
  |none=>match P.funcs[f]? with
   |some fn=>match fn.body with
    |some c=>
     bif Nat.ble args.length fn.ntmps&&(bT.map (·.1)).all (fun i=> !(r9 i)) then
      match exec P (H f) (jo P H dg n) n c { env:=find (sA 0 args),ob:=find bT } with
      |some (e,st)=>RT P (H f).own fn bT e st
      |none=>none
     else none
    |none=>none
   |none=>none
end Go.AM
