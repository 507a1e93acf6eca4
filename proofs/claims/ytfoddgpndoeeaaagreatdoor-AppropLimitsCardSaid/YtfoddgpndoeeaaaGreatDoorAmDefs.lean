/- AN ABSTRACT MACHINE over the model's code. -/
import Derived.Calls
import Derived.CallsIn
import Derived.OrdersIn
import Derived.LoopNIn
import Derived.TacticsIn
import Derived.RangeFuncIn
import Derived.Orders
import Derived.LoopN
import Derived.Scope
import Derived.Below
import Derived.Laws.OwnMore
import Derived.Maps.AppendAt
import Derived.Laws.BytesString
namespace Go.AM
inductive AV where
 |bool (b:Bool)
 |int (k:IntKind) (n:Int)
 |str (s:List UInt8)
 |cE (sz:Nat) (xs:List (List AV))
 |agg (cs:List AV)
 |fn (f:Nat) (caps:List AV)
 |e9 (vs:List AV)
 |ref (cs:List AV)
 |mp (ks vs:List AV)
 |self (n:Nat)
 |pH
 |jL
 |hole
 deriving Inhabited
inductive jl where
 |v (a:AV)
 |p (id:Nat)
 |r (id:Nat)
 deriving Inhabited
inductive SV where
 |undef
 |any
 |pv (v:AV)
 |ptr (id off:Nat)
 |row (id:Nat)
 |rp (id sz i off:Nat)
 |sub (id sz lo hi:Nat)
 |cp (cs:List AV)
 |cl (f:Nat) (caps:List jl)
 |two (v:SV) (b:Bool)
 |ag (cs:List jl)
 deriving Inhabited
inductive Ob where
 |box (t:TypeId) (cells:List SV)
 |row (e:TypeId) (sz:Nat) (xs:List (List AV))
 |mp (k e:TypeId) (ks vs:List AV)
 |mr (k e:TypeId) (sz:Nat) (ks:List AV) (vs:List (Option (List (List AV))))
 |it (s:List UInt8) (pos:Nat)
  |rn (e:TypeId) (sz k:Nat) (e':TypeId) (sz':Nat) (xs:List (List AV)) (ys:List (Option (List (List AV))))
 deriving Inhabited
structure St where
 env:Nat→Option SV
 ob:Nat→Option Ob
def AV.cells:AV→List AV
 | .agg cs=>cs
 |v=>[v]
def AV.zL:AV→Bool
 | .e9 _=>false
 |_=>true
def AV.NN:AV→Bool
 | .e9 _=>true
 |_=>false
def AV.gm:AV→Bool
 | .self _=>false
 | .e9 vs=>bif Nat.beq vs.length 1 then !(vs.any AV.NN) else true
 |_=>true
def AV.scalar:AV→Bool
 | .bool _| .int _ _| .str _=>true
 |_=>false
def AV.plain:AV→Bool
 | .e9 vs=>vs.all AV.scalar
 |v=>v.scalar
def find {α:Type}:List (Nat×α)→Nat→Option α
 |[],_=>none
 |(j,v)::l,i=>cond (Nat.beq j i) (some v) (find l i)
def put {α:Type} (m:Nat→Option α) (d:Nat) (v:Option α):Nat→Option α:=fun i=>cond (Nat.beq d i) v (m i)
def St.set (st:St) (d:Option Nat) (v:SV):St:=
 match d with
 |some d=>{ st with env:=put st.env d (some v) }
 |none=>st
structure Hint where
 loops:List (Nat×List Nat×List Nat):=[]
 rows:List Nat:=[]
 cG:List Nat:=[]
 bJ:List Nat:=[]
 sQ:List (Nat×List Nat):=[]
 stay:List Nat:=[]
 keep:List Nat:=[]
 blk:List (Nat×(St→Bool)×(St→Nat×St)):=[]
 use:List Nat:=[]
 pQ:List Nat:=[]
 own:Bool:=false
 jL:List (Nat×List (Nat×TypeId×Nat)):=[]
 take:List Nat:=[]
 TE:List (Nat×List Nat):=[]
 nest:List (Nat×Nat×TypeId×Nat):=[]
def kS {α:Type} (m:Nat→Option α):List Nat→List (Nat×α)
 |[]=>[]
 |i::l=>match m i with
  |some v=>(i,v)::kS m l
  |none=>kS m l
def Hint.canon (h:Hint) (key:Nat) (st:St):St:=
 match find h.loops key with
 |some (vars,obs)=>{ env:=find (kS st.env vars),ob:=find (kS st.ob obs) }
 |none=>st
def bY:Code→Nat
 | .region id _ _=>id
 | .seq a _=>bY a
 | .cond _ a _=>bY a
 | .block _ c=>bY c
 | .loop c=>bY c
 | .scope c=>bY c
 |_=>0
def isSlice (P:Program) (t:TypeId):Option (TypeId×Nat):=
 match P.underlying t with
 |some (.slice e)=>(P.info? e).map fun i=>(e,i.size)
 |_=>none
def yJ (P:Program) (t:TypeId):Option Bool:=
 match P.underlying t with
 |some (.struct _)|some (.array _ _)=>some true
 |some _=>some false
 |none=>none
def fH (P:Program) (t:TypeId):Option Nat:=(P.info? t).map (·.size)
def ofConst (P:Program) (t:TypeId):Value→Option AV
 | .bool b=>some (.bool b)
 | .int k n=>some (.int k n)
 | .string s=>some (.str s.data.toList)
 | .slice none 0 0=>(isSlice P t).map fun x=> .cE x.2 []
 | .pointer none=>some .pH
 | .map none=>match P.underlying t with
  |some (.map _ _)=>some (.mp [] [])
  |_=>none
 |_=>none
def aM (P:Program) (t:TypeId) (st:St):Operand→Option SV
 | .tmp i=>st.env i
 | .const v=>(ofConst P t v).map .pv
 | .func f=>some (.pv (.fn f []))
 | .global _=>none
def lK (P:Program):Nat→TypeId→List TypeId
 |0,_=>[]
 |n+1,t=>match P.underlying t with
  |some (.struct fs)=>fs.toList.flatMap fun f=>lK P n f.type
  |some (.array m e)=>(List.replicate m (lK P n e)).flatten
  |_=>[t]
def fT (P:Program):List TypeId→List Value→Option (List AV)
 |[],[]=>some []
 |t::ts,v::vs=>match ofConst P t v,fT P ts vs with
  |some a,some as=>some (a::as)
  |_,_=>none
 |_,_=>none
def zeroCells (P:Program) (t:TypeId):Option (List AV):=
 match P.info? t with
 |some i=>match i.zero with
  |some z=>fT P (lK P 8 t) z.cells.toList
  |none=>none
 |none=>none
def ve:List Nat→List AV→Option (List AV)
 |[],cs=>some cs
 |k::ks,cs=>match cs[k]? with
  |some (.cE _ [])=>(ve ks cs).map fun z=>z.set k .jL
  |_=>none
def Cx (P:Program) (h:Hint) (d:Option Nat) (t:TypeId):Option (List AV):=
 match d.bind (find h.TE) with
 |some ks=>(zeroCells P t).bind (ve ks)
 |none=>zeroCells P t
def vH (op:BinOp) (k:IntKind) (a b:Int):Option AV:=
 match op with
 | .add=>some (.int k (k.wrap (a+b)))
 | .sub=>some (.int k (k.wrap (a-b)))
 | .mul=>some (.int k (k.wrap (a *b)))
 | .quo=>if b=0 then none else some (.int k (k.wrap (a.tdiv b)))
 | .rem=>if b=0 then none else some (.int k (a.tmod b))
 | .and=>some (.int k (k.wrap (BitVec.ofInt k.bits a&&&BitVec.ofInt k.bits b).toNat))
 | .or=>some (.int k (k.wrap (BitVec.ofInt k.bits a|||BitVec.ofInt k.bits b).toNat))
 | .xor=>some (.int k (k.wrap (BitVec.ofInt k.bits a^^^ BitVec.ofInt k.bits b).toNat))
 | .andNot=>some (.int k (k.wrap (BitVec.ofInt k.bits a&&& ~~~BitVec.ofInt k.bits b).toNat))
 | .eql=>some (.bool (a==b))
 | .neq=>some (.bool (a !=b))
 | .lss=>some (.bool (a<b))
 | .leq=>some (.bool (a≤b))
 | .gtr=>some (.bool (a>b))
 | .geq=>some (.bool (a≥b))
 | .shl| .shr=>none
def rE (op:BinOp) (k:IntKind) (a b:Int):Option AV:=
 if b<0 then none else
 match op with
 | .shl=>some (.int k (k.wrap (a *2^ min b.toNat k.bits)))
 | .shr=>some (.int k (a.fdiv (2^ min b.toNat k.bits)))
 |_=>none
def Jv (op:BinOp) (a b:List UInt8):Option AV:=
 match op with
 | .add=>if a.length+b.length≤9223372036854775807 then some (.str (a++b)) else none
 | .eql=>some (.bool (a==b))
 | .neq=>some (.bool !(a==b))
 | .lss=>some (.bool (Op.bytesLess a b))
 | .leq=>some (.bool (Op.bytesLess a b||a==b))
 | .gtr=>some (.bool !(Op.bytesLess a b||a==b))
 | .geq=>some (.bool !(Op.bytesLess a b))
 |_=>none
def mA:AV→AV→Option Bool
 | .str a, .str b=>some (a==b)
 | .int k a, .int k' b=>if k=k' then some (a==b) else none
 | .bool a, .bool b=>some (a==b)
 |_,_=>none
def eP (P:Program) (k:TypeId) (key:AV):Bool:=
 match P.underlying k,key with
 |some .string, .str _=>true
 |some (.int q), .int q' _=>q==q'
 |some .bool, .bool _=>true
 |_,_=>false
def Bp (P:Program) (xs ys:List AV):List Field→Option Bool
 |[]=>some true
 |f::fs=>match xs[f.offset]?,ys[f.offset]? with
  |some a,some b=>bif !(f.name== "_")&&eP P f.type a&&eP P f.type b&&(fH P f.type).isSome then
    match mA a b,Bp P xs ys fs with
    |some r,some q=>some (r&&q)
    |_,_=>none
   else none
  |_,_=>none
def Hf (P:Program) (op:BinOp) (t:TypeId) (xs ys:List AV):Option AV:=
 match P.underlying t with
 |some (.struct fs)=>bif !(P.stoodInHeld t)&& !(P.eqGuardType P.depth t) then
   match op,Bp P xs ys fs.toList with
   | .eql,some b=>some (.bool b)
   | .neq,some b=>some (.bool !b)
   |_,_=>none
  else none
 |_=>none
def bin (P:Program) (op:BinOp) (t:TypeId) (x y:AV):Option AV:=
 match x,y with
 | .agg xs, .agg ys=>Hf P op t xs ys
 | .int k a, .int k' b=>match op with
  | .shl| .shr=>rE op k a b
  |_=>if k=k' then vH op k a b else none
 | .str a, .str b=>Jv op a b
 | .bool a, .bool b=>match P.underlying t,op with
  |some .bool, .eql=>some (.bool (a==b))
  |some .bool, .neq=>some (.bool !(a==b))
  |_,_=>none
 |_,_=>none
def un (op:UnOp) (x:AV):Option AV:=
 match op,x with
 | .neg, .int k n=>some (.int k (k.wrap (0-n)))
 | .not, .bool b=>some (.bool !b)
 |_,_=>none
def dS :SV→Option AV
 | .pv v=>some v
 |_=>none
def lI:List SV→Option (List AV)
 |[]=>some []
 | .pv v::l=>(lI l).map (v:: ·)
 |_::_=>none
def dU (P:Program) (t:TypeId) (cs:List AV):Option AV:=
 match yJ P t,fH P t with
 |some true,some n=>if n≤cs.length then some (.agg (cs.take n)) else none
 |some false,some _=>cs[0]?
 |_,_=>none
def mP (P:Program) (t:TypeId) (f:Nat):Option Field:=
 match P.underlying t with
 |some (.struct fs)=>fs[f]?
 |_=>none
def qM (place:Nat→Option (Nat×Nat)) (cells:List AV):List (Nat×AV)→Option (List AV)
 |[]=>some cells
 |(i,v)::rest=>
  match place i with
  |none=>none
  |some (off,size)=>
   if v.cells.length=size∧off+size≤cells.length then qM place (cells.take off++v.cells++cells.drop (off+size)) rest else none
def iw (P:Program) (t:TypeId) (f:Nat):Option (Nat×Nat):=
 match mP P t f with
 |some fd=>(fH P fd.type).map fun n=>(fd.offset,n)
 |none=>none
def partsOf (P:Program) (ty:Nat→TypeId) (st:St):List (Nat×Operand)→Option (List (Nat×AV))
 |[]=>some []
 |(i,x)::l=>match (aM P (ty i) st x).bind dS,partsOf P ty st l with
  |some v,some vs=>some ((i,v)::vs)
  |_,_=>none
def yh (P:Program) (t:TypeId) (i:Nat):TypeId:=((mP P t i).map (·.type)).getD 0
def chunks (sz:Nat):Nat→List AV→List (List AV)
 |0,_=>[]
 |n+1,l=>l.take sz::chunks sz n (l.drop sz)
def lu (z:List AV):Nat→List AV
 |0=>[]
 |n+1=>z++lu z n
def elems (st:St):SV→Option (Nat×List (List AV))
 | .pv (.cE sz xs)=>some (sz,xs)
 | .row id=>match st.ob id with
  |some (.row _ sz xs)=>some (sz,xs)
  |_=>none
 |_=>none
def gl (key:AV):List AV→Option (Option Nat)
 |[]=>some none
 |x::l=>match mA key x with
  |some true=>some (some 0)
  |some false=>(gl key l).map fun r=>r.map (· +1)
  |none=>none
def FY {α:Type} (key:AV) (ks:List AV) (vs:List α):Option (Option α):=
 match gl key ks with
 |some (some i)=>(vs[i]?).map some
 |some none=>some none
 |none=>none
def pE {α:Type} (key:AV) (v:α) (ks:List AV) (vs:List α):Option (List AV×List α):=
 match gl key ks with
 |some (some i)=>some (ks,vs.set i v)
 |some none=>some (ks++[key],vs++[v])
 |none=>none
def I1 {α:Type} (key:AV) (ks:List AV) (vs:List α):Option (List AV×List α):=
 match gl key ks with
 |some (some i)=>some (ks.eraseIdx i,vs.eraseIdx i)
 |some none=>some (ks,vs)
 |none=>none
def maps (st:St):SV→Option (List AV×List AV)
 | .pv (.mp ks vs)=>some (ks,vs)
 | .row id=>match st.ob id with
  |some (.mp _ _ ks vs)=>some (ks,vs)
  |_=>none
 |_=>none
def xz (st:St):SV→Option (List AV)
 | .row id=>match st.ob id with
  |some (.mr _ _ _ ks _)=>some ks
  |_=>none
 |_=>none
def iN (P:Program) (t:TypeId):Option AV:=
 match P.info? t with
 |some i=>match i.zero with
  |some (.agg cs)=>(fT P (lK P 8 t) cs.toList).map .agg
  |some v=>ofConst P t v
  |none=>none
 |none=>none
def found (ok:Bool) (v:AV) (b:Bool):AV:=bif ok then .e9 [v, .bool b] else v
def bytesOf:List (List AV)→Option (List UInt8)
 |[]=>some []
 |[.int .u8 n]::l=>(bytesOf l).map (UInt8.ofNat n.toNat:: ·)
 |_=>none
def dG (lo:Option SV) (dflt:Nat) (hi:Nat):Option Nat:=
 match lo with
 |none=>some dflt
 |some (.pv (.int _ i))=>if 0≤i∧i≤hi then some i.toNat else none
 |some _=>none
def fB (P:Program) (st:St):Option Operand→Option (Option SV)
 |none=>some none
 |some x=>(aM P 0 st x).map some
def I6 (isMax:Bool):AV→AV→Option AV
 | .int k a, .int k' b=>if k=k' then some (.int k (if isMax then (if b>a then b else a) else (if b<a then b else a))) else none
 | .str a, .str b=>some (.str (bif isMax then (bif !(Op.bytesLess a b) then a else b) else (bif Op.bytesLess a b||a==b then a else b)))
 |_,_=>none
def eF (P:Program) (st:St) (isMax:Bool) (acc:AV):List Operand→Option AV
 |[]=>some acc
 |x::l=>match (aM P 0 st x).bind dS with
  |some v=>match I6 isMax acc v with
   |some r=>eF P st isMax r l
   |none=>none
  |none=>none
def qp (P:Program) (c:Call) (st:St):Option SV:=
 match c.callee,c.args.toList with
 | .builtin .len,[x]=>match c.argTypes.toList with
  |[t]=>match P.underlying t,aM P t st x with
   |some .string,some (.pv (.str s))=>some (.pv (.int .i64 s.length))
   |some (.slice _),some (.pv .jL)=>some (.pv (.int .i64 0))
   |some (.slice _),some (.sub _ _ lo hi)=>some (.pv (.int .i64 ((hi-lo:Nat):Int)))
   |some (.slice _),some v=>(elems st v).map fun e=> .pv (.int .i64 e.2.length)
   |some (.map _ _),some v=>(maps st v).map fun e=> .pv (.int .i64 e.1.length)
   |_,_=>none
  |_=>none
 | .builtin .max,x::l=>match (aM P 0 st x).bind dS with
  |some v=>(eF P st true v l).map .pv
  |none=>none
 | .builtin .min,x::l=>match (aM P 0 st x).bind dS with
  |some v=>(eF P st false v l).map .pv
  |none=>none
 |_,_=>none
def oU (P:Program) (st:St) (n:Nat) (e:TypeId) (x ix:Operand):Option SV:=
 match fH P e,aM P 0 st x,aM P 0 st ix with
 |some s,some (.ptr id off),some (.pv (.int _ i))=>if 0≤i∧i<n∧0<s then some (.ptr id (off+i.toNat *s)) else none
 |_,_,_=>none
def nU (P:Program) (st:St) (t:TypeId) (x ix:Operand):Option SV:=
 match isSlice P t,aM P t st x,aM P 0 st ix with
 |some (_,s),some (.pv (.cE sz xs)),some (.pv (.int _ i))=>
  if s=sz∧0≤i then (xs[i.toNat]?).map .cp else none
 |some (_,s),some (.row id),some (.pv (.int _ i))=>match st.ob id with
  |some (.row _ sz xs)=>if s=sz∧0≤i∧i.toNat<xs.length then some (.rp id sz i.toNat 0) else none
  |some (.rn _ sz _ _ _ xs _)=>if s=sz∧0≤i∧i.toNat<xs.length then some (.rp id sz i.toNat 0) else none
  |_=>none
 |some (_,s),some (.sub id sz lo hi),some (.pv (.int _ i))=>if s=sz∧0≤i∧i.toNat<hi-lo then some (.rp id sz (lo+i.toNat) 0) else none
 |_,_,_=>none
def oH (P:Program) (z:Option (List AV)) (t:TypeId) (parts:Array (Nat×Operand)) (st:St):Option SV:=
 match P.underlying t with
 |some (.struct fs)=>match z,partsOf P (yh P t) st parts.toList with
  |some z,some ps=>if ps.all (fun p=>p.2.zL)=true∧fs.toList.all (fun f=>(fH P f.type).isSome)=true then (qM (iw P t) z ps).map fun cs=> .pv (.agg cs) else none
  |_,_=>none
 |_=>none
def cD (P:Program) (o:Oper) (st:St):Option SV:=
 match o.op with
 | .move x| .assign x=>aM P o.type st x
 | .pick c a b=>match aM P 0 st c with
  |some (.pv (.bool t))=>bif t then aM P o.type st a else aM P o.type st b
  |_=>none
 | .binOp op t x y _=>match (aM P t st x).bind dS,(aM P t st y).bind dS with
  |some a,some b=>(bin P op t a b).map .pv
  |_,_=>none
 | .unOp op _ x=>match (aM P 0 st x).bind dS with
  |some a=>(un op a).map .pv
  |none=>none
 | .convert src dst x=>match P.underlying src,P.underlying dst with
  |some (.slice e),some .string=>match P.underlying e,fH P e,(aM P src st x).bind (elems st) with
   |some (.int .u8),some 1,some (1,xs)=>(bytesOf xs).map fun b=> .pv (.str b)
   |_,_,_=>none
  |some _,some (.int k)=>match (aM P 0 st x).bind dS with
   |some (.int _ n)=>some (.pv (.int k (k.wrap n)))
   |_=>none
  |some _,some .string=>match (aM P 0 st x).bind dS with
   |some (.str s)=>some (.pv (.str s))
   |_=>none
  |_,_=>none
 | .call c=>qp P c st
 | .nilCheck x=>match aM P 0 st x with
  |some (.ptr id off)=>some (.ptr id off)
  |some (.cp cs)=>some (.cp cs)
  |some (.pv (.ref cs))=>some (.pv (.ref cs))
  |some (.rp id sz i off)=>some (.rp id sz i off)
  |_=>none
 | .fieldAddr t x f=>match mP P t f with
  |some fd=>match fH P fd.type with
   |some 0=>none
   |some _=>match aM P 0 st x with
    |some (.ptr id off)=>some (.ptr id (off+fd.offset))
    |some (.cp cs)=>some (.cp (cs.drop fd.offset))
    |some (.pv (.ref cs))=>some (.cp (cs.drop fd.offset))
    |some (.rp id sz i off)=>some (.rp id sz i (off+fd.offset))
    |_=>none
   |none=>none
  |none=>none
 | .field t x f=>match mP P t f,(aM P 0 st x).bind dS with
  |some fd,some (.agg cs)=>(dU P fd.type (cs.drop fd.offset)).map .pv
  |_,_=>none
 | .indexAddr t x ix=>match P.underlying t with
  |some (.array n e)=>oU P st n e x ix
  |_=>nU P st t x ix
 | .index t x ix=>match P.underlying t,aM P t st x,aM P 0 st ix with
  |some .string,some (.pv (.str s)),some (.pv (.int _ i))=>
   if 0≤i then (s[i.toNat]?).map fun b=> .pv (.int .u8 b.toNat) else none
  |_,_,_=>none
 | .load t x=>match aM P 0 st x with
  |some (.cp cs)=>(dU P t cs).map .pv
  |some (.pv (.ref cs))=>(dU P t cs).map .pv
  |some (.rp id sz i off)=>match st.ob id with
   |some (.row _ sz' xs)=>if sz=sz' then (xs[i]?).bind fun c=>(dU P t (c.drop off)).map .pv else none
   |_=>none
  |some (.ptr id off)=>match st.ob id with
   |some (.box _ cells)=>match yJ P t with
    |some false=>if (fH P t).isSome then cells[off]? else none
    |some true=>match fH P t with
     |some n=>if off+n≤cells.length then (lI ((cells.drop off).take n)).map fun cs=> .pv (.agg cs) else none
     |none=>none
    |none=>none
   |_=>none
  |_=>none
 | .slice t x lo hi none=>match P.underlying t,aM P t st x,fB P st lo,fB P st hi with
  |some .string,some (.pv (.str s)),some lo,some hi=>match dG hi s.length s.length with
   |some h=>(dG lo 0 h).map fun l=> .pv (.str ((s.take h).drop l))
   |none=>none
  |some (.slice _),some (.pv (.cE sz xs)),some lo,some hi=>match isSlice P t,dG hi xs.length xs.length with
   |some (_,s),some h=>if s=sz then (dG lo 0 h).map fun l=> .pv (.cE sz ((xs.take h).drop l)) else none
   |_,_=>none
  |some (.slice _),some (.row id),some lo,some hi=>match isSlice P t,st.ob id with
   |some (_,s),some (.row _ sz xs)=>match dG hi xs.length xs.length with
    |some h=>if s=sz then (dG lo 0 h).map fun l=> .sub id sz l h else none
    |none=>none
   |_,_=>none
  |some (.slice _),some (.sub id sz a b),some lo,some hi=>match isSlice P t,dG hi (b-a) (b-a) with
   |some (_,s),some h=>if s=sz then (dG lo 0 h).map fun l=> .sub id sz (a+l) (a+h) else none
   |_,_=>none
  |_,_,_,_=>none
 | .extract x i=>match aM P 0 st x with
  |some (.pv (.e9 vs))=>(vs[i]?).map .pv
  |some (.two v b)=>match i with
   |0=>some v
   |1=>some (.pv (.bool b))
   |_=>none
  |_=>none
 | .lookup t x k ok=>match P.underlying t with
  |some (.map kt et)=>match (aM P t st x).bind (xz st),(aM P kt st k).bind dS with
   |some ks,some key=>bif ok&&eP P kt key&&(iN P et).isSome then (gl key ks).map fun r=> .two .any r.isSome else none
   |_,_=>match (aM P t st x).bind (maps st),(aM P kt st k).bind dS with
   |some (ks,vs),some key=>bif eP P kt key then
     match FY key ks vs with
     |some (some v)=>some (.pv (found ok v true))
     |some none=>(iN P et).map fun z=> .pv (found ok z false)
     |none=>none
    else none
   |_,_=>none
  |_=>none
 | .build t parts=>oH P (zeroCells P t) t parts st
 |_=>none
def jl.mentions (id:Nat):jl→Bool
 | .p j| .r j=>Nat.beq j id
 | .v _=>false
def SV.mentions (id:Nat):SV→Bool
 | .ptr j _| .row j| .rp j _ _ _| .sub j _ _ _=>Nat.beq j id
 | .cl _ caps=>caps.any (jl.mentions id)
 | .ag caps=>caps.any (jl.mentions id)
 | .two v _=>v.mentions id
 |_=>false
def SV.cA (id:Nat) (v:SV):SV:=bif v.mentions id then .any else v
def Ob.cA (id:Nat):Ob→Ob
 | .box t cells=> .box t (cells.map (SV.cA id))
 |o=>o
def St.cA (st:St) (id:Nat):St:=
 {env:=fun i=>(st.env i).map (SV.cA id),ob:=put (fun i=>(st.ob i).map (Ob.cA id)) id none }
def St.new (st:St) (id:Nat) (o:Ob):St:=
 let s:=st.cA id
 {s with ob:=put s.ob id (some o) }
def SV.bZ (id:Nat) (v:AV):SV→SV
 | .row j=>bif Nat.beq j id then .pv v else .row j
 |s=>s.cA id
def gy {α:Type}:List (Option α)→Option (List α)
 |[]=>some []
 |some x::l=>(gy l).map (x:: ·)
 |none::_=>none
def qg (k sz':Nat):List (List AV)→List (List (List AV))→List (List AV)
 |x::xs,y::ys=>x.set k (.cE sz' y)::qg k sz' xs ys
 |_,_=>[]
def Ob.val:Ob→Option AV
 | .row _ sz xs=>some (.cE sz xs)
 | .mp _ _ ks vs=>some (.mp ks vs)
 | .mr _ _ sz ks vs=>(gy vs).map fun l=> .mp ks (l.map (.cE sz))
 | .box _ _=>none
 | .it _ _=>none
 | .rn _ sz k _ sz' xs ys=>(gy ys).map fun l=> .cE sz (qg k sz' xs l)
def Ob.bZ (id:Nat) (v:AV):Ob→Ob
 | .box t cells=> .box t (cells.map (SV.bZ id v))
 |o=>o
def ot (id:Nat):Bool:=Nat.blt id 10000
def St.bZ (st:St) (id:Nat):Option St:=
 match ot id,(st.ob id).bind Ob.val with
 |true,some v=>some { env:=fun i=>(st.env i).map (SV.bZ id v),ob:=put (fun i=>(st.ob i).map (Ob.bZ id v)) id none }
 |_,_=>none
def SV.gQ (id:Nat) (cs:List AV):SV→SV
 | .ptr j off=>bif Nat.beq j id then .cp (cs.drop off) else .ptr j off
 |s=>s.cA id
def Ob.gQ (id:Nat) (cs:List AV):Ob→Ob
 | .box t cells=> .box t (cells.map (SV.gQ id cs))
 |o=>o
def St.gQ (st:St) (id:Nat):Option St:=
 match ot id,st.ob id with
 |true,some (.box _ cells)=>match lI cells with
  |some cs=>some { env:=fun i=>(st.env i).map (SV.gQ id cs),ob:=put (fun i=>(st.ob i).map (Ob.gQ id cs)) id none }
  |none=>none
 |_,_=>none
def mV (st:St):List Operand→Option St
 |[]=>some st
 | .tmp i::l=>match st.env i with
  |some (.ptr id _)=>(st.gQ id).bind fun st'=>mV st' l
  |_=>mV st l
 |_::l=>mV st l
def mD (st:St):SV→Option AV
 | .pv v=>some v
 | .row id=>(st.ob id).bind Ob.val
 |_=>none
def eU (P:Program) (st:St):List Operand→List TypeId→Option (List AV)
 |[],_=>some []
 |x::xs,ts=>match (aM P (ts.headD 0) st x).bind (mD st),eU P st xs ts.tail with
  |some v,some vs=>some (v::vs)
  |_,_=>none
def jJ (st:St):Operand→Bool
 | .tmp i=>match st.env i with
  |some (.row _)=>true
  |_=>false
 |_=>false
def lD (st:St):List Operand→Option (List AV)
 |[]=>some []
 | .tmp i::l=>match st.env i,lD st l with
  |some (.pv v),some vs=>some (v::vs)
  |some (.cp cs),some vs=>some (.ref cs::vs)
  |_,_=>none
 |_::_=>none
def ni (st:St):List Operand→Option (List jl)
 |[]=>some []
 | .tmp i::l=>match st.env i,ni st l with
  |some (.pv v),some cs=>some (.v v::cs)
  |some (.cp cs'),some cs=>some (.v (.ref cs')::cs)
  |some (.ptr id 0),some cs=>some (.p id::cs)
  |_,_=>none
 |_::_=>none
def jS (P:Program) (t:TypeId) (len:Nat) (parts:List (Nat×Operand)) (st:St):Option (TypeId×Nat×List (List AV)):=
 match isSlice P t with
 |some (e,s)=>match zeroCells P e,partsOf P (fun _=>e) st parts with
  |some z,some ps=>
   if len *s≤16777216∧0<s∧z.length=s∧ps.all (fun p=>p.2.zL)=true then
    (qM (fun i=>some (i *s,s)) (lu z len) ps).map fun cs=>(e,s,chunks s len cs)
   else none
  |_,_=>none
 |none=>none
abbrev cQ:=Nat→List SV→List (Nat×Ob)→Option (AV×List (Nat×Ob))
def iQ (h:Hint) (st:St):Operand→Option Nat
 | .tmp t=>bif h.bJ.contains t then
   match st.env t with
   |some (.row id)=>some id
   |_=>none
  else none
 |_=>none
def iS (h:Hint):Operand→Bool
 | .tmp t=>h.rows.contains t
 |_=>false
def kP (id:Nat):Bool:=Nat.blt id 10000||(Nat.ble 20000 id&&Nat.blt id 30000)
def SV.ids:SV→List Nat
 | .ptr j _| .row j| .rp j _ _ _| .sub j _ _ _=>[j]
 | .cl _ caps=>caps.filterMap fun
  | .p j| .r j=>some j
  | .v _=>none
 | .ag caps=>caps.filterMap fun
  | .p j| .r j=>some j
  | .v _=>none
 | .two v _=>v.ids
 |_=>[]
def SV.closed (names:List Nat):SV→Bool
 | .ptr j _| .row j| .rp j _ _ _| .sub j _ _ _=>names.contains j
 | .cl _ caps=>caps.all fun
  | .p j| .r j=>names.contains j
  | .v _=>true
 | .ag caps=>caps.all fun
  | .p j| .r j=>names.contains j
  | .v _=>true
 | .two v _=>v.closed names
 |_=>true
def Ob.closed (names:List Nat):Ob→Bool
 | .box _ cells=>cells.all (SV.closed names)
 | .row _ _ _=>true
 | .mp _ _ _ _=>true
 | .mr _ _ _ _ _=>false
 | .it _ _=>true
 | .rn _ _ _ _ _ _ _=>false
def BK (st:St):Operand→Bool
 | .tmp t=>match st.env t with
  |some (.ptr _ _)=>true
  |some (.cl _ _)=>true
  |_=>false
 |_=>false
def Qr (st:St):Operand→Bool
 | .tmp t=>match st.env t with
  |some (.cl _ _)=>true
  |_=>false
 |_=>false
def wide (st:St) (c:Call) (f:Operand):Bool:=Qr st f||c.args.toList.any (BK st)
def isRef (h:Hint):Operand→Bool
 | .tmp t=>h.bJ.contains t
 |_=>false
def Mr (P:Program) (h:Hint) (st:St) (t:TypeId) (x:Operand):Option SV:=
 match aM P t st x with
 |some (.pv v)=>some (.pv v)
 |some (.ptr id off)=>some (.ptr id off)
 |some (.row id)=>bif isRef h x then some (.row id) else none
 |some (.cl f caps)=>some (.cl f caps)
 |some (.cp cs)=>some (.cp cs)
 |_=>none
def ng (P:Program) (h:Hint) (st:St):List Operand→List TypeId→Option (List SV)
 |[],_=>some []
 |x::xs,ts=>match Mr P h st (ts.headD 0) x,ng P h st xs ts.tail with
  |some v,some vs=>some (v::vs)
  |_,_=>none
def EX:jl→SV
 | .v a=> .pv a
 | .p id=> .ptr id 0
 | .r id=> .row id
def P9:SV→Option (Nat×List SV)
 | .pv (.fn g caps)=>some (g,caps.map .pv)
 | .cl g caps=>some (g,caps.map EX)
 |_=>none
def yq (st:St) (id:Nat):List Nat:=
 match st.ob id with
 |some (.box _ cells)=>cells.flatMap SV.ids
 |_=>[]
def eM (st:St):Nat→List Nat→List Nat→List Nat
 |0,_,done=>done
 |_+1,[],done=>done
 |n+1,id::todo,done=>bif done.contains id then eM st n todo done else eM st n (todo++yq st id) (done++[id])
def wu:List SV→List Nat
 |[]=>[]
 | .row id::l=>id::wu l
 |_::l=>wu l
def Qs (st:St) (id:Nat):Bool:=
 match st.ob id with
 |some (.row _ _ _)=>true
 |_=>false
def r7 (stay:Bool) (st:St) (roots:List Nat) (id:Nat):Bool:=Qs st id&&kP id&& !(roots.contains id)&& !stay
def gU (mv:Nat→Bool):Nat→List Nat→List (Nat×Nat)
 |_,[]=>[]
 |k,id::l=>(id,bif mv id then 20000+k else 10000+k)::gU mv (k+1) l
def swap:List (Nat×Nat)→List (Nat×Nat)
 |[]=>[]
 |(a,b)::l=>(b,a)::swap l
def jI (m:List (Nat×Nat)) (id:Nat):Nat:=(find m id).getD id
def jl.lq (ρ:Nat→Nat):jl→jl
 | .p id=> .p (ρ id)
 | .r id=> .r (ρ id)
 |c=>c
def SV.lq (ρ:Nat→Nat):SV→SV
 | .ptr j off=> .ptr (ρ j) off
 | .row j=> .row (ρ j)
 | .rp j sz i off=> .rp (ρ j) sz i off
 | .sub j sz lo hi=> .sub (ρ j) sz lo hi
 | .cl f caps=> .cl f (caps.map (jl.lq ρ))
 | .ag caps=> .ag (caps.map (jl.lq ρ))
 | .two v b=> .two (v.lq ρ) b
 |s=>s
def Ob.lq (ρ:Nat→Nat):Ob→Ob
 | .box t cells=> .box t (cells.map (SV.lq ρ))
 |o=>o
def fS (st:St) (ids:List Nat) (ρ:Nat→Nat):List (Nat×Nat)→Option (List (Nat×Ob))
 |[]=>some []
 |(id,nm)::l=>match st.ob id,fS st ids ρ l with
  |some o,some os=>bif o.closed ids then some ((nm,o.lq ρ)::os) else none
  |_,_=>none
def kO (names:List Nat) (ρ:Nat→Nat):List (Nat×Nat)→List (Nat×Ob)→Option (List (Nat×Ob))
 |[],[]=>some []
 |(id,nm)::l,(Jb,o)::os=>bif Nat.beq nm Jb&&o.closed names then (kO names ρ l os).map fun r=>(id,o.lq ρ)::r else none
 |_,_=>none
def distinct:List Nat→Bool
 |[]=>true
 |x::l=> !(l.contains x)&&distinct l
def lg:List Nat→St→St
 |[],st=>st
 |id::l,st=>lg l (st.cA id)
mutual
def AV.same:AV→AV→Bool
 | .bool a, .bool b=>a==b
 | .int k a, .int k' b=>decide (k=k')&&decide (a=b)
 | .str a, .str b=>decide (a=b)
 | .cE s xs, .cE s' ys=>Nat.beq s s'&&rA xs ys
 | .agg a, .agg b=>kq a b
 | .fn f a, .fn g b=>Nat.beq f g&&kq a b
 | .e9 a, .e9 b=>kq a b
 | .ref a, .ref b=>kq a b
 | .mp a b, .mp c d=>kq a c&&kq b d
 | .self a, .self b=>Nat.beq a b
 | .pH, .pH=>true
 | .jL, .jL=>true
 | .hole, .hole=>true
 |_,_=>false
def kq:List AV→List AV→Bool
 |[],[]=>true
 |a::l,b::m=>AV.same a b&&kq l m
 |_,_=>false
def rA:List (List AV)→List (List AV)→Bool
 |[],[]=>true
 |a::l,b::m=>kq a b&&rA l m
 |_,_=>false
end
def jl.same:jl→jl→Bool
 | .v a, .v b=>AV.same a b
 | .p a, .p b=>Nat.beq a b
 | .r a, .r b=>Nat.beq a b
 |_,_=>false
def j4:List jl→List jl→Bool
 |[],[]=>true
 |a::l,b::m=>jl.same a b&&j4 l m
 |_,_=>false
def SV.same:SV→SV→Bool
 | .undef, .undef=>true
 | .any, .any=>true
 | .pv a, .pv b=>AV.same a b
 | .ptr a b, .ptr c d=>Nat.beq a c&&Nat.beq b d
 | .row a, .row b=>Nat.beq a b
 | .rp a b c d, .rp a' b' c' d'=>Nat.beq a a'&&Nat.beq b b'&&Nat.beq c c'&&Nat.beq d d'
 | .sub a b c d, .sub a' b' c' d'=>Nat.beq a a'&&Nat.beq b b'&&Nat.beq c c'&&Nat.beq d d'
 | .cp a, .cp b=>kq a b
 | .cl f a, .cl g b=>Nat.beq f g&&j4 a b
 | .two s a, .two t b=>SV.same s t&&(a==b)
 | .ag a, .ag b=>j4 a b
 |_,_=>false
def mW:List SV→List SV→Bool
 |[],[]=>true
 |a::l,b::m=>SV.same a b&&mW l m
 |_,_=>false
def jB:List (Option (List (List AV)))→List (Option (List (List AV)))→Bool
 |[],[]=>true
 |some a::l,some b::m=>rA a b&&jB l m
 |none::l,none::m=>jB l m
 |_,_=>false
def Ob.same:Ob→Ob→Bool
 | .box t a, .box u b=>Nat.beq t u&&mW a b
 | .row e s xs, .row e' s' ys=>Nat.beq e e'&&Nat.beq s s'&&rA xs ys
 | .mp k e a b, .mp k' e' c d=>Nat.beq k k'&&Nat.beq e e'&&kq a c&&kq b d
 | .mr k e s a b, .mr k' e' s' c d=>Nat.beq k k'&&Nat.beq e e'&&Nat.beq s s'&&kq a c&&jB b d
 | .it s p, .it s' p'=>decide (s=s')&&Nat.beq p p'
 | .rn e s k e2 s2 x y, .rn e' s' k' e3 s3 x' y'=>Nat.beq e e'&&Nat.beq s s'&&Nat.beq k k'&&Nat.beq e2 e3&&Nat.beq s2 s3&&rA x x'&&jB y y'
 |_,_=>false
def lS:List (Nat×Ob)→List (Nat×Ob)→Bool
 |[],[]=>true
 |(i,a)::l,(j,b)::m=>Nat.beq i j&&Ob.same a b&&lS l m
 |_,_=>false
def pZ (P:Program) (h:Hint) (st:St) (c:Call) (f:Operand):Option (Nat×List SV):=
 match (aM P 0 st f).bind P9,ng P h st c.args.toList c.argTypes.toList with
 |some (g,caps),some vs=>some (g,vs++caps)
 |_,_=>none
def fF (st:St) (args:List SV):List Nat:=eM st 200 (args.flatMap SV.ids) []
def er (ids:List Nat):List (Nat×Nat):=gU (fun _=>false) 0 ids
def kA (P:Program) (h:Hint) (aV:cQ) (st:St) (c:Call) (f:Operand):Option AV:=
 match pZ P h st c f with
 |some (g,args)=>
  bif distinct (fF st args)&&Nat.blt (fF st args).length 10000&&args.all (SV.closed (fF st args)) then
   match fS st (fF st args) (jI (er (fF st args))) (er (fF st args)) with
   |some bG=>match aV g (args.map (SV.lq (jI (er (fF st args))))) bG with
    |some (r,de)=>bif lS de bG&&r.gm then some r else none
    |none=>none
   |none=>none
  else none
 |none=>none
def cr (P:Program) (h:Hint) (aV:cQ) (o:Oper) (st:St):Option SV:=
 match o.op with
 | .buildSlice t len parts=>
  bif (o.dst.any h.rows.contains) then none else (jS P t len parts.toList st).map fun x=> .pv (.cE x.2.1 x.2.2)
 | .call c=>match c.callee with
  | .value f=>bif o.dst.any h.pQ.contains then none else bif o.dst.any h.stay.contains&&wide st c f then (kA P h aV st c f).map .pv else
   bif wide st c f||c.args.toList.any (fun x=>(iQ h st x).isSome) then none else
   match aM P 0 st f,eU P st c.args.toList c.argTypes.toList with
   |some (.pv (.fn g caps)),some vs=>match aV g ((vs++caps).map .pv) [] with
    |some (r,[])=>bif (!(c.args.toList.any (jJ st))||r.plain)&&r.gm then some (.pv r) else none
    |_=>none
   |_,_=>none
  |_=>qp P c st
 | .lookup _ x _ ok=>bif iS h x&& !ok then none else cD P o st
 | .build t parts=>bif o.dst.any h.rows.contains then none else oH P (Cx P h o.dst t) t parts st
 | .makeFunc (.func g) first caps=>bif first.isEmpty then
   bif o.dst.any h.bJ.contains then (ni st caps.toList).map fun cs=> .cl g cs
   else (lD st caps.toList).map fun vs=> .pv (.fn g vs)
  else none
 | .assign x=>match o.dst,x,cD P o st with
  |some d, .const _,some (.pv (.cE sz xs))=>bif h.rows.contains d then none else some (.pv (.cE sz xs))
  |some d,_,some (.row id)=>bif h.cG.contains d then none else some (.row id)
  |_,_,r=>r
 |_=>cD P o st
def ko (st:St):SV→Bool
 | .pv (.agg _)| .pv (.e9 _)=>false
 | .pv _=>true
 | .ptr _ _| .rp _ _ _ _| .cp _| .cl _ _=>true
 | .row id=>match st.ob id with
  |some (.row _ _ _)=>true
  |some (.mp _ _ _ _)=>true
  |_=>false
 |_=>false
def storeAt (P:Program) (t:TypeId) (st:St) (a:SV) (v:SV):Option St:=
 match a with
 | .ptr id off=>match st.ob id,fH P t with
  |some (.box bt cells),some n=>match v with
   | .ag cs=>if cs.length=n∧off+n≤cells.length then
     some { st with ob:=put st.ob id (some (.box bt (cells.take off++cs.map EX++cells.drop (off+n)))) } else none
   | .pv (.agg cs)=>if cs.length=n∧off+n≤cells.length then
     some { st with ob:=put st.ob id (some (.box bt (cells.take off++cs.map .pv++cells.drop (off+n)))) } else none
   |v=>if n=1∧off<cells.length∧ko st v=true then some { st with ob:=put st.ob id (some (.box bt (cells.set off v))) } else none
  |_,_=>none
 | .rp id sz i off=>match st.ob id,fH P t,v with
  |some (.row e sz' xs),some n, .pv v=>match xs[i]? with
   |some c=>if sz=sz'∧v.cells.length=n∧off+n≤c.length∧v.zL=true then
     some { st with ob:=put st.ob id (some (.row e sz' (xs.set i (c.take off++v.cells++c.drop (off+n))))) } else none
   |none=>none
  |_,_,_=>none
 |_=>none
def rY (P:Program) (h:Hint) (st:St):List Operand→List TypeId→Option (List SV×List Nat)
 |[],_=>some ([],[])
 |x::xs,ts=>match iQ h st x,rY P h st xs ts.tail with
  |some id,some (vs,ids)=>some (.row 10000::vs,id::ids)
  |none,some (vs,ids)=>match (aM P (ts.headD 0) st x).bind dS with
   |some v=>some (.pv v::vs,ids)
   |none=>none
  |_,none=>none
def ji (P:Program) (h:Hint) (aV:cQ) (st:St) (c:Call) (f:Operand) (d:Option Nat):Option St:=
 match aM P 0 st f,rY P h st c.args.toList c.argTypes.toList with
 |some (.pv (.fn g caps)),some (vs,[id])=>match st.ob id with
  |some (.row e sz xs)=>match aV g (vs++caps.map .pv) [(10000, .row e sz xs)] with
   |some (r,[(nm, .row e' sz' xs')])=>bif Nat.beq e e'&&Nat.beq sz sz'&&Nat.beq nm 10000 then
     match r with
     | .self n=>bif Nat.ble n xs'.length&&kP id then some ((st.new id (.row e' sz' (xs'.take n))).set d (.row id)) else none
     |r=>bif r.plain then some (St.set { st with ob:=put st.ob id (some (.row e' sz' xs')) } d (.pv r)) else none
    else none
   |_=>none
  |_=>none
 |_,_=>none
def fU (P:Program) (h:Hint) (aV:cQ) (st:St) (c:Call) (f:Operand) (d:Option Nat):Option St:=
 match (aM P 0 st f).bind P9,ng P h st c.args.toList c.argTypes.toList with
 |some (g,caps),some vs=>
  let args:=vs++caps
  let ids:=eM st 200 (args.flatMap SV.ids) []
  let mv:=r7 (d.any h.stay.contains) st (wu args)
  let m:=gU mv 0 ids
  let names:=m.map (·.2)
  let ρ:=jI m
  bif distinct ids&&Nat.blt ids.length 10000&&args.all (SV.closed ids) then
   match fS st ids ρ m with
   |some bG=>match aV g (args.map (SV.lq ρ)) bG with
    |some (r,de)=>match kO names (jI (swap m)) m de with
     |some back=>bif r.gm then
       let st1:=lg (ids.filter mv) st
       some (St.set { env:=st1.env,ob:=fun i=>(find back i).orElse fun _=>st1.ob i } d (.pv r)) else none
     |none=>none
    |none=>none
   |none=>none
  else none
 |_,_=>none
def rN (P:Program) (t:TypeId):Option (List Value):=
 match P.info? t with
 |some i=>i.zero.map fun z=>z.cells.toList
 |none=>none
def lJ (P:Program) (d:Nat):Nat→List TypeId→List Value→Option (List SV×List (Nat×TypeId×Nat))
 |_,[],[]=>some ([],[])
 |j,t::ts,v::vs=>match lJ P d (j+1) ts vs with
  |some (Eu,l)=>match isSlice P t,v with
   |some (e,s), .slice none 0 0=>bif Nat.blt 0 s&&Nat.blt (5000+16 *d+j) 10000 then some (.row (5000+16 *d+j)::Eu,(5000+16 *d+j,e,s)::l) else none
   |_,v=>(ofConst P t v).map fun a=>(.pv a::Eu,l)
  |none=>none
 |_,_,_=>none
def lN:List (Nat×TypeId×Nat)→St→St
 |[],st=>st
 |(id,e,s)::l,st=>lN l (st.new id (.row e s []))
def mS (h:Hint) (d:Nat):Option (List (Nat×TypeId×Nat)):=find h.jL d
def Ib:Operand→Bool
 | .const (.slice none 0 0)=>true
 |_=>false
def DV (P:Program) (b:Bool) (st:St) (t:TypeId) (x:Operand):Option AV:=bif b&&Ib x then some .jL else (aM P t st x).bind dS
def jW (P:Program) (b:Bool) (st:St):List Operand→List TypeId→Option (List AV)
 |[],_=>some []
 |x::xs,ts=>match DV P b st (ts.headD 0) x,jW P b st xs ts.tail with
  |some v,some vs=>some (v::vs)
  |_,_=>none
def kR:List AV→List (Nat×TypeId×Nat)→Option (List jl)
 |[],_=>some []
 | .jL::cs,x::l=>(kR cs l).map (.r x.1:: ·)
 | .jL::_,[]=>none
 |a::cs,l=>(kR cs l).map (.v a:: ·)
def fu (P:Program) (h:Hint) (aV:cQ) (st:St) (c:Call) (f:Operand) (d:Option Nat):Option St:=
 match d with
 |some d=>match aM P 0 st f,jW P (mS h d).isSome st c.args.toList c.argTypes.toList with
  |some (.pv (.fn g caps)),some vs=>match aV g ((vs++caps).map .pv) [] with
   |some (.e9 [.e9 [.self e, .cE sz xs]],[])=>bif (mS h d).isSome then none else some ((st.new d (.row e sz xs)).set (some d) (.row d))
   |some (.agg cs,[])=>match mS h d with
    |some []=>some (st.set (some d) (.pv (.agg cs)))
    |some l=>match kR cs l with
     |some ks=>bif l.all (fun x=>Nat.blt x.1 10000) then some ((lN l st).set (some d) (.ag ks)) else none
     |none=>none
    |none=>none
   |_=>none
  |_,_=>none
 |none=>none
def Rg (st:St) (s:SV):Option jl:=
 bif ko st s then
  match s with
  | .pv a=>some (.v a)
  | .row id=>some (.r id)
  |_=>none
 else none
def ug (st:St):List SV→Option (List jl)
 |[]=>some []
 |s::l=>match Rg st s,ug st l with
  |some c,some cs=>some (c::cs)
  |_,_=>none
def Jl (st:St):SV→Option (List SV)
 | .pv (.agg cs)=>some (cs.map .pv)
 |s=>bif ko st s then some [s] else none
def uU (P:Program) (ty:Nat→TypeId) (st:St):List (Nat×Operand)→Option (List (Nat×List SV))
 |[]=>some []
 |(i,x)::l=>match (aM P (ty i) st x).bind (Jl st),uU P ty st l with
  |some v,some vs=>some ((i,v)::vs)
  |_,_=>none
def Fi (place:Nat→Option (Nat×Nat)) (cells:List SV):List (Nat×List SV)→Option (List SV)
 |[]=>some cells
 |(i,v)::rest=>
  match place i with
  |none=>none
  |some (off,size)=>
   if v.length=size∧off+size≤cells.length then Fi place (cells.take off++v++cells.drop (off+size)) rest else none
def vC (P:Program) (st:St) (d:Nat) (t:TypeId) (parts:List (Nat×Operand)):Option St:=
 match P.underlying t,(rN P t).bind fun vs=>lJ P d 0 (lK P 8 t) vs with
 |some (.struct fs),some (Eu,l)=>bif fs.toList.all (fun f=>(fH P f.type).isSome) then
   match uU P (yh P t) (lN l st) parts with
   |some ps=>match (Fi (iw P t) Eu ps).bind (ug (lN l st)) with
    |some cs=>some ((lN l st).set (some d) (.ag cs))
    |none=>none
   |none=>none
  else none
 |_,_=>none
def nY (P:Program) (st:St) (t:TypeId) (m k:Operand):Option St:=
 match P.underlying t with
 |some (.map kt _)=>match aM P t st m,(aM P kt st k).bind dS with
  |some (.row id),some key=>match st.ob id with
   |some (.mp k' e' ks vs)=>bif eP P kt key then
     match I1 key ks vs with
     |some (ks',vs')=>some { st with ob:=put st.ob id (some (.mp k' e' ks' vs')) }
     |none=>none
    else none
   |_=>none
  |_,_=>none
 |_=>none
def l8 (P:Program) (st:St):Option Operand→Bool
 |none=>true
 |some x=>match (aM P 0 st x).bind dS with
  |some (.int _ _)=>true
  |_=>false
def IS (P:Program) (st:St) (et:TypeId) (x:Operand):Option St:=
 match aM P et st x with
 |some (.pv _)=>some st
 |some (.row j)=>st.bZ j
 |_=>none
def nZ (P:Program) (st:St) (t:TypeId) (m k x:Operand):Option St:=
 match P.underlying t with
 |some (.map kt et)=>match IS P st et x with
  |some st'=>match aM P t st' m,(aM P kt st' k).bind dS,(aM P et st' x).bind dS with
   |some (.row id),some key,some v=>match st'.ob id with
    |some (.mp k' e' ks vs)=>bif eP P kt key&&v.zL then
      match pE key v ks vs with
      |some (ks',vs')=>some { st' with ob:=put st'.ob id (some (.mp k' e' ks' vs')) }
      |none=>none
     else none
    |_=>none
   |_,_,_=>none
  |none=>none
 |_=>none
def BN (P:Program) (st:St) (t:TypeId) (m k:Operand):Option (TypeId×Nat×AV×TypeId×TypeId×Nat×List AV×List (Option (List (List AV)))):=
 match P.underlying t with
 |some (.map kt et)=>match aM P t st m,(aM P kt st k).bind dS with
  |some (.row id),some key=>match st.ob id with
   |some (.mr k' e sz ks vs)=>bif eP P kt key&&Nat.blt id 10000 then some (et,id,key,k',e,sz,ks,vs) else none
   |_=>none
  |_,_=>none
 |_=>none
def BO (P:Program) (st:St) (t:TypeId) (m k:Operand) (d:Nat):Option St:=
 match BN P st t m k with
 |some (et,id,key,k',e,sz,ks,vs)=>bif Nat.beq id d then none else match gl key ks with
  |some (some i)=>match vs[i]? with
   |some (some xs)=>some ((St.new { st with ob:=put st.ob id (some (.mr k' e sz ks (vs.set i none))) } d (.row e sz xs)).set (some d) (.row d))
   |_=>none
  |some none=>match iN P et,isSlice P et with
   |some (.cE _ []),some (e',s)=>if e=e'∧s=sz∧0<s then some ((st.new d (.row e sz [])).set (some d) (.row d)) else none
   |_,_=>none
  |none=>none
 |none=>none
def I7 (P:Program) (st:St) (t:TypeId) (m k x:Operand):Option St:=
 match BN P st t m k with
 |some (et,id,key,k',e,sz,ks,vs)=>match x with
  | .const (.slice none 0 0)=>match isSlice P et with
   |some (e',s)=>if e=e'∧s=sz∧0<s then
     match pE key (some []) ks vs with
     |some (ks',vs')=>some { st with ob:=put st.ob id (some (.mr k' e sz ks' vs')) }
     |none=>none
    else none
   |none=>none
  |x=>match aM P et st x with
   |some (.row j)=>match st.ob j with
    |some (.row e' s xs)=>if e=e'∧s=sz∧j<10000 then
      match pE key (some xs) ks vs with
      |some (ks',vs')=>let s1:=st.cA j;some { s1 with ob:=put s1.ob id (some (.mr k' e sz ks' vs')) }
      |none=>none
     else none
    |_=>none
   |_=>none
 |none=>none
def lV (P:Program) (st:St) (t:TypeId) (x:Operand) (d:Nat):Option St:=
 match aM P 0 st x,yJ P t with
 |some (.rp id sz i off),some false=>match st.ob id with
  |some (.rn e sz' k e' s' xs ys)=>match ys[i]? with
   |some (some zs)=>bif Nat.beq sz sz'&&Nat.beq off k&& !(Nat.beq id d)&&Nat.blt id 10000 then some ((St.new { st with ob:=put st.ob id (some (.rn e sz' k e' s' xs (ys.set i none))) } d (.row e' s' zs)).set (some d) (.row d)) else none
   |_=>none
  |_=>none
 |_,_=>none
def xK (P:Program) (st:St) (t:TypeId) (id sz i off j:Nat):Option St:=
 match yJ P t,fH P t,st.ob id,st.ob j with
 |some false,some 1,some (.rn e sz' k e' s' xs ys),some (.row e2 s2 zs)=>
  bif Nat.beq sz sz'&&Nat.beq off k&&Nat.blt id 10000&&Nat.blt j 10000&&Nat.beq e' e2&&Nat.beq s' s2&&Nat.blt i ys.length&& !(Nat.beq id j) then
   some { st.cA j with ob:=put (st.cA j).ob id (some (.rn e sz' k e' s' xs (ys.set i (some zs)))) } else none
 |_,_,_,_=>none
def r8 (k:Nat) (c:List AV):Bool:=match c[k]? with
 |some .jL=>true
 |_=>false
def jG (P:Program) (h:Hint) (aV:cQ) (o:Oper) (st:St):Option St:=
 match o.dst,o.op with
 |some d, .assign (.const (.slice none 0 0))=>match isSlice P o.type with
  |some (e,s)=>if 0<s then some ((st.new d (.row e s [])).set (some d) (.row d)) else none
  |none=>none
 |some d, .assign x=>match aM P o.type st x with
  |some (.row id)=>match st.bZ id with
   |some st'=>match aM P o.type st' x with
    |some v=>some (st'.set (some d) v)
    |none=>none
   |none=>none
  |_=>none
 |some d, .box t x=>match aM P t st x,yJ P t with
  |some (.pv (.agg cs)),some true=>some ((st.new d (.box t (cs.map .pv))).set (some d) (.ptr d 0))
  |some (.ag cs),some true=>bif (SV.ag cs).mentions d then none else some ((st.new d (.box t (cs.map EX))).set (some d) (.ptr d 0))
  |some v,some false=>if ko st v=true then some ((st.new d (.box t [v.cA d])).set (some d) (.ptr d 0)) else none
  |_,_=>none
 |some d, .alloc t=>bif h.rows.contains d then
   match (rN P t).bind fun vs=>lJ P d 0 (lK P 8 t) vs with
   |some (Eu,l)=>some (((lN l st).new d (.box t (Eu.map (SV.cA d)))).set (some d) (.ptr d 0))
   |none=>none
  else match Cx P h (some d) t with
  |some z=>some ((st.new d (.box t (z.map .pv))).set (some d) (.ptr d 0))
  |none=>none
 |some d, .makeSlice t l c=>match isSlice P t,(aM P 0 st l).bind dS,(aM P 0 st c).bind dS with
  |some (e,s),some (.int _ l),some (.int _ c)=>match zeroCells P e,P.info? e with
   |some z,some i=>if 0<s∧z.length=s∧0≤l∧l≤c∧i.bytes *c.toNat≤281474976710656∧c≤9223372036854775807 then
     some ((st.new d (.row e s (List.replicate l.toNat z))).set (some d) (.row d)) else none
   |_,_=>none
  |_,_,_=>none
 |some d, .buildSlice t len parts=>match jS P t len parts.toList st with
  |some (e,s,xs)=>match find h.nest d with
   |none=>some ((st.new d (.row e s xs)).set (some d) (.row d))
   |some (k,e',s')=>bif Nat.blt k s&&xs.all (r8 k) then some ((st.new d (.rn e s k e' s' (xs.map fun c=>c.set k .hole) (xs.map fun _=>some []))).set (some d) (.row d)) else none
  |none=>none
 |none, .store t a x=>match aM P 0 st a,aM P t st x with
  |some (.rp id sz i off),some (.row j)=>xK P st t id sz i off j
  |some a,some v=>storeAt P t st a v
  |_,_=>none
 |some d, .makeMap t r=>match P.underlying t with
  |some (.map k e)=>bif l8 P st r then
    bif h.rows.contains d then
     match isSlice P e with
     |some (e',s)=>if 0<s then some ((st.new d (.mr k e' s [] [])).set (some d) (.row d)) else none
     |none=>none
    else some ((st.new d (.mp k e [] [])).set (some d) (.row d)) else none
  |_=>none
 |none, .mapUpdate t m k x=>bif iS h m then I7 P st t m k x else nZ P st t m k x
 |none, .insert t m k x=>bif iS h m then I7 P st t m k x else nZ P st t m k x
 |some d, .lookup t m k false=>bif iS h m then BO P st t m k d else none
 |some d, .range t x=>match P.underlying t,(aM P t st x).bind dS with
  |some .string,some (.str s)=>some ((st.new d (.it s 0)).set (some d) (.ptr d 0))
  |_,_=>none
 |some d, .next x true=>match aM P 0 st x with
  |some (.ptr id 0)=>match st.ob id with
   |some (.it s pos)=>if pos<s.length then
     some (St.set { st with ob:=put st.ob id (some (.it s (pos+(Utf8.decode ⟨s.toArray⟩ pos).2))) } (some d) (.pv (.e9 [.bool true, .int .i64 pos, .int .i32 (Utf8.decode ⟨s.toArray⟩ pos).1])))
    else some (st.set (some d) (.pv (.e9 [.bool false])))
   |_=>none
  |_=>none
 |some d, .build t parts=>bif h.rows.contains d then vC P st d t parts.toList else none
 |some d, .load t x=>bif h.take.contains d then lV P st t x d else none
 |some d, .makeFunc (.func g) first caps=>bif first.isEmpty then
   match mV st caps.toList with
   |some st'=>(lD st' caps.toList).map fun vs=>st'.set (some d) (.pv (.fn g vs))
   |none=>none
  else none
 |d, .call c=>match c.callee with
  | .builtin .append=>match d,c.args.toList,c.argTypes.toList with
   |some d,[x,y],[t,t']=>match isSlice P t,aM P t st x,aM P t' st y with
    |some (e,s),some (.row id),some y=>match st.ob id,elems st y,P.info? e with
     |some (.row e' sz xs),some (sz',ys),some i=>
      if t=t'∧e=e'∧s=sz∧sz=sz'∧0<sz∧(xs.length+ys.length) *i.bytes≤140737488355328∧xs.length+ys.length≤4611686018427387904∧i.zero.map (fun z=>z.cells.size)=some sz∧kP id=true then
       some ((st.new id (.row e sz (xs++ys))).set (some d) (.row id)) else none
     |_,_,_=>none
    |_,_,_=>none
   |_,_,_=>none
  | .builtin .delete=>match d,c.args.toList,c.argTypes.toList with
   |none,[m,k],t::_=>nY P st t m k
   |_,_,_=>none
  | .builtin .clear=>match d,c.args.toList,c.argTypes.toList with
   |none,[x],[t]=>match isSlice P t,aM P t st x with
    |some (e,s),some (.sub id sz lo hi)=>match st.ob id,zeroCells P e with
     |some (.row e' sz' xs),some z=>if s=sz∧sz=sz'∧z.length=sz∧hi≤xs.length∧e=e'∧0<sz then
       some { st with ob:=put st.ob id (some (.row e' sz' (xs.take lo++List.replicate (hi-lo) z++xs.drop hi))) } else none
     |_,_=>none
    |_,_=>none
   |_,_,_=>none
  | .value f=>bif d.any h.pQ.contains then fu P h aV st c f d else bif d.any h.stay.contains&&wide st c f then none else bif wide st c f then fU P h aV st c f d else bif c.args.toList.any (fun x=>(iQ h st x).isSome) then ji P h aV st c f d else
   match dF st c.args.toList with
   |some st'=>match aM P 0 st' f,eU P st' c.args.toList c.argTypes.toList with
    |some (.pv (.fn g caps)),some vs=>match aV g ((vs++caps).map .pv) [] with
     |some (r,[])=>bif c.args.toList.any (jJ st')|| !r.gm then none else some (st'.set d (.pv r))
     |_=>none
    |_,_=>none
   |none=>none
  |_=>none
 |_,_=>none
where
 dF (st:St):List Operand→Option St
  |[]=>some st
  | .tmp i::l=>match st.env i with
   |some (.row id)=>(st.bZ id).bind fun st'=>dF st' l
   |_=>dF st l
  |_::l=>dF st l
def gK:List SV→St→Option St
 |[],st=>some st
 | .row id::l,st=>(st.bZ id).bind (gK l)
 |_::l,st=>gK l st
def step0 (P:Program) (h:Hint) (aV:cQ) (o:Oper) (st:St):Option St:=
 match cr P h aV o st with
 |some v=>some (st.set o.dst v)
 |none=>jG P h aV o st
def kG (st:St) (t:Nat):Option St:=
 match st.env t with
 |some (.row id)=>st.bZ id
 |some (.ptr id _)=>match st.ob id with
  |some (.box _ cells)=>gK cells st
  |_=>none
 |_=>some st
def fC:List Nat→St→Option St
 |[],st=>some st
 |t::l,st=>(kG st t).bind (fC l)
def slotsOf (o:Oper):List Nat:=o.op.operands.toList.filterMap fun
 | .tmp t=>some t
 |_=>none
def qq (h:Hint) (o:Oper):List Nat:=bif h.use.isEmpty then [] else (slotsOf o).filter h.use.contains
def step (P:Program) (h:Hint) (aV:cQ) (o:Oper) (st:St):Option St:=(fC (qq h o) st).bind (step0 P h aV o)
def iM (ops:Array Oper) (o:Oper) (st:St):Option Bool:=
 match o.guard with
 |none=>some true
 |some (j,want)=>match (ops[j]?).bind (·.dst) with
  |some d=>match st.env d with
   |some (.pv (.bool b))=>some (b==want)
   |some .undef=>some false
   |_=>none
  |none=>none
def iT (P:Program) (h:Hint) (aV:cQ) (ops:Array Oper):List Oper→St→Option St
 |[],st=>some st
 |o::l,st=>match iM ops o st with
  |some b=>bif b then (step P h aV o st).bind (iT P h aV ops l) else iT P h aV ops l (st.set o.dst .undef)
  |none=>none
inductive Ex where
 |normal
 |exit (id:Nat)
 |ret
 deriving DecidableEq
def SB:Nat→Ex
 |0=> .normal
 |_=> .ret
def iter (h:Hint) (key:Nat) (f:St→Option (Ex×St)):Nat→St→Option (Ex×St)
 |0,_=>none
 |n+1,st=>match f (h.canon key st) with
  |some (.normal,st')=>iter h key f n st'
  |r=>r
def fh (ops:Array Oper) (o:Oper):List Nat:=slotsOf o++match o.guard with
 |some (j,_)=>((ops[j]?).bind (·.dst)).toList
 |none=>[]
def MV (o:Oper) (j:Nat):Bool:=o.after.toList.any fun e=>Region.binds .any e&&Nat.beq e.on j
def kC:Nat→List Oper→Bool
 |_,[]=>true
 |i,o::l=>o.after.toList.all (fun e=> !(Region.binds .any e)||Nat.blt e.on i)&&kC (i+1) l
def reach (ops:Array Oper):Nat→Nat→Nat→Bool
 |0,_,_=>false
 |n+1,i,j=>match ops[i]? with
  |some o=>MV o j||o.after.toList.any fun e=>Region.binds .any e&&reach ops n e.on j
  |none=>false
def Ob.jf:Ob→Ob
 | .row e sz xs=> .row e sz (xs.map fun _=>[])
 | .rn e sz k e' sz' xs _=> .rn e sz k e' sz' (xs.map fun _=>[]) []
 |_=> .it [] 0
structure cT where
 rs:List Nat:=[]
 rl:List Nat:=[]
 kp:Nat→Bool:=fun _=>false
 ws:List Nat:=[]
 ro:List Nat:=[]
 wo:List Nat:=[]
 mv:List Nat:=[]
 RY:List Nat:=[]
 all:Bool:=false
 we:Nat→Bool:=fun _=>false
 oe:Nat→Bool:=fun _=>false
def meets (a b:List Nat):Bool:=a.any fun x=>b.any (Nat.beq x)
def cT.conflict (a b:cT):Bool:=a.all||b.all||meets a.ws b.rs||meets a.rs b.ws||meets a.ws b.ws||meets a.wo b.ro||meets a.ro b.wo||meets a.wo b.wo||meets a.mv b.RY||meets b.mv a.RY||b.rs.any a.we||b.ro.any a.oe||b.rl.any (fun j=>a.wo.contains j&& !(a.kp j))||a.rl.any (fun j=>b.wo.contains j&& !(b.kp j))
def zi (st:St):List Operand→List Nat
 |[]=>[]
 | .tmp t::l=>(match st.env t with
  |some s=>s.ids
  |none=>[])++zi st l
 |_::l=>zi st l
def zN (st:St) (o:Oper):List Nat:=zi st o.op.operands.toList
def targetId:SV→Option Nat
 | .ptr id _=>some id
 | .rp id _ _ _=>some id
 |_=>none
def nI:List Oper→List Nat
 |[]=>[]
 |o::l=>match o.op,o.dst with
  | .alloc _,some d=>d::nI l
  |_,_=>nI l
def nt (ops:Array Oper) (prev:List (Nat×cT)) (i:Nat) (f:cT):Bool:=prev.all fun p=> !(p.2.conflict f)||reach ops 12 i p.1
def BT:Op→Bool
 | .move _| .assign _| .pick _ _ _=>true
 |_=>false
def z8 (P:Program) (h:Hint) (o:Oper) (st:St):List Nat:=
 match o.op with
 | .call c=>match c.callee with
  | .value f=>match pZ P h st c f with
   |some (_,args)=>bif o.dst.any h.stay.contains then fF st args else []
   |none=>[]
  |_=>[]
 |_=>[]
def Ob.mentions (id:Nat):Ob→Bool
 | .box _ cells=>cells.any (SV.mentions id)
 |_=>false
def Ob.ids:Ob→List Nat
 | .box _ cells=>cells.flatMap SV.ids
 |_=>[]
def CR (st:St) (t:Nat):List Nat:=match st.env t with
 |some s=>s.ids
 |none=>[]
def Kv (st:St) (j:Nat):List Nat:=match st.ob j with
 |some o=>o.ids
 |none=>[]
def cT.fill (st st':St) (f:cT):cT:=
 {f with
  RY:=f.mv++(f.ro++(f.wo++(f.rs.flatMap (CR st)++(f.ws.flatMap (CR st')++(f.ro.flatMap (Kv st)++f.wo.flatMap (Kv st'))))))
  we:=fun t=>match st.env t with
   |some v=>f.mv.any fun id=>v.mentions id
   |none=>false
  oe:=fun j=>match st.ob j with
   |some o=>f.mv.any fun id=>o.mentions id
   |none=>false }
def iD:cT:={ all:=true }
def NM:Op→Bool
 | .indexAddr _ _ _=>true
 |_=>false
def mw (P:Program) (h:Hint) (ops:Array Oper) (o:Oper) (st:St):cT:=
 {rs:=fh ops o,ws:=o.dst.toList,ro:=bif BT o.op||NM o.op then [] else zN st o++z8 P h o st,rl:=bif NM o.op then zN st o else [] }
def kZ (ops:Array Oper) (o:Oper):cT:={ rs:=fh ops o,ws:=o.dst.toList }
def rV (P:Program) (ops:Array Oper) (o:Oper) (st:St) (a:Operand):cT:=match (aM P 0 st a).bind targetId with
 |some id=>{ rs:=fh ops o,ro:=id::zN st o,wo:=[id] }
 |none=>iD
def CV (P:Program) (ops:Array Oper) (o:Oper) (st:St) (c:Call):cT:=match c.args.toList,c.argTypes.toList,o.dst with
 |[x,_],[t,_],some d=>match aM P t st x with
  |some (.row id)=>{ rs:=fh ops o,ws:=[d],ro:=id::zN st o,wo:=[id],mv:=[id] }
  |_=>iD
 |_,_,_=>iD
def Fp (P:Program) (ops:Array Oper) (o:Oper) (st:St) (x:Operand) (d:Nat):cT:=match aM P 0 st x with
 |some (.rp id _ _ _)=>match st.ob id with
  |some (.rn _ _ _ _ _ _ _)=>{ rs:=fh ops o,ws:=[d],ro:=[id],wo:=[id,d],mv:=[d],kp:=fun j=>Nat.beq j id&& !(Nat.beq id d) }
  |_=>iD
 |_=>iD
def yj (P:Program) (ops:Array Oper) (o:Oper) (st:St) (t:TypeId) (a x:Operand):cT:=match aM P 0 st a,aM P t st x with
 |some (.rp id _ _ _),some (.row j)=>{ rs:=fh ops o,ro:=[id,j],wo:=[id,j],mv:=[j],kp:=fun q=>Nat.beq q id&& !(Nat.beq id j) }
 |_,_=>rV P ops o st a
def fJ (P:Program) (h:Hint) (ops:Array Oper) (o:Oper) (st:St):cT:=
 match o.op,o.dst with
 | .store t a x,none=>yj P ops o st t a x
 | .alloc _,some d=>bif h.rows.contains d then iD else { rs:=fh ops o,ws:=[d],wo:=[d],mv:=[d] }
 | .call c,_=>match c.callee with
  | .builtin .append=>CV P ops o st c
  | .value _=>bif o.dst.any h.pQ.contains&& !(o.dst.any (fun d=>(mS h d).isSome)) then { rs:=fh ops o,ws:=o.dst.toList,wo:=o.dst.toList,mv:=o.dst.toList } else iD
  |_=>iD
 | .load _ x,some d=>bif h.take.contains d then Fp P ops o st x d else iD
 |_,_=>iD
def jX:List Nat→St→St
 |[],st=>st
 |p::l,st=>jX l (st.cA p)
def Pv (h:Hint) (st:St) (o:Oper):Bool:=
 match o.op with
 | .buildSlice _ _ _=> !(o.dst.any h.rows.contains)
 | .call c=>match c.callee with
  | .builtin .append=>false
  | .builtin .delete=>false
  | .builtin .clear=>false
  | .value f=> !(o.dst.any h.pQ.contains)&&((o.dst.any h.stay.contains&&wide st c f)|| !(wide st c f||c.args.toList.any (fun x=>(iQ h st x).isSome)))
  |_=>true
 | .assign x=>match o.dst,x with
  |some d, .const (.slice none 0 0)=> !(h.rows.contains d)
  |some d,_=> !(h.cG.contains d)
  |none,_=>true
 | .lookup _ x _ ok=> !(iS h x&& !ok)
 | .makeFunc _ _ _| .move _| .pick _ _ _| .binOp _ _ _ _ _| .unOp _ _ _| .convert _ _ _| .fieldAddr _ _ _| .field _ _ _| .indexAddr _ _ _| .index _ _ _| .slice _ _ _ _ _| .extract _ _| .nilCheck _=>true
 | .build _ _=> !(o.dst.any h.rows.contains)
 | .load _ _=> !(o.dst.any h.take.contains)
 |_=>false
def isW:Op→Bool
 | .buildSlice _ _ _| .build _ _| .load _ _=>true
 |_=>false
def kJ:List SV→List Nat
 |[]=>[]
 | .row id::l=>id::kJ l
 |_::l=>kJ l
def DR (st:St) (t:Nat):cT:=
 match st.env t with
 |some (.row id)=>{ rs:=[t],ro:=[id],wo:=[id],mv:=[id] }
 |some (.ptr id _)=>match st.ob id with
  |some (.box _ cells)=>{ rs:=[t],ro:=id::kJ cells,wo:=kJ cells,mv:=kJ cells }
  |_=>iD
 |_=>{ rs:=[t] }
def cT.then (a b:cT):cT:={ rs:=a.rs++b.rs,ws:=b.ws++a.ws,ro:=a.ro++b.ro,wo:=b.wo++a.wo,mv:=a.mv++b.mv,all:=a.all||b.all,rl:=a.rl++b.rl,kp:=fun j=>(a.kp j|| !(a.wo.contains j))&&(b.kp j|| !(b.wo.contains j)) }
def xb (P:Program) (h:Hint) (ops:Array Oper) (o:Oper):List Nat→St→cT
 |[],st=>bif Pv h st o then (bif isW o.op then mw P h ops o st else iD) else fJ P h ops o st
 |t::l,st=>match kG st t with
  |some st1=>(DR st t).then (xb P h ops o l st1)
  |none=>iD
def iY (P:Program) (h:Hint) (ops:Array Oper) (o:Oper) (st:St):cT:=(xb P h ops o (qq h o) st).then { rs:=fh ops o }
def eV (P:Program) (h:Hint) (aV:cQ) (ops:Array Oper):Nat→List Oper→List (Nat×cT)→St→Option St
 |_,[],_,st=>some st
 |i,o::l,prev,st=>match iM ops o st with
  |none=>none
  |some b=>bif b then
    bif Pv h st o&&(qq h o).isEmpty then
     match cr P h aV o st with
     |some v=>bif nt ops prev i ((mw P h ops o st).fill st (st.set o.dst v)) then eV P h aV ops (i+1) l ((i,(mw P h ops o st).fill st (st.set o.dst v))::prev) (st.set o.dst v) else none
     |none=>none
    else match step P h aV o st with
     |some st'=>bif nt ops prev i ((iY P h ops o st).fill st st') then eV P h aV ops (i+1) l ((i,(iY P h ops o st).fill st st')::prev) st' else none
     |none=>none
   else bif nt ops prev i ((kZ ops o).fill st (st.set o.dst .undef)) then eV P h aV ops (i+1) l ((i,(kZ ops o).fill st (st.set o.dst .undef))::prev) (st.set o.dst .undef) else none
def St.zO (st:St) (id:Nat):Option St:=
 match st.ob id with
 |some (.box _ _)=>st.gQ id
 |none=>some st
 |_=>st.bZ id
def pR:List Nat→St→Option St
 |[],st=>some st
 |id::l,st=>(st.zO id).bind (pR l)
def Hint.O0 (h:Hint) (id:Nat) (st:St):Option St:=
 match find h.sQ id with
 |some l=>pR l st
 |none=>some st
def exec (P:Program) (h:Hint) (aV:cQ) (n:Nat):Code→St→Option (Ex×St)
 | .skip,st=>some (.normal,st)
 | .label _,st=>some (.normal,st)
 | .region id ops draw,st=>(h.O0 id st).bind fun st=>
  bif draw then
   bif kC 0 ops.toList then (eV P h aV ops 0 ops.toList [] (jX (nI ops.toList) st)).map fun s=>(.normal,s) else none
  else (iT P h aV ops ops.toList st).map fun s=>(.normal,s)
 | .seq a b,st=>match find h.blk (bY a) with
  |some x=>bif x.1 st then some (SB (x.2 st).1,(x.2 st).2) else none
  |none=>match exec P h aV n a st with
   |some (.normal,st')=>exec P h aV n b st'
   |r=>r
 | .cond c a b,st=>match aM P 0 st c with
  |some (.pv (.bool t))=>bif t then exec P h aV n a st else exec P h aV n b st
  |_=>none
 | .block id c,st=>match exec P h aV n c st with
  |some (.exit j,st')=>bif Nat.beq j id then some (.normal,st') else some (.exit j,st')
  |r=>r
 | .loop c,st=>iter h (bY c) (exec P h aV n c) n st
 | .exit id,st=>some (.exit id,st)
 | .ret,st=>some (.ret,st)
 | .scope c,st=>exec P h aV n c st
 |_,_=>none
def oG:Nat→List SV→List (Nat×SV)
 |_,[]=>[]
 |i,v::l=>(i,v)::oG (i+1) l
def St.DS (st:St) (id:Nat):Option St:=
 match st.ob id with
 |some (.box _ cells)=>(gK cells st).bind fun st'=>st'.gQ id
 |_=>none
def DT (st:St) (t:Nat):Option (St×AV):=
 match st.env t with
 |some (.pv v)=>some (st,v)
 |some (.ptr id 0)=>match st.DS id with
  |some st'=>match st'.env t with
   |some (.cp cs)=>some (st', .ref cs)
   |_=>none
  |none=>none
 |some (.row id)=>match st.bZ id with
  |some st'=>match st'.env t with
   |some (.pv v)=>some (st',v)
   |_=>none
  |none=>none
 |_=>none
def kV (P:Program):List ResultVar→St→Option (St×List AV)
 |[],st=>some (st,[])
 | .tmp t::l,st=>match DT st t with
  |some (st',v)=>match kV P l st' with
   |some (st2,vs)=>some (st2,v::vs)
   |none=>none
  |none=>none
 | .cell ad t::l,st=>match cD P ⟨none, .load t (.tmp ad),t, "", #[],none⟩ st with
  |some (.pv v)=>match kV P l st with
   |some (st2,vs)=>some (st2,v::vs)
   |none=>none
  |some (.row id)=>match st.bZ id with
   |some st'=>match cD P ⟨none, .load t (.tmp ad),t, "", #[],none⟩ st' with
    |some (.pv v)=>match kV P l st' with
     |some (st2,vs)=>some (st2,v::vs)
     |none=>none
    |_=>none
   |none=>none
  |_=>none
def result:List AV→AV
 |[v]=>v
 |vs=> .e9 vs
def iz (names:List Nat) (st:St):List Nat→Option (List (Nat×Ob))
 |[]=>some []
 |id::l=>match st.ob id,iz names st l with
  |some o,some os=>bif o.closed names then some ((id,o)::os) else none
  |_,_=>none
def gP (N:Nat):Code→Bool
 | .region _ ops _=>ops.toList.all fun o=>match o.dst with
  |some d=>Nat.blt d N
  |none=>true
 | .seq a b=>gP N a&&gP N b
 | .cond _ a b=>gP N a&&gP N b
 | .block _ c=>gP N c
 | .loop c=>gP N c
 | .scope c=>gP N c
 |_=>true
def HO (fn:Func):Bool:=Nat.ble fn.ntmps 10000&& !(fn.name== "runtime.NumGoroutine")&&match fn.body with
 |some c=>gP fn.ntmps c
 |none=>true
def vZ (P:Program):Bool:=P.follows .mixedOrders&&P.funcs.toList.all HO
def D9 (fn:Func) (names:List Nat) (st:St):Option Nat:=
 match fn.results.toList,names with
 |[.tmp t],[10000]=>match st.env t,st.ob 10000 with
  |some (.row 10000),some (.row _ _ xs)=>some xs.length
  |some (.sub 10000 _ 0 n),some (.row _ _ _)=>some n
  |_,_=>none
 |_,_=>none
def Jk (fn:Func) (st:St):Option AV:=
 match fn.results.toList with
 |[.tmp t]=>match st.env t with
  |some (.row id)=>match ot id,st.ob id with
   |true,some (.row e sz xs)=>some (.e9 [.e9 [.self e, .cE sz xs]])
   |_,_=>none
  |_=>none
 |_=>none
def M0 (P:Program) (own:Bool) (fn:Func) (names:List Nat) (e:Ex) (st:St):Option (AV×List (Nat×Ob)):=
 match e with
 | .exit _=>none
 |_=>bif own then
   match Jk fn st,iz names st names with
   |some r,some l=>some (r,l)
   |_,_=>none
  else match D9 fn names st with
  |some n=>match iz names st names with
   |some l=>some (.self n,l)
   |none=>none
  |none=>match kV P fn.results.toList st with
   |some (st',vs)=>match iz names st' names with
    |some l=>some (result vs,l)
    |none=>none
   |none=>none
def MZ (P:Program) (own:Bool) (fn:Func) (bG:List (Nat×Ob)) (e:Ex) (st:St):Option (AV×List (Nat×Ob)):=M0 P own fn (bG.map (·.1)) e st
def jE (P:Program) (H:Nat→Hint) (dg:cQ):Nat→cQ
 |0=>fun _ _ _=>none
 |n+1=>fun f args bG=>
  match dg f args bG with
  |some r=>some r
  |none=>match P.funcs[f]? with
   |some fn=>match fn.body with
    |some c=>
     bif Nat.ble args.length fn.ntmps&&(bG.map (·.1)).all (fun i=> !(ot i)) then
      match exec P (H f) (jE P H dg n) n c { env:=find (oG 0 args),ob:=find bG } with
      |some (e,st)=>MZ P (H f).own fn bG e st
      |none=>none
     else none
    |none=>none
   |none=>none
end Go.AM
