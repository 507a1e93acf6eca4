/- AN ABSTRACT MACHINE over the model's code. -/
import Derived.Calls
import Derived.Orders
import Derived.LoopN
import Derived.Scope
import Derived.Below
import Derived.Laws.OwnMore
import Derived.Maps.AppendAt
import Derived.Laws.BytesString
namespace Go.AM
inductive AV where
 |bool (b:Bool)
 |int (k:IntKind) (n:Int)
 |str (s:List UInt8)
 |cm (sz:Nat) (xs:List (List AV))
 |agg (cs:List AV)
 |fn (f:Nat) (caps:List AV)
 |fG (vs:List AV)
 |ref (cs:List AV)
 |mp (ks vs:List AV)
 |self (n:Nat)
 |ri
 deriving Inhabited
inductive ko where
 |v (a:AV)
 |p (id:Nat)
 |r (id:Nat)
 deriving Inhabited
inductive SV where
 |undef
 |any
 |pv (v:AV)
 |ptr (id off:Nat)
 |row (id:Nat)
 |rp (id sz i off:Nat)
 |sub (id sz lo hi:Nat)
 |cp (cs:List AV)
 |cl (f:Nat) (caps:List ko)
 |two (v:SV) (b:Bool)
 |ag (cs:List ko)
 deriving Inhabited
inductive Ob where
 |box (t:TypeId) (cells:List SV)
 |row (e:TypeId) (sz:Nat) (xs:List (List AV))
 |mp (k e:TypeId) (ks vs:List AV)
 |mr (k e:TypeId) (sz:Nat) (ks:List AV) (vs:List (Option (List (List AV))))
 |it (s:List UInt8) (pos:Nat)
 deriving Inhabited
structure St where
 env:Nat→Option SV
 ob:Nat→Option Ob
def AV.cells:AV→List AV
 | .agg cs=>cs
 |v=>[v]
def AV.BM:AV→Bool
 | .fG _=>false
 |_=>true
def AV.ig:AV→Bool
 | .self _=>false
 |_=>true
def AV.scalar:AV→Bool
 | .bool _| .int _ _| .str _=>true
 |_=>false
def AV.plain:AV→Bool
 | .fG vs=>vs.all AV.scalar
 |v=>v.scalar
def find {α:Type}:List (Nat×α)→Nat→Option α
 |[],_=>none
 |(j,v)::l,i=>cond (Nat.beq j i) (some v) (find l i)
def put {α:Type} (m:Nat→Option α) (d:Nat) (v:Option α):Nat→Option α:=fun i=>cond (Nat.beq d i) v (m i)
def St.set (st:St) (d:Option Nat) (v:SV):St:=
 match d with
 |some d=>{ st with env:=put st.env d (some v) }
 |none=>st
structure Hint where
 loops:List (Nat×List Nat×List Nat):=[]
 rows:List Nat:=[]
 bQ:List Nat:=[]
 bg:List Nat:=[]
 oV:List (Nat×List Nat):=[]
 stay:List Nat:=[]
 keep:List Nat:=[]
 blk:List (Nat×(St→Bool)×(St→Nat×St)):=[]
def lR {α:Type} (m:Nat→Option α):List Nat→List (Nat×α)
 |[]=>[]
 |i::l=>match m i with
  |some v=>(i,v)::lR m l
  |none=>lR m l
def Hint.canon (h:Hint) (key:Nat) (st:St):St:=
 match find h.loops key with
 |some (vars,obs)=>{ env:=find (lR st.env vars),ob:=find (lR st.ob obs) }
 |none=>st
def cu:Code→Nat
 | .region id _ _=>id
 | .seq a _=>cu a
 | .cond _ a _=>cu a
 | .block _ c=>cu c
 | .loop c=>cu c
 | .scope c=>cu c
 |_=>0
def isSlice (P:Program) (t:TypeId):Option (TypeId×Nat):=
 match P.underlying t with
 |some (.slice e)=>(P.info? e).map fun i=>(e,i.size)
 |_=>none
def J1 (P:Program) (t:TypeId):Option Bool:=
 match P.underlying t with
 |some (.struct _)|some (.array _ _)=>some true
 |some _=>some false
 |none=>none
def gC (P:Program) (t:TypeId):Option Nat:=(P.info? t).map (·.size)
def ofConst (P:Program) (t:TypeId):Value→Option AV
 | .bool b=>some (.bool b)
 | .int k n=>some (.int k n)
 | .string s=>some (.str s.data.toList)
 | .slice none 0 0=>(isSlice P t).map fun x=> .cm x.2 []
 | .pointer none=>some .ri
 | .map none=>match P.underlying t with
  |some (.map _ _)=>some (.mp [] [])
  |_=>none
 |_=>none
def bw (P:Program) (t:TypeId) (st:St):Operand→Option SV
 | .tmp i=>st.env i
 | .const v=>(ofConst P t v).map .pv
 | .func f=>some (.pv (.fn f []))
 | .global _=>none
def mR (P:Program):Nat→TypeId→List TypeId
 |0,_=>[]
 |n+1,t=>match P.underlying t with
  |some (.struct fs)=>fs.toList.flatMap fun f=>mR P n f.type
  |some (.array m e)=>(List.replicate m (mR P n e)).flatten
  |_=>[t]
def lV (P:Program):List TypeId→List Value→Option (List AV)
 |[],[]=>some []
 |t::ts,v::vs=>match ofConst P t v,lV P ts vs with
  |some a,some as=>some (a::as)
  |_,_=>none
 |_,_=>none
def zeroCells (P:Program) (t:TypeId):Option (List AV):=
 match P.info? t with
 |some i=>match i.zero with
  |some z=>lV P (mR P 8 t) z.cells.toList
  |none=>none
 |none=>none
def yf (op:BinOp) (k:IntKind) (a b:Int):Option AV:=
 match op with
 | .add=>some (.int k (k.wrap (a+b)))
 | .sub=>some (.int k (k.wrap (a-b)))
 | .mul=>some (.int k (k.wrap (a *b)))
 | .quo=>if b=0 then none else some (.int k (k.wrap (a.tdiv b)))
 | .rem=>if b=0 then none else some (.int k (a.tmod b))
 | .and=>some (.int k (k.wrap (BitVec.ofInt k.bits a&&&BitVec.ofInt k.bits b).toNat))
 | .or=>some (.int k (k.wrap (BitVec.ofInt k.bits a|||BitVec.ofInt k.bits b).toNat))
 | .xor=>some (.int k (k.wrap (BitVec.ofInt k.bits a^^^ BitVec.ofInt k.bits b).toNat))
 | .andNot=>some (.int k (k.wrap (BitVec.ofInt k.bits a&&& ~~~BitVec.ofInt k.bits b).toNat))
 | .eql=>some (.bool (a==b))
 | .neq=>some (.bool (a !=b))
 | .lss=>some (.bool (a<b))
 | .leq=>some (.bool (a≤b))
 | .gtr=>some (.bool (a>b))
 | .geq=>some (.bool (a≥b))
 | .shl| .shr=>none
def tv (op:BinOp) (k:IntKind) (a b:Int):Option AV:=
 if b<0 then none else
 match op with
 | .shl=>some (.int k (k.wrap (a *2^ min b.toNat k.bits)))
 | .shr=>some (.int k (a.fdiv (2^ min b.toNat k.bits)))
 |_=>none
def L5 (op:BinOp) (a b:List UInt8):Option AV:=
 match op with
 | .add=>if a.length+b.length≤9223372036854775807 then some (.str (a++b)) else none
 | .eql=>some (.bool (a==b))
 | .neq=>some (.bool !(a==b))
 | .lss=>some (.bool (Op.bytesLess a b))
 | .leq=>some (.bool (Op.bytesLess a b||a==b))
 | .gtr=>some (.bool !(Op.bytesLess a b||a==b))
 | .geq=>some (.bool !(Op.bytesLess a b))
 |_=>none
def nQ:AV→AV→Option Bool
 | .str a, .str b=>some (a==b)
 | .int k a, .int k' b=>if k=k' then some (a==b) else none
 | .bool a, .bool b=>some (a==b)
 |_,_=>none
def fc (P:Program) (k:TypeId) (key:AV):Bool:=
 match P.underlying k,key with
 |some .string, .str _=>true
 |some (.int q), .int q' _=>q==q'
 |some .bool, .bool _=>true
 |_,_=>false
def DP (P:Program) (xs ys:List AV):List Field→Option Bool
 |[]=>some true
 |f::fs=>match xs[f.offset]?,ys[f.offset]? with
  |some a,some b=>bif !(f.name== "_")&&fc P f.type a&&fc P f.type b&&(gC P f.type).isSome then
    match nQ a b,DP P xs ys fs with
    |some r,some q=>some (r&&q)
    |_,_=>none
   else none
  |_,_=>none
def JZ (P:Program) (op:BinOp) (t:TypeId) (xs ys:List AV):Option AV:=
 match P.underlying t with
 |some (.struct fs)=>bif !(P.stoodInHeld t)&& !(P.eqGuardType P.depth t) then
   match op,DP P xs ys fs.toList with
   | .eql,some b=>some (.bool b)
   | .neq,some b=>some (.bool !b)
   |_,_=>none
  else none
 |_=>none
def bin (P:Program) (op:BinOp) (t:TypeId) (x y:AV):Option AV:=
 match x,y with
 | .agg xs, .agg ys=>JZ P op t xs ys
 | .int k a, .int k' b=>match op with
  | .shl| .shr=>tv op k a b
  |_=>if k=k' then yf op k a b else none
 | .str a, .str b=>L5 op a b
 | .bool a, .bool b=>match P.underlying t,op with
  |some .bool, .eql=>some (.bool (a==b))
  |some .bool, .neq=>some (.bool !(a==b))
  |_,_=>none
 |_,_=>none
def un (op:UnOp) (x:AV):Option AV:=
 match op,x with
 | .neg, .int k n=>some (.int k (k.wrap (0-n)))
 | .not, .bool b=>some (.bool !b)
 |_,_=>none
def eL :SV→Option AV
 | .pv v=>some v
 |_=>none
def mP:List SV→Option (List AV)
 |[]=>some []
 | .pv v::l=>(mP l).map (v:: ·)
 |_::_=>none
def eB (P:Program) (t:TypeId) (cs:List AV):Option AV:=
 match J1 P t,gC P t with
 |some true,some n=>if n≤cs.length then some (.agg (cs.take n)) else none
 |some false,some _=>cs[0]?
 |_,_=>none
def oK (P:Program) (t:TypeId) (f:Nat):Option Field:=
 match P.underlying t with
 |some (.struct fs)=>fs[f]?
 |_=>none
def sH (place:Nat→Option (Nat×Nat)) (cells:List AV):List (Nat×AV)→Option (List AV)
 |[]=>some cells
 |(i,v)::rest=>
  match place i with
  |none=>none
  |some (off,size)=>
   if v.cells.length=size∧off+size≤cells.length then sH place (cells.take off++v.cells++cells.drop (off+size)) rest else none
def iS (P:Program) (t:TypeId) (f:Nat):Option (Nat×Nat):=
 match oK P t f with
 |some fd=>(gC P fd.type).map fun n=>(fd.offset,n)
 |none=>none
def partsOf (P:Program) (ty:Nat→TypeId) (st:St):List (Nat×Operand)→Option (List (Nat×AV))
 |[]=>some []
 |(i,x)::l=>match (bw P (ty i) st x).bind eL,partsOf P ty st l with
  |some v,some vs=>some ((i,v)::vs)
  |_,_=>none
def Fv (P:Program) (t:TypeId) (i:Nat):TypeId:=((oK P t i).map (·.type)).getD 0
def chunks (sz:Nat):Nat→List AV→List (List AV)
 |0,_=>[]
 |n+1,l=>l.take sz::chunks sz n (l.drop sz)
def mz (z:List AV):Nat→List AV
 |0=>[]
 |n+1=>z++mz z n
def elems (st:St):SV→Option (Nat×List (List AV))
 | .pv (.cm sz xs)=>some (sz,xs)
 | .row id=>match st.ob id with
  |some (.row _ sz xs)=>some (sz,xs)
  |_=>none
 |_=>none
def gG (key:AV):List AV→Option (Option Nat)
 |[]=>some none
 |x::l=>match nQ key x with
  |some true=>some (some 0)
  |some false=>(gG key l).map fun r=>r.map (· +1)
  |none=>none
def IL {α:Type} (key:AV) (ks:List AV) (vs:List α):Option (Option α):=
 match gG key ks with
 |some (some i)=>(vs[i]?).map some
 |some none=>some none
 |none=>none
def q9 {α:Type} (key:AV) (v:α) (ks:List AV) (vs:List α):Option (List AV×List α):=
 match gG key ks with
 |some (some i)=>some (ks,vs.set i v)
 |some none=>some (ks++[key],vs++[v])
 |none=>none
def Yf {α:Type} (key:AV) (ks:List AV) (vs:List α):Option (List AV×List α):=
 match gG key ks with
 |some (some i)=>some (ks.eraseIdx i,vs.eraseIdx i)
 |some none=>some (ks,vs)
 |none=>none
def maps (st:St):SV→Option (List AV×List AV)
 | .pv (.mp ks vs)=>some (ks,vs)
 | .row id=>match st.ob id with
  |some (.mp _ _ ks vs)=>some (ks,vs)
  |_=>none
 |_=>none
def zI (st:St):SV→Option (List AV)
 | .row id=>match st.ob id with
  |some (.mr _ _ _ ks _)=>some ks
  |_=>none
 |_=>none
def je (P:Program) (t:TypeId):Option AV:=
 match P.info? t with
 |some i=>match i.zero with
  |some (.agg cs)=>(lV P (mR P 8 t) cs.toList).map .agg
  |some v=>ofConst P t v
  |none=>none
 |none=>none
def found (ok:Bool) (v:AV) (b:Bool):AV:=bif ok then .fG [v, .bool b] else v
def bytesOf:List (List AV)→Option (List UInt8)
 |[]=>some []
 |[.int .u8 n]::l=>(bytesOf l).map (UInt8.ofNat n.toNat:: ·)
 |_=>none
def dW (lo:Option SV) (dflt:Nat) (hi:Nat):Option Nat:=
 match lo with
 |none=>some dflt
 |some (.pv (.int _ i))=>if 0≤i∧i≤hi then some i.toNat else none
 |some _=>none
def fR (P:Program) (st:St):Option Operand→Option (Option SV)
 |none=>some none
 |some x=>(bw P 0 st x).map some
def LG (isMax:Bool):AV→AV→Option AV
 | .int k a, .int k' b=>if k=k' then some (.int k (if isMax then (if b>a then b else a) else (if b<a then b else a))) else none
 | .str a, .str b=>some (.str (bif isMax then (bif !(Op.bytesLess a b) then a else b) else (bif Op.bytesLess a b||a==b then a else b)))
 |_,_=>none
def eW (P:Program) (st:St) (isMax:Bool) (acc:AV):List Operand→Option AV
 |[]=>some acc
 |x::l=>match (bw P 0 st x).bind eL with
  |some v=>match LG isMax acc v with
   |some r=>eW P st isMax r l
   |none=>none
  |none=>none
def r6 (P:Program) (c:Call) (st:St):Option SV:=
 match c.callee,c.args.toList with
 | .builtin .len,[x]=>match c.argTypes.toList with
  |[t]=>match P.underlying t,bw P t st x with
   |some .string,some (.pv (.str s))=>some (.pv (.int .i64 s.length))
   |some (.slice _),some (.sub _ _ lo hi)=>some (.pv (.int .i64 ((hi-lo:Nat):Int)))
   |some (.slice _),some v=>(elems st v).map fun e=> .pv (.int .i64 e.2.length)
   |some (.map _ _),some v=>(maps st v).map fun e=> .pv (.int .i64 e.1.length)
   |_,_=>none
  |_=>none
 | .builtin .max,x::l=>match (bw P 0 st x).bind eL with
  |some v=>(eW P st true v l).map .pv
  |none=>none
 | .builtin .min,x::l=>match (bw P 0 st x).bind eL with
  |some v=>(eW P st false v l).map .pv
  |none=>none
 |_,_=>none
def yd (P:Program) (st:St) (n:Nat) (e:TypeId) (x ix:Operand):Option SV:=
 match gC P e,bw P 0 st x,bw P 0 st ix with
 |some s,some (.ptr id off),some (.pv (.int _ i))=>if 0≤i∧i<n∧0<s then some (.ptr id (off+i.toNat *s)) else none
 |_,_,_=>none
def wm (P:Program) (st:St) (t:TypeId) (x ix:Operand):Option SV:=
 match isSlice P t,bw P t st x,bw P 0 st ix with
 |some (_,s),some (.pv (.cm sz xs)),some (.pv (.int _ i))=>
  if s=sz∧0≤i then (xs[i.toNat]?).map .cp else none
 |some (_,s),some (.row id),some (.pv (.int _ i))=>match st.ob id with
  |some (.row _ sz xs)=>if s=sz∧0≤i∧i.toNat<xs.length then some (.rp id sz i.toNat 0) else none
  |_=>none
 |some (_,s),some (.sub id sz lo hi),some (.pv (.int _ i))=>if s=sz∧0≤i∧i.toNat<hi-lo then some (.rp id sz (lo+i.toNat) 0) else none
 |_,_,_=>none
def cR (P:Program) (o:Oper) (st:St):Option SV:=
 match o.op with
 | .move x| .assign x=>bw P o.type st x
 | .pick c a b=>match bw P 0 st c with
  |some (.pv (.bool t))=>bif t then bw P o.type st a else bw P o.type st b
  |_=>none
 | .binOp op t x y _=>match (bw P t st x).bind eL,(bw P t st y).bind eL with
  |some a,some b=>(bin P op t a b).map .pv
  |_,_=>none
 | .unOp op _ x=>match (bw P 0 st x).bind eL with
  |some a=>(un op a).map .pv
  |none=>none
 | .convert src dst x=>match P.underlying src,P.underlying dst with
  |some (.slice e),some .string=>match P.underlying e,gC P e,(bw P src st x).bind (elems st) with
   |some (.int .u8),some 1,some (1,xs)=>(bytesOf xs).map fun b=> .pv (.str b)
   |_,_,_=>none
  |some _,some (.int k)=>match (bw P 0 st x).bind eL with
   |some (.int _ n)=>some (.pv (.int k (k.wrap n)))
   |_=>none
  |some _,some .string=>match (bw P 0 st x).bind eL with
   |some (.str s)=>some (.pv (.str s))
   |_=>none
  |_,_=>none
 | .call c=>r6 P c st
 | .nilCheck x=>match bw P 0 st x with
  |some (.ptr id off)=>some (.ptr id off)
  |some (.cp cs)=>some (.cp cs)
  |some (.pv (.ref cs))=>some (.pv (.ref cs))
  |some (.rp id sz i off)=>some (.rp id sz i off)
  |_=>none
 | .fieldAddr t x f=>match oK P t f with
  |some fd=>match gC P fd.type with
   |some 0=>none
   |some _=>match bw P 0 st x with
    |some (.ptr id off)=>some (.ptr id (off+fd.offset))
    |some (.cp cs)=>some (.cp (cs.drop fd.offset))
    |some (.pv (.ref cs))=>some (.cp (cs.drop fd.offset))
    |some (.rp id sz i off)=>some (.rp id sz i (off+fd.offset))
    |_=>none
   |none=>none
  |none=>none
 | .field t x f=>match oK P t f,(bw P 0 st x).bind eL with
  |some fd,some (.agg cs)=>(eB P fd.type (cs.drop fd.offset)).map .pv
  |_,_=>none
 | .indexAddr t x ix=>match P.underlying t with
  |some (.array n e)=>yd P st n e x ix
  |_=>wm P st t x ix
 | .index t x ix=>match P.underlying t,bw P t st x,bw P 0 st ix with
  |some .string,some (.pv (.str s)),some (.pv (.int _ i))=>
   if 0≤i then (s[i.toNat]?).map fun b=> .pv (.int .u8 b.toNat) else none
  |_,_,_=>none
 | .load t x=>match bw P 0 st x with
  |some (.cp cs)=>(eB P t cs).map .pv
  |some (.pv (.ref cs))=>(eB P t cs).map .pv
  |some (.rp id sz i off)=>match st.ob id with
   |some (.row _ sz' xs)=>if sz=sz' then (xs[i]?).bind fun c=>(eB P t (c.drop off)).map .pv else none
   |_=>none
  |some (.ptr id off)=>match st.ob id with
   |some (.box _ cells)=>match J1 P t with
    |some false=>if (gC P t).isSome then cells[off]? else none
    |some true=>match gC P t with
     |some n=>if off+n≤cells.length then (mP ((cells.drop off).take n)).map fun cs=> .pv (.agg cs) else none
     |none=>none
    |none=>none
   |_=>none
  |_=>none
 | .slice t x lo hi none=>match P.underlying t,bw P t st x,fR P st lo,fR P st hi with
  |some .string,some (.pv (.str s)),some lo,some hi=>match dW hi s.length s.length with
   |some h=>(dW lo 0 h).map fun l=> .pv (.str ((s.take h).drop l))
   |none=>none
  |some (.slice _),some (.pv (.cm sz xs)),some lo,some hi=>match isSlice P t,dW hi xs.length xs.length with
   |some (_,s),some h=>if s=sz then (dW lo 0 h).map fun l=> .pv (.cm sz ((xs.take h).drop l)) else none
   |_,_=>none
  |some (.slice _),some (.row id),some lo,some hi=>match isSlice P t,st.ob id with
   |some (_,s),some (.row _ sz xs)=>match dW hi xs.length xs.length with
    |some h=>if s=sz then (dW lo 0 h).map fun l=> .sub id sz l h else none
    |none=>none
   |_,_=>none
  |some (.slice _),some (.sub id sz a b),some lo,some hi=>match isSlice P t,dW hi (b-a) (b-a) with
   |some (_,s),some h=>if s=sz then (dW lo 0 h).map fun l=> .sub id sz (a+l) (a+h) else none
   |_,_=>none
  |_,_,_,_=>none
 | .extract x i=>match bw P 0 st x with
  |some (.pv (.fG vs))=>(vs[i]?).map .pv
  |some (.two v b)=>match i with
   |0=>some v
   |1=>some (.pv (.bool b))
   |_=>none
  |_=>none
 | .lookup t x k ok=>match P.underlying t with
  |some (.map kt et)=>match (bw P t st x).bind (zI st),(bw P kt st k).bind eL with
   |some ks,some key=>bif ok&&fc P kt key&&(je P et).isSome then (gG key ks).map fun r=> .two .any r.isSome else none
   |_,_=>match (bw P t st x).bind (maps st),(bw P kt st k).bind eL with
   |some (ks,vs),some key=>bif fc P kt key then
     match IL key ks vs with
     |some (some v)=>some (.pv (found ok v true))
     |some none=>(je P et).map fun z=> .pv (found ok z false)
     |none=>none
    else none
   |_,_=>none
  |_=>none
 | .build t parts=>match P.underlying t with
  |some (.struct fs)=>match zeroCells P t,partsOf P (Fv P t) st parts.toList with
   |some z,some ps=>if ps.all (fun p=>p.2.BM)=true∧fs.toList.all (fun f=>(gC P f.type).isSome)=true then (sH (iS P t) z ps).map fun cs=> .pv (.agg cs) else none
   |_,_=>none
  |_=>none
 |_=>none
def ko.mentions (id:Nat):ko→Bool
 | .p j| .r j=>Nat.beq j id
 | .v _=>false
def SV.mentions (id:Nat):SV→Bool
 | .ptr j _| .row j| .rp j _ _ _| .sub j _ _ _=>Nat.beq j id
 | .cl _ caps=>caps.any (ko.mentions id)
 | .ag caps=>caps.any (ko.mentions id)
 | .two v _=>v.mentions id
 |_=>false
def SV.bV (id:Nat) (v:SV):SV:=bif v.mentions id then .any else v
def Ob.bV (id:Nat):Ob→Ob
 | .box t cells=> .box t (cells.map (SV.bV id))
 |o=>o
def St.bV (st:St) (id:Nat):St:=
 {env:=fun i=>(st.env i).map (SV.bV id),ob:=put (fun i=>(st.ob i).map (Ob.bV id)) id none }
def St.new (st:St) (id:Nat) (o:Ob):St:=
 let s:=st.bV id
 {s with ob:=put s.ob id (some o) }
def SV.cQ (id:Nat) (v:AV):SV→SV
 | .row j=>bif Nat.beq j id then .pv v else .row j
 |s=>s.bV id
def lM {α:Type}:List (Option α)→Option (List α)
 |[]=>some []
 |some x::l=>(lM l).map (x:: ·)
 |none::_=>none
def Ob.val:Ob→Option AV
 | .row _ sz xs=>some (.cm sz xs)
 | .mp _ _ ks vs=>some (.mp ks vs)
 | .mr _ _ sz ks vs=>(lM vs).map fun l=> .mp ks (l.map (.cm sz))
 | .box _ _=>none
 | .it _ _=>none
def Ob.cQ (id:Nat) (v:AV):Ob→Ob
 | .box t cells=> .box t (cells.map (SV.cQ id v))
 |o=>o
def s4 (id:Nat):Bool:=Nat.blt id 10000
def St.cQ (st:St) (id:Nat):Option St:=
 match s4 id,(st.ob id).bind Ob.val with
 |true,some v=>some { env:=fun i=>(st.env i).map (SV.cQ id v),ob:=put (fun i=>(st.ob i).map (Ob.cQ id v)) id none }
 |_,_=>none
def SV.ij (id:Nat) (cs:List AV):SV→SV
 | .ptr j off=>bif Nat.beq j id then .cp (cs.drop off) else .ptr j off
 |s=>s.bV id
def Ob.ij (id:Nat) (cs:List AV):Ob→Ob
 | .box t cells=> .box t (cells.map (SV.ij id cs))
 |o=>o
def St.ij (st:St) (id:Nat):Option St:=
 match s4 id,st.ob id with
 |true,some (.box _ cells)=>match mP cells with
  |some cs=>some { env:=fun i=>(st.env i).map (SV.ij id cs),ob:=put (fun i=>(st.ob i).map (Ob.ij id cs)) id none }
  |none=>none
 |_,_=>none
def oW (st:St):List Operand→Option St
 |[]=>some st
 | .tmp i::l=>match st.env i with
  |some (.ptr id _)=>(st.ij id).bind fun st'=>oW st' l
  |_=>oW st l
 |_::l=>oW st l
def nS (st:St):SV→Option AV
 | .pv v=>some v
 | .row id=>(st.ob id).bind Ob.val
 |_=>none
def ff (P:Program) (st:St):List Operand→List TypeId→Option (List AV)
 |[],_=>some []
 |x::xs,ts=>match (bw P (ts.headD 0) st x).bind (nS st),ff P st xs ts.tail with
  |some v,some vs=>some (v::vs)
  |_,_=>none
def j7 (st:St):Operand→Bool
 | .tmp i=>match st.env i with
  |some (.row _)=>true
  |_=>false
 |_=>false
def mE (st:St):List Operand→Option (List AV)
 |[]=>some []
 | .tmp i::l=>match st.env i,mE st l with
  |some (.pv v),some vs=>some (v::vs)
  |some (.cp cs),some vs=>some (.ref cs::vs)
  |_,_=>none
 |_::_=>none
def pK (st:St):List Operand→Option (List ko)
 |[]=>some []
 | .tmp i::l=>match st.env i,pK st l with
  |some (.pv v),some cs=>some (.v v::cs)
  |some (.cp cs'),some cs=>some (.v (.ref cs')::cs)
  |some (.ptr id 0),some cs=>some (.p id::cs)
  |_,_=>none
 |_::_=>none
def mo (P:Program) (t:TypeId) (len:Nat) (parts:List (Nat×Operand)) (st:St):Option (TypeId×Nat×List (List AV)):=
 match isSlice P t with
 |some (e,s)=>match zeroCells P e,partsOf P (fun _=>e) st parts with
  |some z,some ps=>
   if len *s≤16777216∧0<s∧z.length=s∧ps.all (fun p=>p.2.BM)=true then
    (sH (fun i=>some (i *s,s)) (mz z len) ps).map fun cs=>(e,s,chunks s len cs)
   else none
  |_,_=>none
 |none=>none
abbrev dm:=Nat→List SV→List (Nat×Ob)→Option (AV×List (Nat×Ob))
def ji (h:Hint) (st:St):Operand→Option Nat
 | .tmp t=>bif h.bg.contains t then
   match st.env t with
   |some (.row id)=>some id
   |_=>none
  else none
 |_=>none
def jo (h:Hint):Operand→Bool
 | .tmp t=>h.rows.contains t
 |_=>false
def lQ (id:Nat):Bool:=Nat.blt id 10000||(Nat.ble 20000 id&&Nat.blt id 30000)
def SV.ids:SV→List Nat
 | .ptr j _| .row j| .rp j _ _ _| .sub j _ _ _=>[j]
 | .cl _ caps=>caps.filterMap fun
  | .p j| .r j=>some j
  | .v _=>none
 | .ag caps=>caps.filterMap fun
  | .p j| .r j=>some j
  | .v _=>none
 | .two v _=>v.ids
 |_=>[]
def SV.closed (names:List Nat):SV→Bool
 | .ptr j _| .row j| .rp j _ _ _| .sub j _ _ _=>names.contains j
 | .cl _ caps=>caps.all fun
  | .p j| .r j=>names.contains j
  | .v _=>true
 | .ag caps=>caps.all fun
  | .p j| .r j=>names.contains j
  | .v _=>true
 | .two v _=>v.closed names
 |_=>true
def Ob.closed (names:List Nat):Ob→Bool
 | .box _ cells=>cells.all (SV.closed names)
 | .row _ _ _=>true
 | .mp _ _ _ _=>true
 | .mr _ _ _ _ _=>false
 | .it _ _=>true
def Ee (st:St):Operand→Bool
 | .tmp t=>match st.env t with
  |some (.ptr _ _)=>true
  |some (.cl _ _)=>true
  |_=>false
 |_=>false
def UA (st:St):Operand→Bool
 | .tmp t=>match st.env t with
  |some (.cl _ _)=>true
  |_=>false
 |_=>false
def wide (st:St) (c:Call) (f:Operand):Bool:=UA st f||c.args.toList.any (Ee st)
def isRef (h:Hint):Operand→Bool
 | .tmp t=>h.bg.contains t
 |_=>false
def PZ (P:Program) (h:Hint) (st:St) (t:TypeId) (x:Operand):Option SV:=
 match bw P t st x with
 |some (.pv v)=>some (.pv v)
 |some (.ptr id off)=>some (.ptr id off)
 |some (.row id)=>bif isRef h x then some (.row id) else none
 |some (.cl f caps)=>some (.cl f caps)
 |some (.cp cs)=>some (.cp cs)
 |_=>none
def pH (P:Program) (h:Hint) (st:St):List Operand→List TypeId→Option (List SV)
 |[],_=>some []
 |x::xs,ts=>match PZ P h st (ts.headD 0) x,pH P h st xs ts.tail with
  |some v,some vs=>some (v::vs)
  |_,_=>none
def Hu:ko→SV
 | .v a=> .pv a
 | .p id=> .ptr id 0
 | .r id=> .row id
def Uo:SV→Option (Nat×List SV)
 | .pv (.fn g caps)=>some (g,caps.map .pv)
 | .cl g caps=>some (g,caps.map Hu)
 |_=>none
def Az (st:St) (id:Nat):List Nat:=
 match st.ob id with
 |some (.box _ cells)=>cells.flatMap SV.ids
 |_=>[]
def eZ (st:St):Nat→List Nat→List Nat→List Nat
 |0,_,done=>done
 |_+1,[],done=>done
 |n+1,id::todo,done=>bif done.contains id then eZ st n todo done else eZ st n (todo++Az st id) (done++[id])
def yL:List SV→List Nat
 |[]=>[]
 | .row id::l=>id::yL l
 |_::l=>yL l
def UB (st:St) (id:Nat):Bool:=
 match st.ob id with
 |some (.row _ _ _)=>true
 |_=>false
def tZ (stay:Bool) (st:St) (roots:List Nat) (id:Nat):Bool:=UB st id&&lQ id&& !(roots.contains id)&& !stay
def iz (mv:Nat→Bool):Nat→List Nat→List (Nat×Nat)
 |_,[]=>[]
 |k,id::l=>(id,bif mv id then 20000+k else 10000+k)::iz mv (k+1) l
def swap:List (Nat×Nat)→List (Nat×Nat)
 |[]=>[]
 |(a,b)::l=>(b,a)::swap l
def j5 (m:List (Nat×Nat)) (id:Nat):Nat:=(find m id).getD id
def ko.mw (ρ:Nat→Nat):ko→ko
 | .p id=> .p (ρ id)
 | .r id=> .r (ρ id)
 |c=>c
def SV.mw (ρ:Nat→Nat):SV→SV
 | .ptr j off=> .ptr (ρ j) off
 | .row j=> .row (ρ j)
 | .rp j sz i off=> .rp (ρ j) sz i off
 | .sub j sz lo hi=> .sub (ρ j) sz lo hi
 | .cl f caps=> .cl f (caps.map (ko.mw ρ))
 | .ag caps=> .ag (caps.map (ko.mw ρ))
 | .two v b=> .two (v.mw ρ) b
 |s=>s
def Ob.mw (ρ:Nat→Nat):Ob→Ob
 | .box t cells=> .box t (cells.map (SV.mw ρ))
 |o=>o
def gj (st:St) (ids:List Nat) (ρ:Nat→Nat):List (Nat×Nat)→Option (List (Nat×Ob))
 |[]=>some []
 |(id,nm)::l=>match st.ob id,gj st ids ρ l with
  |some o,some os=>bif o.closed ids then some ((nm,o.mw ρ)::os) else none
  |_,_=>none
def lN (names:List Nat) (ρ:Nat→Nat):List (Nat×Nat)→List (Nat×Ob)→Option (List (Nat×Ob))
 |[],[]=>some []
 |(id,nm)::l,(LJ,o)::os=>bif Nat.beq nm LJ&&o.closed names then (lN names ρ l os).map fun r=>(id,o.mw ρ)::r else none
 |_,_=>none
def distinct:List Nat→Bool
 |[]=>true
 |x::l=> !(l.contains x)&&distinct l
def mu:List Nat→St→St
 |[],st=>st
 |id::l,st=>mu l (st.bV id)
mutual
def AV.same:AV→AV→Bool
 | .bool a, .bool b=>a==b
 | .int k a, .int k' b=>decide (k=k')&&decide (a=b)
 | .str a, .str b=>decide (a=b)
 | .cm s xs, .cm s' ys=>Nat.beq s s'&&uP xs ys
 | .agg a, .agg b=>kY a b
 | .fn f a, .fn g b=>Nat.beq f g&&kY a b
 | .fG a, .fG b=>kY a b
 | .ref a, .ref b=>kY a b
 | .mp a b, .mp c d=>kY a c&&kY b d
 | .self a, .self b=>Nat.beq a b
 | .ri, .ri=>true
 |_,_=>false
def kY:List AV→List AV→Bool
 |[],[]=>true
 |a::l,b::m=>AV.same a b&&kY l m
 |_,_=>false
def uP:List (List AV)→List (List AV)→Bool
 |[],[]=>true
 |a::l,b::m=>kY a b&&uP l m
 |_,_=>false
end
def ko.same:ko→ko→Bool
 | .v a, .v b=>AV.same a b
 | .p a, .p b=>Nat.beq a b
 | .r a, .r b=>Nat.beq a b
 |_,_=>false
def kJ:List ko→List ko→Bool
 |[],[]=>true
 |a::l,b::m=>ko.same a b&&kJ l m
 |_,_=>false
def SV.same:SV→SV→Bool
 | .undef, .undef=>true
 | .any, .any=>true
 | .pv a, .pv b=>AV.same a b
 | .ptr a b, .ptr c d=>Nat.beq a c&&Nat.beq b d
 | .row a, .row b=>Nat.beq a b
 | .rp a b c d, .rp a' b' c' d'=>Nat.beq a a'&&Nat.beq b b'&&Nat.beq c c'&&Nat.beq d d'
 | .sub a b c d, .sub a' b' c' d'=>Nat.beq a a'&&Nat.beq b b'&&Nat.beq c c'&&Nat.beq d d'
 | .cp a, .cp b=>kY a b
 | .cl f a, .cl g b=>Nat.beq f g&&kJ a b
 | .two s a, .two t b=>SV.same s t&&(a==b)
 | .ag a, .ag b=>kJ a b
 |_,_=>false
def pe:List SV→List SV→Bool
 |[],[]=>true
 |a::l,b::m=>SV.same a b&&pe l m
 |_,_=>false
def kK:List (Option (List (List AV)))→List (Option (List (List AV)))→Bool
 |[],[]=>true
 |some a::l,some b::m=>uP a b&&kK l m
 |none::l,none::m=>kK l m
 |_,_=>false
def Ob.same:Ob→Ob→Bool
 | .box t a, .box u b=>Nat.beq t u&&pe a b
 | .row e s xs, .row e' s' ys=>Nat.beq e e'&&Nat.beq s s'&&uP xs ys
 | .mp k e a b, .mp k' e' c d=>Nat.beq k k'&&Nat.beq e e'&&kY a c&&kY b d
 | .mr k e s a b, .mr k' e' s' c d=>Nat.beq k k'&&Nat.beq e e'&&Nat.beq s s'&&kY a c&&kK b d
 | .it s p, .it s' p'=>decide (s=s')&&Nat.beq p p'
 |_,_=>false
def ng:List (Nat×Ob)→List (Nat×Ob)→Bool
 |[],[]=>true
 |(i,a)::l,(j,b)::m=>Nat.beq i j&&Ob.same a b&&ng l m
 |_,_=>false
def rH (P:Program) (h:Hint) (st:St) (c:Call) (f:Operand):Option (Nat×List SV):=
 match (bw P 0 st f).bind Uo,pH P h st c.args.toList c.argTypes.toList with
 |some (g,caps),some vs=>some (g,vs++caps)
 |_,_=>none
def fS (st:St) (args:List SV):List Nat:=eZ st 200 (args.flatMap SV.ids) []
def eM (ids:List Nat):List (Nat×Nat):=iz (fun _=>false) 0 ids
def lz (P:Program) (h:Hint) (bN:dm) (st:St) (c:Call) (f:Operand):Option AV:=
 match rH P h st c f with
 |some (g,args)=>
  bif distinct (fS st args)&&Nat.blt (fS st args).length 10000&&args.all (SV.closed (fS st args)) then
   match gj st (fS st args) (j5 (eM (fS st args))) (eM (fS st args)) with
   |some bU=>match bN g (args.map (SV.mw (j5 (eM (fS st args))))) bU with
    |some (r,dP)=>bif ng dP bU&&r.ig then some r else none
    |none=>none
   |none=>none
  else none
 |none=>none
def cM (P:Program) (h:Hint) (bN:dm) (o:Oper) (st:St):Option SV:=
 match o.op with
 | .buildSlice t len parts=>
  bif (o.dst.any h.rows.contains) then none else (mo P t len parts.toList st).map fun x=> .pv (.cm x.2.1 x.2.2)
 | .call c=>match c.callee with
  | .value f=>bif o.dst.any h.stay.contains&&wide st c f then (lz P h bN st c f).map .pv else
   bif wide st c f||c.args.toList.any (fun x=>(ji h st x).isSome) then none else
   match bw P 0 st f,ff P st c.args.toList c.argTypes.toList with
   |some (.pv (.fn g caps)),some vs=>match bN g ((vs++caps).map .pv) [] with
    |some (r,[])=>bif (!(c.args.toList.any (j7 st))||r.plain)&&r.ig then some (.pv r) else none
    |_=>none
   |_,_=>none
  |_=>r6 P c st
 | .lookup _ x _ ok=>bif jo h x&& !ok then none else cR P o st
 | .build _ _=>bif o.dst.any h.rows.contains then none else cR P o st
 | .makeFunc (.func g) first caps=>bif first.isEmpty then
   bif o.dst.any h.bg.contains then (pK st caps.toList).map fun cs=> .cl g cs
   else (mE st caps.toList).map fun vs=> .pv (.fn g vs)
  else none
 | .assign x=>match o.dst,x,cR P o st with
  |some d, .const _,some (.pv (.cm sz xs))=>bif h.rows.contains d then none else some (.pv (.cm sz xs))
  |some d,_,some (.row id)=>bif h.bQ.contains d then none else some (.row id)
  |_,_,r=>r
 |_=>cR P o st
def kX (st:St):SV→Bool
 | .pv (.agg _)| .pv (.fG _)=>false
 | .pv _=>true
 | .ptr _ _| .rp _ _ _ _| .cp _| .cl _ _=>true
 | .row id=>match st.ob id with
  |some (.row _ _ _)=>true
  |some (.mp _ _ _ _)=>true
  |_=>false
 |_=>false
def storeAt (P:Program) (t:TypeId) (st:St) (a:SV) (v:SV):Option St:=
 match a with
 | .ptr id off=>match st.ob id,gC P t with
  |some (.box bt cells),some n=>match v with
   | .ag cs=>if cs.length=n∧off+n≤cells.length then
     some { st with ob:=put st.ob id (some (.box bt (cells.take off++cs.map Hu++cells.drop (off+n)))) } else none
   | .pv (.agg cs)=>if cs.length=n∧off+n≤cells.length then
     some { st with ob:=put st.ob id (some (.box bt (cells.take off++cs.map .pv++cells.drop (off+n)))) } else none
   |v=>if n=1∧off<cells.length∧kX st v=true then some { st with ob:=put st.ob id (some (.box bt (cells.set off v))) } else none
  |_,_=>none
 | .rp id sz i off=>match st.ob id,gC P t,v with
  |some (.row e sz' xs),some n, .pv v=>match xs[i]? with
   |some c=>if sz=sz'∧v.cells.length=n∧off+n≤c.length∧v.BM=true then
     some { st with ob:=put st.ob id (some (.row e sz' (xs.set i (c.take off++v.cells++c.drop (off+n))))) } else none
   |none=>none
  |_,_,_=>none
 |_=>none
def tW (P:Program) (h:Hint) (st:St):List Operand→List TypeId→Option (List SV×List Nat)
 |[],_=>some ([],[])
 |x::xs,ts=>match ji h st x,tW P h st xs ts.tail with
  |some id,some (vs,ids)=>some (.row 10000::vs,id::ids)
  |none,some (vs,ids)=>match (bw P (ts.headD 0) st x).bind eL with
   |some v=>some (.pv v::vs,ids)
   |none=>none
  |_,none=>none
def jG (P:Program) (h:Hint) (bN:dm) (st:St) (c:Call) (f:Operand) (d:Option Nat):Option St:=
 match bw P 0 st f,tW P h st c.args.toList c.argTypes.toList with
 |some (.pv (.fn g caps)),some (vs,[id])=>match st.ob id with
  |some (.row e sz xs)=>match bN g (vs++caps.map .pv) [(10000, .row e sz xs)] with
   |some (r,[(nm, .row e' sz' xs')])=>bif Nat.beq e e'&&Nat.beq sz sz'&&Nat.beq nm 10000 then
     match r with
     | .self n=>bif Nat.ble n xs'.length&&lQ id then some ((st.new id (.row e' sz' (xs'.take n))).set d (.row id)) else none
     |r=>bif r.plain then some (St.set { st with ob:=put st.ob id (some (.row e' sz' xs')) } d (.pv r)) else none
    else none
   |_=>none
  |_=>none
 |_,_=>none
def gp (P:Program) (h:Hint) (bN:dm) (st:St) (c:Call) (f:Operand) (d:Option Nat):Option St:=
 match (bw P 0 st f).bind Uo,pH P h st c.args.toList c.argTypes.toList with
 |some (g,caps),some vs=>
  let args:=vs++caps
  let ids:=eZ st 200 (args.flatMap SV.ids) []
  let mv:=tZ (d.any h.stay.contains) st (yL args)
  let m:=iz mv 0 ids
  let names:=m.map (·.2)
  let ρ:=j5 m
  bif distinct ids&&Nat.blt ids.length 10000&&args.all (SV.closed ids) then
   match gj st ids ρ m with
   |some bU=>match bN g (args.map (SV.mw ρ)) bU with
    |some (r,dP)=>match lN names (j5 (swap m)) m dP with
     |some back=>bif r.ig then
       let st1:=mu (ids.filter mv) st
       some (St.set { env:=st1.env,ob:=fun i=>(find back i).orElse fun _=>st1.ob i } d (.pv r)) else none
     |none=>none
    |none=>none
   |none=>none
  else none
 |_,_=>none
def tL (P:Program) (t:TypeId):Option (List Value):=
 match P.info? t with
 |some i=>i.zero.map fun z=>z.cells.toList
 |none=>none
def mQ (P:Program) (d:Nat):Nat→List TypeId→List Value→Option (List SV×List (Nat×TypeId×Nat))
 |_,[],[]=>some ([],[])
 |j,t::ts,v::vs=>match mQ P d (j+1) ts vs with
  |some (G5,l)=>match isSlice P t,v with
   |some (e,s), .slice none 0 0=>bif Nat.blt 0 s&&Nat.blt (5000+16 *d+j) 10000 then some (.row (5000+16 *d+j)::G5,(5000+16 *d+j,e,s)::l) else none
   |_,v=>(ofConst P t v).map fun a=>(.pv a::G5,l)
  |none=>none
 |_,_,_=>none
def rf:List (Nat×TypeId×Nat)→St→St
 |[],st=>st
 |(id,e,s)::l,st=>rf l (st.new id (.row e s []))
def Vi (st:St) (s:SV):Option ko:=
 bif kX st s then
  match s with
  | .pv a=>some (.v a)
  | .row id=>some (.r id)
  |_=>none
 else none
def vP (st:St):List SV→Option (List ko)
 |[]=>some []
 |s::l=>match Vi st s,vP st l with
  |some c,some cs=>some (c::cs)
  |_,_=>none
def LV (st:St):SV→Option (List SV)
 | .pv (.agg cs)=>some (cs.map .pv)
 |s=>bif kX st s then some [s] else none
def wT (P:Program) (ty:Nat→TypeId) (st:St):List (Nat×Operand)→Option (List (Nat×List SV))
 |[]=>some []
 |(i,x)::l=>match (bw P (ty i) st x).bind (LV st),wT P ty st l with
  |some v,some vs=>some ((i,v)::vs)
  |_,_=>none
def HQ (place:Nat→Option (Nat×Nat)) (cells:List SV):List (Nat×List SV)→Option (List SV)
 |[]=>some cells
 |(i,v)::rest=>
  match place i with
  |none=>none
  |some (off,size)=>
   if v.length=size∧off+size≤cells.length then HQ place (cells.take off++v++cells.drop (off+size)) rest else none
def xY (P:Program) (st:St) (d:Nat) (t:TypeId) (parts:List (Nat×Operand)):Option St:=
 match P.underlying t,(tL P t).bind fun vs=>mQ P d 0 (mR P 8 t) vs with
 |some (.struct fs),some (G5,l)=>bif fs.toList.all (fun f=>(gC P f.type).isSome) then
   match wT P (Fv P t) (rf l st) parts with
   |some ps=>match (HQ (iS P t) G5 ps).bind (vP (rf l st)) with
    |some cs=>some ((rf l st).set (some d) (.ag cs))
    |none=>none
   |none=>none
  else none
 |_,_=>none
def qs (P:Program) (st:St) (t:TypeId) (m k:Operand):Option St:=
 match P.underlying t with
 |some (.map kt _)=>match bw P t st m,(bw P kt st k).bind eL with
  |some (.row id),some key=>match st.ob id with
   |some (.mp k' e' ks vs)=>bif fc P kt key then
     match Yf key ks vs with
     |some (ks',vs')=>some { st with ob:=put st.ob id (some (.mp k' e' ks' vs')) }
     |none=>none
    else none
   |_=>none
  |_,_=>none
 |_=>none
def nw (P:Program) (st:St):Option Operand→Bool
 |none=>true
 |some x=>match (bw P 0 st x).bind eL with
  |some (.int _ _)=>true
  |_=>false
def Lq (P:Program) (st:St) (et:TypeId) (x:Operand):Option St:=
 match bw P et st x with
 |some (.pv _)=>some st
 |some (.row j)=>st.cQ j
 |_=>none
def qt (P:Program) (st:St) (t:TypeId) (m k x:Operand):Option St:=
 match P.underlying t with
 |some (.map kt et)=>match Lq P st et x with
  |some st'=>match bw P t st' m,(bw P kt st' k).bind eL,(bw P et st' x).bind eL with
   |some (.row id),some key,some v=>match st'.ob id with
    |some (.mp k' e' ks vs)=>bif fc P kt key&&v.BM then
      match q9 key v ks vs with
      |some (ks',vs')=>some { st' with ob:=put st'.ob id (some (.mp k' e' ks' vs')) }
      |none=>none
     else none
    |_=>none
   |_,_,_=>none
  |none=>none
 |_=>none
def El (P:Program) (st:St) (t:TypeId) (m k:Operand):Option (TypeId×Nat×AV×TypeId×TypeId×Nat×List AV×List (Option (List (List AV)))):=
 match P.underlying t with
 |some (.map kt et)=>match bw P t st m,(bw P kt st k).bind eL with
  |some (.row id),some key=>match st.ob id with
   |some (.mr k' e sz ks vs)=>bif fc P kt key&&Nat.blt id 10000 then some (et,id,key,k',e,sz,ks,vs) else none
   |_=>none
  |_,_=>none
 |_=>none
def Em (P:Program) (st:St) (t:TypeId) (m k:Operand) (d:Nat):Option St:=
 match El P st t m k with
 |some (et,id,key,k',e,sz,ks,vs)=>bif Nat.beq id d then none else match gG key ks with
  |some (some i)=>match vs[i]? with
   |some (some xs)=>some ((St.new { st with ob:=put st.ob id (some (.mr k' e sz ks (vs.set i none))) } d (.row e sz xs)).set (some d) (.row d))
   |_=>none
  |some none=>match je P et,isSlice P et with
   |some (.cm _ []),some (e',s)=>if e=e'∧s=sz∧0<s then some ((st.new d (.row e sz [])).set (some d) (.row d)) else none
   |_,_=>none
  |none=>none
 |none=>none
def LH (P:Program) (st:St) (t:TypeId) (m k x:Operand):Option St:=
 match El P st t m k with
 |some (et,id,key,k',e,sz,ks,vs)=>match x with
  | .const (.slice none 0 0)=>match isSlice P et with
   |some (e',s)=>if e=e'∧s=sz∧0<s then
     match q9 key (some []) ks vs with
     |some (ks',vs')=>some { st with ob:=put st.ob id (some (.mr k' e sz ks' vs')) }
     |none=>none
    else none
   |none=>none
  |x=>match bw P et st x with
   |some (.row j)=>match st.ob j with
    |some (.row e' s xs)=>if e=e'∧s=sz∧j<10000 then
      match q9 key (some xs) ks vs with
      |some (ks',vs')=>let s1:=st.bV j;some { s1 with ob:=put s1.ob id (some (.mr k' e sz ks' vs')) }
      |none=>none
     else none
    |_=>none
   |_=>none
 |none=>none
def mS (P:Program) (h:Hint) (bN:dm) (o:Oper) (st:St):Option St:=
 match o.dst,o.op with
 |some d, .assign (.const (.slice none 0 0))=>match isSlice P o.type with
  |some (e,s)=>if 0<s then some ((st.new d (.row e s [])).set (some d) (.row d)) else none
  |none=>none
 |some d, .assign x=>match bw P o.type st x with
  |some (.row id)=>match st.cQ id with
   |some st'=>match bw P o.type st' x with
    |some v=>some (st'.set (some d) v)
    |none=>none
   |none=>none
  |_=>none
 |some d, .box t x=>match bw P t st x,J1 P t with
  |some (.pv (.agg cs)),some true=>some ((st.new d (.box t (cs.map .pv))).set (some d) (.ptr d 0))
  |some (.ag cs),some true=>bif (SV.ag cs).mentions d then none else some ((st.new d (.box t (cs.map Hu))).set (some d) (.ptr d 0))
  |some v,some false=>if kX st v=true then some ((st.new d (.box t [v.bV d])).set (some d) (.ptr d 0)) else none
  |_,_=>none
 |some d, .alloc t=>bif h.rows.contains d then
   match (tL P t).bind fun vs=>mQ P d 0 (mR P 8 t) vs with
   |some (G5,l)=>some (((rf l st).new d (.box t (G5.map (SV.bV d)))).set (some d) (.ptr d 0))
   |none=>none
  else match zeroCells P t with
  |some z=>some ((st.new d (.box t (z.map .pv))).set (some d) (.ptr d 0))
  |none=>none
 |some d, .makeSlice t l c=>match isSlice P t,(bw P 0 st l).bind eL,(bw P 0 st c).bind eL with
  |some (e,s),some (.int _ l),some (.int _ c)=>match zeroCells P e,P.info? e with
   |some z,some i=>if 0<s∧z.length=s∧0≤l∧l≤c∧i.bytes *c.toNat≤281474976710656∧c≤9223372036854775807 then
     some ((st.new d (.row e s (List.replicate l.toNat z))).set (some d) (.row d)) else none
   |_,_=>none
  |_,_,_=>none
 |some d, .buildSlice t len parts=>match mo P t len parts.toList st with
  |some (e,s,xs)=>some ((st.new d (.row e s xs)).set (some d) (.row d))
  |none=>none
 |none, .store t a x=>match bw P 0 st a,bw P t st x with
  |some a,some v=>storeAt P t st a v
  |_,_=>none
 |some d, .makeMap t r=>match P.underlying t with
  |some (.map k e)=>bif nw P st r then
    bif h.rows.contains d then
     match isSlice P e with
     |some (e',s)=>if 0<s then some ((st.new d (.mr k e' s [] [])).set (some d) (.row d)) else none
     |none=>none
    else some ((st.new d (.mp k e [] [])).set (some d) (.row d)) else none
  |_=>none
 |none, .mapUpdate t m k x=>bif jo h m then LH P st t m k x else qt P st t m k x
 |none, .insert t m k x=>bif jo h m then LH P st t m k x else qt P st t m k x
 |some d, .lookup t m k false=>bif jo h m then Em P st t m k d else none
 |some d, .range t x=>match P.underlying t,(bw P t st x).bind eL with
  |some .string,some (.str s)=>some ((st.new d (.it s 0)).set (some d) (.ptr d 0))
  |_,_=>none
 |some d, .next x true=>match bw P 0 st x with
  |some (.ptr id 0)=>match st.ob id with
   |some (.it s pos)=>if pos<s.length then
     some (St.set { st with ob:=put st.ob id (some (.it s (pos+(Utf8.decode ⟨s.toArray⟩ pos).2))) } (some d) (.pv (.fG [.bool true, .int .i64 pos, .int .i32 (Utf8.decode ⟨s.toArray⟩ pos).1])))
    else some (st.set (some d) (.pv (.fG [.bool false])))
   |_=>none
  |_=>none
 |some d, .build t parts=>bif h.rows.contains d then xY P st d t parts.toList else none
 |some d, .makeFunc (.func g) first caps=>bif first.isEmpty then
   match oW st caps.toList with
   |some st'=>(mE st' caps.toList).map fun vs=>st'.set (some d) (.pv (.fn g vs))
   |none=>none
  else none
 |d, .call c=>match c.callee with
  | .builtin .append=>match d,c.args.toList,c.argTypes.toList with
   |some d,[x,y],[t,t']=>match isSlice P t,bw P t st x,bw P t' st y with
    |some (e,s),some (.row id),some y=>match st.ob id,elems st y,P.info? e with
     |some (.row e' sz xs),some (sz',ys),some i=>
      if t=t'∧e=e'∧s=sz∧sz=sz'∧0<sz∧(xs.length+ys.length) *i.bytes≤140737488355328∧xs.length+ys.length≤4611686018427387904∧i.zero.map (fun z=>z.cells.size)=some sz∧lQ id=true then
       some ((st.new id (.row e sz (xs++ys))).set (some d) (.row id)) else none
     |_,_,_=>none
    |_,_,_=>none
   |_,_,_=>none
  | .builtin .delete=>match d,c.args.toList,c.argTypes.toList with
   |none,[m,k],t::_=>qs P st t m k
   |_,_,_=>none
  | .builtin .clear=>match d,c.args.toList,c.argTypes.toList with
   |none,[x],[t]=>match isSlice P t,bw P t st x with
    |some (e,s),some (.sub id sz lo hi)=>match st.ob id,zeroCells P e with
     |some (.row e' sz' xs),some z=>if s=sz∧sz=sz'∧z.length=sz∧hi≤xs.length∧e=e'∧0<sz then
       some { st with ob:=put st.ob id (some (.row e' sz' (xs.take lo++List.replicate (hi-lo) z++xs.drop hi))) } else none
     |_,_=>none
    |_,_=>none
   |_,_,_=>none
  | .value f=>bif d.any h.stay.contains&&wide st c f then none else bif wide st c f then gp P h bN st c f d else bif c.args.toList.any (fun x=>(ji h st x).isSome) then jG P h bN st c f d else
   match dV st c.args.toList with
   |some st'=>match bw P 0 st' f,ff P st' c.args.toList c.argTypes.toList with
    |some (.pv (.fn g caps)),some vs=>match bN g ((vs++caps).map .pv) [] with
     |some (r,[])=>bif c.args.toList.any (j7 st')|| !r.ig then none else some (st'.set d (.pv r))
     |_=>none
    |_,_=>none
   |none=>none
  |_=>none
 |_,_=>none
where
 dV (st:St):List Operand→Option St
  |[]=>some st
  | .tmp i::l=>match st.env i with
   |some (.row id)=>(st.cQ id).bind fun st'=>dV st' l
   |_=>dV st l
  |_::l=>dV st l
def step (P:Program) (h:Hint) (bN:dm) (o:Oper) (st:St):Option St:=
 match cM P h bN o st with
 |some v=>some (st.set o.dst v)
 |none=>mS P h bN o st
def fC (ops:Array Oper) (o:Oper) (st:St):Option Bool:=
 match o.guard with
 |none=>some true
 |some (j,want)=>match (ops[j]?).bind (·.dst) with
  |some d=>match st.env d with
   |some (.pv (.bool b))=>some (b==want)
   |some .undef=>some false
   |_=>none
  |none=>none
def jq (P:Program) (h:Hint) (bN:dm) (ops:Array Oper):List Oper→St→Option St
 |[],st=>some st
 |o::l,st=>match fC ops o st with
  |some b=>bif b then (step P h bN o st).bind (jq P h bN ops l) else jq P h bN ops l (st.set o.dst .undef)
  |none=>none
inductive Ex where
 |normal
 |exit (id:Nat)
 |ret
 deriving DecidableEq
def W8:Nat→Ex
 |0=> .normal
 |_=> .ret
def iter (h:Hint) (key:Nat) (f:St→Option (Ex×St)):Nat→St→Option (Ex×St)
 |0,_=>none
 |n+1,st=>match f (h.canon key st) with
  |some (.normal,st')=>iter h key f n st'
  |r=>r
def slotsOf (o:Oper):List Nat:=o.op.operands.toList.filterMap fun
 | .tmp t=>some t
 |_=>none
def iA (ops:Array Oper) (o:Oper):List Nat:=slotsOf o++match o.guard with
 |some (j,_)=>((ops[j]?).bind (·.dst)).toList
 |none=>[]
def Qv (o:Oper) (j:Nat):Bool:=o.after.toList.any fun e=>Region.binds .any e&&Nat.beq e.on j
def lC:Nat→List Oper→Bool
 |_,[]=>true
 |i,o::l=>o.after.toList.all (fun e=> !(Region.binds .any e)||Nat.blt e.on i)&&lC (i+1) l
def reach (ops:Array Oper):Nat→Nat→Nat→Bool
 |0,_,_=>false
 |n+1,i,j=>match ops[i]? with
  |some o=>Qv o j||o.after.toList.any fun e=>Region.binds .any e&&reach ops n e.on j
  |none=>false
structure dY where
 rs:List Nat:=[]
 ws:List Nat:=[]
 ro:List Nat:=[]
 wo:List Nat:=[]
 all:Bool:=false
 we:Nat→Bool:=fun _=>false
 oe:Nat→Bool:=fun _=>false
 mv:Option Nat:=none
 Nu:List Nat:=[]
def meets (a b:List Nat):Bool:=a.any fun x=>b.any (Nat.beq x)
def dY.sS (a b:dY):Bool:=match a.mv with
 |none=>false
 |some id=>b.mv.isSome|| !(b.wo.isEmpty)||b.Nu.any (Nat.beq id)
def dY.JM (a b:dY):Bool:=b.rs.any a.we||b.ws.any a.we||b.ro.any a.oe||b.wo.any a.oe
def dY.conflict (a b:dY):Bool:=a.all||b.all||meets a.ws b.rs||meets a.rs b.ws||meets a.ws b.ws||meets a.wo b.ro||meets a.ro b.wo||meets a.wo b.wo||a.JM b||b.JM a||a.sS b||b.sS a
def Bp (st:St):List Operand→List Nat
 |[]=>[]
 | .tmp t::l=>(match st.env t with
  |some s=>s.ids
  |none=>[])++Bp st l
 |_::l=>Bp st l
def Ew (st:St) (o:Oper):List Nat:=Bp st o.op.operands.toList
def targetId:SV→Option Nat
 | .ptr id _=>some id
 | .rp id _ _ _=>some id
 |_=>none
def dS:Nat→List Oper→List (Nat×Nat)
 |_,[]=>[]
 |i,o::l=>match o.op,o.dst with
  | .alloc _,some d=>(d,i)::dS (i+1) l
  |_,_=>dS (i+1) l
def iY (ops:Array Oper) (fresh:List (Nat×Nat)) (i:Nat) (v:SV):Bool:=fresh.all fun p=> !(v.mentions p.1)||reach ops 12 i p.2
def e9 (ops:Array Oper) (prev:List (Nat×dY)) (i:Nat) (f:dY):Bool:=prev.all fun p=> !(p.2.conflict f)||reach ops 12 i p.1
def IQ:Op→Bool
 | .move _| .assign _| .pick _ _ _=>true
 |_=>false
def Gh (o:Oper) (st:St):List Nat:=
 match o.dst with
 |some d=>match st.env d with
  |some v=>v.ids
  |none=>[]
 |none=>[]
def Gs (P:Program) (h:Hint) (o:Oper) (st:St):List Nat:=
 match o.op with
 | .call c=>match c.callee with
  | .value f=>match rH P h st c f with
   |some (_,args)=>bif o.dst.any h.stay.contains then fS st args else []
   |none=>[]
  |_=>[]
 |_=>[]
def sI (P:Program) (h:Hint) (ops:Array Oper) (o:Oper) (st:St) (v:SV):dY:={ Nu:=v.ids++Gh o st,rs:=iA ops o,ws:=o.dst.toList,ro:=bif IQ o.op then [] else Ew st o++Gs P h o st }
def nO (ops:Array Oper) (o:Oper) (st:St):dY:={ rs:=iA ops o,ws:=o.dst.toList,Nu:=Gh o st }
def fL (ops:Array Oper) (o:Oper) (st:St) (id:Nat):dY:={ rs:=iA ops o,ro:=id::Ew st o,wo:=[id] }
def gu (ops:Array Oper) (o:Oper) (d:Nat):dY:={ rs:=iA ops o,ws:=[d],wo:=[d] }
def eH:dY:={ all:=true }
def Ob.mentions (id:Nat):Ob→Bool
 | .box _ cells=>cells.any (SV.mentions id)
 |_=>false
def iV (ops:Array Oper) (o:Oper) (st:St) (d id:Nat):dY:=
 {rs:=iA ops o,ws:=[d],ro:=id::Ew st o,mv:=some id,
  we:=fun t=>match st.env t with
   |some v=>v.mentions id
   |none=>false,
  oe:=fun j=>Nat.beq j id||match st.ob j with
   |some ob=>ob.mentions id
   |none=>false }
def DR (P:Program) (st:St) (fresh:List (Nat×Nat)) (ops:Array Oper) (c:Call) (d:Option Nat):Option Nat:=
 match c.callee,c.args.toList,c.argTypes.toList,d with
 | .builtin .append,[x,_],[t,_],some _=>bif fresh.isEmpty&&distinct (ops.toList.filterMap (·.dst)) then
   match bw P t st x with
   |some (.row id)=>some id
   |_=>none
  else none
 |_,_,_,_=>none
def mq:List (Nat×Nat)→Bool
 |[]=>true
 |p::l=> !(l.any fun q=>Nat.beq q.1 p.1)&&mq l
def gW:List (Nat×Nat)→St→St
 |[],st=>st
 |p::l,st=>gW l (st.bV p.1)
def isF (h:Hint) (st:St) (o:Oper):Bool:=
 match o.op with
 | .buildSlice _ _ _=> !(o.dst.any h.rows.contains)
 | .call c=>match c.callee with
  | .builtin .append=>false
  | .builtin .delete=>false
  | .builtin .clear=>false
  | .value f=>(o.dst.any h.stay.contains&&wide st c f)|| !(wide st c f||c.args.toList.any (fun x=>(ji h st x).isSome))
  |_=>true
 | .assign x=>match o.dst,x with
  |some d, .const (.slice none 0 0)=> !(h.rows.contains d)
  |some d,_=> !(h.bQ.contains d)
  |none,_=>true
 | .lookup _ x _ ok=> !(jo h x&& !ok)
 | .makeFunc _ _ _| .move _| .pick _ _ _| .binOp _ _ _ _ _| .unOp _ _ _| .convert _ _ _| .fieldAddr _ _ _| .field _ _ _| .indexAddr _ _ _| .index _ _ _| .load _ _| .slice _ _ _ _ _| .extract _ _| .nilCheck _=>true
 | .build _ _=> !(o.dst.any h.rows.contains)
 |_=>false
def cn (P:Program) (h:Hint) (bN:dm) (ops:Array Oper) (fresh:List (Nat×Nat)):Nat→List Oper→List (Nat×dY)→St→Option St
 |_,[],_,st=>some st
 |i,o::l,prev,st=>match fC ops o st with
  |none=>none
  |some b=>bif b then
    bif isF h st o then
     match cM P h bN o st with
     |some v=>bif iY ops fresh i v&&e9 ops prev i (sI P h ops o st v) then cn P h bN ops fresh (i+1) l ((i,sI P h ops o st v)::prev) (st.set o.dst v) else none
     |none=>none
    else match o.op,o.dst with
     | .store t x y,none=>match bw P 0 st x,bw P t st y with
      |some sa,some sv=>match targetId sa,storeAt P t st sa sv with
       |some id,some st'=>bif iY ops fresh i sv&&e9 ops prev i (fL ops o st id) then cn P h bN ops fresh (i+1) l ((i,fL ops o st id)::prev) st' else none
       |_,_=>none
      |_,_=>none
     | .alloc t,some d=>bif h.rows.contains d then none else match zeroCells P t with
      |some z=>bif e9 ops prev i (gu ops o d) then
        cn P h bN ops fresh (i+1) l ((i,gu ops o d)::prev) { env:=put st.env d (some (.ptr d 0)),ob:=put st.ob d (some (.box t (z.map .pv))) } else none
      |none=>none
     | .call c,d=>match DR P st fresh ops c d with
      |some id=>bif e9 ops prev i (iV ops o st (d.getD 0) id) then
        match step P h bN o st with
        |some st'=>cn P h bN ops fresh (i+1) l ((i,iV ops o st (d.getD 0) id)::prev) st'
        |none=>none
       else none
      |none=>bif fresh.all (fun p=>Nat.blt p.2 i)&&e9 ops prev i eH then
        match step P h bN o st with
        |some st'=>cn P h bN ops fresh (i+1) l ((i,eH)::prev) st'
        |none=>none
       else none
     | .assign _,_| .makeSlice _ _ _,_| .buildSlice _ _ _,_| .box _ _,_| .makeMap _ _,_| .mapUpdate _ _ _ _,_| .insert _ _ _ _,_| .lookup _ _ _ _,_| .range _ _,_| .next _ _,_=>bif fresh.all (fun p=>Nat.blt p.2 i)&&e9 ops prev i eH then
       match step P h bN o st with
       |some st'=>cn P h bN ops fresh (i+1) l ((i,eH)::prev) st'
       |none=>none
      else none
     |_,_=>none
   else bif e9 ops prev i (nO ops o st) then cn P h bN ops fresh (i+1) l ((i,nO ops o st)::prev) (st.set o.dst .undef) else none
def St.Gk (st:St) (id:Nat):Option St:=
 match st.ob id with
 |some (.box _ _)=>st.ij id
 |none=>some st
 |_=>st.cQ id
def s5:List Nat→St→Option St
 |[],st=>some st
 |id::l,st=>(st.Gk id).bind (s5 l)
def Hint.Tv (h:Hint) (id:Nat) (st:St):Option St:=
 match find h.oV id with
 |some l=>s5 l st
 |none=>some st
def exec (P:Program) (h:Hint) (bN:dm) (n:Nat):Code→St→Option (Ex×St)
 | .skip,st=>some (.normal,st)
 | .label _,st=>some (.normal,st)
 | .region id ops draw,st=>(h.Tv id st).bind fun st=>
  bif draw then
   bif lC 0 ops.toList&&mq (dS 0 ops.toList) then (cn P h bN ops (dS 0 ops.toList) 0 ops.toList [] (gW (dS 0 ops.toList) st)).map fun s=>(.normal,s) else none
  else (jq P h bN ops ops.toList st).map fun s=>(.normal,s)
 | .seq a b,st=>match find h.blk (cu a) with
  |some x=>bif x.1 st then some (W8 (x.2 st).1,(x.2 st).2) else none
  |none=>match exec P h bN n a st with
   |some (.normal,st')=>exec P h bN n b st'
   |r=>r
 | .cond c a b,st=>match bw P 0 st c with
  |some (.pv (.bool t))=>bif t then exec P h bN n a st else exec P h bN n b st
  |_=>none
 | .block id c,st=>match exec P h bN n c st with
  |some (.exit j,st')=>bif Nat.beq j id then some (.normal,st') else some (.exit j,st')
  |r=>r
 | .loop c,st=>iter h (cu c) (exec P h bN n c) n st
 | .exit id,st=>some (.exit id,st)
 | .ret,st=>some (.ret,st)
 | .scope c,st=>exec P h bN n c st
 |_,_=>none
def qN:Nat→List SV→List (Nat×SV)
 |_,[]=>[]
 |i,v::l=>(i,v)::qN (i+1) l
def qF:List SV→St→Option St
 |[],st=>some st
 | .row id::l,st=>(st.cQ id).bind (qF l)
 |_::l,st=>qF l st
def St.Gl (st:St) (id:Nat):Option St:=
 match st.ob id with
 |some (.box _ cells)=>(qF cells st).bind fun st'=>st'.ij id
 |_=>none
def Gm (st:St) (t:Nat):Option (St×AV):=
 match st.env t with
 |some (.pv v)=>some (st,v)
 |some (.ptr id 0)=>match st.Gl id with
  |some st'=>match st'.env t with
   |some (.cp cs)=>some (st', .ref cs)
   |_=>none
  |none=>none
 |some (.row id)=>match st.cQ id with
  |some st'=>match st'.env t with
   |some (.pv v)=>some (st',v)
   |_=>none
  |none=>none
 |_=>none
def lT (P:Program):List ResultVar→St→Option (St×List AV)
 |[],st=>some (st,[])
 | .tmp t::l,st=>match Gm st t with
  |some (st',v)=>match lT P l st' with
   |some (st2,vs)=>some (st2,v::vs)
   |none=>none
  |none=>none
 | .cell ad t::l,st=>match cR P ⟨none, .load t (.tmp ad),t, "", #[],none⟩ st with
  |some (.pv v)=>match lT P l st with
   |some (st2,vs)=>some (st2,v::vs)
   |none=>none
  |some (.row id)=>match st.cQ id with
   |some st'=>match cR P ⟨none, .load t (.tmp ad),t, "", #[],none⟩ st' with
    |some (.pv v)=>match lT P l st' with
     |some (st2,vs)=>some (st2,v::vs)
     |none=>none
    |_=>none
   |none=>none
  |_=>none
def result:List AV→AV
 |[v]=>v
 |vs=> .fG vs
def oF (names:List Nat) (st:St):List Nat→Option (List (Nat×Ob))
 |[]=>some []
 |id::l=>match st.ob id,oF names st l with
  |some o,some os=>bif o.closed names then some ((id,o)::os) else none
  |_,_=>none
def ia (N:Nat):Code→Bool
 | .region _ ops _=>ops.toList.all fun o=>match o.dst with
  |some d=>Nat.blt d N
  |none=>true
 | .seq a b=>ia N a&&ia N b
 | .cond _ a b=>ia N a&&ia N b
 | .block _ c=>ia N c
 | .loop c=>ia N c
 | .scope c=>ia N c
 |_=>true
def Ku (fn:Func):Bool:=Nat.ble fn.ntmps 10000&& !(fn.name== "runtime.NumGoroutine")&&match fn.body with
 |some c=>ia fn.ntmps c
 |none=>true
def yE (P:Program):Bool:=P.follows .mixedOrders&&P.funcs.toList.all Ku
def Gv (fn:Func) (names:List Nat) (st:St):Option Nat:=
 match fn.results.toList,names with
 |[.tmp t],[10000]=>match st.env t,st.ob 10000 with
  |some (.row 10000),some (.row _ _ xs)=>some xs.length
  |some (.sub 10000 _ 0 n),some (.row _ _ _)=>some n
  |_,_=>none
 |_,_=>none
def QA (P:Program) (fn:Func) (names:List Nat) (e:Ex) (st:St):Option (AV×List (Nat×Ob)):=
 match e with
 | .exit _=>none
 |_=>match Gv fn names st with
  |some n=>match oF names st names with
   |some l=>some (.self n,l)
   |none=>none
  |none=>match lT P fn.results.toList st with
   |some (st',vs)=>match oF names st' names with
    |some l=>some (result vs,l)
    |none=>none
   |none=>none
def Qz (P:Program) (fn:Func) (bU:List (Nat×Ob)) (e:Ex) (st:St):Option (AV×List (Nat×Ob)):=QA P fn (bU.map (·.1)) e st
def kV (P:Program) (H:Nat→Hint) (dg:dm):Nat→dm
 |0=>fun _ _ _=>none
 |n+1=>fun f args bU=>
  match dg f args bU with
  |some r=>some r
  |none=>match P.funcs[f]? with
   |some fn=>match fn.body with
    |some c=>
     bif Nat.ble args.length fn.ntmps&&(bU.map (·.1)).all (fun i=> !(s4 i)) then
      match exec P (H f) (kV P H dg n) n c { env:=find (qN 0 args),ob:=find bU } with
      |some (e,st)=>Qz P fn bU e st
      |none=>none
     else none
    |none=>none
   |none=>none
end Go.AM
