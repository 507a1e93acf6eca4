/- AN ABSTRACT MACHINE over the model's code. -/
import Derived.Calls
import Derived.CallsIn
import Derived.OrdersIn
import Derived.LoopNIn
import Derived.TacticsIn
import Derived.RangeFuncIn
import Derived.Orders
import Derived.LoopN
import Derived.Scope
import Derived.Below
import Derived.Laws.OwnMore
import Derived.Maps.AppendAt
import Derived.Laws.BytesString
set_option linter.all false
def af {p:Prop} (h:p:=by omega):p:=h
def ah {p:Prop} (h:p:=by simp):p:=h
def aX {p:Prop} (h:p:=by simp;omega):p:=h
abbrev bZ:=@Option.bind_eq_some_iff
abbrev js:=@if_true
abbrev aB:=@Option.some.injEq
abbrev aC:=@congrArg
abbrev cU:=@List.cons.injEq
abbrev dL:=@and_true
abbrev cO:=@Array.getElem?_eq_some_iff
abbrev tH:=@List.mem_of_mem_drop
abbrev wS:=@List.mem_of_mem_take
abbrev bn:=@List.mem_append
abbrev hU:=@Nat.add_mul
abbrev aJ:=@Nat.le_refl
abbrev cB:=@Nat.zero_le
abbrev aU:=@Go.run_underlying
abbrev ek:=@Go.Sem.run_bind
abbrev e9:=@Go.Result.andThen_ok
abbrev gB:=@List.length_take
abbrev uI:=@Go.run_loadCells_list
abbrev bg:=@Option.map_eq_some_iff
abbrev kK:=@Option.isSome_iff_exists
abbrev ak:=@if_pos
abbrev zJ:=@List.drop_length_add_append
abbrev jc:=@List.eq_nil_of_length_eq_zero
abbrev aS:=@List.mem_of_getElem?
abbrev mI:=@List.getElem?_take
abbrev ia:=@List.foldl_cons
abbrev aK:=@List.map_cons
abbrev jP:=@Nat.add_assoc
abbrev bp:=@List.getElem?_eq_some_iff
abbrev qV:=@List.getElem?_drop
abbrev jd:=@Nat.mul_le_mul_right
abbrev aW:=@List.getElem?_eq_getElem
abbrev fW:=@Nat.zero_add
abbrev uJ:=@Go.Value.pointer.injEq
abbrev uK:=@Go.Addr.mk.injEq
abbrev zK:=@List.drop_take
abbrev az:=@if_neg
abbrev aD:=@List.mem_cons
abbrev aT:=@List.length_cons
abbrev eo:=@List.append_assoc
abbrev eM:=@List.cons_append
abbrev er:=@List.nil_append
abbrev oK:=@Nat.add_zero
abbrev zL:=@Array.length_toList
abbrev Gx:=@Array.toList_zipIdx
abbrev ic:=@List.all_cons
abbrev aF:=@Bool.and_eq_true
abbrev uL:=@List.mapM_cons
abbrev dw:=@List.map_map
abbrev jQ:=@Function.comp_def
abbrev cH:=@List.all_eq_true
abbrev zM:=@List.getElem?_toArray
abbrev ai:=@cond_true
abbrev cV:=@Nat.le_trans
abbrev uM:=@Nat.le_succ
abbrev aQ:=@Prod.mk.injEq
abbrev eN:=@Nat.eq_of_beq_eq_true
abbrev eu:=@Nat.beq_refl
abbrev jR:=@Bool.or_eq_false_iff
abbrev qW:=@Array.getElem?_setIfInBounds_ne
abbrev uN:=@List.mem_iff_getElem
abbrev zN:=@List.getElem?_eq_none_iff
abbrev qX:=@Array.getElem?_eq_getElem
abbrev dH:=@Nat.lt_of_lt_of_le
abbrev fc:=@List.getElem?_append_right
abbrev zO:=@List.replicate_succ
abbrev uO:=@Nat.succ_mul
abbrev qY:=@Nat.add_comm
abbrev je:=@List.ext_getElem?
abbrev oL:=@Nat.mod_eq_of_lt
abbrev jS:=@List.take_of_length_le
abbrev uP:=@Nat.zero_mul
abbrev c7:=@List.getElem?_append_left
abbrev fZ:=@Go.RowKit.Below.refl
abbrev oM:=@Go.heap_alloc_new
abbrev zP:=@Nat.mul_le_mul_left
abbrev aA:=@List.mem_map
abbrev dz:=@List.getElem?_map
abbrev qZ:=@Go.run_storeCells_at
abbrev jf:=@Go.Sem.run_pure
abbrev cW:=@List.map_nil
abbrev q7:=@Go.setRow_other
abbrev uQ:=@Go.setRow_heap
abbrev zQ:=@Nat.min_eq_left
abbrev cC:=@List.length_append
abbrev uR:=@not_true_eq_false
abbrev jg:=@if_false
abbrev aR:=@List.length_map
abbrev zR:=@List.set_eq_take_append_cons_drop
abbrev ew:=@Bool.or_eq_true
abbrev bI:=@Ne.symm
abbrev jT:=@List.size_toArray
abbrev ji:=@List.getElem?_set_self
abbrev bw:=@List.map_append
abbrev jU:=@List.nodup_append
abbrev ga:=@Bool.not_eq_true'
abbrev bA:=@Nat.blt_eq
abbrev oN:=@List.getElem?_set
abbrev fo:=@List.getElem?_set_ne
abbrev kL:=@List.mem_or_eq_of_mem_set
abbrev xI:=@List.set_append_left
abbrev mU:=@List.set_append_right
abbrev sO:=@Nat.lt_of_le_of_lt
abbrev aj:=@cond_false
abbrev pV:=@List.any_eq_false
abbrev dR:=@List.mem_filterMap
abbrev xJ:=@List.filterMap_cons
abbrev cD:=@List.mem_singleton
abbrev dU:=@Option.bind_some
abbrev kV:=@Go.callsIn_wide
abbrev cI:=@Nat.le_of_ble_eq_true
abbrev gl:=@List.nodup_cons
abbrev cK:=@List.mem_cons_of_mem
abbrev jY:=@List.mem_filter
abbrev cv:=@Bool.false_eq_true
abbrev jZ:=@false_imp_iff
abbrev mV:=@beq_iff_eq
abbrev fQ:=@List.map_congr_left
abbrev j0:=@List.map_id
abbrev mW:=@Bool.and_self
abbrev bW:=@Option.map_some
abbrev kW:=@Bool.not_true
abbrev sP:=@Option.getD_some
abbrev xK:=@List.filter_eq_nil_iff
abbrev sQ:=@Bool.and_eq_true_iff
abbrev eO:=@Option.some.inj
abbrev sR:=@Nat.add_sub_cancel
abbrev gm:=@Array.toList_append
abbrev bM:=@decide_eq_false_iff_not
abbrev eS:=@List.mem_append_left
abbrev dG:=@List.not_mem_nil
abbrev dV:=@or_false
abbrev sS:=@Bool.false_and
abbrev sU:=@Option.any_some
abbrev mX:=@Bool.false_or
abbrev sV:=@Bool.or_false
abbrev pX:=@List.isEmpty_iff
abbrev fC:=@List.mem_range
abbrev xL:=@Array.all_eq_true'
abbrev mY:=@Classical.byContradiction
abbrev c9:=@List.pairwise_cons
abbrev xM:=@List.append_of_mem
abbrev mZ:=@List.pairwise_append
abbrev pY:=@Go.wpIn_wide
abbrev iW:=@Go.wpIn_mono
abbrev pZ:=@Array.getElem?_append_left
abbrev iX:=@dif_pos
abbrev ng:=@Nat.le_max_left
abbrev nh:=@Nat.le_max_right
abbrev sW:=@List.mem_cons_self
abbrev gp:=@Nat.ble_eq_true_of_le
abbrev sX:=@Bool.true_and
abbrev fD:=@true_and
abbrev bQ:=@List.getD_eq_getElem?_getD
abbrev ni:=@decide_eq_true_eq
abbrev xN:=@UInt8.lt_iff_toNat_lt
abbrev cL:=@List.length_nil
abbrev nj:=@List.drop_drop
abbrev bf:=@Int.toNat_natCast
abbrev xO:=@List.findIdx?_cons
abbrev gq:=@List.map_set
abbrev p5:=@List.map_replicate
abbrev bG:=@decide_eq_true_iff
abbrev j4:=@of_decide_eq_true
abbrev kX:=@List.take_append_drop
abbrev sY:=@Nat.testBit_and
abbrev sZ:=@Nat.testBit_two_pow_mul_add
abbrev s5:=@Nat.pow_succ
abbrev xP:=@BitVec.ofInt_natCast
abbrev p6:=@BitVec.toNat_ofNat
abbrev xQ:=@Int.natCast_nonneg
abbrev p7:=@List.idxOf_cons
abbrev kY:=@beq_eq_false_iff_ne
abbrev p8:=@bne_iff_ne
abbrev j5:=@List.prefix_refl
abbrev s6:=@List.IsPrefix.trans
abbrev s7:=@List.prefix_append
abbrev iY:=@List.length_singleton
abbrev fR:=@List.pairwise_map
abbrev fE:=@List.getElem?_eq_none
abbrev p9:=@List.getElem?_cons_succ
abbrev xR:=@List.length_pos_of_mem
abbrev s8:=@List.getElem?_range
abbrev s9:=@List.mem_of_find?_eq_some
abbrev td:=@List.find?_some
abbrev xS:=@List.find?_eq_none
abbrev xT:=@List.length_filterMap_le
abbrev gr:=@List.length_set
abbrev tf:=@Int.lt_trichotomy
abbrev fF:=@List.take_length
abbrev qa:=@List.length_eq_zero_iff
abbrev eT:=@List.append_nil
abbrev qb:=@List.mem_append_right
abbrev iZ:=@Int.eq_ofNat_of_zero_le
abbrev qc:=@List.idxOf_append
abbrev tj:=@Nat.sub_self
abbrev tn:=@List.set_cons_zero
abbrev tq:=@List.drop_append_of_le_length
abbrev cS:=@List.take_add_one
abbrev tu:=@List.drop_eq_nil_of_le
abbrev xU:=@List.replicate_zero
abbrev kZ:=@List.length_replicate
abbrev nk:=@List.replicate_succ'
abbrev ja:=@List.getElem?_replicate
abbrev fG:=@List.mem_iff_getElem?
abbrev xV:=@List.pairwise_singleton
abbrev tv:=@List.pairwise_iff_getElem
abbrev bH:=@List.getElem_mem
abbrev nq:=@List.range_succ
abbrev gu:=@Int.le_refl
abbrev xW:=@Nat.add_sub_cancel_left
abbrev nt:=@List.flatMap_cons
abbrev xX:=@List.take_append_of_le_length
abbrev tA:=@Go.mapM_some_length
abbrev tB:=@Array.getElem?_modify
abbrev tC:=@Nat.mul_one
abbrev tD:=@decide_eq_false
abbrev tE:=@of_decide_eq_false
abbrev nu:=@List.flatten_cons
abbrev k9:=@List.getElem!_eq_getElem?_getD
abbrev xY:=@List.getElem!_toArray
abbrev tF:=@Go.Oper.semAt_some
abbrev qd:=@Go.callsIn_of_wp
abbrev lg:=@Array.replicate_succ
abbrev lq:=@Array.replicate_zero
abbrev lu:=@List.push_toArray
abbrev lz:=@List.append_toArray
abbrev xZ:=@List.length_filter_le
abbrev gv:=@Go.RowKit.Below.heap_alloc
abbrev qe:=@Array.getElem?_setIfInBounds
abbrev lC:=@Go.wp_seq
abbrev tG:=@Go.wp_region_list
abbrev gR:=@Go.wpList_plain
abbrev qf:=@Go.wpList_nil
open BitVec (ofInt)
namespace Go.AM
inductive AV where
 |bool (b:Bool)
 |int (k:IntKind) (n:Int)
 |str (s:List UInt8)
 |c4 (sz:Nat) (xs:List (List AV))
 |agg (cs:List AV)
 |fn (f:Nat) (caps:List AV)
 |jy (vs:List AV)
 |ref (cs:List AV)
 |mp (ks vs:List AV)
 |self (n:Nat)
 |yB
 |nw
 |hole
 deriving Inhabited
inductive l8 where
 |v (a:AV)
 |p (id:Nat)
 |r (id:Nat)
 deriving Inhabited
inductive Ak where
 |full
 |nr (i:Nat)
 deriving Inhabited
inductive SV where
 |undef
 |any
 |pv (v:AV)
 |ptr (id off:Nat)
 |row (id:Nat)
 |rp (id sz i off:Nat)
 |sub (id sz lo hi:Nat)
 |cp (cs:List AV)
 |cl (f:Nat) (caps:List l8)
 |two (v:SV) (b:Bool)
 |ag (cs:List l8)
 |aq (id:Nat) (q:Ak)
 deriving Inhabited
inductive Ob where
 |box (t:TypeId) (cells:List SV)
 |row (e:TypeId) (sz:Nat) (xs:List (List AV))
 |mp (k e:TypeId) (ks vs:List AV)
 |mr (k e:TypeId) (sz:Nat) (ks:List AV) (vs:List (Option (List (List AV))))
 |it (s:List UInt8) (pos:Nat)
  |lp (xs:List AV)
  |rn (e:TypeId) (sz k:Nat) (e':TypeId) (sz':Nat) (xs:List (List AV)) (ys:List (Option (List (List AV))))
 deriving Inhabited
structure St where
 env:Nat->Option SV
 ob:Nat->Option Ob
def AV.cells:AV->List AV
 | .agg l=>l
 |v=>[v]
def AV.Af:AV->Bool
 | .jy _=>false
 |_=>true
def AV.O3:AV->Bool
 | .jy _=>true
 |_=>false
def AV.iD:AV->Bool
 | .self _=>false
 | .jy l=>bif Nat.beq l.length 1 then !(l.any AV.O3) else true
 |_=>true
def AV.scalar:AV->Bool
 | .bool _| .int _ _| .str _=>true
 |_=>false
def AV.plain:AV->Bool
 | .jy l=>l.all AV.scalar
 |v=>v.scalar
def find {q:Type}:List (Nat×q)->Nat->Option q
 |[],_=>none
 |(j,v)::l,i=>cond (Nat.beq j i) (some v) (find l i)
def put {l:Type} (m:Nat->Option l) (d:Nat) (v:Option l):Nat->Option l:=λi=>cond (Nat.beq d i) v (m i)
def St.set (l:St) (d:Option Nat) (v:SV):St:=
 match d with
 |some d=>{ l with env:=put l.env d (some v) }
 |none=>l
structure Hint where
 loops:List (Nat×List Nat×List Nat):=[]
 rows:List Nat:=[]
 jK:List Nat:=[]
 gP:List Nat:=[]
 kI:List (Nat×List Nat):=[]
 stay:List Nat:=[]
 keep:List Nat:=[]
 blk:List (Nat×(St->Bool)×(St->Nat×St)):=[]
 use:List Nat:=[]
 owns:List Nat:=[]
 own:Bool:=false
 nw:List (Nat×List (Nat×TypeId×Nat)):=[]
 take:List Nat:=[]
 UF:List (Nat×List Nat):=[]
 nest:List (Nat×Nat×TypeId×Nat):=[]
 Vn:List Nat:=[]
 bx:List Nat:=[]
def oF {q:Type} (m:Nat->Option q):List Nat->List (Nat×q)
 |[]=>[]
 |i::l=>match m i with
  |some v=>(i,v)::oF m l
  |none=>oF m l
def Hint.canon (h:Hint) (key:Nat) (w:St):St:=
 match find h.loops key with
 |some (l,q)=>{ env:=find (oF w.env l),ob:=find (oF w.ob q) }
 |none=>w
def b9:Code->Nat
 | .region id _ _=>id
 | .seq a _=>b9 a
 | .cond _ a _=>b9 a
 | .block _ c=>b9 c
 | .loop c=>b9 c
 | .scope c=>b9 c
 |_=>0
def isSlice (P:Program) (t:TypeId):Option (TypeId×Nat):=
 match P.underlying t with
 |some (.slice e)=>(P.info? e).map λi=>(e,i.size)
 |_=>none
def xG (P:Program) (t:TypeId):Option Bool:=
 match P.underlying t with
 |some (.struct _)|some (.array _ _)=>some true
 |some _=>some false
 |none=>none
def iO (P:Program) (t:TypeId):Option Nat:=(P.info? t).map (·.size)
def ofConst (P:Program) (t:TypeId):Value->Option AV
 | .bool b=>some (.bool b)
 | .int k n=>some (.int k n)
 | .string s=>some (.str s.data.toList)
 | .slice none 0 0=>(isSlice P t).map λx=> .c4 x.2 []
 | .pointer none=>some .yB
 | .nilFunc=>some .hole
 | .map none=>match P.underlying t with
  |some (.map _ _)=>some (.mp [] [])
  |_=>none
 |_=>none
def aN (P:Program) (t:TypeId) (st:St):Operand->Option SV
 | .tmp i=>st.env i
 | .const v=>(ofConst P t v).map .pv
 | .func f=>some (.pv (.fn f []))
 | .global _=>none
def rf (P:Program):Nat->TypeId->List TypeId
 |0,_=>[]
 |n+1,t=>match P.underlying t with
  |some (.struct l)=>l.toList.flatMap λf=>rf P n f.type
  |some (.array m e)=>(List.replicate m (rf P n e)).flatten
  |_=>[t]
def kj (P:Program):List TypeId->List Value->Option (List AV)
 |[],[]=>some []
 |t::l,v::q=>match ofConst P t v,kj P l q with
  |some a,some as=>some (a::as)
  |_,_=>none
 |_,_=>none
def zeroCells (P:Program) (t:TypeId):Option (List AV):=
 match P.info? t with
 |some i=>match i.zero with
  |some z=>kj P (rf P 8 t) z.cells.toList
  |none=>none
 |none=>none
def yR:List Nat->List AV->Option (List AV)
 |[],l=>some l
 |k::q,l=>match l[k]? with
  |some (.c4 _ [])=>(yR q l).map λz=>z.set k .nw
  |_=>none
def D8 (P:Program) (h:Hint) (d:Option Nat) (t:TypeId):Option (List AV):=
 match d.bind (find h.UF) with
 |some l=>(zeroCells P t).bind (yR l)
 |none=>zeroCells P t
def zg (op:BinOp) (k:IntKind) (a b:Int):Option AV:=
 match op with
 | .add=>some (.int k (k.wrap (a+b)))
 | .sub=>some (.int k (k.wrap (a-b)))
 | .mul=>some (.int k (k.wrap (a *b)))
 | .quo=>if b=0 then none else some (.int k (k.wrap (a.tdiv b)))
 | .rem=>if b=0 then none else some (.int k (a.tmod b))
 | .and=>some (.int k (k.wrap (ofInt k.bits a&&&ofInt k.bits b).toNat))
 | .or=>some (.int k (k.wrap (ofInt k.bits a|||ofInt k.bits b).toNat))
 | .xor=>some (.int k (k.wrap (ofInt k.bits a^^^ ofInt k.bits b).toNat))
 | .andNot=>some (.int k (k.wrap (ofInt k.bits a&&& ~~~ofInt k.bits b).toNat))
 | .eql=>some (.bool (a==b))
 | .neq=>some (.bool (a !=b))
 | .lss=>some (.bool (a<b))
 | .leq=>some (.bool (a<=b))
 | .gtr=>some (.bool (a>b))
 | .geq=>some (.bool (a>=b))
 | .shl| .shr=>none
def vA (op:BinOp) (k:IntKind) (a b:Int):Option AV:=
 if b<0 then none else
 match op with
 | .shl=>some (.int k (k.wrap (a *2^ min b.toNat k.bits)))
 | .shr=>some (.int k (a.fdiv (2^ min b.toNat k.bits)))
 |_=>none
def KT (op:BinOp) (a b:List UInt8):Option AV:=
 match op with
 | .add=>if a.length+b.length<=9223372036854775807 then some (.str (a++b)) else none
 | .eql=>some (.bool (a==b))
 | .neq=>some (.bool !(a==b))
 | .lss=>some (.bool (Op.bytesLess a b))
 | .leq=>some (.bool (Op.bytesLess a b||a==b))
 | .gtr=>some (.bool !(Op.bytesLess a b||a==b))
 | .geq=>some (.bool !(Op.bytesLess a b))
 |_=>none
def rz:AV->AV->Option Bool
 | .str a, .str b=>some (a==b)
 | .int k a, .int k' b=>if k=k' then some (a==b) else none
 | .bool a, .bool b=>some (a==b)
 |_,_=>none
def gF (P:Program) (k:TypeId) (key:AV):Bool:=
 match P.underlying k,key with
 |some .string, .str _=>true
 |some (.int q), .int l _=>q==l
 |some .bool, .bool _=>true
 |_,_=>false
def Ds (P:Program) (xs l:List AV):List Field->Option Bool
 |[]=>some true
 |f::w=>match xs[f.offset]?,l[f.offset]? with
  |some a,some b=>bif !(f.name== "_")&&gF P f.type a&&gF P f.type b&&(iO P f.type).isSome then
    match rz a b,Ds P xs l w with
    |some r,some q=>some (r&&q)
    |_,_=>none
   else none
  |_,_=>none
def Jf (P:Program) (op:BinOp) (t:TypeId) (xs q:List AV):Option AV:=
 match P.underlying t with
 |some (.struct l)=>bif !(P.stoodInHeld t)&& !(P.eqGuardType P.depth t) then
   match op,Ds P xs q l.toList with
   | .eql,some b=>some (.bool b)
   | .neq,some b=>some (.bool !b)
   |_,_=>none
  else none
 |_=>none
def bin (P:Program) (op:BinOp) (t:TypeId) (x y:AV):Option AV:=
 match x,y with
 | .agg xs, .agg l=>Jf P op t xs l
 | .int k a, .int k' b=>match op with
  | .shl| .shr=>vA op k a b
  |_=>if k=k' then zg op k a b else none
 | .str a, .str b=>KT op a b
 | .bool a, .bool b=>match P.underlying t,op with
  |some .bool, .eql=>some (.bool (a==b))
  |some .bool, .neq=>some (.bool !(a==b))
  |_,_=>none
 |_,_=>none
def un (op:UnOp) (x:AV):Option AV:=
 match op,x with
 | .neg, .int k n=>some (.int k (k.wrap (0-n)))
 | .not, .bool b=>some (.bool !b)
 |_,_=>none
def fP :SV->Option AV
 | .pv v=>some v
 |_=>none
def kF:List SV->Option (List AV)
 |[]=>some []
 | .pv v::l=>(kF l).map (v:: ·)
 |_::_=>none
def q8:List SV->Option (List l8)
 |[]=>some []
 | .pv v::l=>(q8 l).map (.v v:: ·)
 | .row id::l=>(q8 l).map (.r id:: ·)
 |_::_=>none
def fL (P:Program) (t:TypeId) (l:List AV):Option AV:=
 match xG P t,iO P t with
 |some true,some n=>if n<=l.length then some (.agg (l.take n)) else none
 |some false,some _=>l[0]?
 |_,_=>none
def rq (P:Program) (t:TypeId) (f:Nat):Option Field:=
 match P.underlying t with
 |some (.struct l)=>l[f]?
 |_=>none
def sg (place:Nat->Option (Nat×Nat)) (cells:List AV):List (Nat×AV)->Option (List AV)
 |[]=>some cells
 |(i,v)::q=>match place i with
  |none=>none
  |some (l,size)=>if v.cells.length=size/\l+size<=cells.length then sg place (cells.take l++v.cells++cells.drop (l+size)) q else none
def kS (P:Program) (t:TypeId) (f:Nat):Option (Nat×Nat):=
 match rq P t f with
 |some l=>(iO P l.type).map λn=>(l.offset,n)
 |none=>none
def partsOf (P:Program) (ty:Nat->TypeId) (q:St):List (Nat×Operand)->Option (List (Nat×AV))
 |[]=>some []
 |(i,x)::l=>match(aN P (ty i) q x).bind fP,partsOf P ty q l with
  |some v,some w=>some ((i,v)::w)
  |_,_=>none
def Lq (P:Program) (t:TypeId) (i:Nat):TypeId:=((rq P t i).map (·.type)).getD 0
def chunks (q:Nat):Nat->List AV->List (List AV)
 |0,_=>[]
 |n+1,l=>l.take q::chunks q n (l.drop q)
def oV (z:List AV):Nat->List AV
 |0=>[]
 |n+1=>z++oV z n
def elems (l:St):SV->Option (Nat×List (List AV))
 | .pv (.c4 sz xs)=>some (sz,xs)
 | .row id=>match l.ob id with
  |some (.row _ sz xs)=>some (sz,xs)
  |_=>none
 | .sub id s w q=>match l.ob id with
  |some (.row _ sz xs)=>bif Nat.beq s sz then some (sz,(xs.take q).drop w) else none
  |_=>none
 |_=>none
def lenOf (l:St):SV->Option Nat
 | .pv (.c4 _ xs)=>some xs.length
 | .row id=>match l.ob id with
  |some (.row _ _ xs)=>some xs.length
  |some (.rn _ _ _ _ _ xs _)=>some xs.length
  |_=>none
 |_=>none
def lR (key:AV):List AV->Option (Option Nat)
 |[]=>some none
 |x::l=>match rz key x with
  |some true=>some (some 0)
  |some false=>(lR key l).map λr=>r.map (· +1)
  |none=>none
def Kr {l:Type} (key:AV) (ks:List AV) (q:List l):Option (Option l):=
 match lR key ks with
 |some (some i)=>(q[i]?).map some
 |some none=>some none
 |none=>none
def xg {q:Type} (key:AV) (v:q) (l:List AV) (w:List q):Option (List AV×List q):=
 match lR key l with
 |some (some i)=>some (l,w.set i v)
 |some none=>some (l++[key],w++[v])
 |none=>none
def UD {w:Type} (key:AV) (l:List AV) (q:List w):Option (List AV×List w):=
 match lR key l with
 |some (some i)=>some (l.eraseIdx i,q.eraseIdx i)
 |some none=>some (l,q)
 |none=>none
def maps (w:St):SV->Option (List AV×List AV)
 | .pv (.mp l q)=>some (l,q)
 | .row id=>match w.ob id with
  |some (.mp _ _ l q)=>some (l,q)
  |_=>none
 |_=>none
def z8 (q:St):SV->Option (List AV)
 | .row id=>match q.ob id with
  |some (.mr _ _ _ l _)=>some l
  |_=>none
 |_=>none
def lQ (P:Program) (t:TypeId):Option AV:=
 match P.info? t with
 |some i=>match i.zero with
  |some (.agg l)=>(kj P (rf P 8 t) l.toList).map .agg
  |some v=>ofConst P t v
  |none=>none
 |none=>none
def found (ok:Bool) (v:AV) (b:Bool):AV:=bif ok then .jy [v, .bool b] else v
def bytesOf:List (List AV)->Option (List UInt8)
 |[]=>some []
 |[.int .u8 n]::l=>(bytesOf l).map (UInt8.ofNat n.toNat:: ·)
 |_=>none
def fq (w:Option SV) (l:Nat) (q:Nat):Option Nat:=
 match w with
 |none=>some l
 |some (.pv (.int _ i))=>if 0<=i/\i<=q then some i.toNat else none
 |some _=>none
def j8 (P:Program) (l:St):Option Operand->Option (Option SV)
 |none=>some none
 |some x=>(aN P 0 l x).map some
def P3 (l:Bool):AV->AV->Option AV
 | .int k a, .int k' b=>if k=k' then some (.int k (if l then(if b>a then b else a) else(if b<a then b else a))) else none
 | .str a, .str b=>some (.str (bif l then(bif !(Op.bytesLess a b) then a else b) else(bif Op.bytesLess a b||a==b then a else b)))
 |_,_=>none
def jJ (P:Program) (z:St) (q:Bool) (w:AV):List Operand->Option AV
 |[]=>some w
 |x::l=>match(aN P 0 z x).bind fP with
  |some v=>match P3 q w v with
   |some r=>jJ P z q r l
   |none=>none
  |none=>none
def sH (P:Program) (c:Call) (q:St):Option SV:=
 match c.callee,c.args.toList with
 | .builtin .len,[x]=>match c.argTypes.toList with
  |[t]=>match P.underlying t,aN P t q x with
   |some .string,some (.pv (.str s))=>some (.pv (.int .i64 s.length))
   |some (.slice _),some (.pv .nw)=>some (.pv (.int .i64 0))
   |some (.slice _),some (.sub _ _ z w)=>some (.pv (.int .i64 ((w-z:Nat):Int)))
   |some (.slice _),some v=>(lenOf q v).map λ(n:Nat)=>SV.pv (.int .i64 (n:Int))
   |some (.map _ _),some v=>(maps q v).map λe=> .pv (.int .i64 e.1.length)
   |_,_=>none
  |_=>none
 | .builtin .max,x::l=>match(aN P 0 q x).bind fP with
  |some v=>(jJ P q true v l).map .pv
  |none=>none
 | .builtin .min,x::l=>match(aN P 0 q x).bind fP with
  |some v=>(jJ P q false v l).map .pv
  |none=>none
 |_,_=>none
def w6 (P:Program) (q:St) (n:Nat) (e:TypeId) (x z:Operand):Option SV:=
 match iO P e,aN P 0 q x,aN P 0 q z with
 |some s,some (.ptr id l),some (.pv (.int _ i))=>if 0<=i/\i<n/\0<s then some (.ptr id (l+i.toNat *s)) else none
 |some s,some (.rp id B j l),some (.pv (.int _ i))=>if 0<=i/\i<n/\0<s then some (.rp id B j (l+i.toNat *s)) else none
 |some s,some (.cp w),some (.pv (.int _ i))=>if 0<=i/\i<n/\0<s then some (.cp (w.drop (i.toNat *s))) else none
 |_,_,_=>none
def sk (P:Program) (q:St) (t:TypeId) (x B:Operand):Option SV:=
 match isSlice P t,aN P t q x,aN P 0 q B with
 |some (_,s),some (.pv (.c4 l xs)),some (.pv (.int _ i))=>if s=l/\0<=i then(xs[i.toNat]?).map .cp else none
 |some (_,s),some (.row id),some (.pv (.int _ i))=>match q.ob id with
  |some (.row _ l xs)=>if s=l/\0<=i/\i.toNat<xs.length then some (.rp id l i.toNat 0) else none
  |some (.rn _ l _ _ _ xs _)=>if s=l/\0<=i/\i.toNat<xs.length then some (.rp id l i.toNat 0) else none
  |_=>none
 |some (_,s),some (.sub id l w z),some (.pv (.int _ i))=>if s=l/\0<=i/\i.toNat<z-w then some (.rp id l (w+i.toNat) 0) else none
 |_,_,_=>none
def tK (P:Program) (z:Option (List AV)) (t:TypeId) (l:Array (Nat×Operand)) (B:St):Option SV:=
 match P.underlying t with
 |some (.struct D)=>match z,partsOf P (Lq P t) B l.toList with
  |some z,some q=>if q.all (λp=>p.2.Af)=true/\D.toList.all (λf=>(iO P f.type).isSome)=true then(sg (kS P t) z q).map λw=> .pv (.agg w) else none
  |_,_=>none
 |some (.array _ e)=>match z,partsOf P (λ_=>e) B l.toList,iO P e with
  |some z,some q,some s=>if q.all (λp=>p.2.Af)=true then(sg (λi=>some (i *s,s)) z q).map λw=> .pv (.agg w) else none
  |_,_,_=>none
 |_=>none
def Ls (P:Program) (l:St) (t:TypeId) (x:Operand) (w q:Option Operand) (z:Operand):Option SV:=
 match w,q with
 |none,some q=>match aN P t l x with
  |some (.row id)=>match l.ob id,isSlice P t,aN P 0 l q,aN P 0 l z with
   |some (.row _ B xs),some (_,s),some (.pv (.int _ a)),some (.pv (.int _ b))=>if s=B/\a=(xs.length:Int)/\b=(xs.length:Int) then some (.aq id .full) else none
   |_,_,_,_=>none
  |_=>none
 |_,_=>none
def c8 (P:Program) (o:Oper) (q:St):Option SV:=
 match o.op with
 | .move x| .assign x=>aN P o.type q x
 | .pick c a b=>match aN P 0 q c with
  |some (.pv (.bool t))=>bif t then aN P o.type q a else aN P o.type q b
  |_=>none
 | .binOp op t x y _=>match(aN P t q x).bind fP,(aN P t q y).bind fP with
  |some a,some b=>(bin P op t a b).map .pv
  |_,_=>none
 | .unOp op _ x=>match(aN P 0 q x).bind fP with
  |some a=>(un op a).map .pv
  |none=>none
 | .convert src O x=>match P.underlying src,P.underlying O with
  |some (.slice e),some .string=>match P.underlying e,iO P e,(aN P src q x).bind (elems q) with
   |some (.int .u8),some 1,some (1,xs)=>(bytesOf xs).map λb=> .pv (.str b)
   |_,_,_=>none
  |some _,some (.int k)=>match(aN P 0 q x).bind fP with
   |some (.int _ n)=>some (.pv (.int k (k.wrap n)))
   |_=>none
  |some _,some .string=>match(aN P 0 q x).bind fP with
   |some (.str s)=>some (.pv (.str s))
   |_=>none
  |_,_=>none
 | .call c=>sH P c q
 | .nilCheck x=>match aN P 0 q x with
  |some (.ptr id w)=>some (.ptr id w)
  |some (.cp B)=>some (.cp B)
  |some (.pv (.ref B))=>some (.pv (.ref B))
  |some (.rp id D i w)=>some (.rp id D i w)
  |_=>none
 | .fieldAddr t x f=>match rq P t f with
  |some H=>match iO P H.type with
   |some 0=>none
   |some _=>match aN P 0 q x with
    |some (.ptr id w)=>some (.ptr id (w+H.offset))
    |some (.cp B)=>some (.cp (B.drop H.offset))
    |some (.pv (.ref B))=>some (.cp (B.drop H.offset))
    |some (.rp id D i w)=>some (.rp id D i (w+H.offset))
    |_=>none
   |none=>none
  |none=>none
 | .field t x f=>match rq P t f,(aN P 0 q x).bind fP with
  |some H,some (.agg B)=>(fL P H.type (B.drop H.offset)).map .pv
  |_,_=>none
 | .indexAddr t x L=>match P.underlying t with
  |some (.array n e)=>w6 P q n e x L
  |_=>sk P q t x L
 | .index t x L=>match P.underlying t,aN P t q x,aN P 0 q L with
  |some .string,some (.pv (.str s)),some (.pv (.int _ i))=>if 0<=i then(s[i.toNat]?).map λb=> .pv (.int .u8 b.toNat) else none
  |_,_,_=>none
 | .load t x=>match aN P 0 q x with
  |some (.cp B)=>(fL P t B).map .pv
  |some (.pv (.ref B))=>(fL P t B).map .pv
  |some (.rp id D i w)=>match q.ob id with
   |some (.row _ K xs)=>if D=K then(xs[i]?).bind λc=>(fL P t (c.drop w)).map .pv else none
   |some (.rn _ K k _ _ xs _)=>if D=K/\w=k/\i<xs.length/\xG P t=some false then some (.aq id (.nr i)) else none
   |_=>none
  |some (.ptr id w)=>match q.ob id with
   |some (.box _ cells)=>match xG P t with
    |some false=>if(iO P t).isSome then cells[w]? else none
    |some true=>match iO P t with
     |some n=>if w+n<=cells.length then match kF ((cells.drop w).take n) with
       |some B=>some (.pv (.agg B))
       |none=>(q8 ((cells.drop w).take n)).map .ag
      else none
     |none=>none
    |none=>none
   |_=>none
  |_=>none
 | .slice t x G F none=>match P.underlying t,aN P t q x,j8 P q G,j8 P q F with
  |some .string,some (.pv (.str s)),some G,some F=>match fq F s.length s.length with
   |some h=>(fq G 0 h).map λl=> .pv (.str ((s.take h).drop l))
   |none=>none
  |some (.slice _),some (.pv (.c4 D xs)),some G,some F=>match isSlice P t,fq F xs.length xs.length with
   |some (_,s),some h=>if s=D then(fq G 0 h).map λl=> .pv (.c4 D ((xs.take h).drop l)) else none
   |_,_=>none
  |some (.slice _),some (.row id),some G,some F=>match isSlice P t,q.ob id with
   |some (_,s),some (.row _ D xs)=>match fq F xs.length xs.length with
    |some h=>if s=D then(fq G 0 h).map λl=> .sub id D l h else none
    |none=>none
   |_,_=>none
  |some (.slice _),some (.sub id D a b),some G,some F=>match isSlice P t,fq F (b-a) (b-a) with
   |some (_,s),some h=>if s=D then(fq G 0 h).map λl=> .sub id D (a+l) (a+h) else none
   |_,_=>none
  |_,_,_,_=>none
 | .slice t x G F (some U)=>Ls P q t x G F U
 | .extract x i=>match aN P 0 q x with
  |some (.pv (.jy R))=>(R[i]?).map .pv
  |some (.two v b)=>match i with
   |0=>some v
   |1=>some (.pv (.bool b))
   |_=>none
  |_=>none
 | .lookup t x k ok=>match P.underlying t with
  |some (.map N S)=>match(aN P t q x).bind (z8 q),(aN P N q k).bind fP with
   |some Q,some key=>bif ok&&gF P N key&&(lQ P S).isSome then(lR key Q).map λr=> .two .any r.isSome else none
   |_,_=>match(aN P t q x).bind (maps q),(aN P N q k).bind fP with
   |some (Q,R),some key=>bif gF P N key then
     match Kr key Q R with
     |some (some v)=>some (.pv (found ok v true))
     |some none=>(lQ P S).map λz=> .pv (found ok z false)
     |none=>none
    else none
   |_,_=>none
  |_=>none
 | .build t I=>tK P (zeroCells P t) t I q
 |_=>none
def l8.mentions (id:Nat):l8->Bool
 | .p j| .r j=>Nat.beq j id
 | .v _=>false
def SV.mentions (id:Nat):SV->Bool
 | .ptr j _| .row j| .rp j _ _ _| .sub j _ _ _=>Nat.beq j id
 | .cl _ l=>l.any (l8.mentions id)
 | .ag l=>l.any (l8.mentions id)
 | .two v _=>v.mentions id
 | .aq j _=>Nat.beq j id||Nat.beq (j+40000) id
 |_=>false
def SV.bX (id:Nat) (v:SV):SV:=bif v.mentions id then .any else v
def Ob.bX (id:Nat):Ob->Ob
 | .box t cells=> .box t (cells.map (SV.bX id))
 |o=>o
def St.bX (l:St) (id:Nat):St:=
 {env:=λi=>(l.env i).map (SV.bX id),ob:=put (λi=>(l.ob i).map (Ob.bX id)) id none }
def St.new (l:St) (id:Nat) (o:Ob):St:=
 let s:=l.bX id
 {s with ob:=put s.ob id (some o) }
def SV.bY (id:Nat) (v:AV):SV->SV
 | .row j=>bif Nat.beq j id then .pv v else .row j
 |s=>s.bX id
def lD {q:Type}:List (Option q)->Option (List q)
 |[]=>some []
 |some x::l=>(lD l).map (x:: ·)
 |none::_=>none
def rX (k l:Nat):List (List AV)->List (List (List AV))->List (List AV)
 |x::xs,y::q=>x.set k (.c4 l y)::rX k l xs q
 |_,_=>[]
def Ob.val:Ob->Option AV
 | .row _ sz xs=>some (.c4 sz xs)
 | .mp _ _ q z=>some (.mp q z)
 | .mr _ _ sz q z=>(lD z).map λl=> .mp q (l.map (.c4 sz))
 | .box _ _=>none
 | .it _ _=>none
 | .lp _=>none
 | .rn _ sz k _ w xs B=>(lD B).map λl=> .c4 sz (rX k w xs l)
def Ob.bY (id:Nat) (v:AV):Ob->Ob
 | .box t cells=> .box t (cells.map (SV.bY id v))
 |o=>o
def sG (id:Nat):Bool:=Nat.blt id 10000
def St.bY (l:St) (id:Nat):Option St:=
 match sG id,(l.ob id).bind Ob.val with
 |true,some v=>some { env:=λi=>(l.env i).map (SV.bY id v),ob:=put (λi=>(l.ob i).map (Ob.bY id v)) id none }
 |_,_=>none
def SV.lU (id:Nat) (q:List AV):SV->SV
 | .ptr j l=>bif Nat.beq j id then .cp (q.drop l) else .ptr j l
 |s=>s.bX id
def Ob.lU (id:Nat) (l:List AV):Ob->Ob
 | .box t cells=> .box t (cells.map (SV.lU id l))
 |o=>o
def St.lU (l:St) (id:Nat):Option St:=
 match sG id,l.ob id with
 |true,some (.box _ cells)=>match kF cells with
  |some q=>some { env:=λi=>(l.env i).map (SV.lU id q),ob:=put (λi=>(l.ob i).map (Ob.lU id q)) id none }
  |none=>none
 |_,_=>none
def rG (q:St):List Operand->Option St
 |[]=>some q
 | .tmp i::l=>match q.env i with
  |some (.ptr id _)=>(q.lU id).bind λw=>rG w l
  |_=>rG q l
 |_::l=>rG q l
def gQ (q:St):List l8->Option (List AV)
 |[]=>some []
 | .v a::l=>(gQ q l).map (a:: ·)
 | .r id::l=>match(q.ob id).bind Ob.val,gQ q l with
  |some v,some w=>some (v::w)
  |_,_=>none
 | .p _::_=>none
def jI (l:St):SV->Option AV
 | .pv v=>some v
 | .row id=>(l.ob id).bind Ob.val
 | .ag q=>(gQ l q).map .agg
 | .aq id (.nr i)=>match l.ob id with
  |some (.rn _ _ _ _ w _ z)=>match z[i]? with
   |some (some B)=>some (.c4 w B)
   |_=>none
  |_=>none
 |_=>none
def gw (P:Program) (l:St):List Operand->List TypeId->Option (List AV)
 |[],_=>some []
 |x::xs,q=>match(aN P (q.headD 0) l x).bind (jI l),gw P l xs q.tail with
  |some v,some w=>some (v::w)
  |_,_=>none
def iJ (l:St):Operand->Bool
 | .tmp i=>match l.env i with
  |some (.row _)=>true
  |some (.ag _)=>true
  |some (.aq _ _)=>true
  |_=>false
 |_=>false
def rK (l:St):Operand->Bool
 | .tmp i=>match l.env i with
  |some (.ag _)=>true
  |some (.aq _ _)=>true
  |_=>false
 |_=>false
def pE (w:St):List Operand->Option (List AV)
 |[]=>some []
 | .tmp i::l=>match w.env i,pE w l with
  |some (.pv v),some q=>some (v::q)
  |some (.cp z),some q=>some (.ref z::q)
  |_,_=>none
 |_::_=>none
def mA (z:St):List Operand->Option (List l8)
 |[]=>some []
 | .tmp i::l=>match z.env i,mA z l with
  |some (.pv v),some q=>some (.v v::q)
  |some (.cp w),some q=>some (.v (.ref w)::q)
  |some (.ptr id 0),some q=>some (.p id::q)
  |_,_=>none
 |_::_=>none
def iB (P:Program) (t:TypeId) (len:Nat) (l:List (Nat×Operand)) (st:St):Option (TypeId×Nat×List (List AV)):=
 match isSlice P t with
 |some (e,s)=>match zeroCells P e,partsOf P (λ_=>e) st l with
  |some z,some q=>
   if len *s<=16777216/\0<s/\z.length=s/\q.all (λp=>p.2.Af)=true then
    (sg (λi=>some (i *s,s)) (oV z len) q).map λw=>(e,s,chunks s len w)
   else none
  |_,_=>none
 |none=>none
abbrev cr:=Nat->List SV->List (Nat×Ob)->Option (AV×List (Nat×Ob))
def kR (h:Hint) (l:St):Operand->Option Nat
 | .tmp t=>bif h.gP.contains t then
   match l.env t with
   |some (.row id)=>some id
   |_=>none
  else none
 |_=>none
def lW (h:Hint):Operand->Bool
 | .tmp t=>h.rows.contains t
 |_=>false
def fN (id:Nat):Bool:=Nat.blt id 10000||(Nat.ble 20000 id&&Nat.blt id 30000)
def SV.ids:SV->List Nat
 | .ptr j _| .row j| .rp j _ _ _| .sub j _ _ _=>[j]
 | .cl _ l=>l.filterMap fun
  | .p j| .r j=>some j
  | .v _=>none
 | .ag l=>l.filterMap fun
  | .p j| .r j=>some j
  | .v _=>none
 | .two v _=>v.ids
 | .aq j _=>[j,j+40000]
 |_=>[]
def SV.Fs:SV->List Nat
 | .aq j _=>[j]
 |v=>v.ids
def SV.closed (names:List Nat):SV->Bool
 | .ptr j _| .row j| .rp j _ _ _| .sub j _ _ _=>names.contains j
 | .cl _ l=>l.all fun
  | .p j| .r j=>names.contains j
  | .v _=>true
 | .ag l=>l.all fun
  | .p j| .r j=>names.contains j
  | .v _=>true
 | .two v _=>v.closed names
 | .aq _ _=>false
 |_=>true
def Ob.closed (names:List Nat):Ob->Bool
 | .box _ cells=>cells.all (SV.closed names)
 | .row _ _ _=>true
 | .mp _ _ _ _=>true
 | .mr _ _ _ _ _=>false
 | .it _ _=>true
 | .lp _=>true
 | .rn _ _ _ _ _ _ _=>false
def yu (st:St):Operand->Bool
 | .tmp t=>match st.env t with
  |some (.ptr _ _)=>true
  |some (.cl _ _)=>true
  |_=>false
 |_=>false
def JX (l:St):Operand->Bool
 | .tmp t=>match l.env t with
  |some (.cl _ _)=>true
  |_=>false
 |_=>false
def wide (st:St) (c:Call) (f:Operand):Bool:=JX st f||c.args.toList.any (yu st)
def isRef (h:Hint):Operand->Bool
 | .tmp t=>h.gP.contains t
 |_=>false
def NZ (P:Program) (h:Hint) (z:St) (t:TypeId) (x:Operand):Option SV:=
 match aN P t z x with
 |some (.pv v)=>some (.pv v)
 |some (.ptr id q)=>some (.ptr id q)
 |some (.row id)=>bif isRef h x then some (.row id) else none
 |some (.cl f l)=>some (.cl f l)
 |some (.cp w)=>some (.cp w)
 |_=>none
def pz (P:Program) (h:Hint) (l:St):List Operand->List TypeId->Option (List SV)
 |[],_=>some []
 |x::xs,q=>match NZ P h l (q.headD 0) x,pz P h l xs q.tail with
  |some v,some w=>some (v::w)
  |_,_=>none
def BB:l8->SV
 | .v a=> .pv a
 | .p id=> .ptr id 0
 | .r id=> .row id
def RE:SV->Option (Nat×List SV×List SV)
 | .pv (.fn g l)=>bif Nat.blt g 1000000 then some (g,[],l.map .pv) else none
 | .cl g l=>bif Nat.blt g 1000000 then some (g,[],l.map BB) else bif Nat.blt g 2000000 then some (g-1000000,l.map BB,[]) else match l with
  |[c]=>some (g,[],[BB c])
  |_=>none
 |_=>none
def AS (l:St) (id:Nat):List Nat:=
 match l.ob id with
 |some (.box _ cells)=>cells.flatMap SV.ids
 |_=>[]
def iz (q:St):Nat->List Nat->List Nat->List Nat
 |0,_,done=>done
 |_+1,[],done=>done
 |n+1,id::l,done=>bif done.contains id then iz q n l done else iz q n (l++AS q id) (done++[id])
def lV:List SV->List Nat
 |[]=>[]
 | .row id::l=>id::lV l
 |_::l=>lV l
def LD (l:St) (id:Nat):Bool:=
 match l.ob id with
 |some (.row _ _ _)=>true
 |_=>false
def jm (q:Bool) (w:St) (l:List Nat) (id:Nat):Bool:=LD w id&&fN id&& !(l.contains id)&& !q
def gK (q:Nat->Bool):Nat->List Nat->List (Nat×Nat)
 |_,[]=>[]
 |k,id::l=>(id,bif q id then 20000+k else 10000+k)::gK q (k+1) l
def swap:List (Nat×Nat)->List (Nat×Nat)
 |[]=>[]
 |(a,b)::l=>(b,a)::swap l
def mP (m:List (Nat×Nat)) (id:Nat):Nat:=(find m id).getD id
def l8.pq (l:Nat->Nat):l8->l8
 | .p id=> .p (l id)
 | .r id=> .r (l id)
 |c=>c
def SV.pq (w:Nat->Nat):SV->SV
 | .ptr j q=> .ptr (w j) q
 | .row j=> .row (w j)
 | .rp j z i q=> .rp (w j) z i q
 | .sub j z D B=> .sub (w j) z D B
 | .cl f l=> .cl f (l.map (l8.pq w))
 | .ag l=> .ag (l.map (l8.pq w))
 | .two v b=> .two (v.pq w) b
 |s=>s
def Ob.pq (l:Nat->Nat):Ob->Ob
 | .box t cells=> .box t (cells.map (SV.pq l))
 |o=>o
def jl (q:St) (ids:List Nat) (w:Nat->Nat):List (Nat×Nat)->Option (List (Nat×Ob))
 |[]=>some []
 |(id,z)::l=>match q.ob id,jl q ids w l with
  |some o,some B=>bif o.closed ids then some ((z,o.pq w)::B) else none
  |_,_=>none
def kG (names:List Nat) (w:Nat->Nat):List (Nat×Nat)->List (Nat×Ob)->Option (List (Nat×Ob))
 |[],[]=>some []
 |(id,z)::l,(q,o)::B=>bif Nat.beq z q&&o.closed names then(kG names w l B).map λr=>(id,o.pq w)::r else none
 |_,_=>none
def distinct:List Nat->Bool
 |[]=>true
 |x::l=> !(l.contains x)&&distinct l
def iG:List Nat->St->St
 |[],q=>q
 |id::l,q=>iG l (q.bX id)
mutual
def AV.same:AV->AV->Bool
 | .bool a, .bool b=>a==b
 | .int k a, .int k' b=>decide (k=k')&&decide (a=b)
 | .str a, .str b=>decide (a=b)
 | .c4 s xs, .c4 s' ys=>Nat.beq s s'&&vv xs ys
 | .agg a, .agg b=>nN a b
 | .fn f a, .fn g b=>Nat.beq f g&&nN a b
 | .jy a, .jy b=>nN a b
 | .ref a, .ref b=>nN a b
 | .mp a b, .mp c d=>nN a c&&nN b d
 | .self a, .self b=>Nat.beq a b
 | .yB, .yB=>true
 | .nw, .nw=>true
 | .hole, .hole=>true
 |_,_=>false
def nN:List AV->List AV->Bool
 |[],[]=>true
 |a::l,b::m=>AV.same a b&&nN l m
 |_,_=>false
def vv:List (List AV)->List (List AV)->Bool
 |[],[]=>true
 |a::l,b::m=>nN a b&&vv l m
 |_,_=>false
end
def l8.same:l8->l8->Bool
 | .v a, .v b=>AV.same a b
 | .p a, .p b=>Nat.beq a b
 | .r a, .r b=>Nat.beq a b
 |_,_=>false
def nP:List l8->List l8->Bool
 |[],[]=>true
 |a::l,b::m=>l8.same a b&&nP l m
 |_,_=>false
def Ak.same:Ak->Ak->Bool
 | .full, .full=>true
 | .nr i, .nr j=>Nat.beq i j
 |_,_=>false
def SV.same:SV->SV->Bool
 | .undef, .undef=>true
 | .any, .any=>true
 | .pv a, .pv b=>AV.same a b
 | .ptr a b, .ptr c d=>Nat.beq a c&&Nat.beq b d
 | .row a, .row b=>Nat.beq a b
 | .rp a b c d, .rp l w c' z=>Nat.beq a l&&Nat.beq b w&&Nat.beq c c'&&Nat.beq d z
 | .sub a b c d, .sub l w c' z=>Nat.beq a l&&Nat.beq b w&&Nat.beq c c'&&Nat.beq d z
 | .cp a, .cp b=>nN a b
 | .cl f a, .cl g b=>Nat.beq f g&&nP a b
 | .two s a, .two t b=>SV.same s t&&(a==b)
 | .ag a, .ag b=>nP a b
 | .aq a q, .aq b r=>Nat.beq a b&&Ak.same q r
 |_,_=>false
def rH:List SV->List SV->Bool
 |[],[]=>true
 |a::l,b::m=>SV.same a b&&rH l m
 |_,_=>false
def mF:List (Option (List (List AV)))->List (Option (List (List AV)))->Bool
 |[],[]=>true
 |some a::l,some b::m=>vv a b&&mF l m
 |none::l,none::m=>mF l m
 |_,_=>false
def Ob.same:Ob->Ob->Bool
 | .box t a, .box u b=>Nat.beq t u&&rH a b
 | .row e s xs, .row l q H=>Nat.beq e l&&Nat.beq s q&&vv xs H
 | .mp k e a b, .mp k' l c d=>Nat.beq k k'&&Nat.beq e l&&nN a c&&nN b d
 | .mr k e s a b, .mr k' l q c d=>Nat.beq k k'&&Nat.beq e l&&Nat.beq s q&&nN a c&&mF b d
 | .it s p, .it q B=>decide (s=q)&&Nat.beq p B
 | .lp a, .lp b=>nN a b
 | .rn e s k w s2 x y, .rn l q k' z D F G=>Nat.beq e l&&Nat.beq s q&&Nat.beq k k'&&Nat.beq w z&&Nat.beq s2 D&&vv x F&&mF y G
 |_,_=>false
def ql:List (Nat×Ob)->List (Nat×Ob)->Bool
 |[],[]=>true
 |(i,a)::l,(j,b)::m=>Nat.beq i j&&Ob.same a b&&ql l m
 |_,_=>false
def pK (P:Program) (h:Hint) (q:St) (c:Call) (f:Operand):Option (Nat×List SV):=
 match(aN P 0 q f).bind RE,pz P h q c.args.toList c.argTypes.toList with
 |some (g,pre,l),some w=>some (g,pre++(w++l))
 |_,_=>none
def iN (l:St) (args:List SV):List Nat:=iz l 200 (args.flatMap SV.ids) []
def gy (ids:List Nat):List (Nat×Nat):=gK (λ_=>false) 0 ids
def og (P:Program) (h:Hint) (w:cr) (l:St) (c:Call) (f:Operand):Option AV:=
 match pK P h l c f with
 |some (g,args)=>
  bif distinct (iN l args)&&Nat.blt (iN l args).length 10000&&args.all (SV.closed (iN l args)) then
   match jl l (iN l args) (mP (gy (iN l args))) (gy (iN l args)) with
   |some q=>match w g (args.map (SV.pq (mP (gy (iN l args))))) q with
    |some (r,z)=>bif ql z q&&r.iD then some r else none
    |none=>none
   |none=>none
  else none
 |none=>none
def cz (P:Program) (h:Hint) (bC:cr) (o:Oper) (st:St):Option SV:=
 match o.op with
 | .buildSlice t len q=>bif(o.dst.any h.rows.contains) then none else(iB P t len q.toList st).map λx=> .pv (.c4 x.2.1 x.2.2)
 | .call c=>match c.callee with
  | .value f=>bif o.dst.any h.owns.contains then none else bif o.dst.any h.stay.contains&&wide st c f then(og P h bC st c f).map .pv else
   bif wide st c f||c.args.toList.any (λx=>(kR h st x).isSome) then none else
   match aN P 0 st f,gw P st c.args.toList c.argTypes.toList with
   |some (.pv (.fn g l)),some z=>match bC g ((z++l).map .pv) [] with
    |some (r,[])=>bif(!(c.args.toList.any (iJ st))||r.plain)&&r.iD then some (.pv r) else none
    |_=>none
   |_,_=>none
  |_=>sH P c st
 | .lookup _ x _ ok=>bif lW h x&& !ok then none else c8 P o st
 | .build t q=>bif o.dst.any h.rows.contains then none else tK P (D8 P h o.dst t) t q st
 | .load _ _=>bif o.dst.any h.take.contains then none else c8 P o st
 | .makeFunc (.func g) first l=>bif first.isEmpty then
   bif o.dst.any h.gP.contains then bif Nat.blt g 1000000 then(mA st l.toList).map λw=> .cl g w else none
   else(pE st l.toList).map λz=> .pv (.fn g z)
  else bif l.isEmpty&&o.dst.any h.gP.contains&&Nat.blt g 1000000 then(mA st first.toList).map λw=> .cl (g+1000000) w else none
 | .assign x=>match o.dst,x,c8 P o st with
  |some d, .const _,some (.pv (.c4 B xs))=>bif h.rows.contains d then none else some (.pv (.c4 B xs))
  |some d,_,some (.row id)=>bif h.jK.contains d||h.Vn.contains d then none else some (.row id)
  |_,_,r=>r
 |_=>c8 P o st
def nC (l:St):SV->Bool
 | .pv (.agg _)| .pv (.jy _)=>false
 | .pv _=>true
 | .ptr _ _| .rp _ _ _ _| .cp _| .cl _ _=>true
 | .row id=>match l.ob id with
  |some (.row _ _ _)=>true
  |some (.mp _ _ _ _)=>true
  |some (.rn _ _ _ _ _ _ _)=>true
  |_=>false
 |_=>false
def storeAt (P:Program) (t:TypeId) (q:St) (a:SV) (v:SV):Option St:=
 match a with
 | .ptr id l=>match q.ob id,iO P t with
  |some (.box B cells),some n=>match v with
   | .ag w=>if w.length=n/\l+n<=cells.length then
     some { q with ob:=put q.ob id (some (.box B (cells.take l++w.map BB++cells.drop (l+n)))) } else none
   | .pv (.agg w)=>if w.length=n/\l+n<=cells.length then
     some { q with ob:=put q.ob id (some (.box B (cells.take l++w.map .pv++cells.drop (l+n)))) } else none
   |v=>if n=1/\l<cells.length/\nC q v=true then some { q with ob:=put q.ob id (some (.box B (cells.set l v))) } else none
  |_,_=>none
 | .rp id D i l=>match q.ob id,iO P t,v with
  |some (.row e z xs),some n, .pv v=>match xs[i]? with
   |some c=>if D=z/\v.cells.length=n/\l+n<=c.length/\v.Af=true then
     some { q with ob:=put q.ob id (some (.row e z (xs.set i (c.take l++v.cells++c.drop (l+n))))) } else none
   |none=>none
  |_,_,_=>none
 |_=>none
def vO (P:Program) (h:Hint) (l:St):List Operand->List TypeId->Option (List SV×List Nat)
 |[],_=>some ([],[])
 |x::xs,w=>match kR h l x,vO P h l xs w.tail with
  |some id,some (q,ids)=>some (.row 10000::q,id::ids)
  |none,some (q,ids)=>match(aN P (w.headD 0) l x).bind fP with
   |some v=>some (.pv v::q,ids)
   |none=>none
  |_,none=>none
def lF (P:Program) (h:Hint) (l:cr) (z:St) (c:Call) (f:Operand) (d:Option Nat):Option St:=
 match aN P 0 z f,vO P h z c.args.toList c.argTypes.toList with
 |some (.pv (.fn g B)),some (H,[id])=>match z.ob id with
  |some (.row e F xs)=>match l g (H++B.map .pv) [(10000, .row e F xs)] with
   |some (r,[(G, .row D q w)])=>bif Nat.beq e D&&Nat.beq F q&&Nat.beq G 10000 then
     match r with
     | .self n=>bif Nat.ble n w.length&&fN id then some ((z.new id (.row D q (w.take n))).set d (.row id)) else none
     |r=>bif r.plain then some (St.set { z with ob:=put z.ob id (some (.row D q w)) } d (.pv r)) else none
    else none
   |_=>none
  |_=>none
 |_,_=>none
def gC (P:Program) (h:Hint) (l:cr) (w:St) (c:Call) (f:Operand) (d:Option Nat):Option St:=
 match(aN P 0 w f).bind RE,pz P h w c.args.toList c.argTypes.toList with
 |some (g,pre,z),some H=>
  let args:=pre++(H++z)
  let ids:=iz w 200 (args.flatMap SV.ids) [];let F:=jm (d.any h.stay.contains) w (lV args);let m:=gK F 0 ids;let names:=m.map (·.2);let G:=mP m
  bif distinct ids&&Nat.blt ids.length 10000&&args.all (SV.closed ids) then
   match jl w ids G m with
   |some B=>match l g (args.map (SV.pq G)) B with
    |some (r,q)=>match kG names (mP (swap m)) m q with
     |some back=>bif r.iD then
       let D:=iG (ids.filter F) w
       some (St.set { env:=D.env,ob:=λi=>(find back i).orElse λ_=>D.ob i } d (.pv r)) else none
     |none=>none
    |none=>none
   |none=>none
  else none
 |_,_=>none
def vJ (P:Program) (t:TypeId):Option (List Value):=
 match P.info? t with
 |some i=>i.zero.map λz=>z.cells.toList
 |none=>none
def qg (P:Program) (d:Nat):Nat->List TypeId->List Value->Option (List SV×List (Nat×TypeId×Nat))
 |_,[],[]=>some ([],[])
 |j,t::w,v::z=>match qg P d (j+1) w z with
  |some (q,l)=>match isSlice P t,v with
   |some (e,s), .slice none 0 0=>bif Nat.blt 0 s&&Nat.blt (5000+16 *d+j) 10000 then some (.row (5000+16 *d+j)::q,(5000+16 *d+j,e,s)::l) else none
   |_,v=>(ofConst P t v).map λa=>(.pv a::q,l)
  |none=>none
 |_,_,_=>none
def yp (l:List (Nat×Nat×TypeId×Nat)) (id:Nat) (e:TypeId) (s:Nat):Ob:=
 match find l id with
 |some (k,q,w)=>bif Nat.blt k s then .rn e s k q w [] [] else .row e s []
 |none=> .row e s []
def qj (R3:List (Nat×Nat×TypeId×Nat)):List (Nat×TypeId×Nat)->St->St
 |[],q=>q
 |(id,e,s)::l,q=>qj R3 l (q.new id (yp R3 id e s))
def sD (h:Hint) (d:Nat):Option (List (Nat×TypeId×Nat)):=find h.nw d
def JY:Operand->Bool
 | .const (.slice none 0 0)=>true
 |_=>false
def Fl (P:Program) (b:Bool) (l:St) (t:TypeId) (x:Operand):Option AV:=bif b&&JY x then some .nw else(aN P t l x).bind fP
def nG (P:Program) (b:Bool) (l:St):List Operand->List TypeId->Option (List AV)
 |[],_=>some []
 |x::xs,q=>match Fl P b l (q.headD 0) x,nG P b l xs q.tail with
  |some v,some w=>some (v::w)
  |_,_=>none
def oB:List AV->List (Nat×TypeId×Nat)->Option (List l8)
 |[],_=>some []
 | .nw::q,x::l=>(oB q l).map (.r x.1:: ·)
 | .nw::_,[]=>none
 |a::q,l=>(oB q l).map (.v a:: ·)
def iK (P:Program) (h:Hint) (q:cr) (z:St) (c:Call) (f:Operand) (d:Option Nat):Option St:=
 match d with
 |some d=>match aN P 0 z f,nG P (sD h d).isSome z c.args.toList c.argTypes.toList with
  |some (.pv (.fn g w)),some G=>match q g ((G++w).map .pv) [] with
   |some (.jy [.jy [.self e, .c4 F xs]],[])=>bif(sD h d).isSome then none else some ((z.new d (.row e F xs)).set (some d) (.row d))
   |some (.agg B,[])=>match sD h d with
    |some []=>some (z.set (some d) (.pv (.agg B)))
    |some l=>match oB B l with
     |some D=>bif l.all (λx=>Nat.blt x.1 10000) then some ((qj h.nest l z).set (some d) (.ag D)) else none
     |none=>none
    |none=>none
   |_=>none
  |_,_=>none
 |none=>none
def SH (l:St) (s:SV):Option l8:=
 bif nC l s then
  match s with
  | .pv a=>some (.v a)
  | .row id=>some (.r id)
  |_=>none
 else none
def x8 (q:St):List SV->Option (List l8)
 |[]=>some []
 |s::l=>match SH q s,x8 q l with
  |some c,some w=>some (c::w)
  |_,_=>none
def KF (q:St):SV->Option (List SV)
 | .pv (.agg l)=>some (l.map .pv)
 |s=>bif nC q s then some [s] else none
def yE (P:Program) (ty:Nat->TypeId) (q:St):List (Nat×Operand)->Option (List (Nat×List SV))
 |[]=>some []
 |(i,x)::l=>match(aN P (ty i) q x).bind (KF q),yE P ty q l with
  |some v,some w=>some ((i,v)::w)
  |_,_=>none
def Hl (place:Nat->Option (Nat×Nat)) (cells:List SV):List (Nat×List SV)->Option (List SV)
 |[]=>some cells
 |(i,v)::q=>match place i with
  |none=>none
  |some (l,size)=>if v.length=size/\l+size<=cells.length then Hl place (cells.take l++v++cells.drop (l+size)) q else none
def zb (P:Program) (h:Hint) (w:St) (d:Nat) (t:TypeId) (q:List (Nat×Operand)):Option St:=
 match P.underlying t,(vJ P t).bind λG=>qg P d 0 (rf P 8 t) G with
 |some (.struct D),some (z,l)=>bif D.toList.all (λf=>(iO P f.type).isSome) then
   match yE P (Lq P t) (qj h.nest l w) q with
   |some F=>match(Hl (kS P t) z F).bind (x8 (qj h.nest l w)) with
    |some B=>some ((qj h.nest l w).set (some d) (.ag B))
    |none=>none
   |none=>none
  else none
 |_,_=>none
def sA (P:Program) (l:St) (t:TypeId) (m k:Operand):Option St:=
 match P.underlying t with
 |some (.map z _)=>match aN P t l m,(aN P z l k).bind fP with
  |some (.row id),some key=>match l.ob id with
   |some (.mp k' B D F)=>bif gF P z key then
     match UD key D F with
     |some (q,w)=>some { l with ob:=put l.ob id (some (.mp k' B q w)) }
     |none=>none
    else none
   |_=>none
  |_,_=>none
 |_=>none
def qu (P:Program) (l:St):Option Operand->Bool
 |none=>true
 |some x=>match(aN P 0 l x).bind fP with
  |some (.int _ _)=>true
  |_=>false
def Kh (P:Program) (l:St) (q:TypeId) (x:Operand):Option St:=
 match aN P q l x with
 |some (.pv _)=>some l
 |some (.row j)=>l.bY j
 |_=>none
def sB (P:Program) (G:St) (t:TypeId) (m k x:Operand):Option St:=
 match P.underlying t with
 |some (.map B z)=>match Kh P G z x with
  |some l=>match aN P t l m,(aN P B l k).bind fP,(aN P z l x).bind fP with
   |some (.row id),some key,some v=>match l.ob id with
    |some (.mp k' D F H)=>bif gF P B key&&v.Af then
      match xg key v F H with
      |some (q,w)=>some { l with ob:=put l.ob id (some (.mp k' D q w)) }
      |none=>none
     else none
    |_=>none
   |_,_,_=>none
  |none=>none
 |_=>none
def DN (P:Program) (l:St) (t:TypeId) (m k:Operand):Option (TypeId×Nat×AV×TypeId×TypeId×Nat×List AV×List (Option (List (List AV)))):=
 match P.underlying t with
 |some (.map q w)=>match aN P t l m,(aN P q l k).bind fP with
  |some (.row id),some key=>match l.ob id with
   |some (.mr k' e B z D)=>bif gF P q key&&Nat.blt id 10000 then some (w,id,key,k',e,B,z,D) else none
   |_=>none
  |_,_=>none
 |_=>none
def DO (P:Program) (l:St) (t:TypeId) (m k:Operand) (d:Nat):Option St:=
 match DN P l t m k with
 |some (w,id,key,k',e,q,z,B)=>bif Nat.beq id d then none else match lR key z with
  |some (some i)=>match B[i]? with
   |some (some xs)=>some ((St.new { l with ob:=put l.ob id (some (.mr k' e q z (B.set i none))) } d (.row e q xs)).set (some d) (.row d))
   |_=>none
  |some none=>match lQ P w,isSlice P w with
   |some (.c4 _ []),some (D,s)=>if e=D/\s=q/\0<s then some ((l.new d (.row e q [])).set (some d) (.row d)) else none
   |_,_=>none
  |none=>none
 |none=>none
def Ku (P:Program) (w:St) (t:TypeId) (m k x:Operand):Option St:=
 match DN P w t m k with
 |some (D,id,key,k',e,z,F,G)=>match x with
  | .const (.slice none 0 0)=>match isSlice P D with
   |some (B,s)=>if e=B/\s=z/\0<s then
     match xg key (some []) F G with
     |some (l,q)=>some { w with ob:=put w.ob id (some (.mr k' e z l q)) }
     |none=>none
    else none
   |none=>none
  |x=>match aN P D w x with
   |some (.row j)=>match w.ob j with
    |some (.row B s xs)=>if e=B/\s=z/\j<10000 then
      match xg key (some xs) F G with
      |some (l,q)=>let s1:=w.bX j;some { s1 with ob:=put s1.ob id (some (.mr k' e z l q)) }
      |none=>none
     else none
    |_=>none
   |_=>none
 |none=>none
def rI (P:Program) (q:St) (t:TypeId) (x:Operand) (d:Nat):Option St:=
 match aN P 0 q x,xG P t with
 |some (.rp id F i w),some false=>match q.ob id with
  |some (.rn e l k z B xs D)=>match D[i]? with
   |some (some G)=>bif Nat.beq F l&&Nat.beq w k&& !(Nat.beq id d)&&Nat.blt id 10000 then some ((St.new { q with ob:=put q.ob id (some (.rn e l k z B xs (D.set i none))) } d (.row z B G)).set (some d) (.row d)) else none
   |_=>none
  |_=>none
 |_,_=>none
def Am (P:Program) (q:St) (t:TypeId) (id G i w j:Nat):Option St:=
 match xG P t,iO P t,q.ob id,q.ob j with
 |some false,some 1,some (.rn e l k z B xs D),some (.row F s2 H)=>
  bif Nat.beq G l&&Nat.beq w k&&Nat.blt id 10000&&Nat.blt j 10000&&Nat.beq z F&&Nat.beq B s2&&Nat.blt i D.length&& !(Nat.beq id j) then
   some { (q.bX j).bX (id+40000) with ob:=put ((q.bX j).bX (id+40000)).ob id (some (.rn e l k z B xs (D.set i (some H)))) } else none
 |_,_,_,_=>none
def Lj (P:Program) (w:St) (t:TypeId) (id q j z n:Nat):Option St:=
 match w.ob j with
 |some (.row e l xs)=>bif Nat.beq z l&&fN j&& !(Nat.beq id j) then storeAt P t (w.new j (.row e l (xs.take n))) (.ptr id q) (.row j) else none
 |_=>none
def Kt (l:St) (id d:Nat):Option St:=
 match l.ob id with
 |some (.row e q xs)=>bif Nat.beq id d then some (l.set (some d) (.row d)) else bif Nat.blt id 10000 then some (((l.bX id).new d (.row e q xs)).set (some d) (.row d)) else none
 |_=>none
def mu (k:Nat) (c:List AV):Bool:=match c[k]? with
 |some .nw=>true
 |_=>false
def jN (P:Program) (h:Hint) (D:cr) (o:Oper) (q:St):Option St:=
 match o.dst,o.op with
 |some d, .assign (.const (.slice none 0 0))=>match isSlice P o.type with
  |some (e,s)=>if 0<s then some ((q.new d (.row e s [])).set (some d) (.row d)) else none
  |none=>none
 |some d, .assign x=>match aN P o.type q x with
  |some (.row id)=>bif h.Vn.contains d then Kt q id d else match q.bY id with
   |some B=>match aN P o.type B x with
    |some v=>some (B.set (some d) v)
    |none=>none
   |none=>none
  |_=>none
 |some d, .box t x=>match aN P t q x,xG P t with
  |some (.pv (.agg O)),some true=>some ((q.new d (.box t (O.map .pv))).set (some d) (.ptr d 0))
  |some (.ag O),some true=>bif(SV.ag O).mentions d then none else some ((q.new d (.box t (O.map BB))).set (some d) (.ptr d 0))
  |some v,some false=>if nC q v=true then some ((q.new d (.box t [v.bX d])).set (some d) (.ptr d 0)) else none
  |_,_=>none
 |some d, .alloc t=>bif h.rows.contains d then
   match(vJ P t).bind λN=>qg P d 0 (rf P 8 t) N with
   |some (S,l)=>some (((qj h.nest l q).new d (.box t (S.map (SV.bX d)))).set (some d) (.ptr d 0))
   |none=>none
  else match D8 P h (some d) t with
  |some z=>some ((q.new d (.box t (z.map .pv))).set (some d) (.ptr d 0))
  |none=>none
 |some d, .makeSlice t l c=>match isSlice P t,(aN P 0 q l).bind fP,(aN P 0 q c).bind fP with
  |some (e,s),some (.int _ l),some (.int _ c)=>match zeroCells P e,P.info? e with
   |some z,some i=>if 0<s/\z.length=s/\0<=l/\l<=c/\i.bytes *c.toNat<=281474976710656/\c<=9223372036854775807 then
     some ((q.new d (.row e s (List.replicate l.toNat z))).set (some d) (.row d)) else none
   |_,_=>none
  |_,_,_=>none
 |some d, .buildSlice t len G=>match iB P t len G.toList q with
  |some (e,s,xs)=>match find h.nest d with
   |none=>some ((q.new d (.row e s xs)).set (some d) (.row d))
   |some (k,K,W)=>bif Nat.blt k s&&xs.all (mu k) then some ((q.new d (.rn e s k K W (xs.map λc=>c.set k .hole) (xs.map λ_=>some []))).set (some d) (.row d)) else none
  |none=>none
 |none, .store t a x=>match aN P 0 q a,aN P t q x with
  |some (.rp id w i L),some (.row j)=>Am P q t id w i L j
  |some (.ptr id L),some (.sub j w 0 n)=>Lj P q t id L j w n
  |some a,some v=>storeAt P t q a v
  |_,_=>none
 |some d, .makeMap t r=>match P.underlying t with
  |some (.map k e)=>bif qu P q r then
    bif h.rows.contains d then
     match isSlice P e with
     |some (K,s)=>if 0<s then some ((q.new d (.mr k K s [] [])).set (some d) (.row d)) else none
     |none=>none
    else some ((q.new d (.mp k e [] [])).set (some d) (.row d)) else none
  |_=>none
 |none, .mapUpdate t m k x=>bif lW h m then Ku P q t m k x else sB P q t m k x
 |none, .insert t m k x=>bif lW h m then Ku P q t m k x else sB P q t m k x
 |some d, .lookup t m k false=>bif lW h m then DO P q t m k d else none
 |some d, .range t x=>match P.underlying t,(aN P t q x).bind fP with
  |some .string,some (.str s)=>some ((q.new d (.it s 0)).set (some d) (.ptr d 0))
  |_,_=>none
 |some d, .next x true=>match aN P 0 q x with
  |some (.ptr id 0)=>match q.ob id with
   |some (.it s pos)=>if pos<s.length then
     some (St.set { q with ob:=put q.ob id (some (.it s (pos+(Utf8.decode ⟨s.toArray⟩ pos).2))) } (some d) (.pv (.jy [.bool true, .int .i64 pos, .int .i32 (Utf8.decode ⟨s.toArray⟩ pos).1])))
    else some (q.set (some d) (.pv (.jy [.bool false])))
   |_=>none
  |_=>none
 |some d, .build t G=>bif h.rows.contains d then zb P h q d t G.toList else none
 |some d, .load t x=>bif h.take.contains d then rI P q t x d else none
 |some d, .makeFunc (.func g) first H=>bif first.isEmpty then
   match rG q H.toList with
   |some B=>(pE B H.toList).map λN=>B.set (some d) (.pv (.fn g N))
   |none=>none
  else none
 |d, .call c=>match c.callee with
  | .builtin .append=>match d,c.args.toList,c.argTypes.toList with
   |some d,[x,y],[t,Q]=>match isSlice P t,aN P t q x,aN P Q q y with
    |some (e,s),some (.row id),some y=>match q.ob id,elems q y,P.info? e with
     |some (.row K w xs),some (F,I),some i=>
      if t=Q/\e=K/\s=w/\w=F/\0<w/\(xs.length+I.length) *i.bytes<=140737488355328/\xs.length+I.length<=4611686018427387904/\i.zero.map (λz=>z.cells.size)=some w/\fN id=true then
       some ((q.new id (.row e w (xs++I))).set (some d) (.row id)) else none
     |some (.rn K w k V s2 xs zs),some (F,I),some i=>
      if t=Q/\e=K/\s=w/\w=F/\0<w/\(xs.length+I.length) *i.bytes<=140737488355328/\xs.length+I.length<=4611686018427387904/\i.zero.map (λz=>z.cells.size)=some w/\fN id=true/\I.all (mu k)=true then
       some ((q.new id (.rn e w k V s2 (xs++I.map λc=>c.set k .hole) (zs++I.map λ_=>some []))).set (some d) (.row id)) else none
     |_,_,_=>none
    |some (e,s),some (.aq id .full),some y=>match q.ob id,elems q y,P.info? e with
     |some (.row K w xs),some (F,I),some i=>
      if t=Q/\e=K/\s=w/\w=F/\0<w/\(xs.length+I.length) *i.bytes<=140737488355328/\xs.length+I.length<=4611686018427387904/\i.zero.map (λz=>z.cells.size)=some w/\fN id=true/\I.isEmpty=false then
       some ((q.new id (.row e w (xs++I))).set (some d) (.row id)) else none
     |_,_,_=>none
    |_,_,_=>none
   |_,_,_=>none
  | .builtin .delete=>match d,c.args.toList,c.argTypes.toList with
   |none,[m,k],t::_=>sA P q t m k
   |_,_,_=>none
  | .builtin .clear=>match d,c.args.toList,c.argTypes.toList with
   |none,[x],[t]=>match isSlice P t,aN P t q x with
    |some (e,s),some (.sub id w U R)=>match q.ob id,zeroCells P e with
     |some (.row K F xs),some z=>if s=w/\w=F/\z.length=w/\R<=xs.length/\e=K/\0<w then
       some { q with ob:=put q.ob id (some (.row K F (xs.take U++List.replicate (R-U) z++xs.drop R))) } else none
     |_,_=>none
    |_,_=>none
   |_,_,_=>none
  | .value f=>bif d.any h.owns.contains then iK P h D q c f d else bif d.any h.stay.contains&&wide q c f then none else bif wide q c f then gC P h D q c f d else bif c.args.toList.any (λx=>(kR h q x).isSome) then lF P h D q c f d else
   match gi q c.args.toList with
   |some B=>match aN P 0 B f,gw P B c.args.toList c.argTypes.toList with
    |some (.pv (.fn g H)),some N=>match D g ((N++H).map .pv) [] with
     |some (r,[])=>bif c.args.toList.any (iJ B)|| !r.iD then none else some (B.set d (.pv r))
     |_=>none
    |_,_=>none
   |none=>none
  |_=>none
 |_,_=>none
where
 gi (q:St) (l:List Operand):Option St:=bif l.any (rK q) then none else fu q l
 fu (q:St):List Operand->Option St
  |[]=>some q
  | .tmp i::l=>match q.env i with
   |some (.row id)=>(q.bY id).bind λB=>fu B l
   |_=>fu q l
  |_::l=>fu q l
def kQ:List SV->St->Option St
 |[],q=>some q
 | .row id::l,q=>(q.bY id).bind (kQ l)
 |_::l,q=>kQ l q
def step0 (P:Program) (h:Hint) (l:cr) (o:Oper) (q:St):Option St:=
 match cz P h l o q with
 |some v=>some (q.set o.dst v)
 |none=>jN P h l o q
def qL (l:St) (t:Nat):Option St:=
 match l.env t with
 |some (.row id)=>l.bY id
 |some (.ptr id _)=>match l.ob id with
  |some (.box _ cells)=>kQ cells l
  |_=>none
 |_=>some l
def kn:List Nat->St->Option St
 |[],q=>some q
 |t::l,q=>(qL q t).bind (kn l)
def slotsOf (o:Oper):List Nat:=o.op.operands.toList.filterMap fun
 | .tmp t=>some t
 |_=>none
def yF (h:Hint) (o:Oper):List Nat:=bif h.use.isEmpty then[] else(slotsOf o).filter h.use.contains
def step (P:Program) (h:Hint) (l:cr) (o:Oper) (q:St):Option St:=(kn (yF h o) q).bind (step0 P h l o)
def lP (q:Array Oper) (o:Oper) (w:St):Option Bool:=
 match o.guard with
 |none=>some true
 |some (j,l)=>match(q[j]?).bind (·.dst) with
  |some d=>match w.env d with
   |some (.pv (.bool b))=>some (b==l)
   |some .undef=>some false
   |_=>none
  |none=>none
def lX (P:Program) (h:Hint) (q:cr) (w:Array Oper):List Oper->St->Option St
 |[],z=>some z
 |o::l,z=>match lP w o z with
  |some b=>bif b then(step P h q o z).bind (lX P h q w l) else lX P h q w l (z.set o.dst .undef)
  |none=>none
inductive Ex where
 |normal
 |exit (id:Nat)
 |ret
 deriving DecidableEq
def TT:Nat->Ex
 |0=> .normal
 |_=> .ret
def iter (h:Hint) (key:Nat) (f:St->Option (Ex×St)):Nat->St->Option (Ex×St)
 |0,_=>none
 |n+1,q=>match f (h.canon key q) with
  |some (.normal,l)=>iter h key f n l
  |r=>r
def eU (l:Array Oper) (o:Oper):List Nat:=slotsOf o++match o.guard with
 |some (j,_)=>((l[j]?).bind (·.dst)).toList
 |none=>[]
def Om (o:Oper) (j:Nat):Bool:=o.after.toList.any λe=>Region.binds .any e&&Nat.beq e.on j
def om:Nat->List Oper->Bool
 |_,[]=>true
 |i,o::l=>o.after.toList.all (λe=> !(Region.binds .any e)||Nat.blt e.on i)&&om (i+1) l
def reach (l:Array Oper):Nat->Nat->Nat->Bool
 |0,_,_=>false
 |n+1,i,j=>match l[i]? with
  |some o=>Om o j||o.after.toList.any λe=>Region.binds .any e&&reach l n e.on j
  |none=>false
def Ob.pe:Ob->Ob
 | .row e l xs=> .row e l (xs.map λ_=>[])
 | .rn e l k w q xs _=> .rn e l k w q (xs.map λ_=>[]) []
 |_=> .it [] 0
structure ey where
 rs:List Nat:=[]
 rl:List Nat:=[]
 kp:Nat->Bool:=λ_=>false
 ws:List Nat:=[]
 ro:List Nat:=[]
 wo:List Nat:=[]
 mv:List Nat:=[]
 Ta:List Nat:=[]
 all:Bool:=false
 we:Nat->Bool:=λ_=>false
 oe:Nat->Bool:=λ_=>false
def meets (a b:List Nat):Bool:=a.any λx=>b.any (Nat.beq x)
def ey.conflict (a b:ey):Bool:=a.all||b.all||meets a.ws b.rs||meets a.rs b.ws||meets a.ws b.ws||meets a.wo b.ro||meets a.ro b.wo||meets a.wo b.wo||meets a.mv b.Ta||meets b.mv a.Ta||b.rs.any a.we||b.ro.any a.oe||b.rl.any (λj=>a.wo.contains j&& !(a.kp j))||a.rl.any (λj=>b.wo.contains j&& !(b.kp j))
def DG (q:St):List Operand->List Nat
 |[]=>[]
 | .tmp t::l=>(match q.env t with
  |some s=>s.ids
  |none=>[])++DG q l
 |_::l=>DG q l
def wI (l:St) (o:Oper):List Nat:=DG l o.op.operands.toList
def targetId:SV->Option Nat
 | .ptr id _=>some id
 | .rp id _ _ _=>some id
 |_=>none
def rZ:List Oper->List Nat
 |[]=>[]
 |o::l=>match o.op,o.dst with
  | .alloc _,some d=>d::rZ l
  |_,_=>rZ l
def rR (q:Array Oper) (l:List (Nat×ey)) (i:Nat) (f:ey):Bool:=l.all λp=>reach q 12 i p.1|| !(p.2.conflict f)
def HX:Op->Bool
 | .move _| .assign _| .pick _ _ _=>true
 |_=>false
def Ci (P:Program) (h:Hint) (o:Oper) (l:St):List Nat:=
 match o.op with
 | .call c=>match c.callee with
  | .value f=>match pK P h l c f with
   |some (_,args)=>bif o.dst.any h.stay.contains then iN l args else[]
   |none=>[]
  |_=>[]
 |_=>[]
def Ob.mentions (id:Nat):Ob->Bool
 | .box _ cells=>cells.any (SV.mentions id)
 |_=>false
def Ob.ids:Ob->List Nat
 | .box _ cells=>cells.flatMap SV.ids
 |_=>[]
def Ey (l:St) (t:Nat):List Nat:=match l.env t with
 |some s=>s.ids
 |none=>[]
def LW (l:St) (j:Nat):List Nat:=match l.ob j with
 |some o=>o.ids
 |none=>[]
def ey.fill (q l:St) (f:ey):ey:=
 {f with
  Ta:=f.mv++(f.ro++(f.wo++(f.rs.flatMap (Ey q)++(f.ws.flatMap (Ey l)++(f.ro.flatMap (LW q)++f.wo.flatMap (LW l))))))
  we:=λt=>match q.env t with
   |some v=>f.mv.any λid=>v.mentions id
   |none=>false
  oe:=λj=>match q.ob j with
   |some o=>f.mv.any λid=>o.mentions id
   |none=>false }
def jE:ey:={ all:=true }
def O2:Op->Bool
 | .indexAddr _ _ _=>true
 |_=>false
def qE (P:Program) (h:Hint) (l:Array Oper) (o:Oper) (q:St):ey:=
 {rs:=eU l o,ws:=o.dst.toList,ro:=bif HX o.op||O2 o.op then[] else wI q o++Ci P h o q,rl:=bif O2 o.op then wI q o else[] }
def oR (l:Array Oper) (o:Oper):ey:={ rs:=eU l o,ws:=o.dst.toList }
def vM (P:Program) (l:Array Oper) (o:Oper) (q:St) (a:Operand):ey:=match(aN P 0 q a).bind targetId with
 |some id=>{ rs:=eU l o,ro:=id::wI q o,wo:=[id] }
 |none=>jE
def EF (P:Program) (l:Array Oper) (o:Oper) (q:St) (c:Call):ey:=match c.args.toList,c.argTypes.toList,o.dst with
 |[x,_],[t,_],some d=>match aN P t q x with
  |some (.row id)=>{ rs:=eU l o,ws:=[d],ro:=id::wI q o,wo:=[id],mv:=[id] }
  |some (.aq id .full)=>{ rs:=eU l o,ws:=[d],ro:=id::wI q o,wo:=[id],mv:=[id] }
  |_=>jE
 |_,_,_=>jE
def Hs (P:Program) (l:Array Oper) (o:Oper) (q:St) (x:Operand) (d:Nat):ey:=match aN P 0 q x with
 |some (.rp id _ _ _)=>match q.ob id with
  |some (.rn _ _ _ _ _ _ _)=>{ rs:=eU l o,ws:=[d],ro:=[id],wo:=[id,d],mv:=[d],kp:=λj=>Nat.beq j id&& !(Nat.beq id d) }
  |_=>jE
 |_=>jE
def yo (P:Program) (l:Array Oper) (o:Oper) (w:St) (t:TypeId) (a x:Operand):ey:=match aN P 0 w a,aN P t w x with
 |some (.rp id _ _ _),some (.row j)=>{ rs:=eU l o,ro:=[id,j],wo:=[id,j,id+40000],mv:=[j,id+40000],kp:=λq=>Nat.beq q id&& !(Nat.beq id j) }
 |some (.ptr _ _),some (.sub _ _ _ _)=>jE
 |_,_=>vM P l o w a
def qD (P:Program) (h:Hint) (q:Array Oper) (o:Oper) (l:St) (c:Call) (f:Operand):ey:=match pK P h l c f with
 |some (_,args)=>{ rs:=eU q o,ws:=o.dst.toList,ro:=iN l args,wo:=iN l args,mv:=(iN l args).filter (jm false l (lV args)) }
 |none=>jE
def iQ (P:Program) (h:Hint) (l:Array Oper) (o:Oper) (q:St):ey:=
 match o.op,o.dst with
 | .store t a x,none=>yo P l o q t a x
 | .alloc _,some d=>bif h.rows.contains d then jE else { rs:=eU l o,ws:=[d],wo:=[d],mv:=[d] }
 | .buildSlice _ _ _,some d=>bif h.rows.contains d then { rs:=eU l o,ws:=[d],wo:=[d],mv:=[d] } else jE
 | .call c,_=>match c.callee with
  | .builtin .append=>EF P l o q c
  | .value f=>bif o.dst.any h.owns.contains&& !(o.dst.any (λd=>(sD h d).isSome)) then { rs:=eU l o,ws:=o.dst.toList,wo:=o.dst.toList,mv:=o.dst.toList }
   else bif !(o.dst.any h.owns.contains)&&(!(o.dst.any h.stay.contains)&&wide q c f) then qD P h l o q c f else jE
  |_=>jE
 | .load _ x,some d=>bif h.take.contains d then Hs P l o q x d else jE
 |_,_=>jE
def nH:List Nat->St->St
 |[],q=>q
 |p::l,q=>nH l (q.bX p)
def O1 (h:Hint) (l:St) (o:Oper):Bool:=
 match o.op with
 | .buildSlice _ _ _=> !(o.dst.any h.rows.contains)
 | .call c=>match c.callee with
  | .builtin .append=>false
  | .builtin .delete=>false
  | .builtin .clear=>false
  | .value f=> !(o.dst.any h.owns.contains)&&((o.dst.any h.stay.contains&&wide l c f)|| !(wide l c f||c.args.toList.any (λx=>(kR h l x).isSome)))
  |_=>true
 | .assign x=>match o.dst,x with
  |some d, .const (.slice none 0 0)=> !(h.rows.contains d)
  |some d,x=>(!(h.jK.contains d)&& !(h.Vn.contains d))|| !(iJ l x)
  |none,_=>true
 | .lookup _ x _ ok=> !(lW h x&& !ok)
 | .makeFunc _ _ _| .move _| .pick _ _ _| .binOp _ _ _ _ _| .unOp _ _ _| .convert _ _ _| .fieldAddr _ _ _| .field _ _ _| .indexAddr _ _ _| .index _ _ _| .slice _ _ _ _ _| .extract _ _| .nilCheck _=>true
 | .build _ _=> !(o.dst.any h.rows.contains)
 | .load _ _=> !(o.dst.any h.take.contains)
 |_=>false
def isW:Op->Bool
 | .buildSlice _ _ _| .build _ _| .load _ _=>true
 |_=>false
def RM (l:St):Op->Bool
 | .call c=>match c.callee with
  | .value _=> !(c.args.toList.any (iJ l))
  |_=>false
 |_=>false
def qS:List SV->List Nat
 |[]=>[]
 | .row id::l=>id::qS l
 |_::l=>qS l
def Fh (l:St) (t:Nat):ey:=
 match l.env t with
 |some (.row id)=>{ rs:=[t],ro:=[id],wo:=[id],mv:=[id] }
 |some (.ptr id _)=>match l.ob id with
  |some (.box _ cells)=>{ rs:=[t],ro:=id::qS cells,wo:=qS cells,mv:=qS cells }
  |_=>jE
 |_=>{ rs:=[t] }
def ey.then (a b:ey):ey:={ rs:=a.rs++b.rs,ws:=b.ws++a.ws,ro:=a.ro++b.ro,wo:=b.wo++a.wo,mv:=a.mv++b.mv,all:=a.all||b.all,rl:=a.rl++b.rl,kp:=λj=>(a.kp j|| !(a.wo.contains j))&&(b.kp j|| !(b.wo.contains j)) }
def Dz (P:Program) (h:Hint) (q:Array Oper) (o:Oper):List Nat->St->ey
 |[],w=>bif O1 h w o then(bif isW o.op||RM w o.op then qE P h q o w else jE) else iQ P h q o w
 |t::l,w=>match qL w t with
  |some z=>(Fh w t).then (Dz P h q o l z)
  |none=>jE
def pS (P:Program) (h:Hint) (l:Array Oper) (o:Oper) (q:St):ey:=(Dz P h l o (yF h o) q).then { rs:=eU l o }
def gM (P:Program) (h:Hint) (w:cr) (q:Array Oper):Nat->List Oper->List (Nat×ey)->St->Option St
 |_,[],_,z=>some z
 |i,o::l,B,z=>match lP q o z with
  |none=>none
  |some b=>bif b then
    bif O1 h z o&&(yF h o).isEmpty then
     match cz P h w o z with
     |some v=>bif rR q B i ((qE P h q o z).fill z (z.set o.dst v)) then gM P h w q (i+1) l ((i,(qE P h q o z).fill z (z.set o.dst v))::B) (z.set o.dst v) else none
     |none=>none
    else match step P h w o z with
     |some D=>bif rR q B i ((pS P h q o z).fill z D) then gM P h w q (i+1) l ((i,(pS P h q o z).fill z D)::B) D else none
     |none=>none
   else bif rR q B i ((oR q o).fill z (z.set o.dst .undef)) then gM P h w q (i+1) l ((i,(oR q o).fill z (z.set o.dst .undef))::B) (z.set o.dst .undef) else none
def St.Ca (l:St) (id:Nat):Option St:=
 match l.ob id with
 |some (.box _ _)=>l.lU id
 |none=>some l
 |_=>l.bY id
def tW:List Nat->St->Option St
 |[],q=>some q
 |id::l,q=>(q.Ca id).bind (tW l)
def Hint.Qt (h:Hint) (id:Nat) (q:St):Option St:=
 match find h.kI id with
 |some l=>tW l q
 |none=>some q
def exec (P:Program) (h:Hint) (l:cr) (n:Nat):Code->St->Option (Ex×St)
 | .skip,q=>some (.normal,q)
 | .label _,q=>some (.normal,q)
 | .region id w B,q=>(h.Qt id q).bind λq=>
  bif B then
   bif om 0 w.toList then(gM P h l w 0 w.toList [] (nH (rZ w.toList) q)).map λs=>(.normal,s) else none
  else(lX P h l w w.toList q).map λs=>(.normal,s)
 | .seq a b,q=>match find h.blk (b9 a) with
  |some x=>bif x.1 q then some (TT (x.2 q).1,(x.2 q).2) else none
  |none=>match exec P h l n a q with
   |some (.normal,z)=>exec P h l n b z
   |r=>r
 | .cond c a b,q=>match aN P 0 q c with
  |some (.pv (.bool t))=>bif t then exec P h l n a q else exec P h l n b q
  |_=>none
 | .block id c,q=>match exec P h l n c q with
  |some (.exit j,z)=>bif Nat.beq j id then some (.normal,z) else some (.exit j,z)
  |r=>r
 | .loop c,q=>iter h (b9 c) (exec P h l n c) n q
 | .exit id,q=>some (.exit id,q)
 | .ret,q=>some (.ret,q)
 | .scope c,q=>exec P h l n c q
 |_,_=>none
def tI:Nat->List SV->List (Nat×SV)
 |_,[]=>[]
 |i,v::l=>(i,v)::tI (i+1) l
def St.Fi (q:St) (id:Nat):Option St:=
 match q.ob id with
 |some (.box _ cells)=>(kQ cells q).bind λl=>l.lU id
 |_=>none
def Fj (q:St) (t:Nat):Option (St×AV):=
 match q.env t with
 |some (.pv v)=>some (q,v)
 |some (.ptr id 0)=>match q.Fi id with
  |some l=>match l.env t with
   |some (.cp w)=>some (l, .ref w)
   |_=>none
  |none=>none
 |some (.row id)=>match q.bY id with
  |some l=>match l.env t with
   |some (.pv v)=>some (l,v)
   |_=>none
  |none=>none
 |_=>none
def oJ (P:Program):List ResultVar->St->Option (St×List AV)
 |[],z=>some (z,[])
 | .tmp t::l,z=>match Fj z t with
  |some (w,v)=>match oJ P l w with
   |some (q,B)=>some (q,v::B)
   |none=>none
  |none=>none
 | .cell D t::l,z=>match c8 P ⟨none, .load t (.tmp D),t, "", #[],none⟩ z with
  |some (.pv v)=>match oJ P l z with
   |some (q,B)=>some (q,v::B)
   |none=>none
  |some (.row id)=>match z.bY id with
   |some w=>match c8 P ⟨none, .load t (.tmp D),t, "", #[],none⟩ w with
    |some (.pv v)=>match oJ P l w with
     |some (q,B)=>some (q,v::B)
     |none=>none
    |_=>none
   |none=>none
  |_=>none
def result:List AV->AV
 |[v]=>v
 |vs=> .jy vs
def lE (names:List Nat) (q:St):List Nat->Option (List (Nat×Ob))
 |[]=>some []
 |id::l=>match q.ob id,lE names q l with
  |some o,some w=>bif o.closed names then some ((id,o)::w) else none
  |_,_=>none
def kC (N:Nat):Code->Bool
 | .region _ l _=>l.toList.all λo=>match o.dst with
  |some d=>Nat.blt d N
  |none=>true
 | .seq a b=>kC N a&&kC N b
 | .cond _ a b=>kC N a&&kC N b
 | .block _ c=>kC N c
 | .loop c=>kC N c
 | .scope c=>kC N c
 |_=>true
def JN (fn:Func):Bool:=Nat.ble fn.ntmps 10000&& !(fn.name== "runtime.NumGoroutine")&&match fn.body with
 |some c=>kC fn.ntmps c
 |none=>true
def xw (P:Program):Bool:=P.follows .mixedOrders&&P.funcs.toList.all JN&&Nat.ble P.funcs.size 1000000
def Fz (fn:Func) (names:List Nat) (l:St):Option Nat:=
 match fn.results.toList,names with
 |[.tmp t],[10000]=>match l.env t,l.ob 10000 with
  |some (.row 10000),some (.row _ _ xs)=>some xs.length
  |some (.sub 10000 _ 0 n),some (.row _ _ _)=>some n
  |_,_=>none
 |_,_=>none
def KE (fn:Func) (l:St):Option AV:=
 match fn.results.toList with
 |[.tmp t]=>match l.env t with
  |some (.row id)=>match sG id,l.ob id with
   |true,some (.row e q xs)=>some (.jy [.jy [.self e, .c4 q xs]])
   |_,_=>none
  |_=>none
 |_=>none
def Ou (P:Program) (own:Bool) (fn:Func) (names:List Nat) (e:Ex) (q:St):Option (AV×List (Nat×Ob)):=
 match e with
 | .exit _=>none
 |_=>bif own then
   match KE fn q,lE names q names with
   |some r,some l=>some (r,l)
   |_,_=>none
  else match Fz fn names q with
  |some n=>match lE names q names with
   |some l=>some (.self n,l)
   |none=>none
  |none=>match oJ P fn.results.toList q with
   |some (w,z)=>match lE names w names with
    |some l=>some (result z,l)
    |none=>none
   |none=>none
def Ot (P:Program) (own:Bool) (fn:Func) (l:List (Nat×Ob)) (e:Ex) (q:St):Option (AV×List (Nat×Ob)):=Ou P own fn (l.map (·.1)) e q
def kH (P:Program) (H:Nat->Hint) (dm:cr):Nat->cr
 |0=>λ_ _ _=>none
 |n+1=>λf args l=>match dm f args l with
  |some r=>some r
  |none=>match P.funcs[f]? with
   |some fn=>match fn.body with
    |some c=>
     bif Nat.ble args.length fn.ntmps&&(l.map (·.1)).all (λi=> !(sG i)) then
      match exec P (H f) (kH P H dm n) n c { env:=find (tI 0 args),ob:=find l } with
      |some (e,q)=>Ot P (H f).own fn l e q
      |none=>none
     else none
    |none=>none
   |none=>none
