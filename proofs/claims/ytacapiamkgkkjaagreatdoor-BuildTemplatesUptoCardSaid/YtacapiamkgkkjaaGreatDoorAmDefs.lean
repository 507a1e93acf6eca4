/- AN ABSTRACT MACHINE over the model's code. -/
import Derived.Calls
import Derived.CallsIn
import Derived.OrdersIn
import Derived.LoopNIn
import Derived.TacticsIn
import Derived.RangeFuncIn
import Derived.Orders
import Derived.LoopN
import Derived.Scope
import Derived.Below
import Derived.Laws.OwnMore
import Derived.Maps.AppendAt
import Derived.Laws.BytesString
set_option linter.all false
def af {p:Prop} (h:p:=by omega):p:=h
def ai {p:Prop} (h:p:=by simp):p:=h
def aH {p:Prop} (h:p:=by simp;omega):p:=h
abbrev dB:=@Option.bind_eq_some_iff
abbrev gj:=@if_true
abbrev aW:=@Option.some.injEq
abbrev aU:=@congrArg
abbrev c9:=@List.cons.injEq
abbrev eN:=@and_true
abbrev gm:=@Array.getElem?_eq_some_iff
abbrev jw:=@List.mem_of_mem_drop
abbrev vX:=@List.mem_of_mem_take
abbrev bf:=@List.mem_append
abbrev jE:=@Nat.add_mul
abbrev HC:=@List.drop_succ_cons
abbrev Bj:=@List.take_succ_cons
abbrev aQ:=@Nat.le_refl
abbrev cO:=@Nat.zero_le
abbrev bz:=@Go.run_underlying
abbrev jF:=@Go.Sem.run_bind
abbrev lN:=@Go.Result.andThen_ok
abbrev dL:=@List.length_take
abbrev xb:=@Go.run_loadCells_list
abbrev cu:=@Option.map_eq_some_iff
abbrev pN:=@Option.isSome_iff_exists
abbrev aC:=@if_pos
abbrev Bk:=@List.drop_length_add_append
abbrev ku:=@List.eq_nil_of_length_eq_zero
abbrev aP:=@List.mem_of_getElem?
abbrev lP:=@List.getElem?_take
abbrev gA:=@List.foldl_cons
abbrev bM:=@List.map_cons
abbrev kz:=@Nat.add_assoc
abbrev bu:=@List.getElem?_eq_some_iff
abbrev pO:=@List.getElem?_drop
abbrev kC:=@Nat.mul_le_mul_right
abbrev aM:=@List.getElem?_eq_getElem
abbrev eY:=@Nat.zero_add
abbrev Bl:=@Go.Value.pointer.injEq
abbrev Bm:=@Go.Addr.mk.injEq
abbrev HE:=@List.drop_take
abbrev aA:=@if_neg
abbrev aJ:=@List.mem_cons
abbrev bA:=@List.length_cons
abbrev Bn:=@List.take_succ_eq_append_getElem
abbrev Bo:=@List.take_set_of_le
abbrev HF:=@List.drop_set_of_lt
abbrev dz:=@List.append_assoc
abbrev gB:=@List.cons_append
abbrev dU:=@List.nil_append
abbrev mO:=@Nat.add_zero
abbrev rW:=@Array.length_toList
abbrev Sc:=@Array.toList_zipIdx
abbrev jG:=@List.all_cons
abbrev aT:=@Bool.and_eq_true
abbrev uh:=@List.mapM_cons
abbrev fF:=@List.map_map
abbrev nW:=@Function.comp_def
abbrev cv:=@List.all_eq_true
abbrev HG:=@List.getElem?_toArray
abbrev Bp:=@Option.map_none
abbrev aj:=@cond_true
abbrev fk:=@Nat.le_trans
abbrev ck:=@Prod.mk.injEq
abbrev rX:=@Nat.eq_of_beq_eq_true
abbrev kD:=@Nat.beq_refl
abbrev uj:=@List.any_cons
abbrev kE:=@Bool.or_eq_false_iff
abbrev xd:=@Array.getElem?_setIfInBounds_ne
abbrev iY:=@List.mem_iff_getElem
abbrev HI:=@List.getElem?_eq_none_iff
abbrev xe:=@Array.getElem?_eq_getElem
abbrev fo:=@Nat.lt_of_lt_of_le
abbrev e7:=@List.getElem?_append_right
abbrev uk:=@List.replicate_succ
abbrev au:=@cond_false
abbrev nX:=@Nat.succ_mul
abbrev lQ:=@Nat.add_comm
abbrev xg:=@List.range_add
abbrev lR:=@List.ext_getElem?
abbrev gI:=@List.take_of_length_le
abbrev xk:=@Nat.zero_mul
abbrev fM:=@List.getElem?_append_left
abbrev iz:=@Go.RowKit.Below.refl
abbrev rY:=@Go.heap_alloc_new
abbrev Bq:=@Nat.mul_le_mul_left
abbrev aG:=@List.mem_map
abbrev dV:=@List.getElem?_map
abbrev rZ:=@List.range'_succ
abbrev cQ:=@Nat.blt_eq
abbrev xm:=@Go.run_storeCells_at
abbrev um:=@Go.Sem.run_pure
abbrev fN:=@List.map_nil
abbrev xo:=@Go.setRow_other
abbrev Br:=@Go.setRow_heap
abbrev r5:=@Nat.min_eq_left
abbrev bR:=@List.length_append
abbrev r6:=@not_true_eq_false
abbrev e8:=@if_false
abbrev bI:=@List.length_map
abbrev HJ:=@List.set_eq_take_append_cons_drop
abbrev HK:=@List.take_length_add_append
abbrev gC:=@Bool.or_eq_true
abbrev cU:=@Ne.symm
abbrev qg:=@List.size_toArray
abbrev jX:=@List.getElem?_set_self
abbrev u6:=@Nat.sub_mul
abbrev cE:=@List.map_append
abbrev gW:=@List.nodup_append
abbrev gE:=@Bool.not_eq_true'
abbrev qh:=@List.getElem?_set
abbrev gK:=@List.getElem?_set_ne
abbrev qi:=@List.mem_or_eq_of_mem_set
abbrev zk:=@List.set_append_left
abbrev mC:=@List.set_append_right
abbrev n9:=@Nat.lt_of_le_of_lt
abbrev mD:=@List.any_eq_false
abbrev fC:=@List.mem_filterMap
abbrev u7:=@Go.callsIn_wide
abbrev fD:=@Nat.le_of_ble_eq_true
abbrev qj:=@List.take_take
abbrev qk:=@List.nodup_nil
abbrev gF:=@List.nodup_cons
abbrev dF:=@List.mem_cons_of_mem
abbrev ql:=@Bool.and_eq_true_iff
abbrev dr:=@Bool.not_true
abbrev lz:=@Bool.false_or
abbrev dw:=@List.mem_filter
abbrev dx:=@List.mem_append_left
abbrev gX:=@List.mem_append_right
abbrev zl:=@List.filter_eq_self
abbrev mE:=@List.filter_congr
abbrev u9:=@Bool.true_or
abbrev zm:=@Bool.and_true
abbrev qm:=@List.drop_length
abbrev eP:=@List.append_nil
abbrev eG:=@Bool.false_eq_true
abbrev oa:=@false_imp_iff
abbrev iK:=@List.map_congr_left
abbrev qo:=@List.map_id
abbrev sn:=@Bool.and_self
abbrev ey:=@Option.map_some
abbrev zn:=@List.filter_eq_nil_iff
abbrev fc:=@Option.some.inj
abbrev mF:=@Nat.add_sub_cancel
abbrev gY:=@Array.toList_append
abbrev bZ:=@List.mem_singleton
abbrev sq:=@Bool.or_false
abbrev bB:=@decide_eq_false_iff_not
abbrev gZ:=@Option.bind_some
abbrev mG:=@List.not_mem_nil
abbrev qp:=@or_false
abbrev sr:=@Bool.false_and
abbrev gL:=@List.mem_range
abbrev iN:=@List.mem_cons_self
abbrev ia:=@Bool.eq_iff_iff
abbrev su:=@Option.getD_some
abbrev sw:=@Option.any_some
abbrev zo:=@List.isEmpty_iff
abbrev Eu:=@Array.all_eq_true'
abbrev eH:=@Classical.byContradiction
abbrev c7:=@List.pairwise_cons
abbrev Ev:=@List.append_of_mem
abbrev lB:=@List.pairwise_append
abbrev oc:=@Go.wpIn_mono
abbrev ve:=@Array.getElem?_append_left
abbrev lC:=@dif_pos
abbrev vf:=@Nat.le_max_left
abbrev zq:=@Nat.le_max_right
abbrev lD:=@List.any_eq_true
abbrev og:=@Nat.ble_eq_true_of_le
abbrev gM:=@Bool.true_and
abbrev eS:=@true_and
abbrev bD:=@List.getD_eq_getElem?_getD
abbrev fW:=@Int.eq_ofNat_of_zero_le
abbrev mH:=@decide_eq_true_eq
abbrev jo:=@beq_iff_eq
abbrev Ew:=@UInt8.lt_iff_toNat_lt
abbrev vg:=@List.findIdx?_cons
abbrev zu:=@List.findIdx?_eq_some_iff_getElem
abbrev oh:=@List.ext_getElem
abbrev vh:=@List.map_set
abbrev om:=@List.map_drop
abbrev vi:=@List.map_replicate
abbrev qq:=@Prod.ext
abbrev vj:=@and_assoc
abbrev zw:=@Go.mapM_some_length
abbrev vk:=@List.idxOf_cons
abbrev lE:=@beq_eq_false_iff_ne
abbrev qs:=@bne_iff_ne
abbrev oo:=@List.filter_cons
abbrev sA:=@List.prefix_refl
abbrev zx:=@List.IsPrefix.trans
abbrev dY:=@List.length_singleton
abbrev ic:=@List.pairwise_map
abbrev ig:=@List.getElem?_eq_none
abbrev sB:=@List.getElem?_cons_succ
abbrev zy:=@List.length_pos_of_mem
abbrev vm:=@List.getElem?_range
abbrev oq:=@List.mem_of_find?_eq_some
abbrev qt:=@List.find?_some
abbrev zz:=@List.find?_eq_none
abbrev Ey:=@List.length_filterMap_le
abbrev qu:=@Nat.lt_irrefl
abbrev ot:=@Nat.sub_self
abbrev fK:=@List.length_nil
abbrev mI:=@List.length_replicate
abbrev mJ:=@Nat.testBit_and
abbrev vn:=@Nat.eq_of_testBit_eq
abbrev Ez:=@List.findIdx?_eq_none_iff
abbrev cG:=@List.getElem_mem
abbrev sC:=@List.getElem_inj
abbrev lF:=@List.range_succ
abbrev lH:=@List.getElem_map
abbrev EA:=@List.getElem_range
abbrev aS:=@Int.toNat_natCast
abbrev zA:=@List.range_eq_range'
abbrev sD:=@List.drop_eq_nil_of_le
abbrev jY:=@List.drop_eq_getElem_cons
abbrev zB:=@decide_false
abbrev sE:=@Nat.and_le_left
abbrev zD:=@Nat.testBit_lt_two_pow
abbrev sF:=@Nat.pow_le_pow_right
abbrev qv:=@decide_eq_decide
abbrev jq:=@List.mem_map_of_mem
abbrev jZ:=@List.take_append_drop
abbrev fE:=@Bool.not_false
abbrev vo:=@Nat.sub_zero
abbrev EB:=@List.filter_filter
abbrev dy:=@List.take_add_one
abbrev fZ:=@List.take_length
abbrev zF:=@decide_true
abbrev qw:=@List.mem_take_iff_getElem
abbrev zG:=@Bool.true_eq_false
abbrev vp:=@List.take_append_of_le_length
abbrev EC:=@List.getElem?_cons_zero
abbrev mK:=@List.take_left'
abbrev ED:=@List.length_eq_one_iff
abbrev vq:=@List.length_filter_le
abbrev EE:=@List.filter_append
abbrev js:=@List.pairwise_iff_getElem
abbrev ou:=@List.length_eq_zero_iff
abbrev zH:=@List.filter_sublist
abbrev sG:=@Nat.lt_trichotomy
abbrev mL:=@List.find?_cons
abbrev qx:=@List.flatMap_cons
abbrev qy:=@List.drop_zero
abbrev EF:=@Option.isSome_some
abbrev bN:=@decide_eq_true_iff
abbrev iO:=@List.length_set
abbrev zI:=@Int.lt_trichotomy
abbrev zJ:=@List.idxOf_append
abbrev sH:=@List.set_cons_zero
abbrev vr:=@List.drop_append_of_le_length
abbrev zK:=@List.drop_left
abbrev zL:=@List.take_zero
abbrev zM:=@List.replicate_zero
abbrev vt:=@List.replicate_succ'
abbrev qz:=@List.getElem?_replicate
abbrev gu:=@List.mem_iff_getElem?
abbrev ow:=@Nat.mul_le_mul
abbrev sI:=@List.pairwise_singleton
abbrev sJ:=@List.sum_cons
abbrev EG:=@List.getElem_cons_succ
abbrev EH:=@List.contains_iff_mem
abbrev iP:=@List.length_drop
abbrev mM:=@of_decide_eq_true
abbrev vv:=@decide_eq_true
abbrev mN:=@Int.le_refl
abbrev zN:=@Array.getElem?_modify
abbrev zO:=@Nat.mul_one
abbrev zP:=@decide_eq_false
abbrev zQ:=@of_decide_eq_false
abbrev EI:=@Array.getElem?_eq_none
abbrev vw:=@List.flatten_cons
abbrev qA:=@List.getElem!_eq_getElem?_getD
abbrev EJ:=@List.getElem!_toArray
abbrev iQ:=@Go.Addr.add_lit
abbrev vz:=@Go.wpList_append_own
abbrev vA:=@Go.World.ownsRow_made
abbrev zR:=@Go.callsIn_of_wp
abbrev vB:=@Array.replicate_succ
abbrev vC:=@Array.replicate_zero
abbrev vD:=@List.push_toArray
abbrev vE:=@List.append_toArray
abbrev zS:=@Array.getElem?_toList
open BitVec (ofInt)
namespace Go.AM
inductive AV where
 |bool (b:Bool)
 |int (k:IntKind) (n:Int)
 |str (s:List UInt8)
 |dK (sz:Nat) (xs:List (List AV))
 |agg (cs:List AV)
 |fn (f:Nat) (caps:List AV)
 |gy (vs:List AV)
 |ref (cs:List AV)
 |mp (ks vs:List AV)
 |self (n:Nat)
 |lY
 |ux
 |hole
 deriving Inhabited
inductive pq where
 |v (a:AV)
 |p (id:Nat)
 |r (id:Nat)
 deriving Inhabited
inductive Ak where
 |full
 |nr (i:Nat)
 |bs (n:Nat)
 deriving Inhabited
inductive SV where
 |undef
 |any
 |pv (v:AV)
 |ptr (id off:Nat)
 |row (id:Nat)
 |rp (id sz i off:Nat)
 |sub (id sz lo hi:Nat)
 |cp (cs:List AV)
 |cl (f:Nat) (caps:List pq)
 |two (v w:SV)
 |ag (cs:List pq)
 |aq (id:Nat) (q:Ak)
 deriving Inhabited
inductive Ob where
 |box (t:TypeId) (cells:List SV)
 |row (e:TypeId) (sz:Nat) (xs:List (List AV))
 |mp (k e:TypeId) (ks vs:List AV)
 |mr (k e:TypeId) (sz:Nat) (ks:List AV) (vs:List (Option (List (List AV))))
 |it (s:List UInt8) (pos:Nat)
  |lp (xs:List AV)
  |rn (e:TypeId) (sz k:Nat) (e':TypeId) (sz':Nat) (xs:List (List AV)) (ys:List (Option (List (List AV))))
 deriving Inhabited
structure St where
 env:Nat->Option SV
 ob:Nat->Option Ob
def AV.cells:AV->List AV
 | .agg l=>l
 |v=>[v]
def AV.Iy:AV->Bool
 | .gy _=>false
 |_=>true
def AV.Yg:AV->Bool
 | .gy _=>true
 |_=>false
def AV.jT:AV->Bool
 | .self _=>false
 | .gy l=>bif Nat.beq l.length 1 then !(l.any AV.Yg) else true
 |_=>true
def AV.scalar:AV->Bool
 | .bool _| .int _ _| .str _=>true
 |_=>false
def AV.plain:AV->Bool
 | .gy l=>l.all AV.scalar
 |v=>v.scalar
def find {q:Type}:List (Nat×q)->Nat->Option q
 |[],_=>none
 |(j,v)::l,i=>cond (Nat.beq j i) (some v) (find l i)
def put {l:Type} (m:Nat->Option l) (d:Nat) (v:Option l):Nat->Option l:=λi=>cond (Nat.beq d i) v (m i)
def St.set (l:St) (d:Option Nat) (v:SV):St:=
 match d with
 |some d=>{ l with env:=put l.env d (some v) }
 |none=>l
structure Hint where
 loops:List (Nat×List Nat×List Nat):=[]
 rows:List Nat:=[]
 nq:List Nat:=[]
 ga:List Nat:=[]
 nS:List (Nat×List Nat):=[]
 stay:List Nat:=[]
 keep:List Nat:=[]
 blk:List (Nat×(St->Bool)×(St->Nat×St)):=[]
 use:List Nat:=[]
 owns:List Nat:=[]
 own:Bool:=false
 ux:List (Nat×List (Nat×TypeId×Nat)):=[]
 take:List Nat:=[]
 Qb:List (Nat×List Nat):=[]
 nest:List (Nat×Nat×TypeId×Nat):=[]
 mvs:List Nat:=[]
 bx:List Nat:=[]
 uP:List (Nat×Nat×List Nat):=[]
def vK {q:Type} (m:Nat->Option q):List Nat->List (Nat×q)
 |[]=>[]
 |i::l=>match m i with
  |some v=>(i,v)::vK m l
  |none=>vK m l
def Hint.canon (h:Hint) (key:Nat) (w:St):St:=
 match find h.loops key with
 |some (l,q)=>{ env:=find (vK w.env l),ob:=find (vK w.ob q) }
 |none=>w
def fG:Code->Nat
 | .region id _ _=>id
 | .seq a _=>fG a
 | .cond _ a _=>fG a
 | .block _ c=>fG c
 | .loop c=>fG c
 | .scope c=>fG c
 |_=>0
def isSlice (P:Program) (t:TypeId):Option (TypeId×Nat):=
 match P.underlying t with
 |some (.slice e)=>(P.info? e).map λi=>(e,i.size)
 |_=>none
def Es (P:Program) (t:TypeId):Option Bool:=
 match P.underlying t with
 |some (.struct _)|some (.array _ _)=>some true
 |some _=>some false
 |none=>none
def mh (P:Program) (t:TypeId):Option Nat:=(P.info? t).map (·.size)
def ofConst (P:Program) (t:TypeId):Value->Option AV
 | .bool b=>some (.bool b)
 | .int k n=>some (.int k n)
 | .string s=>some (.str s.data.toList)
 | .slice none 0 0=>(isSlice P t).map λx=> .dK x.2 []
 | .pointer none=>some .lY
 | .nilFunc=>some .hole
 | .map none=>match P.underlying t with
  |some (.map _ _)=>some (.mp [] [])
  |_=>none
 |_=>none
def bw (P:Program) (t:TypeId) (st:St):Operand->Option SV
 | .tmp i=>st.env i
 | .const v=>(ofConst P t v).map .pv
 | .func f=>some (.pv (.fn f []))
 | .global _=>none
def tV (P:Program):Nat->TypeId->List TypeId
 |0,_=>[]
 |n+1,t=>match P.underlying t with
  |some (.struct l)=>l.toList.flatMap λf=>tV P n f.type
  |some (.array m e)=>(List.replicate m (tV P n e)).flatten
  |_=>[t]
def oH (P:Program):List TypeId->List Value->Option (List AV)
 |[],[]=>some []
 |t::l,v::q=>match ofConst P t v,oH P l q with
  |some a,some as=>some (a::as)
  |_,_=>none
 |_,_=>none
def zeroCells (P:Program) (t:TypeId):Option (List AV):=
 match P.info? t with
 |some i=>match i.zero with
  |some z=>oH P (tV P 8 t) z.cells.toList
  |none=>none
 |none=>none
def FQ:List Nat->List AV->Option (List AV)
 |[],l=>some l
 |k::q,l=>match l[k]? with
  |some (.dK _ [])=>(FQ q l).map λz=>z.set k .ux
  |_=>none
def OD (P:Program) (h:Hint) (d:Option Nat) (t:TypeId):Option (List AV):=
 match d.bind (find h.Qb) with
 |some l=>(zeroCells P t).bind (FQ l)
 |none=>zeroCells P t
def GI (op:BinOp) (k:IntKind) (a b:Int):Option AV:=
 match op with
 | .add=>some (.int k (k.wrap (a+b)))
 | .sub=>some (.int k (k.wrap (a-b)))
 | .mul=>some (.int k (k.wrap (a *b)))
 | .quo=>if b=0 then none else some (.int k (k.wrap (a.tdiv b)))
 | .rem=>if b=0 then none else some (.int k (a.tmod b))
 | .and=>some (.int k (k.wrap (ofInt k.bits a&&&ofInt k.bits b).toNat))
 | .or=>some (.int k (k.wrap (ofInt k.bits a|||ofInt k.bits b).toNat))
 | .xor=>some (.int k (k.wrap (ofInt k.bits a^^^ ofInt k.bits b).toNat))
 | .andNot=>some (.int k (k.wrap (ofInt k.bits a&&& ~~~ofInt k.bits b).toNat))
 | .eql=>some (.bool (a==b))
 | .neq=>some (.bool (a !=b))
 | .lss=>some (.bool (a<b))
 | .leq=>some (.bool (a<=b))
 | .gtr=>some (.bool (a>b))
 | .geq=>some (.bool (a>=b))
 | .shl| .shr=>none
def Cc (op:BinOp) (k:IntKind) (a b:Int):Option AV:=
 if b<0 then none else
 match op with
 | .shl=>some (.int k (k.wrap (a *2^ min b.toNat k.bits)))
 | .shr=>some (.int k (a.fdiv (2^ min b.toNat k.bits)))
 |_=>none
def Xm (op:BinOp) (a b:List UInt8):Option AV:=
 match op with
 | .add=>if a.length+b.length<=9223372036854775807 then some (.str (a++b)) else none
 | .eql=>some (.bool (a==b))
 | .neq=>some (.bool !(a==b))
 | .lss=>some (.bool (Op.bytesLess a b))
 | .leq=>some (.bool (Op.bytesLess a b||a==b))
 | .gtr=>some (.bool !(Op.bytesLess a b||a==b))
 | .geq=>some (.bool !(Op.bytesLess a b))
 |_=>none
def xG:AV->AV->Option Bool
 | .str a, .str b=>some (a==b)
 | .int k a, .int k' b=>if k=k' then some (a==b) else none
 | .bool a, .bool b=>some (a==b)
 |_,_=>none
def kI (P:Program) (k:TypeId) (key:AV):Bool:=
 match P.underlying k,key with
 |some .string, .str _=>true
 |some (.int q), .int l _=>q==l
 |some .bool, .bool _=>true
 |_,_=>false
def Np (P:Program) (xs l:List AV):List Field->Option Bool
 |[]=>some true
 |f::w=>match xs[f.offset]?,l[f.offset]? with
  |some a,some b=>bif !(f.name== "_")&&kI P f.type a&&kI P f.type b&&(mh P f.type).isSome then
    match xG a b,Np P xs l w with
    |some r,some q=>some (r&&q)
    |_,_=>none
   else none
  |_,_=>none
def Vl (P:Program) (op:BinOp) (t:TypeId) (xs q:List AV):Option AV:=
 match P.underlying t with
 |some (.struct l)=>bif !(P.stoodInHeld t)&& !(P.eqGuardType P.depth t) then
   match op,Np P xs q l.toList with
   | .eql,some b=>some (.bool b)
   | .neq,some b=>some (.bool !b)
   |_,_=>none
  else none
 |_=>none
def bin (P:Program) (op:BinOp) (t:TypeId) (x y:AV):Option AV:=
 match x,y with
 | .agg xs, .agg l=>Vl P op t xs l
 | .int k a, .int k' b=>match op with
  | .shl| .shr=>Cc op k a b
  |_=>if k=k' then GI op k a b else none
 | .str a, .str b=>Xm op a b
 | .bool a, .bool b=>match P.underlying t,op with
  |some .bool, .eql=>some (.bool (a==b))
  |some .bool, .neq=>some (.bool !(a==b))
  |_,_=>none
 |_,_=>none
def un (op:UnOp) (x:AV):Option AV:=
 match op,x with
 | .neg, .int k n=>some (.int k (k.wrap (0-n)))
 | .not, .bool b=>some (.bool !b)
 |_,_=>none
def jg :SV->Option AV
 | .pv v=>some v
 |_=>none
def nE:List SV->Option (List AV)
 |[]=>some []
 | .pv v::l=>(nE l).map (v:: ·)
 |_::_=>none
def xq:List SV->Option (List pq)
 |[]=>some []
 | .pv v::l=>(xq l).map (.v v:: ·)
 | .row id::l=>(xq l).map (.r id:: ·)
 |_::_=>none
def ji (P:Program) (t:TypeId) (l:List AV):Option AV:=
 match Es P t,mh P t with
 |some true,some n=>if n<=l.length then some (.agg (l.take n)) else none
 |some false,some _=>l[0]?
 |_,_=>none
def xy (P:Program) (t:TypeId) (f:Nat):Option Field:=
 match P.underlying t with
 |some (.struct l)=>l[f]?
 |_=>none
def yH (place:Nat->Option (Nat×Nat)) (cells:List AV):List (Nat×AV)->Option (List AV)
 |[]=>some cells
 |(i,v)::q=>match place i with
  |none=>none
  |some (l,size)=>if v.cells.length=size/\l+size<=cells.length then yH place (cells.take l++v.cells++cells.drop (l+size)) q else none
def qd (P:Program) (t:TypeId) (f:Nat):Option (Nat×Nat):=
 match xy P t f with
 |some fd=>(mh P fd.type).map λn=>(fd.offset,n)
 |none=>none
def partsOf (P:Program) (ty:Nat->TypeId) (st:St):List (Nat×Operand)->Option (List (Nat×AV))
 |[]=>some []
 |(i,x)::l=>match(bw P (ty i) st x).bind jg,partsOf P ty st l with
  |some v,some q=>some ((i,v)::q)
  |_,_=>none
def E7 (P:Program) (t:TypeId) (i:Nat):TypeId:=((xy P t i).map (·.type)).getD 0
def chunks (q:Nat):Nat->List AV->List (List AV)
 |0,_=>[]
 |n+1,l=>l.take q::chunks q n (l.drop q)
def uB (z:List AV):Nat->List AV
 |0=>[]
 |n+1=>z++uB z n
def elems (q:St):SV->Option (Nat×List (List AV))
 | .pv (.dK l xs)=>some (l,xs)
 | .row id=>match q.ob id with
  |some (.row _ l xs)=>some (l,xs)
  |_=>none
 | .sub id s z w=>match q.ob id with
  |some (.row _ l xs)=>bif Nat.beq s l then some (l,(xs.take w).drop z) else none
  |_=>none
 |_=>none
def lenOf (l:St):SV->Option Nat
 | .pv (.dK _ xs)=>some xs.length
 | .row id=>match l.ob id with
  |some (.row _ _ xs)=>some xs.length
  |some (.rn _ _ _ _ _ xs _)=>some xs.length
  |_=>none
 | .aq _ (.bs n)=>some n
 |_=>none
def rz (key:AV):List AV->Option (Option Nat)
 |[]=>some none
 |x::l=>match xG key x with
  |some true=>some (some 0)
  |some false=>(rz key l).map λr=>r.map (· +1)
  |none=>none
def WI {l:Type} (key:AV) (ks:List AV) (q:List l):Option (Option l):=
 match rz key ks with
 |some (some i)=>(q[i]?).map some
 |some none=>some none
 |none=>none
def D5 {q:Type} (key:AV) (v:q) (l:List AV) (w:List q):Option (List AV×List q):=
 match rz key l with
 |some (some i)=>some (l,w.set i v)
 |some none=>some (l++[key],w++[v])
 |none=>none
def mdel {w:Type} (key:AV) (l:List AV) (q:List w):Option (List AV×List w):=
 match rz key l with
 |some (some i)=>some (l.eraseIdx i,q.eraseIdx i)
 |some none=>some (l,q)
 |none=>none
def maps (w:St):SV->Option (List AV×List AV)
 | .pv (.mp l q)=>some (l,q)
 | .row id=>match w.ob id with
  |some (.mp _ _ l q)=>some (l,q)
  |_=>none
 |_=>none
def Ij (q:St):SV->Option (List AV)
 | .row id=>match q.ob id with
  |some (.mr _ _ _ l _)=>some l
  |_=>none
 |_=>none
def qP (P:Program) (t:TypeId):Option AV:=
 match P.info? t with
 |some i=>match i.zero with
  |some (.agg l)=>(oH P (tV P 8 t) l.toList).map .agg
  |some v=>ofConst P t v
  |none=>none
 |none=>none
def found (ok:Bool) (v:AV) (b:Bool):AV:=bif ok then .gy [v, .bool b] else v
def bytesOf:List (List AV)->Option (List UInt8)
 |[]=>some []
 |[.int .u8 n]::l=>(bytesOf l).map (UInt8.ofNat n.toNat:: ·)
 |_=>none
def iA (w:Option SV) (l:Nat) (q:Nat):Option Nat:=
 match w with
 |none=>some l
 |some (.pv (.int _ i))=>if 0<=i/\i<=q then some i.toNat else none
 |some _=>none
def oz (P:Program) (l:St):Option Operand->Option (Option SV)
 |none=>some none
 |some x=>(bw P 0 l x).map some
def aex (l:Bool):AV->AV->Option AV
 | .int k a, .int k' b=>if k=k' then some (.int k (if l then(if b>a then b else a) else(if b<a then b else a))) else none
 | .str a, .str b=>some (.str (bif l then(bif !(Op.bytesLess a b) then a else b) else(bif Op.bytesLess a b||a==b then a else b)))
 |_,_=>none
def nM (P:Program) (z:St) (q:Bool) (w:AV):List Operand->Option AV
 |[]=>some w
 |x::l=>match(bw P 0 z x).bind jg with
  |some v=>match aex q w v with
   |some r=>nM P z q r l
   |none=>none
  |none=>none
def yV (P:Program) (c:Call) (q:St):Option SV:=
 match c.callee,c.args.toList with
 | .builtin .len,[x]=>match c.argTypes.toList with
  |[t]=>match P.underlying t,bw P t q x with
   |some .string,some (.pv (.str s))=>some (.pv (.int .i64 s.length))
   |some (.slice _),some (.pv .ux)=>some (.pv (.int .i64 0))
   |some (.slice _),some (.sub _ _ z w)=>some (.pv (.int .i64 ((w-z:Nat):Int)))
   |some (.slice _),some v=>(lenOf q v).map λ(n:Nat)=>SV.pv (.int .i64 (n:Int))
   |some (.map _ _),some v=>(maps q v).map λe=> .pv (.int .i64 e.1.length)
   |_,_=>none
  |_=>none
 | .builtin .max,x::l=>match(bw P 0 q x).bind jg with
  |some v=>(nM P q true v l).map .pv
  |none=>none
 | .builtin .min,x::l=>match(bw P 0 q x).bind jg with
  |some v=>(nM P q false v l).map .pv
  |none=>none
 |_,_=>none
def D0 (P:Program) (q:St) (n:Nat) (e:TypeId) (x z:Operand):Option SV:=
 match mh P e,bw P 0 q x,bw P 0 q z with
 |some s,some (.ptr id l),some (.pv (.int _ i))=>if 0<=i/\i<n/\0<s then some (.ptr id (l+i.toNat *s)) else none
 |some s,some (.rp id B j l),some (.pv (.int _ i))=>if 0<=i/\i<n/\0<s then some (.rp id B j (l+i.toNat *s)) else none
 |some s,some (.cp w),some (.pv (.int _ i))=>if 0<=i/\i<n/\0<s then some (.cp (w.drop (i.toNat *s))) else none
 |_,_,_=>none
def xD (P:Program) (q:St) (t:TypeId) (x B:Operand):Option SV:=
 match isSlice P t,bw P t q x,bw P 0 q B with
 |some (_,s),some (.pv (.dK l xs)),some (.pv (.int _ i))=>if s=l/\0<=i then(xs[i.toNat]?).map .cp else none
 |some (_,s),some (.row id),some (.pv (.int _ i))=>match q.ob id with
  |some (.row _ l xs)=>if s=l/\0<=i/\i.toNat<xs.length then some (.rp id l i.toNat 0) else none
  |some (.rn _ l _ _ _ xs _)=>if s=l/\0<=i/\i.toNat<xs.length then some (.rp id l i.toNat 0) else none
  |_=>none
 |some (_,s),some (.sub id l w z),some (.pv (.int _ i))=>if s=l/\0<=i/\i.toNat<z-w then some (.rp id l (w+i.toNat) 0) else none
 |some (_,s),some (.aq id (.bs n)),some (.pv (.int _ i))=>if s=1/\0<=i/\i.toNat<n then some (.ptr id i.toNat) else none
 |_,_,_=>none
def zX (P:Program) (z:Option (List AV)) (t:TypeId) (l:Array (Nat×Operand)) (B:St):Option SV:=
 match P.underlying t with
 |some (.struct D)=>match z,partsOf P (E7 P t) B l.toList with
  |some z,some q=>if q.all (λp=>p.2.Iy)=true/\D.toList.all (λf=>(mh P f.type).isSome)=true then(yH (qd P t) z q).map λw=> .pv (.agg w) else none
  |_,_=>none
 |some (.array _ e)=>match z,partsOf P (λ_=>e) B l.toList,mh P e with
  |some z,some q,some s=>if q.all (λp=>p.2.Iy)=true then(yH (λi=>some (i *s,s)) z q).map λw=> .pv (.agg w) else none
  |_,_,_=>none
 |_=>none
def XZ (P:Program) (l:St) (t:TypeId) (x:Operand) (w q:Option Operand) (z:Operand):Option SV:=
 match w,q with
 |none,some q=>match bw P t l x with
  |some (.row id)=>match l.ob id,isSlice P t,bw P 0 l q,bw P 0 l z with
   |some (.row _ B xs),some (_,s),some (.pv (.int _ a)),some (.pv (.int _ b))=>if s=B/\a=(xs.length:Int)/\b=(xs.length:Int) then some (.aq id .full) else none
   |_,_,_,_=>none
  |_=>none
 |_,_=>none
def fe (P:Program) (o:Oper) (q:St):Option SV:=
 match o.op with
 | .move x| .assign x=>bw P o.type q x
 | .pick c a b=>match bw P 0 q c with
  |some (.pv (.bool t))=>bif t then bw P o.type q a else bw P o.type q b
  |_=>none
 | .binOp op t x y _=>match(bw P t q x).bind jg,(bw P t q y).bind jg with
  |some a,some b=>(bin P op t a b).map .pv
  |_,_=>none
 | .unOp op _ x=>match(bw P 0 q x).bind jg with
  |some a=>(un op a).map .pv
  |none=>none
 | .convert src N x=>match P.underlying src,P.underlying N with
  |some (.slice e),some .string=>match P.underlying e,mh P e,(bw P src q x).bind (elems q) with
   |some (.int .u8),some 1,some (1,xs)=>(bytesOf xs).map λb=> .pv (.str b)
   |_,_,_=>none
  |some _,some (.int k)=>match(bw P 0 q x).bind jg with
   |some (.int _ n)=>some (.pv (.int k (k.wrap n)))
   |_=>none
  |some _,some .string=>match(bw P 0 q x).bind jg with
   |some (.str s)=>some (.pv (.str s))
   |_=>none
  |_,_=>none
 | .call c=>yV P c q
 | .nilCheck x=>match bw P 0 q x with
  |some (.ptr id w)=>some (.ptr id w)
  |some (.cp B)=>some (.cp B)
  |some (.pv (.ref B))=>some (.pv (.ref B))
  |some (.rp id D i w)=>some (.rp id D i w)
  |_=>none
 | .fieldAddr t x f=>match xy P t f with
  |some fd=>match mh P fd.type with
   |some 0=>none
   |some _=>match bw P 0 q x with
    |some (.ptr id w)=>some (.ptr id (w+fd.offset))
    |some (.cp B)=>some (.cp (B.drop fd.offset))
    |some (.pv (.ref B))=>some (.cp (B.drop fd.offset))
    |some (.rp id D i w)=>some (.rp id D i (w+fd.offset))
    |_=>none
   |none=>none
  |none=>none
 | .field t x f=>match xy P t f,(bw P 0 q x).bind jg with
  |some fd,some (.agg B)=>(ji P fd.type (B.drop fd.offset)).map .pv
  |_,_=>none
 | .indexAddr t x K=>match P.underlying t with
  |some (.array n e)=>D0 P q n e x K
  |_=>xD P q t x K
 | .index t x K=>match P.underlying t,bw P t q x,bw P 0 q K with
  |some .string,some (.pv (.str s)),some (.pv (.int _ i))=>if 0<=i then(s[i.toNat]?).map λb=> .pv (.int .u8 b.toNat) else none
  |_,_,_=>none
 | .load t x=>match bw P 0 q x with
  |some (.cp B)=>(ji P t B).map .pv
  |some (.pv (.ref B))=>(ji P t B).map .pv
  |some (.rp id D i w)=>match q.ob id with
   |some (.row _ I xs)=>if D=I then(xs[i]?).bind λc=>(ji P t (c.drop w)).map .pv else none
   |some (.rn _ I k _ _ xs _)=>if D=I/\w=k/\i<xs.length/\Es P t=some false then some (.aq id (.nr i)) else none
   |_=>none
  |some (.ptr id w)=>match q.ob id with
   |some (.box _ cells)=>match Es P t with
    |some false=>if(mh P t).isSome then cells[w]? else none
    |some true=>match mh P t with
     |some n=>if w+n<=cells.length then match nE ((cells.drop w).take n) with
       |some B=>some (.pv (.agg B))
       |none=>(xq ((cells.drop w).take n)).map .ag
      else none
     |none=>none
    |none=>none
   |_=>none
  |_=>none
 | .slice t x G F none=>match P.underlying t,bw P t q x,oz P q G,oz P q F with
  |some .string,some (.pv (.str s)),some G,some F=>match iA F s.length s.length with
   |some h=>(iA G 0 h).map λl=> .pv (.str ((s.take h).drop l))
   |none=>none
  |some (.slice _),some (.pv (.dK D xs)),some G,some F=>match isSlice P t,iA F xs.length xs.length with
   |some (_,s),some h=>if s=D then(iA G 0 h).map λl=> .pv (.dK D ((xs.take h).drop l)) else none
   |_,_=>none
  |some (.slice _),some (.row id),some G,some F=>match isSlice P t,q.ob id with
   |some (_,s),some (.row _ D xs)=>match iA F xs.length xs.length with
    |some h=>if s=D then(iA G 0 h).map λl=> .sub id D l h else none
    |none=>none
   |_,_=>none
  |some (.slice _),some (.sub id D a b),some G,some F=>match isSlice P t,iA F (b-a) (b-a) with
   |some (_,s),some h=>if s=D then(iA G 0 h).map λl=> .sub id D (a+l) (a+h) else none
   |_,_=>none
  |_,_,_,_=>none
 | .slice t x G F (some S)=>XZ P q t x G F S
 | .extract x i=>match bw P 0 q x with
  |some (.pv (.gy Q))=>(Q[i]?).map .pv
  |some (.two v b)=>match i with
   |0=>some v
   |1=>some b
   |_=>none
  |_=>none
 | .lookup t x k ok=>match P.underlying t with
  |some (.map L R)=>match(bw P t q x).bind (Ij q),(bw P L q k).bind jg with
   |some O,some key=>bif ok&&kI P L key&&(qP P R).isSome then(rz key O).map λr=> .two .any (.pv (.bool r.isSome)) else none
   |_,_=>match(bw P t q x).bind (maps q),(bw P L q k).bind jg with
   |some (O,Q),some key=>bif kI P L key then
     match WI key O Q with
     |some (some v)=>some (.pv (found ok v true))
     |some none=>(qP P R).map λz=> .pv (found ok z false)
     |none=>none
    else none
   |_,_=>none
  |_=>none
 | .build t H=>zX P (zeroCells P t) t H q
 |_=>none
def pq.mentions (id:Nat):pq->Bool
 | .p j| .r j=>Nat.beq j id
 | .v _=>false
def SV.mentions (id:Nat):SV->Bool
 | .ptr j _| .row j| .rp j _ _ _| .sub j _ _ _=>Nat.beq j id
 | .cl _ l=>l.any (pq.mentions id)
 | .ag l=>l.any (pq.mentions id)
 | .two v w=>v.mentions id||w.mentions id
 | .aq j _=>Nat.beq j id||Nat.beq (j+40000) id
 |_=>false
def SV.dD (id:Nat) (v:SV):SV:=bif v.mentions id then .any else v
def Ob.dD (id:Nat):Ob->Ob
 | .box t cells=> .box t (cells.map (SV.dD id))
 |o=>o
def St.dD (l:St) (id:Nat):St:=
 {env:=λi=>(l.env i).map (SV.dD id),ob:=put (λi=>(l.ob i).map (Ob.dD id)) id none }
def St.new (l:St) (id:Nat) (o:Ob):St:=
 let s:=l.dD id
 {s with ob:=put s.ob id (some o) }
def SV.dh (id:Nat) (v:AV):SV->SV
 | .row j=>bif Nat.beq j id then .pv v else .row j
 | .ag [.r j]=>bif Nat.beq j id then .pv (.agg [v]) else .ag [.r j]
 |s=>s.dD id
def pG {q:Type}:List (Option q)->Option (List q)
 |[]=>some []
 |some x::l=>(pG l).map (x:: ·)
 |none::_=>none
def w5 (k l:Nat):List (List AV)->List (List (List AV))->List (List AV)
 |x::xs,y::q=>x.set k (.dK l y)::w5 k l xs q
 |_,_=>[]
def Ob.val:Ob->Option AV
 | .row _ q xs=>some (.dK q xs)
 | .mp _ _ w B=>some (.mp w B)
 | .mr _ _ q w B=>(pG B).map λl=> .mp w (l.map (.dK q))
 | .box _ _=>none
 | .it _ _=>none
 | .lp _=>none
 | .rn _ q k _ z xs D=>(pG D).map λl=> .dK q (w5 k z xs l)
def Ob.dh (id:Nat) (v:AV):Ob->Ob
 | .box t cells=> .box t (cells.map (SV.dh id v))
 |o=>o
def iJ (id:Nat):Bool:=Nat.blt id 10000
def St.dh (l:St) (id:Nat):Option St:=
 match iJ id,(l.ob id).bind Ob.val with
 |true,some v=>some { env:=λi=>(l.env i).map (SV.dh id v),ob:=put (λi=>(l.ob i).map (Ob.dh id v)) id none }
 |_,_=>none
def SV.qZ (id:Nat) (q:List AV):SV->SV
 | .ptr j l=>bif Nat.beq j id then .cp (q.drop l) else .ptr j l
 |s=>s.dD id
def Ob.qZ (id:Nat) (l:List AV):Ob->Ob
 | .box t cells=> .box t (cells.map (SV.qZ id l))
 |o=>o
def St.qZ (l:St) (id:Nat):Option St:=
 match iJ id,l.ob id with
 |true,some (.box _ cells)=>match nE cells with
  |some q=>some { env:=λi=>(l.env i).map (SV.qZ id q),ob:=put (λi=>(l.ob i).map (Ob.qZ id q)) id none }
  |none=>none
 |_,_=>none
def xN (q:St):List Operand->Option St
 |[]=>some q
 | .tmp i::l=>match q.env i with
  |some (.ptr id _)=>(q.qZ id).bind λw=>xN w l
  |_=>xN q l
 |_::l=>xN q l
def kY (q:St):List pq->Option (List AV)
 |[]=>some []
 | .v a::l=>(kY q l).map (a:: ·)
 | .r id::l=>match(q.ob id).bind Ob.val,kY q l with
  |some v,some w=>some (v::w)
  |_,_=>none
 | .p _::_=>none
def nj (l:St):SV->Option AV
 | .pv v=>some v
 | .row id=>(l.ob id).bind Ob.val
 | .ag q=>(kY l q).map .agg
 | .aq id (.nr i)=>match l.ob id with
  |some (.rn _ _ _ _ w _ z)=>match z[i]? with
   |some (some B)=>some (.dK w B)
   |_=>none
  |_=>none
 |_=>none
def j8 (P:Program) (l:St):List Operand->List TypeId->Option (List AV)
 |[],_=>some []
 |x::xs,q=>match(bw P (q.headD 0) l x).bind (nj l),j8 P l xs q.tail with
  |some v,some w=>some (v::w)
  |_,_=>none
def lZ (l:St):Operand->Bool
 | .tmp i=>match l.env i with
  |some (.row _)=>true
  |some (.ag _)=>true
  |some (.aq _ _)=>true
  |_=>false
 |_=>false
def x5 (l:St):Operand->Bool
 | .tmp i=>match l.env i with
  |some (.ag _)=>true
  |some (.aq _ _)=>true
  |_=>false
 |_=>false
def uN (w:St):List Operand->Option (List AV)
 |[]=>some []
 | .tmp i::l=>match w.env i,uN w l with
  |some (.pv v),some q=>some (v::q)
  |some (.cp z),some q=>some (.ref z::q)
  |_,_=>none
 |_::_=>none
def rK (z:St):List Operand->Option (List pq)
 |[]=>some []
 | .tmp i::l=>match z.env i,rK z l with
  |some (.pv v),some q=>some (.v v::q)
  |some (.cp w),some q=>some (.v (.ref w)::q)
  |some (.ptr id 0),some q=>some (.p id::q)
  |_,_=>none
 |_::_=>none
def lX (P:Program) (t:TypeId) (len:Nat) (l:List (Nat×Operand)) (st:St):Option (TypeId×Nat×List (List AV)):=
 match isSlice P t with
 |some (e,s)=>match zeroCells P e,partsOf P (λ_=>e) st l with
  |some z,some q=>
   if len *s<=16777216/\0<s/\z.length=s/\q.all (λp=>p.2.Iy)=true then
    (yH (λi=>some (i *s,s)) (uB z len) q).map λw=>(e,s,chunks s len w)
   else none
  |_,_=>none
 |none=>none
abbrev eX:=Nat->List SV->List (Nat×Ob)->Option (AV×List (Nat×Ob))
def qb (h:Hint) (l:St):Operand->Option Nat
 | .tmp t=>bif h.ga.contains t then
   match l.env t with
   |some (.row id)=>some id
   |_=>none
  else none
 |_=>none
def q8 (h:Hint):Operand->Bool
 | .tmp t=>h.rows.contains t
 |_=>false
def gO (id:Nat):Bool:=Nat.blt id 10000||(Nat.ble 20000 id&&Nat.blt id 30000)
def SV.ids:SV->List Nat
 | .ptr j _| .row j| .rp j _ _ _| .sub j _ _ _=>[j]
 | .cl _ l=>l.filterMap fun
  | .p j| .r j=>some j
  | .v _=>none
 | .ag l=>l.filterMap fun
  | .p j| .r j=>some j
  | .v _=>none
 | .two v w=>v.ids++w.ids
 | .aq j _=>[j,j+40000]
 |_=>[]
def SV.QB:SV->List Nat
 | .aq j _=>[j]
 |v=>v.ids
def SV.closed (names:List Nat):SV->Bool
 | .ptr j _| .row j| .rp j _ _ _| .sub j _ _ _=>names.contains j
 | .cl _ l=>l.all fun
  | .p j| .r j=>names.contains j
  | .v _=>true
 | .ag l=>l.all fun
  | .p j| .r j=>names.contains j
  | .v _=>true
 | .two v w=>v.closed names&&w.closed names
 | .aq _ _=>false
 |_=>true
def Ob.closed (names:List Nat):Ob->Bool
 | .box _ cells=>cells.all (SV.closed names)
 | .row _ _ _=>true
 | .mp _ _ _ _=>true
 | .mr _ _ _ _ _=>false
 | .it _ _=>true
 | .lp _=>true
 | .rn _ _ _ _ _ _ _=>true
def Fh (st:St):Operand->Bool
 | .tmp t=>match st.env t with
  |some (.ptr _ _)=>true
  |some (.cl _ _)=>true
  |_=>false
 |_=>false
def Wb (l:St):Operand->Bool
 | .tmp t=>match l.env t with
  |some (.cl _ _)=>true
  |_=>false
 |_=>false
def wide (st:St) (c:Call) (f:Operand):Bool:=Wb st f||c.args.toList.any (Fh st)
def isRef (h:Hint):Operand->Bool
 | .tmp t=>h.ga.contains t
 |_=>false
def abG (P:Program) (h:Hint) (z:St) (t:TypeId) (x:Operand):Option SV:=
 match bw P t z x with
 |some (.pv v)=>some (.pv v)
 |some (.ptr id q)=>some (.ptr id q)
 |some (.row id)=>bif isRef h x then some (.row id) else none
 |some (.cl f l)=>some (.cl f l)
 |some (.cp w)=>some (.cp w)
 |_=>none
def uM (P:Program) (h:Hint) (l:St):List Operand->List TypeId->Option (List SV)
 |[],_=>some []
 |x::xs,q=>match abG P h l (q.headD 0) x,uM P h l xs q.tail with
  |some v,some w=>some (v::w)
  |_,_=>none
def Kq:pq->SV
 | .v a=> .pv a
 | .p id=> .ptr id 0
 | .r id=> .row id
def S9:SV->Option (Nat×List SV×List SV)
 | .pv (.fn g l)=>bif Nat.blt g 1000000 then some (g,[],l.map .pv) else none
 | .cl g l=>bif Nat.blt g 1000000 then some (g,[],l.map Kq) else bif Nat.blt g 2000000 then some (g-1000000,l.map Kq,[]) else match l with
  |[c]=>some (g,[],[Kq c])
  |_=>none
 |_=>none
def CC (l:St) (id:Nat):List Nat:=
 match l.ob id with
 |some (.box _ cells)=>cells.flatMap SV.ids
 |_=>[]
def gN (q:St):Nat->List Nat->List Nat->List Nat
 |0,_,done=>done
 |_+1,[],done=>done
 |n+1,id::l,done=>bif done.contains id then gN q n l done else gN q n (l++CC q id) (done++[id])
def q7:List SV->List Nat
 |[]=>[]
 | .row id::l=>id::q7 l
 |_::l=>q7 l
def Py (l:St) (id:Nat):Bool:=
 match l.ob id with
 |some (.row _ _ _)=>true
 |_=>false
def iB (q:Bool) (w:St) (l:List Nat) (id:Nat):Bool:=Py w id&&gO id&& !(l.contains id)&& !q
def jj (q:Nat->Bool):Nat->List Nat->List (Nat×Nat)
 |_,[]=>[]
 |k,id::l=>(id,bif q id then 20000+k else 10000+k)::jj q (k+1) l
def swap:List (Nat×Nat)->List (Nat×Nat)
 |[]=>[]
 |(a,b)::l=>(b,a)::swap l
def iV (m:List (Nat×Nat)) (id:Nat):Nat:=(find m id).getD id
def pq.qV (l:Nat->Nat):pq->pq
 | .p id=> .p (l id)
 | .r id=> .r (l id)
 |c=>c
def SV.qV (q:Nat->Nat):SV->SV
 | .ptr j z=> .ptr (q j) z
 | .row j=> .row (q j)
 | .rp j B i z=> .rp (q j) B i z
 | .sub j B F D=> .sub (q j) B F D
 | .cl f l=> .cl f (l.map (pq.qV q))
 | .ag l=> .ag (l.map (pq.qV q))
 | .two v w=> .two (v.qV q) (w.qV q)
 |s=>s
def Ob.qV (l:Nat->Nat):Ob->Ob
 | .box t cells=> .box t (cells.map (SV.qV l))
 |o=>o
def kg (q:St) (ids:List Nat) (w:Nat->Nat):List (Nat×Nat)->Option (List (Nat×Ob))
 |[]=>some []
 |(id,z)::l=>match q.ob id,kg q ids w l with
  |some o,some B=>bif o.closed ids then some ((z,o.qV w)::B) else none
  |_,_=>none
def nF (names:List Nat) (w:Nat->Nat):List (Nat×Nat)->List (Nat×Ob)->Option (List (Nat×Ob))
 |[],[]=>some []
 |(id,z)::l,(q,o)::B=>bif Nat.beq z q&&o.closed names then(nF names w l B).map λr=>(id,o.qV w)::r else none
 |_,_=>none
def distinct:List Nat->Bool
 |[]=>true
 |x::l=> !(l.contains x)&&distinct l
def fJ:List Nat->St->St
 |[],q=>q
 |id::l,q=>fJ l (q.dD id)
mutual
def AV.same:AV->AV->Bool
 | .bool a, .bool b=>a==b
 | .int k a, .int k' b=>decide (k=k')&&decide (a=b)
 | .str a, .str b=>decide (a=b)
 | .dK s xs, .dK s' ys=>Nat.beq s s'&&Ca xs ys
 | .agg a, .agg b=>s9 a b
 | .fn f a, .fn g b=>Nat.beq f g&&s9 a b
 | .gy a, .gy b=>s9 a b
 | .ref a, .ref b=>s9 a b
 | .mp a b, .mp c d=>s9 a c&&s9 b d
 | .self a, .self b=>Nat.beq a b
 | .lY, .lY=>true
 | .ux, .ux=>true
 | .hole, .hole=>true
 |_,_=>false
def s9:List AV->List AV->Bool
 |[],[]=>true
 |a::l,b::m=>AV.same a b&&s9 l m
 |_,_=>false
def Ca:List (List AV)->List (List AV)->Bool
 |[],[]=>true
 |a::l,b::m=>s9 a b&&Ca l m
 |_,_=>false
end
def pq.same:pq->pq->Bool
 | .v a, .v b=>AV.same a b
 | .p a, .p b=>Nat.beq a b
 | .r a, .r b=>Nat.beq a b
 |_,_=>false
def tc:List pq->List pq->Bool
 |[],[]=>true
 |a::l,b::m=>pq.same a b&&tc l m
 |_,_=>false
def Ak.same:Ak->Ak->Bool
 | .full, .full=>true
 | .nr i, .nr j=>Nat.beq i j
 | .bs i, .bs j=>Nat.beq i j
 |_,_=>false
def SV.same:SV->SV->Bool
 | .undef, .undef=>true
 | .any, .any=>true
 | .pv a, .pv b=>AV.same a b
 | .ptr a b, .ptr c d=>Nat.beq a c&&Nat.beq b d
 | .row a, .row b=>Nat.beq a b
 | .rp a b c d, .rp l w c' z=>Nat.beq a l&&Nat.beq b w&&Nat.beq c c'&&Nat.beq d z
 | .sub a b c d, .sub l w c' z=>Nat.beq a l&&Nat.beq b w&&Nat.beq c c'&&Nat.beq d z
 | .cp a, .cp b=>s9 a b
 | .cl f a, .cl g b=>Nat.beq f g&&tc a b
 | .two s a, .two t b=>SV.same s t&&SV.same a b
 | .ag a, .ag b=>tc a b
 | .aq a q, .aq b r=>Nat.beq a b&&Ak.same q r
 |_,_=>false
def xQ:List SV->List SV->Bool
 |[],[]=>true
 |a::l,b::m=>SV.same a b&&xQ l m
 |_,_=>false
def rS:List (Option (List (List AV)))->List (Option (List (List AV)))->Bool
 |[],[]=>true
 |some a::l,some b::m=>Ca a b&&rS l m
 |none::l,none::m=>rS l m
 |_,_=>false
def Ob.same:Ob->Ob->Bool
 | .box t a, .box u b=>Nat.beq t u&&xQ a b
 | .row e s xs, .row l q I=>Nat.beq e l&&Nat.beq s q&&Ca xs I
 | .mp k e a b, .mp k' l c d=>Nat.beq k k'&&Nat.beq e l&&s9 a c&&s9 b d
 | .mr k e s a b, .mr k' l q c d=>Nat.beq k k'&&Nat.beq e l&&Nat.beq s q&&s9 a c&&rS b d
 | .it s p, .it q B=>decide (s=q)&&Nat.beq p B
 | .lp a, .lp b=>s9 a b
 | .rn e s k w D x y, .rn l q k' z F G H=>Nat.beq e l&&Nat.beq s q&&Nat.beq k k'&&Nat.beq w z&&Nat.beq D F&&Ca x G&&rS y H
 |_,_=>false
def vM:List (Nat×Ob)->List (Nat×Ob)->Bool
 |[],[]=>true
 |(i,a)::l,(j,b)::m=>Nat.beq i j&&Ob.same a b&&vM l m
 |_,_=>false
def uU (P:Program) (h:Hint) (q:St) (c:Call) (f:Operand):Option (Nat×List SV):=
 match(bw P 0 q f).bind S9,uM P h q c.args.toList c.argTypes.toList with
 |some (g,pre,l),some w=>some (g,pre++(w++l))
 |_,_=>none
def jK (l:St) (args:List SV):List Nat:=gN l 200 (args.flatMap SV.ids) []
def mV (ids:List Nat):List (Nat×Nat):=jj (λ_=>false) 0 ids
def tI (P:Program) (h:Hint) (q:eX) (l:St) (c:Call) (f:Operand):Option AV:=
 match uU P h l c f with
 |some (g,args)=>
  bif distinct (jK l args)&&Nat.blt (jK l args).length 10000&&args.all (SV.closed (jK l args)) then
   match kg l (jK l args) (iV (mV (jK l args))) (mV (jK l args)) with
   |some cM=>match q g (args.map (SV.qV (iV (mV (jK l args))))) cM with
    |some (r,w)=>bif vM w cM&&r.jT then some r else none
    |none=>none
   |none=>none
  else none
 |none=>none
def ec (P:Program) (h:Hint) (cr:eX) (o:Oper) (st:St):Option SV:=
 match o.op with
 | .buildSlice t len q=>bif(o.dst.any h.rows.contains||o.dst.any h.ga.contains) then none else(lX P t len q.toList st).map λx=> .pv (.dK x.2.1 x.2.2)
 | .call c=>match c.callee with
  | .value f=>bif o.dst.any h.owns.contains then none else bif o.dst.any h.stay.contains&&wide st c f then(tI P h cr st c f).map .pv else
   bif wide st c f||c.args.toList.any (λx=>(qb h st x).isSome) then none else
   match bw P 0 st f,j8 P st c.args.toList c.argTypes.toList with
   |some (.pv (.fn g l)),some z=>match cr g ((z++l).map .pv) [] with
    |some (r,[])=>bif(!(c.args.toList.any (lZ st))||r.plain)&&r.jT then some (.pv r) else none
    |_=>none
   |_,_=>none
  |_=>yV P c st
 | .lookup _ x _ ok=>bif q8 h x&& !ok then none else fe P o st
 | .build t q=>bif o.dst.any h.rows.contains then none else zX P (OD P h o.dst t) t q st
 | .load _ _=>bif o.dst.any h.take.contains then none else fe P o st
 | .makeFunc (.func g) first l=>bif first.isEmpty then
   bif o.dst.any h.ga.contains then bif Nat.blt g 1000000 then(rK st l.toList).map λw=> .cl g w else none
   else(uN st l.toList).map λz=> .pv (.fn g z)
  else bif l.isEmpty&&o.dst.any h.ga.contains&&Nat.blt g 1000000 then(rK st first.toList).map λw=> .cl (g+1000000) w else none
 | .assign x=>match o.dst,x,fe P o st with
  |some d, .const _,some (.pv (.dK B xs))=>bif h.rows.contains d then none else some (.pv (.dK B xs))
  |some d,_,some (.row id)=>bif h.nq.contains d||h.mvs.contains d then none else some (.row id)
  |_,_,r=>r
 |_=>fe P o st
def pH (l:St):SV->Bool
 | .pv (.agg _)| .pv (.gy _)=>false
 | .pv _=>true
 | .ptr _ _| .rp _ _ _ _| .cp _| .cl _ _=>true
 | .row id=>match l.ob id with
  |some (.row _ _ _)=>true
  |some (.mp _ _ _ _)=>true
  |some (.rn _ _ _ _ _ _ _)=>true
  |_=>false
 |_=>false
def storeAt (P:Program) (t:TypeId) (q:St) (a:SV) (v:SV):Option St:=
 match a with
 | .ptr id l=>match q.ob id,mh P t with
  |some (.box B cells),some n=>match v with
   | .ag w=>if w.length=n/\l+n<=cells.length then
     some { q with ob:=put q.ob id (some (.box B (cells.take l++w.map Kq++cells.drop (l+n)))) } else none
   | .pv (.agg w)=>if w.length=n/\l+n<=cells.length then
     some { q with ob:=put q.ob id (some (.box B (cells.take l++w.map .pv++cells.drop (l+n)))) } else none
   |v=>if n=1/\l<cells.length/\pH q v=true then some { q with ob:=put q.ob id (some (.box B (cells.set l v))) } else none
  |_,_=>none
 | .rp id D i l=>match q.ob id,mh P t,v with
  |some (.row e z xs),some n, .pv v=>match xs[i]? with
   |some c=>if D=z/\v.cells.length=n/\l+n<=c.length/\v.Iy=true then
     some { q with ob:=put q.ob id (some (.row e z (xs.set i (c.take l++v.cells++c.drop (l+n))))) } else none
   |none=>none
  |_,_,_=>none
 |_=>none
def Fp (P:Program) (h:Hint) (l:St):List Operand->List TypeId->Option (List SV×List Nat)
 |[],_=>some ([],[])
 |x::xs,w=>match qb h l x,Fp P h l xs w.tail with
  |some id,some (q,ids)=>some (.row 10000::q,id::ids)
  |none,some (q,ids)=>match(bw P (w.headD 0) l x).bind jg with
   |some v=>some (.pv v::q,ids)
   |none=>none
  |_,none=>none
def qD (P:Program) (h:Hint) (l:eX) (z:St) (c:Call) (f:Operand) (d:Option Nat):Option St:=
 match bw P 0 z f,Fp P h z c.args.toList c.argTypes.toList with
 |some (.pv (.fn g B)),some (H,[id])=>match z.ob id with
  |some (.row e F xs)=>match l g (H++B.map .pv) [(10000, .row e F xs)] with
   |some (r,[(G, .row D q w)])=>bif Nat.beq e D&&Nat.beq F q&&Nat.beq G 10000 then
     match r with
     | .self n=>bif Nat.ble n w.length&&gO id then some ((z.new id (.row D q (w.take n))).set d (.row id)) else none
     |r=>bif r.plain then some (St.set { z with ob:=put z.ob id (some (.row D q w)) } d (.pv r)) else none
    else none
   |_=>none
  |_=>none
 |_,_=>none
def kG (P:Program) (h:Hint) (l:eX) (w:St) (c:Call) (f:Operand) (d:Option Nat):Option St:=
 match(bw P 0 w f).bind S9,uM P h w c.args.toList c.argTypes.toList with
 |some (g,pre,B),some H=>
  let args:=pre++(H++B)
  let ids:=gN w 200 (args.flatMap SV.ids) [];let F:=iB (d.any h.stay.contains) w (q7 args);let m:=jj F 0 ids;let names:=m.map (·.2);let G:=iV m
  bif distinct ids&&Nat.blt ids.length 10000&&args.all (SV.closed ids) then
   match kg w ids G m with
   |some cM=>match l g (args.map (SV.qV G)) cM with
    |some (r,q)=>match nF names (iV (swap m)) m q with
     |some z=>bif r.jT then
       let D:=fJ (ids.filter F) w
       some (St.set { env:=D.env,ob:=λi=>(find z i).orElse λ_=>D.ob i } d (.pv r)) else none
     |none=>none
    |none=>none
   |none=>none
  else none
 |_,_=>none
def zg (P:Program) (t:TypeId):Option (List Value):=
 match P.info? t with
 |some i=>i.zero.map λz=>z.cells.toList
 |none=>none
def oy (P:Program) (w:List Nat) (d:Nat):Nat->List TypeId->List Value->Option (List SV×List (Nat×TypeId×Nat))
 |_,[],[]=>some ([],[])
 |j,t::z,v::B=>match oy P w d (j+1) z B with
  |some (q,l)=>match(bif w.contains j then none else isSlice P t),v with
   |some (e,s), .slice none 0 0=>bif Nat.blt 0 s&&Nat.blt (5000+16 *d+j) 10000 then some (.row (5000+16 *d+j)::q,(5000+16 *d+j,e,s)::l) else none
   |_,v=>(ofConst P t v).map λa=>(.pv a::q,l)
  |none=>none
 |_,_,_=>none
def KH (l:List (Nat×Nat×TypeId×Nat)) (id:Nat) (e:TypeId) (s:Nat):Ob:=
 match find l id with
 |some (k,q,w)=>bif Nat.blt k s then .rn e s k q w [] [] else .row e s []
 |none=> .row e s []
def iT (q:List (Nat×Nat×TypeId×Nat)):List (Nat×TypeId×Nat)->St->St
 |[],w=>w
 |(id,e,s)::l,w=>iT q l (w.new id (KH q id e s))
def D1:Operand->Bool
 | .const (.slice none 0 0)=>true
 |_=>false
def nK (P:Program) (l:List Nat) (d:Nat):Nat->List Operand->List TypeId->List (Nat×TypeId×Nat)
 |_,[],_=>[]
 |j,x::xs,q=>bif D1 x&&l.contains j then match isSlice P (q.headD 0) with
   |some (e,s)=>(5008+16 *d+j,e,s)::nK P l d (j+1) xs q.tail
   |none=>nK P l d (j+1) xs q.tail
  else nK P l d (j+1) xs q.tail
def argG (P:Program) (z:List Nat) (d j:Nat) (B:St) (t:TypeId) (x:Operand):Option SV:=
 bif D1 x&&z.contains j then(isSlice P t).bind λ_=>some (.row (5008+16 *d+j)) else match bw P t B x with
 |some (.pv v)=>some (.pv v)
 |some (.ptr id w)=>some (.ptr id w)
 |some (.row id)=>some (.row id)
 |some (.cl f l)=>some (.cl f l)
 |some (.cp q)=>some (.cp q)
 |some (.ag q)=>some (.ag q)
 |_=>none
def C7 (P:Program) (l:List Nat) (d:Nat) (q:St):Nat->List Operand->List TypeId->Option (List SV)
 |_,[],_=>some []
 |j,x::xs,w=>match argG P l d j q (w.headD 0) x,C7 P l d q (j+1) xs w.tail with
  |some v,some z=>some (v::z)
  |_,_=>none
def wH (q:List Nat):Nat->List SV->List Nat
 |_,[]=>[]
 |j, .row id::l=>bif q.contains j then wH q (j+1) l else id::wH q (j+1) l
 |j,_::l=>wH q (j+1) l
def newNames (d:Nat):Nat->List (Nat×Ob)->List (Nat×Nat)
 |_,[]=>[]
 |k,(q,_)::l=>(5000+16 *d+k,q)::newNames d (k+1) l
def Jz:AV->pq
 | .self n=> .r n
 |a=> .v a
def Ab:AV->SV
 | .self n=> .row n
 | .agg l=> .ag (l.map Jz)
 |a=> .pv a
def xz:AV->SV
 | .gy [a,b]=> .two (Ab a) (Ab b)
 |a=>Ab a
def LB (l:Nat->Option Ob):SV->SV
 | .row id=>match l id with
  |some (.box _ _)=> .ptr id 0
  |_=> .row id
 |s=>s
def qU (q:Nat->Nat):Nat->List Nat->List (Nat×Nat)
 |_,[]=>[]
 |k,id::l=>(id,q id+k)::qU q (k+1) l
def stays (l:Nat->Nat) (i:Nat):Bool:=Nat.beq (l i) 10000
def given (l:Nat->Nat) (i:Nat):Bool:=Nat.beq (l i) 9000
def Ft (l:Nat->Bool) (i:Nat):Nat:=bif l i then 20000 else 10000
def We (l:St) (id:Nat):Bool:=
 match l.ob id with
 |some (.rn _ _ _ _ _ _ _)=>iJ id
 |_=>false
def KN (q:St) (l:Nat->Bool) (i:Nat):Nat:=bif We q i then 9000 else Ft l i
def kF (z:eX) (F:St) (g:Nat) (args:List SV) (B:Nat->Nat) (d:Option Nat):Option St:=
 let ids:=gN F 200 (args.flatMap SV.ids) [];let m:=qU B 0 ids;let G:=m.filter λp=> !(given B p.1)
 bif distinct ids&&Nat.blt ids.length 10000&&args.all (SV.closed ids)&&(ids.all (λi=> !(given B i))||(Nat.blt ids.length 1000&&ids.all λi=> !(given B i)||iJ i)) then
  match kg F ids (iV m) m with
  |some cM=>match z g (args.map (SV.qV (iV m))) cM with
   |some (r,q)=>
    let D:=newNames (d.getD 0) 0 (q.drop G.length);let mm:=G++D
    bif Nat.ble D.length 8&&distinct (mm.map (·.1))&&distinct (mm.map (·.2))&&D.all (λx=>Nat.blt x.1 10000)&&D.all (λx=>Nat.ble 25000 x.2) then
     match nF (mm.map (·.2)) (iV (swap mm)) mm q with
     |some l=>match r with
      | .gy [.gy [.self 0, .lY,x]]=>bif(xz x).closed (mm.map (·.2)) then
        let w:=fJ (ids.filter (λi=> !(stays B i))++D.map (·.1)) F
        some (St.set { env:=w.env,ob:=λi=>(find l i).orElse λ_=>w.ob i } d (LB (find l) ((xz x).qV (iV (swap mm)))))
       else none
      |r=>bif r.jT then
        let w:=fJ (ids.filter (λi=> !(stays B i))++D.map (·.1)) F
        some (St.set { env:=w.env,ob:=λi=>(find l i).orElse λ_=>w.ob i } d (.pv r))
       else none
     |none=>none
    else none
   |none=>none
  |none=>none
 else none
def Db (P:Program) (h:Hint) (q:eX) (D:St) (c:Call) (f:Operand) (d:Nat) (z:List Nat):Option St:=
 let l:=iT h.nest (nK P z d 0 c.args.toList c.argTypes.toList) D;match(bw P 0 l f).bind S9,C7 P z d l 0 c.args.toList c.argTypes.toList with
 |some (g,pre,w),some B=>bif(nK P z d 0 c.args.toList c.argTypes.toList).all (λx=>Nat.blt x.1 10000) then
   kF q l g (pre++(B++w)) (KN l (iB false l (wH z 0 B))) (some d) else none
 |_,_=>none
def xJ (h:Hint) (d:Nat):Option (List (Nat×TypeId×Nat)):=match find h.uP d with
 |some _=>some []
 |none=>find h.ux d
def Qv (P:Program) (b:Bool) (l:St) (t:TypeId) (x:Operand):Option AV:=bif b&&D1 x then some .ux else(bw P t l x).bind jg
def sW (P:Program) (b:Bool) (l:St):List Operand->List TypeId->Option (List AV)
 |[],_=>some []
 |x::xs,q=>match Qv P b l (q.headD 0) x,sW P b l xs q.tail with
  |some v,some w=>some (v::w)
  |_,_=>none
def tY:List AV->List (Nat×TypeId×Nat)->Option (List pq)
 |[],_=>some []
 | .ux::q,x::l=>(tY q l).map (.r x.1:: ·)
 | .ux::_,[]=>none
 |a::q,l=>(tY q l).map (.v a:: ·)
def iS (P:Program) (h:Hint) (q:eX) (w:St) (c:Call) (f:Operand) (d:Option Nat):Option St:=
 match d with
 |some d=>match find h.uP d with
  |some D=>Db P h q w c f d D.2
  |none=>match bw P 0 w f,sW P (xJ h d).isSome w c.args.toList c.argTypes.toList with
  |some (.pv (.fn g z)),some H=>match q g ((H++z).map .pv) [] with
   |some (.gy [.gy [.self e, .dK G xs]],[])=>bif(xJ h d).isSome then none else some ((w.new d (.row e G xs)).set (some d) (.row d))
   |some (.agg B,[])=>match xJ h d with
    |some []=>some (w.set (some d) (.pv (.agg B)))
    |some l=>match tY B l with
     |some F=>bif l.all (λx=>Nat.blt x.1 10000) then some ((iT h.nest l w).set (some d) (.ag F)) else none
     |none=>none
    |none=>none
   |_=>none
  |_,_=>none
 |none=>none
def abT (l:St) (s:SV):Option pq:=
 bif pH l s then
  match s with
  | .pv a=>some (.v a)
  | .row id=>some (.r id)
  |_=>none
 else none
def xw (q:St):List SV->Option (List pq)
 |[]=>some []
 |s::l=>match abT q s,xw q l with
  |some c,some w=>some (c::w)
  |_,_=>none
def GZ (q:St):SV->Option (List SV)
 | .pv (.agg l)=>some (l.map .pv)
 |s=>bif pH q s then some [s] else none
def rH (P:Program) (ty:Nat->TypeId) (st:St):List (Nat×Operand)->Option (List (Nat×List SV))
 |[]=>some []
 |(i,x)::l=>match(bw P (ty i) st x).bind (GZ st),rH P ty st l with
  |some v,some q=>some ((i,v)::q)
  |_,_=>none
def H6 (place:Nat->Option (Nat×Nat)) (cells:List SV):List (Nat×List SV)->Option (List SV)
 |[]=>some cells
 |(i,v)::q=>match place i with
  |none=>none
  |some (l,size)=>if v.length=size/\l+size<=cells.length then H6 place (cells.take l++v++cells.drop (l+size)) q else none
def vQ (P:Program) (h:Hint) (w:St) (d:Nat) (t:TypeId) (q:List (Nat×Operand)):Option St:=
 match P.underlying t,(zg P t).bind λG=>oy P ((find h.Qb d).getD []) d 0 (tV P 8 t) G with
 |some (.struct D),some (z,l)=>bif D.toList.all (λf=>(mh P f.type).isSome) then
   match rH P (E7 P t) (iT h.nest l w) q with
   |some F=>match(H6 (qd P t) z F).bind (xw (iT h.nest l w)) with
    |some B=>some ((iT h.nest l w).set (some d) (.ag B))
    |none=>none
   |none=>none
  else none
 |_,_=>none
def yO (P:Program) (l:St) (t:TypeId) (m k:Operand):Option St:=
 match P.underlying t with
 |some (.map z _)=>match bw P t l m,(bw P z l k).bind jg with
  |some (.row id),some key=>match l.ob id with
   |some (.mp k' B D F)=>bif kI P z key then
     match mdel key D F with
     |some (q,w)=>some { l with ob:=put l.ob id (some (.mp k' B q w)) }
     |none=>none
    else none
   |_=>none
  |_,_=>none
 |_=>none
def Fs (P:Program) (l:St) (t:TypeId) (m:Operand):Option St:=
 match P.underlying t with
 |some (.map _ _)=>match bw P t l m with
  |some (.row id)=>match l.ob id with
   |some (.mp k' q _ _)=>some { l with ob:=put l.ob id (some (.mp k' q [] [])) }
   |_=>none
  |_=>none
 |_=>none
def vT (P:Program) (l:St):Option Operand->Bool
 |none=>true
 |some x=>match(bw P 0 l x).bind jg with
  |some (.int _ _)=>true
  |_=>false
def Wz (P:Program) (l:St) (q:TypeId) (x:Operand):Option St:=
 match bw P q l x with
 |some (.pv _)=>some l
 |some (.row j)=>l.dh j
 |_=>none
def yP (P:Program) (G:St) (t:TypeId) (m k x:Operand):Option St:=
 match P.underlying t with
 |some (.map B z)=>match Wz P G z x with
  |some l=>match bw P t l m,(bw P B l k).bind jg,(bw P z l x).bind jg with
   |some (.row id),some key,some v=>match l.ob id with
    |some (.mp k' D F H)=>bif kI P B key&&v.Iy then
      match D5 key v F H with
      |some (q,w)=>some { l with ob:=put l.ob id (some (.mp k' D q w)) }
      |none=>none
     else none
    |_=>none
   |_,_,_=>none
  |none=>none
 |_=>none
def N3 (P:Program) (l:St) (t:TypeId) (m k:Operand):Option (TypeId×Nat×AV×TypeId×TypeId×Nat×List AV×List (Option (List (List AV)))):=
 match P.underlying t with
 |some (.map q w)=>match bw P t l m,(bw P q l k).bind jg with
  |some (.row id),some key=>match l.ob id with
   |some (.mr k' e B z D)=>bif kI P q key&&Nat.blt id 10000 then some (w,id,key,k',e,B,z,D) else none
   |_=>none
  |_,_=>none
 |_=>none
def N4 (P:Program) (l:St) (t:TypeId) (m k:Operand) (d:Nat):Option St:=
 match N3 P l t m k with
 |some (w,id,key,k',e,q,z,B)=>bif Nat.beq id d then none else match rz key z with
  |some (some i)=>match B[i]? with
   |some (some xs)=>some ((St.new { l with ob:=put l.ob id (some (.mr k' e q z (B.set i none))) } d (.row e q xs)).set (some d) (.row d))
   |_=>none
  |some none=>match qP P w,isSlice P w with
   |some (.dK _ []),some (D,s)=>if e=D/\s=q/\0<s then some ((l.new d (.row e q [])).set (some d) (.row d)) else none
   |_,_=>none
  |none=>none
 |none=>none
def WK (P:Program) (w:St) (t:TypeId) (m k x:Operand):Option St:=
 match N3 P w t m k with
 |some (D,id,key,k',e,z,F,H)=>match x with
  | .const (.slice none 0 0)=>match isSlice P D with
   |some (B,s)=>if e=B/\s=z/\0<s then
     match D5 key (some []) F H with
     |some (l,q)=>some { w with ob:=put w.ob id (some (.mr k' e z l q)) }
     |none=>none
    else none
   |none=>none
  |x=>match bw P D w x with
   |some (.row j)=>match w.ob j with
    |some (.row B s xs)=>if e=B/\s=z/\j<10000 then
      match D5 key (some xs) F H with
      |some (l,q)=>let G:=w.dD j;some { G with ob:=put G.ob id (some (.mr k' e z l q)) }
      |none=>none
     else none
    |_=>none
   |_=>none
 |none=>none
def xW (P:Program) (q:St) (t:TypeId) (x:Operand) (d:Nat):Option St:=
 match bw P 0 q x,Es P t with
 |some (.rp id F i w),some false=>match q.ob id with
  |some (.rn e l k z B xs D)=>match D[i]? with
   |some (some G)=>bif Nat.beq F l&&Nat.beq w k&& !(Nat.beq id d)&&Nat.blt id 10000 then some ((St.new { q with ob:=put q.ob id (some (.rn e l k z B xs (D.set i none))) } d (.row z B G)).set (some d) (.row d)) else none
   |_=>none
  |_=>none
 |_,_=>none
def IF (P:Program) (q:St) (t:TypeId) (id H i w j:Nat):Option St:=
 match Es P t,mh P t,q.ob id,q.ob j with
 |some false,some 1,some (.rn e l k z B xs D),some (.row F G I)=>
  bif Nat.beq H l&&Nat.beq w k&&Nat.blt id 10000&&Nat.blt j 10000&&Nat.beq z F&&Nat.beq B G&&Nat.blt i D.length&& !(Nat.beq id j) then
   some { (q.dD j).dD (id+40000) with ob:=put ((q.dD j).dD (id+40000)).ob id (some (.rn e l k z B xs (D.set i (some I)))) } else none
 |_,_,_,_=>none
def BY (P:Program) (w:St):Nat->List (Nat×Operand)->Option (List SV)
 |_,[]=>some []
 |i,(j,x)::l=>match bw P 0 w x,BY P w (i+1) l with
  |some (.ptr id q),some z=>bif Nat.beq i j then some (.ptr id q::z) else none
  |_,_=>none
def PX (P:Program) (q:St) (d:Nat) (t:TypeId) (len:Nat) (l:List (Nat×Operand)):Option St:=
 match isSlice P t,BY P q 0 l with
 |some (e,1),some w=>match zeroCells P e with
  |some [_]=>bif Nat.beq w.length len&&Nat.blt 0 len&&Nat.blt len 100 then some ((q.new d (.box e (w.map (SV.dD d)))).set (some d) (.aq d (.bs len))) else none
  |_=>none
 |_,_=>none
def XO (P:Program) (w:St) (t:TypeId) (id q j z n:Nat):Option St:=
 match w.ob j with
 |some (.row e l xs)=>bif Nat.beq z l&&gO j&& !(Nat.beq id j) then storeAt P t (w.new j (.row e l (xs.take n))) (.ptr id q) (.row j) else none
 |_=>none
def WJ (l:St) (id d:Nat):Option St:=
 match l.ob id with
 |some (.row e q xs)=>bif Nat.beq id d then some (l.set (some d) (.row d)) else bif Nat.blt id 10000 then some (((l.dD id).new d (.row e q xs)).set (some d) (.row d)) else none
 |_=>none
def rG (k:Nat) (c:List AV):Bool:=match c[k]? with
 |some .ux=>true
 |_=>false
def ni (P:Program) (h:Hint) (D:eX) (o:Oper) (q:St):Option St:=
 match o.dst,o.op with
 |some d, .assign (.const (.slice none 0 0))=>match isSlice P o.type with
  |some (e,s)=>if 0<s then some ((q.new d (.row e s [])).set (some d) (.row d)) else none
  |none=>none
 |some d, .assign x=>match bw P o.type q x with
  |some (.row id)=>bif h.mvs.contains d then WJ q id d else match q.dh id with
   |some B=>match bw P o.type B x with
    |some v=>some (B.set (some d) v)
    |none=>none
   |none=>none
  |_=>none
 |some d, .box t x=>match bw P t q x,Es P t with
  |some (.pv (.agg O)),some true=>some ((q.new d (.box t (O.map .pv))).set (some d) (.ptr d 0))
  |some (.ag O),some true=>bif(SV.ag O).mentions d then none else some ((q.new d (.box t (O.map Kq))).set (some d) (.ptr d 0))
  |some v,some false=>if pH q v=true then some ((q.new d (.box t [v.dD d])).set (some d) (.ptr d 0)) else none
  |_,_=>none
 |some d, .alloc t=>bif h.rows.contains d then
   match(zg P t).bind λN=>oy P ((find h.Qb d).getD []) d 0 (tV P 8 t) N with
   |some (S,l)=>some (((iT h.nest l q).new d (.box t (S.map (SV.dD d)))).set (some d) (.ptr d 0))
   |none=>none
  else match OD P h (some d) t with
  |some z=>some ((q.new d (.box t (z.map .pv))).set (some d) (.ptr d 0))
  |none=>none
 |some d, .makeSlice t l c=>match isSlice P t,(bw P 0 q l).bind jg,(bw P 0 q c).bind jg with
  |some (e,s),some (.int _ l),some (.int _ c)=>match zeroCells P e,P.info? e with
   |some z,some i=>if 0<s/\z.length=s/\0<=l/\l<=c/\i.bytes *c.toNat<=281474976710656/\c<=9223372036854775807 then
     some ((q.new d (.row e s (List.replicate l.toNat z))).set (some d) (.row d)) else none
   |_,_=>none
  |_,_,_=>none
 |some d, .buildSlice t len F=>bif h.ga.contains d then PX P q d t len F.toList else match lX P t len F.toList q with
  |some (e,s,xs)=>match find h.nest d with
   |none=>some ((q.new d (.row e s xs)).set (some d) (.row d))
   |some (k,K,s')=>bif Nat.blt k s&&xs.all (rG k) then some ((q.new d (.rn e s k K s' (xs.map λc=>c.set k .hole) (xs.map λ_=>some []))).set (some d) (.row d)) else none
  |none=>none
 |none, .store t a x=>match bw P 0 q a,bw P t q x with
  |some (.rp id w i L),some (.row j)=>IF P q t id w i L j
  |some (.ptr id L),some (.sub j w 0 n)=>XO P q t id L j w n
  |some a,some v=>storeAt P t q a v
  |_,_=>none
 |some d, .makeMap t r=>match P.underlying t with
  |some (.map k e)=>bif vT P q r then
    bif h.rows.contains d then
     match isSlice P e with
     |some (K,s)=>if 0<s then some ((q.new d (.mr k K s [] [])).set (some d) (.row d)) else none
     |none=>none
    else some ((q.new d (.mp k e [] [])).set (some d) (.row d)) else none
  |_=>none
 |none, .mapUpdate t m k x=>bif q8 h m then WK P q t m k x else yP P q t m k x
 |none, .insert t m k x=>bif q8 h m then WK P q t m k x else yP P q t m k x
 |some d, .lookup t m k false=>bif q8 h m then N4 P q t m k d else none
 |some d, .range t x=>match P.underlying t,(bw P t q x).bind jg with
  |some .string,some (.str s)=>some ((q.new d (.it s 0)).set (some d) (.ptr d 0))
  |_,_=>none
 |some d, .next x true=>match bw P 0 q x with
  |some (.ptr id 0)=>match q.ob id with
   |some (.it s pos)=>if pos<s.length then
     some (St.set { q with ob:=put q.ob id (some (.it s (pos+(Utf8.decode ⟨s.toArray⟩ pos).2))) } (some d) (.pv (.gy [.bool true, .int .i64 pos, .int .i32 (Utf8.decode ⟨s.toArray⟩ pos).1])))
    else some (q.set (some d) (.pv (.gy [.bool false])))
   |_=>none
  |_=>none
 |some d, .build t F=>bif h.rows.contains d then vQ P h q d t F.toList else none
 |some d, .load t x=>bif h.take.contains d then xW P q t x d else none
 |some d, .makeFunc (.func g) first H=>bif first.isEmpty then
   match xN q H.toList with
   |some B=>(uN B H.toList).map λN=>B.set (some d) (.pv (.fn g N))
   |none=>none
  else none
 |d, .call c=>match c.callee with
  | .builtin .append=>match d,c.args.toList,c.argTypes.toList with
   |some d,[x,y],[t,Q]=>match isSlice P t,bw P t q x,bw P Q q y with
    |some (e,s),some (.row id),some y=>match q.ob id,elems q y,P.info? e with
     |some (.row K w xs),some (G,I),some i=>
      if t=Q/\e=K/\s=w/\w=G/\0<w/\(xs.length+I.length) *i.bytes<=140737488355328/\xs.length+I.length<=4611686018427387904/\i.zero.map (λz=>z.cells.size)=some w/\gO id=true then
       some ((q.new id (.row e w (xs++I))).set (some d) (.row id)) else none
     |some (.rn K w k V s2 xs zs),some (G,I),some i=>
      if t=Q/\e=K/\s=w/\w=G/\0<w/\(xs.length+I.length) *i.bytes<=140737488355328/\xs.length+I.length<=4611686018427387904/\i.zero.map (λz=>z.cells.size)=some w/\gO id=true/\I.all (rG k)=true then
       some ((q.new id (.rn e w k V s2 (xs++I.map λc=>c.set k .hole) (zs++I.map λ_=>some []))).set (some d) (.row id)) else none
     |_,_,_=>none
    |some (e,s),some (.aq id .full),some y=>match q.ob id,elems q y,P.info? e with
     |some (.row K w xs),some (G,I),some i=>
      if t=Q/\e=K/\s=w/\w=G/\0<w/\(xs.length+I.length) *i.bytes<=140737488355328/\xs.length+I.length<=4611686018427387904/\i.zero.map (λz=>z.cells.size)=some w/\gO id=true/\I.isEmpty=false then
       some ((q.new id (.row e w (xs++I))).set (some d) (.row id)) else none
     |_,_,_=>none
    |_,_,_=>none
   |_,_,_=>none
  | .builtin .delete=>match d,c.args.toList,c.argTypes.toList with
   |none,[m,k],t::_=>yO P q t m k
   |_,_,_=>none
  | .builtin .clear=>match d,c.args.toList,c.argTypes.toList with
   |none,[x],[t]=>match isSlice P t,bw P t q x with
    |some (e,s),some (.sub id w U R)=>match q.ob id,zeroCells P e with
     |some (.row K G xs),some z=>if s=w/\w=G/\z.length=w/\R<=xs.length/\e=K/\0<w then
       some { q with ob:=put q.ob id (some (.row K G (xs.take U++List.replicate (R-U) z++xs.drop R))) } else none
     |_,_=>none
    |none,_=>Fs P q t x
    |_,_=>none
   |_,_,_=>none
  | .value f=>bif d.any h.owns.contains then iS P h D q c f d else bif d.any h.stay.contains&&wide q c f then none else bif wide q c f then kG P h D q c f d else bif c.args.toList.any (λx=>(qb h q x).isSome) then qD P h D q c f d else
   match jV q c.args.toList with
   |some B=>match bw P 0 B f,j8 P B c.args.toList c.argTypes.toList with
    |some (.pv (.fn g H)),some N=>match D g ((N++H).map .pv) [] with
     |some (r,[])=>bif c.args.toList.any (lZ B)|| !r.jT then none else some (B.set d (.pv r))
     |_=>none
    |_,_=>none
   |none=>none
  |_=>none
 |_,_=>none
where
 jV (q:St) (l:List Operand):Option St:=bif l.any (x5 q) then none else iC q l
 iC (q:St):List Operand->Option St
  |[]=>some q
  | .tmp i::l=>match q.env i with
   |some (.row id)=>(q.dh id).bind λB=>iC B l
   |_=>iC q l
  |_::l=>iC q l
def p9:List SV->St->Option St
 |[],q=>some q
 | .row id::l,q=>(q.dh id).bind (p9 l)
 |_::l,q=>p9 l q
def step0 (P:Program) (h:Hint) (l:eX) (o:Oper) (q:St):Option St:=
 match ec P h l o q with
 |some v=>some (q.set o.dst v)
 |none=>ni P h l o q
def qY (l:St) (t:Nat):Option St:=
 match l.env t with
 |some (.row id)=>l.dh id
 |some (.ag [.r id])=>l.dh id
 |some (.ptr id _)=>match l.ob id with
  |some (.box _ cells)=>p9 cells l
  |_=>none
 |_=>some l
def nR:List Nat->St->Option St
 |[],q=>some q
 |t::l,q=>(qY q t).bind (nR l)
def slotsOf (o:Oper):List Nat:=o.op.operands.toList.filterMap fun
 | .tmp t=>some t
 |_=>none
def FF (h:Hint) (o:Oper):List Nat:=bif h.use.isEmpty then[] else(slotsOf o).filter h.use.contains
def step (P:Program) (h:Hint) (l:eX) (o:Oper) (q:St):Option St:=(nR (FF h o) q).bind (step0 P h l o)
def qN (q:Array Oper) (o:Oper) (w:St):Option Bool:=
 match o.guard with
 |none=>some true
 |some (j,l)=>match(q[j]?).bind (·.dst) with
  |some d=>match w.env d with
   |some (.pv (.bool b))=>some (b==l)
   |some .undef=>some false
   |_=>none
  |none=>none
def rR (P:Program) (h:Hint) (q:eX) (w:Array Oper):List Oper->St->Option St
 |[],z=>some z
 |o::l,z=>match qN w o z with
  |some b=>bif b then(step P h q o z).bind (rR P h q w l) else rR P h q w l (z.set o.dst .undef)
  |none=>none
inductive Ex where
 |normal
 |exit (id:Nat)
 |ret
 deriving DecidableEq
def exOf:Nat->Ex
 |0=> .normal
 |_=> .ret
def iter (h:Hint) (key:Nat) (f:St->Option (Ex×St)):Nat->St->Option (Ex×St)
 |0,_=>none
 |n+1,q=>match f (h.canon key q) with
  |some (.normal,l)=>iter h key f n l
  |r=>r
def fH (l:Array Oper) (o:Oper):List Nat:=slotsOf o++match o.guard with
 |some (j,_)=>((l[j]?).bind (·.dst)).toList
 |none=>[]
def ace (o:Oper) (j:Nat):Bool:=o.after.toList.any λe=>Region.binds .any e&&Nat.beq e.on j
def tL:Nat->List Oper->Bool
 |_,[]=>true
 |i,o::l=>o.after.toList.all (λe=> !(Region.binds .any e)||Nat.blt e.on i)&&tL (i+1) l
def reach (l:Array Oper):Nat->Nat->Nat->Bool
 |0,_,_=>false
 |n+1,i,j=>match l[i]? with
  |some o=>ace o j||o.after.toList.any λe=>Region.binds .any e&&reach l n e.on j
  |none=>false
def Ob.uD:Ob->Ob
 | .row e l xs=> .row e l (xs.map λ_=>[])
 | .rn e l k w q xs _=> .rn e l k w q (xs.map λ_=>[]) []
 |_=> .it [] 0
structure gz where
 rs:List Nat:=[]
 rl:List Nat:=[]
 kp:Nat->Bool:=λ_=>false
 ws:List Nat:=[]
 ro:List Nat:=[]
 wo:List Nat:=[]
 mv:List Nat:=[]
 men:List Nat:=[]
 all:Bool:=false
 we:Nat->Bool:=λ_=>false
 oe:Nat->Bool:=λ_=>false
def meets (a b:List Nat):Bool:=a.any λx=>b.any (Nat.beq x)
def gz.conflict (a b:gz):Bool:=a.all||b.all||meets a.ws b.rs||meets a.rs b.ws||meets a.ws b.ws||meets a.wo b.ro||meets a.ro b.wo||meets a.wo b.wo||meets a.mv b.men||meets b.mv a.men||b.rs.any a.we||b.ro.any a.oe||b.rl.any (λj=>a.wo.contains j&& !(a.kp j))||a.rl.any (λj=>b.wo.contains j&& !(b.kp j))
def NQ (q:St):List Operand->List Nat
 |[]=>[]
 | .tmp t::l=>(match q.env t with
  |some s=>s.ids
  |none=>[])++NQ q l
 |_::l=>NQ q l
def Dv (l:St) (o:Oper):List Nat:=NQ l o.op.operands.toList
def targetId:SV->Option Nat
 | .ptr id _=>some id
 | .rp id _ _ _=>some id
 |_=>none
def yA:List Oper->List Nat
 |[]=>[]
 |o::l=>match o.op,o.dst with
  | .alloc _,some d=>d::yA l
  |_,_=>yA l
def ye (q:Array Oper) (l:List (Nat×gz)) (i:Nat) (f:gz):Bool:=l.all λp=>reach q 12 i p.1|| !(p.2.conflict f)
def Ud:Op->Bool
 | .move _| .assign _| .pick _ _ _=>true
 |_=>false
def LO (P:Program) (h:Hint) (o:Oper) (l:St):List Nat:=
 match o.op with
 | .call c=>match c.callee with
  | .value f=>match uU P h l c f with
   |some (_,args)=>bif o.dst.any h.stay.contains then jK l args else[]
   |none=>[]
  |_=>[]
 |_=>[]
def Ob.mentions (id:Nat):Ob->Bool
 | .box _ cells=>cells.any (SV.mentions id)
 |_=>false
def Ob.ids:Ob->List Nat
 | .box _ cells=>cells.flatMap SV.ids
 |_=>[]
def Pc (l:St) (t:Nat):List Nat:=match l.env t with
 |some s=>s.ids
 |none=>[]
def YX (l:St) (j:Nat):List Nat:=match l.ob j with
 |some o=>o.ids
 |none=>[]
def gz.fill (q l:St) (f:gz):gz:=
 {f with
  men:=f.mv++(f.ro++(f.wo++(f.rs.flatMap (Pc q)++(f.ws.flatMap (Pc l)++(f.ro.flatMap (YX q)++f.wo.flatMap (YX l))))))
  we:=λt=>match q.env t with
   |some v=>f.mv.any λid=>v.mentions id
   |none=>false
  oe:=λj=>match q.ob j with
   |some o=>f.mv.any λid=>o.mentions id
   |none=>false }
def jO:gz:={ all:=true }
def ac0:Op->Bool
 | .indexAddr _ _ _=>true
 |_=>false
def wB (P:Program) (h:Hint) (l:Array Oper) (o:Oper) (q:St):gz:=
 {rs:=fH l o,ws:=o.dst.toList,ro:=bif Ud o.op||ac0 o.op then[] else Dv q o++LO P h o q,rl:=bif ac0 o.op then Dv q o else[] }
def uu (l:Array Oper) (o:Oper):gz:={ rs:=fH l o,ws:=o.dst.toList }
def CA (P:Program) (l:Array Oper) (o:Oper) (q:St) (a:Operand):gz:=match(bw P 0 q a).bind targetId with
 |some id=>{ rs:=fH l o,ro:=id::Dv q o,wo:=[id] }
 |none=>jO
def Pk (P:Program) (l:Array Oper) (o:Oper) (q:St) (c:Call):gz:=match c.args.toList,c.argTypes.toList,o.dst with
 |[x,_],[t,_],some d=>match bw P t q x with
  |some (.row id)=>{ rs:=fH l o,ws:=[d],ro:=id::Dv q o,wo:=[id],mv:=[id] }
  |some (.aq id .full)=>{ rs:=fH l o,ws:=[d],ro:=id::Dv q o,wo:=[id],mv:=[id] }
  |_=>jO
 |_,_,_=>jO
def Tb (P:Program) (l:Array Oper) (o:Oper) (q:St) (x:Operand) (d:Nat):gz:=match bw P 0 q x with
 |some (.rp id _ _ _)=>match q.ob id with
  |some (.rn _ _ _ _ _ _ _)=>{ rs:=fH l o,ws:=[d],ro:=[id],wo:=[id,d],mv:=[d],kp:=λj=>Nat.beq j id&& !(Nat.beq id d) }
  |_=>jO
 |_=>jO
def Fb (P:Program) (l:Array Oper) (o:Oper) (w:St) (t:TypeId) (a x:Operand):gz:=match bw P 0 w a,bw P t w x with
 |some (.rp id _ _ _),some (.row j)=>{ rs:=fH l o,ro:=[id,j],wo:=[id,j,id+40000],mv:=[j,id+40000],kp:=λq=>Nat.beq q id&& !(Nat.beq id j) }
 |some (.ptr _ _),some (.sub _ _ _ _)=>jO
 |_,_=>CA P l o w a
def wA (P:Program) (h:Hint) (q:Array Oper) (o:Oper) (l:St) (c:Call) (f:Operand):gz:=match uU P h l c f with
 |some (_,args)=>{ rs:=fH q o,ws:=o.dst.toList,ro:=jK l args,wo:=jK l args,mv:=(jK l args).filter (iB false l (q7 args)) }
 |none=>jO
def oL (d:Nat):List Nat:=(List.range 8).map λk=>5000+16 *d+k
def Fa (P:Program) (h:Hint) (z:Array Oper) (o:Oper) (q:St) (c:Call) (f:Operand):gz:=match o.dst with
 |some d=>match find h.uP d with
  |some (_,[])=>match(bw P 0 q f).bind S9,C7 P [] d q 0 c.args.toList c.argTypes.toList with
   |some (_,pre,l),some w=>{ rs:=fH z o,ws:=[d],ro:=jK q (pre++(w++l))++oL d,wo:=jK q (pre++(w++l))++oL d,mv:=(jK q (pre++(w++l))).filter (λi=> !(stays (KN q (iB false q (wH [] 0 w))) i))++oL d }
   |_,_=>jO
  |_=>jO
 |none=>jO
def BK (P:Program) (h:Hint) (w:Array Oper) (o:Oper) (z:St) (d:Nat) (t:TypeId) (q:List (Nat×Operand)):gz:=
 match(zg P t).bind λB=>oy P ((find h.Qb d).getD []) d 0 (tV P 8 t) B,partsOf P (E7 P t) z q with
 |some (_,l),some _=>{ rs:=fH w o,ws:=[d],ro:=l.map (·.1),wo:=l.map (·.1),mv:=l.map (·.1) }
 |_,_=>jO
def mo (P:Program) (h:Hint) (l:Array Oper) (o:Oper) (w:St):gz:=
 match o.op,o.dst with
 | .store t a x,none=>Fb P l o w t a x
 | .alloc _,some d=>bif h.rows.contains d then jO else { rs:=fH l o,ws:=[d],wo:=[d],mv:=[d] }
 | .buildSlice _ _ _,some d=>bif h.ga.contains d then jO else bif h.rows.contains d then { rs:=fH l o,ws:=[d],wo:=[d],mv:=[d] } else jO
 | .build t q,some d=>bif h.rows.contains d then BK P h l o w d t q.toList else jO
 | .makeSlice _ _ _,some d=>{ rs:=fH l o,ws:=[d],wo:=[d],mv:=[d] }
 | .call c,_=>match c.callee with
  | .builtin .append=>Pk P l o w c
  | .value f=>bif o.dst.any h.owns.contains&& !(o.dst.any (λd=>(xJ h d).isSome)) then { rs:=fH l o,ws:=o.dst.toList,wo:=o.dst.toList,mv:=o.dst.toList }
   else bif !(o.dst.any h.owns.contains)&&(!(o.dst.any h.stay.contains)&&wide w c f) then wA P h l o w c f else bif o.dst.any h.owns.contains then Fa P h l o w c f else jO
  |_=>jO
 | .load _ x,some d=>bif h.take.contains d then Tb P l o w x d else jO
 |_,_=>jO
def sX:List Nat->St->St
 |[],q=>q
 |p::l,q=>sX l (q.dD p)
def isF (h:Hint) (l:St) (o:Oper):Bool:=
 match o.op with
 | .buildSlice _ _ _=> !(o.dst.any h.rows.contains||o.dst.any h.ga.contains)
 | .call c=>match c.callee with
  | .builtin .append=>false
  | .builtin .delete=>false
  | .builtin .clear=>false
  | .value f=> !(o.dst.any h.owns.contains)&&((o.dst.any h.stay.contains&&wide l c f)|| !(wide l c f||c.args.toList.any (λx=>(qb h l x).isSome)))
  |_=>true
 | .assign x=>match o.dst,x with
  |some d, .const (.slice none 0 0)=> !(h.rows.contains d)
  |some d,x=>(!(h.nq.contains d)&& !(h.mvs.contains d))|| !(lZ l x)
  |none,_=>true
 | .lookup _ x _ ok=> !(q8 h x&& !ok)
 | .makeFunc _ _ _| .move _| .pick _ _ _| .binOp _ _ _ _ _| .unOp _ _ _| .convert _ _ _| .fieldAddr _ _ _| .field _ _ _| .indexAddr _ _ _| .index _ _ _| .slice _ _ _ _ _| .extract _ _| .nilCheck _=>true
 | .build _ _=> !(o.dst.any h.rows.contains)
 | .load _ _=> !(o.dst.any h.take.contains)
 |_=>false
def isW:Op->Bool
 | .buildSlice _ _ _| .build _ _| .load _ _=>true
 |_=>false
def isWc (l:St):Op->Bool
 | .call c=>match c.callee with
  | .value _=> !(c.args.toList.any (lZ l))
  |_=>false
 |_=>false
def wV:List SV->List Nat
 |[]=>[]
 | .row id::l=>id::wV l
 |_::l=>wV l
def Qm (l:St) (t:Nat):gz:=
 match l.env t with
 |some (.row id)=>{ rs:=[t],ro:=[id],wo:=[id],mv:=[id] }
 |some (.ag [.r id])=>{ rs:=[t],ro:=[id],wo:=[id],mv:=[id] }
 |some (.ptr id _)=>match l.ob id with
  |some (.box _ cells)=>{ rs:=[t],ro:=id::wV cells,wo:=wV cells,mv:=wV cells }
  |_=>jO
 |_=>{ rs:=[t] }
def gz.then (a b:gz):gz:={ rs:=a.rs++b.rs,ws:=b.ws++a.ws,ro:=a.ro++b.ro,wo:=b.wo++a.wo,mv:=a.mv++b.mv,all:=a.all||b.all,rl:=a.rl++b.rl,kp:=λj=>(a.kp j|| !(a.wo.contains j))&&(b.kp j|| !(b.wo.contains j)) }
def NJ (P:Program) (h:Hint) (q:Array Oper) (o:Oper):List Nat->St->gz
 |[],w=>bif isF h w o then(bif isW o.op||isWc w o.op then wB P h q o w else jO) else mo P h q o w
 |t::l,w=>match qY w t with
  |some z=>(Qm w t).then (NJ P h q o l z)
  |none=>jO
def uX (P:Program) (h:Hint) (l:Array Oper) (o:Oper) (q:St):gz:=(NJ P h l o (FF h o) q).then { rs:=fH l o }
def kQ (P:Program) (h:Hint) (w:eX) (q:Array Oper):Nat->List Oper->List (Nat×gz)->St->Option St
 |_,[],_,z=>some z
 |i,o::l,B,z=>match qN q o z with
  |none=>none
  |some b=>bif b then
    bif isF h z o&&(FF h o).isEmpty then
     match ec P h w o z with
     |some v=>bif ye q B i ((wB P h q o z).fill z (z.set o.dst v)) then kQ P h w q (i+1) l ((i,(wB P h q o z).fill z (z.set o.dst v))::B) (z.set o.dst v) else none
     |none=>none
    else match step P h w o z with
     |some D=>bif ye q B i ((uX P h q o z).fill z D) then kQ P h w q (i+1) l ((i,(uX P h q o z).fill z D)::B) D else none
     |none=>none
   else bif ye q B i ((uu q o).fill z (z.set o.dst .undef)) then kQ P h w q (i+1) l ((i,(uu q o).fill z (z.set o.dst .undef))::B) (z.set o.dst .undef) else none
def St.LC (l:St) (id:Nat):Option St:=
 match l.ob id with
 |some (.box _ _)=>l.qZ id
 |none=>some l
 |_=>l.dh id
def Ap:List Nat->St->Option St
 |[],q=>some q
 |id::l,q=>(q.LC id).bind (Ap l)
def Hint.aeZ (h:Hint) (id:Nat) (q:St):Option St:=
 match find h.nS id with
 |some l=>Ap l q
 |none=>some q
def exec (P:Program) (h:Hint) (l:eX) (n:Nat):Code->St->Option (Ex×St)
 | .skip,q=>some (.normal,q)
 | .label _,q=>some (.normal,q)
 | .region id w B,q=>(h.aeZ id q).bind λq=>
  bif B then
   bif tL 0 w.toList then(kQ P h l w 0 w.toList [] (sX (yA w.toList) q)).map λs=>(.normal,s) else none
  else(rR P h l w w.toList q).map λs=>(.normal,s)
 | .seq a b,q=>match find h.blk (fG a) with
  |some x=>bif x.1 q then some (exOf (x.2 q).1,(x.2 q).2) else none
  |none=>match exec P h l n a q with
   |some (.normal,z)=>exec P h l n b z
   |r=>r
 | .cond c a b,q=>match bw P 0 q c with
  |some (.pv (.bool t))=>bif t then exec P h l n a q else exec P h l n b q
  |_=>none
 | .block id c,q=>match exec P h l n c q with
  |some (.exit j,z)=>bif Nat.beq j id then some (.normal,z) else some (.exit j,z)
  |r=>r
 | .loop c,q=>iter h (fG c) (exec P h l n c) n q
 | .exit id,q=>some (.exit id,q)
 | .ret,q=>some (.ret,q)
 | .scope c,q=>exec P h l n c q
 |_,_=>none
def zU:Nat->List SV->List (Nat×SV)
 |_,[]=>[]
 |i,v::l=>(i,v)::zU (i+1) l
def St.Qr (q:St) (id:Nat):Option St:=
 match q.ob id with
 |some (.box _ cells)=>(p9 cells q).bind λl=>l.qZ id
 |_=>none
def Qt (q:St) (t:Nat):Option (St×AV):=
 match q.env t with
 |some (.pv v)=>some (q,v)
 |some (.ptr id 0)=>match q.Qr id with
  |some l=>match l.env t with
   |some (.cp w)=>some (l, .ref w)
   |_=>none
  |none=>none
 |some (.row id)=>match q.dh id with
  |some l=>match l.env t with
   |some (.pv v)=>some (l,v)
   |_=>none
  |none=>none
 |_=>none
def uf (P:Program):List ResultVar->St->Option (St×List AV)
 |[],z=>some (z,[])
 | .tmp t::l,z=>match Qt z t with
  |some (w,v)=>match uf P l w with
   |some (q,B)=>some (q,v::B)
   |none=>none
  |none=>none
 | .cell D t::l,z=>match fe P ⟨none, .load t (.tmp D),t, "", #[],none⟩ z with
  |some (.pv v)=>match uf P l z with
   |some (q,B)=>some (q,v::B)
   |none=>none
  |some (.row id)=>match z.dh id with
   |some w=>match fe P ⟨none, .load t (.tmp D),t, "", #[],none⟩ w with
    |some (.pv v)=>match uf P l w with
     |some (q,B)=>some (q,v::B)
     |none=>none
    |_=>none
   |none=>none
  |_=>none
def result:List AV->AV
 |[v]=>v
 |vs=> .gy vs
def qC (names:List Nat) (q:St):List Nat->Option (List (Nat×Ob))
 |[]=>some []
 |id::l=>match q.ob id,qC names q l with
  |some o,some w=>bif o.closed names then some ((id,o)::w) else none
  |_,_=>none
def rL (N:Nat):Code->Bool
 | .region _ l _=>l.toList.all λo=>match o.dst with
  |some d=>Nat.blt d N
  |none=>true
 | .seq a b=>rL N a&&rL N b
 | .cond _ a b=>rL N a&&rL N b
 | .block _ c=>rL N c
 | .loop c=>rL N c
 | .scope c=>rL N c
 |_=>true
def VT (fn:Func):Bool:=Nat.ble fn.ntmps 10000&& !(fn.name== "runtime.NumGoroutine")&&match fn.body with
 |some c=>rL fn.ntmps c
 |none=>true
def Ea (P:Program):Bool:=P.follows .mixedOrders&&P.funcs.toList.all VT&&Nat.ble P.funcs.size 1000000
def QG (fn:Func) (names:List Nat) (l:St):Option Nat:=
 match fn.results.toList,names with
 |[.tmp t],[10000]=>match l.env t,l.ob 10000 with
  |some (.row 10000),some (.row _ _ xs)=>some xs.length
  |some (.sub 10000 _ 0 n),some (.row _ _ _)=>some n
  |_,_=>none
 |_,_=>none
def W4 (fn:Func) (l:St):Option AV:=
 match fn.results.toList with
 |[.tmp t]=>match l.env t with
  |some (.row id)=>match iJ id,l.ob id with
   |true,some (.row e q xs)=>some (.gy [.gy [.self e, .dK q xs]])
   |_,_=>none
  |_=>none
 |_=>none
def vI:Nat->List Nat->List (Nat×Nat)
 |_,[]=>[]
 |k,id::l=>(id,25000+k)::vI (k+1) l
def XL:pq->AV
 | .v a=>a
 | .r n=> .self n
 | .p n=> .self n
def abU:pq->Bool
 | .v (.self _)=>false
 |_=>true
def xT:SV->Option AV
 | .row n=>some (.self n)
 | .ptr n 0=>some (.self n)
 | .ag l=>bif l.all abU then some (.agg (l.map XL)) else none
 | .pv v=>bif v.scalar then some v else none
 |_=>none
def aaZ:SV->Option AV
 | .two v w=>match xT v,xT w with
  |some a,some b=>some (.gy [a,b])
  |_,_=>none
 |v=>xT v
def Y5 (P:Program) (l:St):ResultVar->Option SV
 | .tmp t=>l.env t
 | .cell q t=>fe P ⟨none, .load t (.tmp q),t, "", #[],none⟩ l
def Xe (P:Program) (l:St):List ResultVar->Option SV
 |[r]=>Y5 P l r
 |[r,q]=>match Y5 P l r,Y5 P l q with
  |some v,some w=>some (.two v w)
  |_,_=>none
 |_=>none
def Pm (P:Program) (fn:Func) (names:List Nat) (q:St):Option (AV×List (Nat×Ob)):=
 match Xe P q fn.results.toList with
  |some w=>
   let ids:=(gN q 200 (w.ids++names.flatMap (CC q)) []).filter iJ;let nn:=vI 0 ids
   bif distinct ids&&names.all (λn=>Nat.blt n 25000)&&w.closed (names++ids) then
    match aaZ (w.qV (iV nn)),kg q (names++ids) (iV nn) (names.map (λn=>(n,n))++nn) with
    |some x,some l=>some (.gy [.gy [.self 0, .lY,x]],l)
    |_,_=>none
   else none
  |none=>none
def aci (P:Program) (own:Bool) (fn:Func) (names:List Nat) (e:Ex) (q:St):Option (AV×List (Nat×Ob)):=
 match e with
 | .exit _=>none
 |_=>bif own then
   match W4 fn q,qC names q names with
   |some r,some l=>some (r,l)
   |_,_=>Pm P fn names q
  else match QG fn names q with
  |some n=>match qC names q names with
   |some l=>some (.self n,l)
   |none=>none
  |none=>match uf P fn.results.toList q with
   |some (w,z)=>match qC names w names with
    |some l=>some (result z,l)
    |none=>none
   |none=>none
def giv (i:Nat):Bool:=Nat.ble 9000 i&&iJ i
def ach (P:Program) (own:Bool) (fn:Func) (cM:List (Nat×Ob)) (e:Ex) (l:St):Option (AV×List (Nat×Ob)):=aci P own fn ((cM.map (·.1)).filter λi=> !(iJ i)) e l
def rj (P:Program) (H:Nat->Hint) (gT:eX):Nat->eX
 |0=>λ_ _ _=>none
 |n+1=>λf args cM=>match gT f args cM with
  |some r=>some r
  |none=>match P.funcs[f]? with
   |some fn=>match fn.body with
    |some c=>
     bif Nat.ble args.length fn.ntmps&&(cM.map (·.1)).all (λi=> !(iJ i)||giv i) then
      match exec P (H f) (rj P H gT n) n c { env:=find (zU 0 args),ob:=find cM } with
      |some (e,l)=>ach P (H f).own fn cM e l
      |none=>none
     else none
    |none=>none
   |none=>none
