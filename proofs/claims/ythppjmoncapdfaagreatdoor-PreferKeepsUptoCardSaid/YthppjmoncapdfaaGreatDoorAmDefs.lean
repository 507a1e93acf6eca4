/- AN ABSTRACT MACHINE over the model's code. -/
import Derived.Calls
import Derived.CallsIn
import Derived.OrdersIn
import Derived.LoopNIn
import Derived.TacticsIn
import Derived.RangeFuncIn
import Derived.Orders
import Derived.LoopN
import Derived.Scope
import Derived.Below
import Derived.Laws.OwnMore
import Derived.Maps.AppendAt
import Derived.Laws.BytesString
set_option linter.all false
def af {p:Prop} (h:p:=by omega):p:=h
def ah {p:Prop} (h:p:=by simp):p:=h
def aF {p:Prop} (h:p:=by simp;omega):p:=h
abbrev dM:=@Option.bind_eq_some_iff
abbrev fS:=@if_true
abbrev aN:=@Option.some.injEq
abbrev aK:=@congrArg
abbrev dN:=@List.cons.injEq
abbrev fG:=@and_true
abbrev eE:=@Array.getElem?_eq_some_iff
abbrev uJ:=@List.mem_of_mem_drop
abbrev uK:=@List.mem_of_mem_take
abbrev bw:=@List.mem_append
abbrev kj:=@Nat.add_mul
abbrev aU:=@Nat.le_refl
abbrev cZ:=@Nat.zero_le
abbrev bJ:=@Go.run_underlying
abbrev fW:=@Go.Sem.run_bind
abbrev gO:=@Go.Result.andThen_ok
abbrev fI:=@List.length_take
abbrev zz:=@Go.run_loadCells_list
abbrev bZ:=@Option.map_eq_some_iff
abbrev kn:=@Option.isSome_iff_exists
abbrev az:=@if_pos
abbrev Fw:=@List.drop_length_add_append
abbrev kY:=@List.eq_nil_of_length_eq_zero
abbrev aI:=@List.mem_of_getElem?
abbrev qw:=@List.getElem?_take
abbrev fD:=@List.foldl_cons
abbrev aS:=@List.map_cons
abbrev kZ:=@Nat.add_assoc
abbrev bF:=@List.getElem?_eq_some_iff
abbrev vr:=@List.getElem?_drop
abbrev jB:=@Nat.mul_le_mul_right
abbrev aM:=@List.getElem?_eq_getElem
abbrev gy:=@Nat.zero_add
abbrev zA:=@Go.Value.pointer.injEq
abbrev zB:=@Go.Addr.mk.injEq
abbrev Fx:=@List.drop_take
abbrev au:=@if_neg
abbrev aG:=@List.mem_cons
abbrev bg:=@List.length_cons
abbrev eT:=@List.append_assoc
abbrev eU:=@List.cons_append
abbrev dh:=@List.nil_append
abbrev qx:=@Nat.add_zero
abbrev zC:=@Array.length_toList
abbrev PF:=@Array.toList_zipIdx
abbrev gP:=@List.all_cons
abbrev aJ:=@Bool.and_eq_true
abbrev zD:=@List.mapM_cons
abbrev eV:=@List.map_map
abbrev ko:=@Function.comp_def
abbrev cz:=@List.all_eq_true
abbrev Fy:=@List.getElem?_toArray
abbrev zF:=@Option.map_none
abbrev ai:=@cond_true
abbrev dB:=@Nat.le_trans
abbrev zG:=@Nat.le_succ
abbrev bB:=@Prod.mk.injEq
abbrev gz:=@Nat.eq_of_beq_eq_true
abbrev fZ:=@Nat.beq_refl
abbrev qy:=@List.any_cons
abbrev mF:=@Bool.or_eq_false_iff
abbrev vt:=@Array.getElem?_setIfInBounds_ne
abbrev iz:=@List.mem_iff_getElem
abbrev FA:=@List.getElem?_eq_none_iff
abbrev vv:=@Array.getElem?_eq_getElem
abbrev eO:=@Nat.lt_of_lt_of_le
abbrev ga:=@List.getElem?_append_right
abbrev vw:=@List.replicate_succ
abbrev sU:=@Nat.succ_mul
abbrev sV:=@Nat.add_comm
abbrev kq:=@List.ext_getElem?
abbrev sW:=@Nat.mod_eq_of_lt
abbrev gd:=@List.take_of_length_le
abbrev zH:=@Nat.zero_mul
abbrev dD:=@List.getElem?_append_left
abbrev iZ:=@Go.RowKit.Below.refl
abbrev sX:=@Go.heap_alloc_new
abbrev FB:=@Nat.mul_le_mul_left
abbrev aD:=@List.mem_map
abbrev dF:=@List.getElem?_map
abbrev vz:=@Go.run_storeCells_at
abbrev lg:=@Go.Sem.run_pure
abbrev dR:=@List.map_nil
abbrev vA:=@Go.setRow_other
abbrev zI:=@Go.setRow_heap
abbrev zJ:=@Nat.min_eq_left
abbrev cS:=@List.length_append
abbrev qz:=@not_true_eq_false
abbrev eC:=@if_false
abbrev aV:=@List.length_map
abbrev FC:=@List.set_eq_take_append_cons_drop
abbrev fq:=@Bool.or_eq_true
abbrev cO:=@Ne.symm
abbrev mG:=@List.size_toArray
abbrev lq:=@List.getElem?_set_self
abbrev bM:=@List.map_append
abbrev gW:=@List.nodup_append
abbrev iA:=@Bool.not_eq_true'
abbrev cD:=@Nat.blt_eq
abbrev qC:=@List.getElem?_set
abbrev gB:=@List.getElem?_set_ne
abbrev mN:=@List.mem_or_eq_of_mem_set
abbrev CL:=@List.set_append_left
abbrev mO:=@List.set_append_right
abbrev jk:=@Nat.lt_of_le_of_lt
abbrev aA:=@cond_false
abbrev qL:=@List.any_eq_false
abbrev fo:=@List.mem_filterMap
abbrev CM:=@List.filterMap_cons
abbrev bX:=@List.mem_singleton
abbrev fK:=@Option.bind_some
abbrev oB:=@Go.callsIn_wide
abbrev dw:=@Nat.le_of_ble_eq_true
abbrev fA:=@List.nodup_cons
abbrev eo:=@List.mem_cons_of_mem
abbrev jW:=@not_or
abbrev cH:=@List.mem_filter
abbrev cW:=@Bool.false_eq_true
abbrev mP:=@false_imp_iff
abbrev gj:=@beq_iff_eq
abbrev gT:=@List.map_congr_left
abbrev jX:=@List.map_id
abbrev qM:=@Bool.and_self
abbrev cR:=@Option.map_some
abbrev gC:=@Bool.not_true
abbrev qN:=@Option.getD_some
abbrev xG:=@List.filter_eq_nil_iff
abbrev xH:=@Bool.and_eq_true_iff
abbrev cU:=@Option.some.inj
abbrev oC:=@Nat.add_sub_cancel
abbrev jl:=@Array.toList_append
abbrev bP:=@decide_eq_false_iff_not
abbrev dV:=@List.mem_append_left
abbrev eL:=@List.not_mem_nil
abbrev eS:=@or_false
abbrev qO:=@Bool.false_and
abbrev qP:=@List.filter_congr
abbrev xI:=@Option.any_some
abbrev iL:=@Bool.false_or
abbrev xJ:=@Bool.or_false
abbrev tR:=@List.isEmpty_iff
abbrev eM:=@List.mem_range
abbrev CN:=@Array.all_eq_true'
abbrev dz:=@Classical.byContradiction
abbrev dA:=@List.pairwise_cons
abbrev CO:=@List.append_of_mem
abbrev oD:=@List.pairwise_append
abbrev tS:=@Go.wpIn_wide
abbrev kU:=@Go.wpIn_mono
abbrev tT:=@Array.getElem?_append_left
abbrev jY:=@dif_pos
abbrev qQ:=@Nat.le_max_left
abbrev qR:=@Nat.le_max_right
abbrev qS:=@List.mem_cons_self
abbrev mQ:=@List.any_eq_true
abbrev ij:=@Nat.ble_eq_true_of_le
abbrev gl:=@Bool.true_and
abbrev gD:=@true_and
abbrev aZ:=@List.getD_eq_getElem?_getD
abbrev eN:=@Int.eq_ofNat_of_zero_le
abbrev jZ:=@decide_eq_true_eq
abbrev CP:=@UInt8.lt_iff_toNat_lt
abbrev xK:=@List.length_drop
abbrev er:=@List.length_nil
abbrev qT:=@List.drop_drop
abbrev aR:=@Int.toNat_natCast
abbrev tU:=@List.findIdx?_cons
abbrev tV:=@decide_false
abbrev xL:=@List.findIdx?_eq_some_iff_getElem
abbrev jm:=@List.map_set
abbrev oE:=@List.ext_getElem
abbrev kV:=@List.map_drop
abbrev oF:=@List.map_replicate
abbrev jo:=@Bool.eq_iff_iff
abbrev xM:=@Go.mapM_some_length
abbrev e7:=@List.append_nil
abbrev tW:=@List.idxOf_cons
abbrev iN:=@beq_eq_false_iff_ne
abbrev j0:=@bne_iff_ne
abbrev CQ:=@List.filter_eq_self
abbrev fL:=@List.filter_cons
abbrev mR:=@List.prefix_refl
abbrev xN:=@List.IsPrefix.trans
abbrev xO:=@List.prefix_append
abbrev j4:=@List.length_singleton
abbrev gU:=@List.pairwise_map
abbrev fB:=@List.getElem?_eq_none
abbrev qU:=@List.getElem?_cons_succ
abbrev xP:=@List.length_pos_of_mem
abbrev oG:=@List.getElem?_range
abbrev xQ:=@Int.natCast_nonneg
abbrev gE:=@List.mem_iff_getElem?
abbrev oH:=@List.mem_of_find?_eq_some
abbrev oI:=@List.find?_some
abbrev tX:=@List.find?_eq_none
abbrev xR:=@List.length_filterMap_le
abbrev tY:=@Nat.lt_irrefl
abbrev mS:=@Nat.sub_self
abbrev j5:=@List.length_replicate
abbrev iO:=@Nat.testBit_and
abbrev qV:=@Nat.eq_of_testBit_eq
abbrev CR:=@List.findIdx?_eq_none_iff
abbrev br:=@List.getElem_mem
abbrev qW:=@List.getElem_inj
abbrev iP:=@List.range_succ
abbrev oJ:=@List.getElem_map
abbrev CS:=@List.getElem_range
abbrev tZ:=@List.range'_succ
abbrev xS:=@List.range_eq_range'
abbrev mU:=@List.drop_eq_nil_of_le
abbrev kW:=@List.drop_eq_getElem_cons
abbrev j6:=@Nat.and_le_left
abbrev xT:=@Nat.testBit_lt_two_pow
abbrev xU:=@Nat.pow_le_pow_right
abbrev mV:=@decide_eq_decide
abbrev iQ:=@List.mem_map_of_mem
abbrev jq:=@List.take_append_drop
abbrev mW:=@Bool.not_false
abbrev ua:=@Nat.sub_zero
abbrev CT:=@List.filter_filter
abbrev cr:=@List.take_add_one
abbrev fC:=@List.take_length
abbrev uc:=@decide_true
abbrev ud:=@List.mem_take_iff_getElem
abbrev xV:=@Bool.true_eq_false
abbrev xW:=@Bool.not_eq_false
abbrev xX:=@List.take_append_of_le_length
abbrev CU:=@List.getElem?_cons_zero
abbrev kX:=@List.length_filter_le
abbrev jr:=@List.getElem?_replicate
abbrev CV:=@Int.fdiv_eq_ediv_of_nonneg
abbrev bH:=@decide_eq_true_iff
abbrev CW:=@List.filter_append
abbrev mX:=@List.pairwise_iff_getElem
abbrev xY:=@List.perm_middle
abbrev oK:=@List.length_eq_zero_iff
abbrev CX:=@List.pairwise_lt_range
abbrev xZ:=@List.filter_sublist
abbrev x4:=@Nat.testBit_two_pow_mul_add
abbrev x5:=@Nat.pow_succ
abbrev CY:=@BitVec.ofInt_natCast
abbrev ue:=@BitVec.toNat_ofNat
abbrev qX:=@List.find?_cons
abbrev oL:=@List.flatMap_cons
abbrev uf:=@List.drop_zero
abbrev CZ:=@Option.isSome_some
abbrev x6:=@List.length_range
abbrev fM:=@List.length_set
abbrev x7:=@Int.lt_trichotomy
abbrev fN:=@List.mem_append_right
abbrev qY:=@List.idxOf_append
abbrev qZ:=@List.set_cons_zero
abbrev ug:=@List.drop_append_of_le_length
abbrev C0:=@List.replicate_zero
abbrev mY:=@List.replicate_succ'
abbrev uh:=@Nat.mul_le_mul
abbrev C1:=@List.pairwise_singleton
abbrev C6:=@List.getElem?_zipWith
abbrev q7:=@List.sum_cons
abbrev x8:=@bne_eq_false_iff_eq
abbrev uj:=@decide_eq_false
abbrev js:=@Int.le_refl
abbrev C7:=@Nat.add_sub_cancel_left
abbrev C8:=@List.contains_iff_mem
abbrev fO:=@of_decide_eq_true
abbrev ya:=@Array.getElem?_modify
abbrev yb:=@Nat.mul_one
abbrev yc:=@of_decide_eq_false
abbrev q8:=@List.flatten_cons
abbrev oM:=@List.getElem!_eq_getElem?_getD
abbrev Da:=@List.getElem!_toArray
abbrev yd:=@Go.Oper.semAt_some
abbrev uk:=@Go.callsIn_of_wp
abbrev oN:=@Array.replicate_succ
abbrev oO:=@Array.replicate_zero
abbrev oP:=@List.push_toArray
abbrev oQ:=@List.append_toArray
abbrev jt:=@Go.RowKit.Below.heap_alloc
abbrev um:=@Array.getElem?_setIfInBounds
abbrev oR:=@Go.wp_seq
abbrev ye:=@Go.wp_region_list
abbrev j7:=@Go.wpList_plain
abbrev uo:=@Go.wpList_nil
abbrev q9:=@Array.mem_of_getElem?
abbrev rf:=@Array.mem_def
open BitVec (ofInt)
namespace Go.AM
inductive AV where
 |bool (b:Bool)
 |int (k:IntKind) (n:Int)
 |str (s:List UInt8)
 |dK (sz:Nat) (xs:List (List AV))
 |agg (cs:List AV)
 |fn (f:Nat) (caps:List AV)
 |lR (vs:List AV)
 |ref (cs:List AV)
 |mp (ks vs:List AV)
 |self (n:Nat)
 |DQ
 |qm
 |hole
 deriving Inhabited
inductive pY where
 |v (a:AV)
 |p (id:Nat)
 |r (id:Nat)
 deriving Inhabited
inductive Ak where
 |full
 |nr (i:Nat)
 deriving Inhabited
inductive SV where
 |undef
 |any
 |pv (v:AV)
 |ptr (id off:Nat)
 |row (id:Nat)
 |rp (id sz i off:Nat)
 |sub (id sz lo hi:Nat)
 |cp (cs:List AV)
 |cl (f:Nat) (caps:List pY)
 |two (v:SV) (b:Bool)
 |ag (cs:List pY)
 |aq (id:Nat) (q:Ak)
 deriving Inhabited
inductive Ob where
 |box (t:TypeId) (cells:List SV)
 |row (e:TypeId) (sz:Nat) (xs:List (List AV))
 |mp (k e:TypeId) (ks vs:List AV)
 |mr (k e:TypeId) (sz:Nat) (ks:List AV) (vs:List (Option (List (List AV))))
 |it (s:List UInt8) (pos:Nat)
  |lp (xs:List AV)
  |rn (e:TypeId) (sz k:Nat) (e':TypeId) (sz':Nat) (xs:List (List AV)) (ys:List (Option (List (List AV))))
 deriving Inhabited
structure St where
 env:Nat->Option SV
 ob:Nat->Option Ob
def AV.cells:AV->List AV
 | .agg l=>l
 |v=>[v]
def AV.F6:AV->Bool
 | .lR _=>false
 |_=>true
def AV.aaM:AV->Bool
 | .lR _=>true
 |_=>false
def AV.kF:AV->Bool
 | .self _=>false
 | .lR l=>bif Nat.beq l.length 1 then !(l.any AV.aaM) else true
 |_=>true
def AV.scalar:AV->Bool
 | .bool _| .int _ _| .str _=>true
 |_=>false
def AV.plain:AV->Bool
 | .lR l=>l.all AV.scalar
 |v=>v.scalar
def find {q:Type}:List (Nat×q)->Nat->Option q
 |[],_=>none
 |(j,v)::l,i=>cond (Nat.beq j i) (some v) (find l i)
def put {l:Type} (m:Nat->Option l) (d:Nat) (v:Option l):Nat->Option l:=λi=>cond (Nat.beq d i) v (m i)
def St.set (l:St) (d:Option Nat) (v:SV):St:=
 match d with
 |some d=>{ l with env:=put l.env d (some v) }
 |none=>l
structure Hint where
 loops:List (Nat×List Nat×List Nat):=[]
 rows:List Nat:=[]
 mu:List Nat:=[]
 jT:List Nat:=[]
 nV:List (Nat×List Nat):=[]
 stay:List Nat:=[]
 keep:List Nat:=[]
 blk:List (Nat×(St->Bool)×(St->Nat×St)):=[]
 use:List Nat:=[]
 owns:List Nat:=[]
 own:Bool:=false
 qm:List (Nat×List (Nat×TypeId×Nat)):=[]
 take:List Nat:=[]
 nilz:List (Nat×List Nat):=[]
 nest:List (Nat×Nat×TypeId×Nat):=[]
 mvs:List Nat:=[]
 bx:List Nat:=[]
def sM {q:Type} (m:Nat->Option q):List Nat->List (Nat×q)
 |[]=>[]
 |i::l=>match m i with
  |some v=>(i,v)::sM m l
  |none=>sM m l
def Hint.canon (h:Hint) (key:Nat) (w:St):St:=
 match find h.loops key with
 |some (l,q)=>{ env:=find (sM w.env l),ob:=find (sM w.ob q) }
 |none=>w
def dU:Code->Nat
 | .region id _ _=>id
 | .seq a _=>dU a
 | .cond _ a _=>dU a
 | .block _ c=>dU c
 | .loop c=>dU c
 | .scope c=>dU c
 |_=>0
def isSlice (P:Program) (t:TypeId):Option (TypeId×Nat):=
 match P.underlying t with
 |some (.slice e)=>(P.info? e).map λi=>(e,i.size)
 |_=>none
def CJ (P:Program) (t:TypeId):Option Bool:=
 match P.underlying t with
 |some (.struct _)|some (.array _ _)=>some true
 |some _=>some false
 |none=>none
def kN (P:Program) (t:TypeId):Option Nat:=(P.info? t).map (·.size)
def ofConst (P:Program) (t:TypeId):Value->Option AV
 | .bool b=>some (.bool b)
 | .int k n=>some (.int k n)
 | .string s=>some (.str s.data.toList)
 | .slice none 0 0=>(isSlice P t).map λx=> .dK x.2 []
 | .pointer none=>some .DQ
 | .nilFunc=>some .hole
 | .map none=>match P.underlying t with
  |some (.map _ _)=>some (.mp [] [])
  |_=>none
 |_=>none
def bz (P:Program) (t:TypeId) (st:St):Operand->Option SV
 | .tmp i=>st.env i
 | .const v=>(ofConst P t v).map .pv
 | .func f=>some (.pv (.fn f []))
 | .global _=>none
def vD (P:Program):Nat->TypeId->List TypeId
 |0,_=>[]
 |n+1,t=>match P.underlying t with
  |some (.struct l)=>l.toList.flatMap λf=>vD P n f.type
  |some (.array m e)=>(List.replicate m (vD P n e)).flatten
  |_=>[t]
def nv (P:Program):List TypeId->List Value->Option (List AV)
 |[],[]=>some []
 |t::l,v::q=>match ofConst P t v,nv P l q with
  |some a,some as=>some (a::as)
  |_,_=>none
 |_,_=>none
def zeroCells (P:Program) (t:TypeId):Option (List AV):=
 match P.info? t with
 |some i=>match i.zero with
  |some z=>nv P (vD P 8 t) z.cells.toList
  |none=>none
 |none=>none
def Ec:List Nat->List AV->Option (List AV)
 |[],l=>some l
 |k::q,l=>match l[k]? with
  |some (.dK _ [])=>(Ec q l).map λz=>z.set k .qm
  |_=>none
def L3 (P:Program) (h:Hint) (d:Option Nat) (t:TypeId):Option (List AV):=
 match d.bind (find h.nilz) with
 |some l=>(zeroCells P t).bind (Ec l)
 |none=>zeroCells P t
def ET (op:BinOp) (k:IntKind) (a b:Int):Option AV:=
 match op with
 | .add=>some (.int k (k.wrap (a+b)))
 | .sub=>some (.int k (k.wrap (a-b)))
 | .mul=>some (.int k (k.wrap (a *b)))
 | .quo=>if b=0 then none else some (.int k (k.wrap (a.tdiv b)))
 | .rem=>if b=0 then none else some (.int k (a.tmod b))
 | .and=>some (.int k (k.wrap (ofInt k.bits a&&&ofInt k.bits b).toNat))
 | .or=>some (.int k (k.wrap (ofInt k.bits a|||ofInt k.bits b).toNat))
 | .xor=>some (.int k (k.wrap (ofInt k.bits a^^^ ofInt k.bits b).toNat))
 | .andNot=>some (.int k (k.wrap (ofInt k.bits a&&& ~~~ofInt k.bits b).toNat))
 | .eql=>some (.bool (a==b))
 | .neq=>some (.bool (a !=b))
 | .lss=>some (.bool (a<b))
 | .leq=>some (.bool (a<=b))
 | .gtr=>some (.bool (a>b))
 | .geq=>some (.bool (a>=b))
 | .shl| .shr=>none
def AD (op:BinOp) (k:IntKind) (a b:Int):Option AV:=
 if b<0 then none else
 match op with
 | .shl=>some (.int k (k.wrap (a *2^ min b.toNat k.bits)))
 | .shr=>some (.int k (a.fdiv (2^ min b.toNat k.bits)))
 |_=>none
def U3 (op:BinOp) (a b:List UInt8):Option AV:=
 match op with
 | .add=>if a.length+b.length<=9223372036854775807 then some (.str (a++b)) else none
 | .eql=>some (.bool (a==b))
 | .neq=>some (.bool !(a==b))
 | .lss=>some (.bool (Op.bytesLess a b))
 | .leq=>some (.bool (Op.bytesLess a b||a==b))
 | .gtr=>some (.bool !(Op.bytesLess a b||a==b))
 | .geq=>some (.bool !(Op.bytesLess a b))
 |_=>none
def vK:AV->AV->Option Bool
 | .str a, .str b=>some (a==b)
 | .int k a, .int k' b=>if k=k' then some (a==b) else none
 | .bool a, .bool b=>some (a==b)
 |_,_=>none
def jE (P:Program) (k:TypeId) (key:AV):Bool:=
 match P.underlying k,key with
 |some .string, .str _=>true
 |some (.int q), .int l _=>q==l
 |some .bool, .bool _=>true
 |_,_=>false
def K4 (P:Program) (xs l:List AV):List Field->Option Bool
 |[]=>some true
 |f::w=>match xs[f.offset]?,l[f.offset]? with
  |some a,some b=>bif !(f.name== "_")&&jE P f.type a&&jE P f.type b&&(kN P f.type).isSome then
    match vK a b,K4 P xs l w with
    |some r,some q=>some (r&&q)
    |_,_=>none
   else none
  |_,_=>none
def SP (P:Program) (op:BinOp) (t:TypeId) (xs q:List AV):Option AV:=
 match P.underlying t with
 |some (.struct l)=>bif !(P.stoodInHeld t)&& !(P.eqGuardType P.depth t) then
   match op,K4 P xs q l.toList with
   | .eql,some b=>some (.bool b)
   | .neq,some b=>some (.bool !b)
   |_,_=>none
  else none
 |_=>none
def bin (P:Program) (op:BinOp) (t:TypeId) (x y:AV):Option AV:=
 match x,y with
 | .agg xs, .agg l=>SP P op t xs l
 | .int k a, .int k' b=>match op with
  | .shl| .shr=>AD op k a b
  |_=>if k=k' then ET op k a b else none
 | .str a, .str b=>U3 op a b
 | .bool a, .bool b=>match P.underlying t,op with
  |some .bool, .eql=>some (.bool (a==b))
  |some .bool, .neq=>some (.bool !(a==b))
  |_,_=>none
 |_,_=>none
def un (op:UnOp) (x:AV):Option AV:=
 match op,x with
 | .neg, .int k n=>some (.int k (k.wrap (0-n)))
 | .not, .bool b=>some (.bool !b)
 |_,_=>none
def iJ :SV->Option AV
 | .pv v=>some v
 |_=>none
def lW:List SV->Option (List AV)
 |[]=>some []
 | .pv v::l=>(lW l).map (v:: ·)
 |_::_=>none
def vB:List SV->Option (List pY)
 |[]=>some []
 | .pv v::l=>(vB l).map (.v v:: ·)
 | .row id::l=>(vB l).map (.r id:: ·)
 |_::_=>none
def iG (P:Program) (t:TypeId) (l:List AV):Option AV:=
 match CJ P t,kN P t with
 |some true,some n=>if n<=l.length then some (.agg (l.take n)) else none
 |some false,some _=>l[0]?
 |_,_=>none
def vH (P:Program) (t:TypeId) (f:Nat):Option Field:=
 match P.underlying t with
 |some (.struct l)=>l[f]?
 |_=>none
def wP (place:Nat->Option (Nat×Nat)) (cells:List AV):List (Nat×AV)->Option (List AV)
 |[]=>some cells
 |(i,v)::q=>match place i with
  |none=>none
  |some (l,size)=>if v.cells.length=size/\l+size<=cells.length then wP place (cells.take l++v.cells++cells.drop (l+size)) q else none
def ow (P:Program) (t:TypeId) (f:Nat):Option (Nat×Nat):=
 match vH P t f with
 |some fd=>(kN P fd.type).map λn=>(fd.offset,n)
 |none=>none
def partsOf (P:Program) (ty:Nat->TypeId) (q:St):List (Nat×Operand)->Option (List (Nat×AV))
 |[]=>some []
 |(i,x)::l=>match(bz P (ty i) q x).bind iJ,partsOf P ty q l with
  |some v,some w=>some ((i,v)::w)
  |_,_=>none
def VK (P:Program) (t:TypeId) (i:Nat):TypeId:=((vH P t i).map (·.type)).getD 0
def chunks (q:Nat):Nat->List AV->List (List AV)
 |0,_=>[]
 |n+1,l=>l.take q::chunks q n (l.drop q)
def tj (z:List AV):Nat->List AV
 |0=>[]
 |n+1=>z++tj z n
def elems (l:St):SV->Option (Nat×List (List AV))
 | .pv (.dK sz xs)=>some (sz,xs)
 | .row id=>match l.ob id with
  |some (.row _ sz xs)=>some (sz,xs)
  |_=>none
 | .sub id s w q=>match l.ob id with
  |some (.row _ sz xs)=>bif Nat.beq s sz then some (sz,(xs.take q).drop w) else none
  |_=>none
 |_=>none
def lenOf (l:St):SV->Option Nat
 | .pv (.dK _ xs)=>some xs.length
 | .row id=>match l.ob id with
  |some (.row _ _ xs)=>some xs.length
  |some (.rn _ _ _ _ _ xs _)=>some xs.length
  |_=>none
 |_=>none
def pJ (key:AV):List AV->Option (Option Nat)
 |[]=>some none
 |x::l=>match vK key x with
  |some true=>some (some 0)
  |some false=>(pJ key l).map λr=>r.map (· +1)
  |none=>none
def Uu {l:Type} (key:AV) (ks:List AV) (q:List l):Option (Option l):=
 match pJ key ks with
 |some (some i)=>(q[i]?).map some
 |some none=>some none
 |none=>none
def Cf {q:Type} (key:AV) (v:q) (l:List AV) (w:List q):Option (List AV×List q):=
 match pJ key l with
 |some (some i)=>some (l,w.set i v)
 |some none=>some (l++[key],w++[v])
 |none=>none
def mdel {w:Type} (key:AV) (l:List AV) (q:List w):Option (List AV×List w):=
 match pJ key l with
 |some (some i)=>some (l.eraseIdx i,q.eraseIdx i)
 |some none=>some (l,q)
 |none=>none
def maps (w:St):SV->Option (List AV×List AV)
 | .pv (.mp l q)=>some (l,q)
 | .row id=>match w.ob id with
  |some (.mp _ _ l q)=>some (l,q)
  |_=>none
 |_=>none
def FW (q:St):SV->Option (List AV)
 | .row id=>match q.ob id with
  |some (.mr _ _ _ l _)=>some l
  |_=>none
 |_=>none
def pH (P:Program) (t:TypeId):Option AV:=
 match P.info? t with
 |some i=>match i.zero with
  |some (.agg l)=>(nv P (vD P 8 t) l.toList).map .agg
  |some v=>ofConst P t v
  |none=>none
 |none=>none
def found (ok:Bool) (v:AV) (b:Bool):AV:=bif ok then .lR [v, .bool b] else v
def bytesOf:List (List AV)->Option (List UInt8)
 |[]=>some []
 |[.int .u8 n]::l=>(bytesOf l).map (UInt8.ofNat n.toNat:: ·)
 |_=>none
def gX (w:Option SV) (l:Nat) (q:Nat):Option Nat:=
 match w with
 |none=>some l
 |some (.pv (.int _ i))=>if 0<=i/\i<=q then some i.toNat else none
 |some _=>none
def nh (P:Program) (l:St):Option Operand->Option (Option SV)
 |none=>some none
 |some x=>(bz P 0 l x).map some
def acG (l:Bool):AV->AV->Option AV
 | .int k a, .int k' b=>if k=k' then some (.int k (if l then(if b>a then b else a) else(if b<a then b else a))) else none
 | .str a, .str b=>some (.str (bif l then(bif !(Op.bytesLess a b) then a else b) else(bif Op.bytesLess a b||a==b then a else b)))
 |_,_=>none
def mj (P:Program) (z:St) (q:Bool) (w:AV):List Operand->Option AV
 |[]=>some w
 |x::l=>match(bz P 0 z x).bind iJ with
  |some v=>match acG q w v with
   |some r=>mj P z q r l
   |none=>none
  |none=>none
def xb (P:Program) (c:Call) (q:St):Option SV:=
 match c.callee,c.args.toList with
 | .builtin .len,[x]=>match c.argTypes.toList with
  |[t]=>match P.underlying t,bz P t q x with
   |some .string,some (.pv (.str s))=>some (.pv (.int .i64 s.length))
   |some (.slice _),some (.pv .qm)=>some (.pv (.int .i64 0))
   |some (.slice _),some (.sub _ _ z w)=>some (.pv (.int .i64 ((w-z:Nat):Int)))
   |some (.slice _),some v=>(lenOf q v).map λ(n:Nat)=>SV.pv (.int .i64 (n:Int))
   |some (.map _ _),some v=>(maps q v).map λe=> .pv (.int .i64 e.1.length)
   |_,_=>none
  |_=>none
 | .builtin .max,x::l=>match(bz P 0 q x).bind iJ with
  |some v=>(mj P q true v l).map .pv
  |none=>none
 | .builtin .min,x::l=>match(bz P 0 q x).bind iJ with
  |some v=>(mj P q false v l).map .pv
  |none=>none
 |_,_=>none
def B8 (P:Program) (q:St) (n:Nat) (e:TypeId) (x z:Operand):Option SV:=
 match kN P e,bz P 0 q x,bz P 0 q z with
 |some s,some (.ptr id l),some (.pv (.int _ i))=>if 0<=i/\i<n/\0<s then some (.ptr id (l+i.toNat *s)) else none
 |some s,some (.rp id B j l),some (.pv (.int _ i))=>if 0<=i/\i<n/\0<s then some (.rp id B j (l+i.toNat *s)) else none
 |some s,some (.cp w),some (.pv (.int _ i))=>if 0<=i/\i<n/\0<s then some (.cp (w.drop (i.toNat *s))) else none
 |_,_,_=>none
def wS (P:Program) (q:St) (t:TypeId) (x B:Operand):Option SV:=
 match isSlice P t,bz P t q x,bz P 0 q B with
 |some (_,s),some (.pv (.dK l xs)),some (.pv (.int _ i))=>if s=l/\0<=i then(xs[i.toNat]?).map .cp else none
 |some (_,s),some (.row id),some (.pv (.int _ i))=>match q.ob id with
  |some (.row _ l xs)=>if s=l/\0<=i/\i.toNat<xs.length then some (.rp id l i.toNat 0) else none
  |some (.rn _ l _ _ _ xs _)=>if s=l/\0<=i/\i.toNat<xs.length then some (.rp id l i.toNat 0) else none
  |_=>none
 |some (_,s),some (.sub id l w z),some (.pv (.int _ i))=>if s=l/\0<=i/\i.toNat<z-w then some (.rp id l (w+i.toNat) 0) else none
 |_,_,_=>none
def yj (P:Program) (z:Option (List AV)) (t:TypeId) (l:Array (Nat×Operand)) (B:St):Option SV:=
 match P.underlying t with
 |some (.struct D)=>match z,partsOf P (VK P t) B l.toList with
  |some z,some q=>if q.all (λp=>p.2.F6)=true/\D.toList.all (λf=>(kN P f.type).isSome)=true then(wP (ow P t) z q).map λw=> .pv (.agg w) else none
  |_,_=>none
 |some (.array _ e)=>match z,partsOf P (λ_=>e) B l.toList,kN P e with
  |some z,some q,some s=>if q.all (λp=>p.2.F6)=true then(wP (λi=>some (i *s,s)) z q).map λw=> .pv (.agg w) else none
  |_,_,_=>none
 |_=>none
def VO (P:Program) (l:St) (t:TypeId) (x:Operand) (w q:Option Operand) (z:Operand):Option SV:=
 match w,q with
 |none,some q=>match bz P t l x with
  |some (.row id)=>match l.ob id,isSlice P t,bz P 0 l q,bz P 0 l z with
   |some (.row _ B xs),some (_,s),some (.pv (.int _ a)),some (.pv (.int _ b))=>if s=B/\a=(xs.length:Int)/\b=(xs.length:Int) then some (.aq id .full) else none
   |_,_,_,_=>none
  |_=>none
 |_,_=>none
def eY (P:Program) (o:Oper) (q:St):Option SV:=
 match o.op with
 | .move x| .assign x=>bz P o.type q x
 | .pick c a b=>match bz P 0 q c with
  |some (.pv (.bool t))=>bif t then bz P o.type q a else bz P o.type q b
  |_=>none
 | .binOp op t x y _=>match(bz P t q x).bind iJ,(bz P t q y).bind iJ with
  |some a,some b=>(bin P op t a b).map .pv
  |_,_=>none
 | .unOp op _ x=>match(bz P 0 q x).bind iJ with
  |some a=>(un op a).map .pv
  |none=>none
 | .convert src N x=>match P.underlying src,P.underlying N with
  |some (.slice e),some .string=>match P.underlying e,kN P e,(bz P src q x).bind (elems q) with
   |some (.int .u8),some 1,some (1,xs)=>(bytesOf xs).map λb=> .pv (.str b)
   |_,_,_=>none
  |some _,some (.int k)=>match(bz P 0 q x).bind iJ with
   |some (.int _ n)=>some (.pv (.int k (k.wrap n)))
   |_=>none
  |some _,some .string=>match(bz P 0 q x).bind iJ with
   |some (.str s)=>some (.pv (.str s))
   |_=>none
  |_,_=>none
 | .call c=>xb P c q
 | .nilCheck x=>match bz P 0 q x with
  |some (.ptr id w)=>some (.ptr id w)
  |some (.cp B)=>some (.cp B)
  |some (.pv (.ref B))=>some (.pv (.ref B))
  |some (.rp id D i w)=>some (.rp id D i w)
  |_=>none
 | .fieldAddr t x f=>match vH P t f with
  |some fd=>match kN P fd.type with
   |some 0=>none
   |some _=>match bz P 0 q x with
    |some (.ptr id w)=>some (.ptr id (w+fd.offset))
    |some (.cp B)=>some (.cp (B.drop fd.offset))
    |some (.pv (.ref B))=>some (.cp (B.drop fd.offset))
    |some (.rp id D i w)=>some (.rp id D i (w+fd.offset))
    |_=>none
   |none=>none
  |none=>none
 | .field t x f=>match vH P t f,(bz P 0 q x).bind iJ with
  |some fd,some (.agg B)=>(iG P fd.type (B.drop fd.offset)).map .pv
  |_,_=>none
 | .indexAddr t x K=>match P.underlying t with
  |some (.array n e)=>B8 P q n e x K
  |_=>wS P q t x K
 | .index t x K=>match P.underlying t,bz P t q x,bz P 0 q K with
  |some .string,some (.pv (.str s)),some (.pv (.int _ i))=>if 0<=i then(s[i.toNat]?).map λb=> .pv (.int .u8 b.toNat) else none
  |_,_,_=>none
 | .load t x=>match bz P 0 q x with
  |some (.cp B)=>(iG P t B).map .pv
  |some (.pv (.ref B))=>(iG P t B).map .pv
  |some (.rp id D i w)=>match q.ob id with
   |some (.row _ I xs)=>if D=I then(xs[i]?).bind λc=>(iG P t (c.drop w)).map .pv else none
   |some (.rn _ I k _ _ xs _)=>if D=I/\w=k/\i<xs.length/\CJ P t=some false then some (.aq id (.nr i)) else none
   |_=>none
  |some (.ptr id w)=>match q.ob id with
   |some (.box _ cells)=>match CJ P t with
    |some false=>if(kN P t).isSome then cells[w]? else none
    |some true=>match kN P t with
     |some n=>if w+n<=cells.length then match lW ((cells.drop w).take n) with
       |some B=>some (.pv (.agg B))
       |none=>(vB ((cells.drop w).take n)).map .ag
      else none
     |none=>none
    |none=>none
   |_=>none
  |_=>none
 | .slice t x G F none=>match P.underlying t,bz P t q x,nh P q G,nh P q F with
  |some .string,some (.pv (.str s)),some G,some F=>match gX F s.length s.length with
   |some h=>(gX G 0 h).map λl=> .pv (.str ((s.take h).drop l))
   |none=>none
  |some (.slice _),some (.pv (.dK D xs)),some G,some F=>match isSlice P t,gX F xs.length xs.length with
   |some (_,s),some h=>if s=D then(gX G 0 h).map λl=> .pv (.dK D ((xs.take h).drop l)) else none
   |_,_=>none
  |some (.slice _),some (.row id),some G,some F=>match isSlice P t,q.ob id with
   |some (_,s),some (.row _ D xs)=>match gX F xs.length xs.length with
    |some h=>if s=D then(gX G 0 h).map λl=> .sub id D l h else none
    |none=>none
   |_,_=>none
  |some (.slice _),some (.sub id D a b),some G,some F=>match isSlice P t,gX F (b-a) (b-a) with
   |some (_,s),some h=>if s=D then(gX G 0 h).map λl=> .sub id D (a+l) (a+h) else none
   |_,_=>none
  |_,_,_,_=>none
 | .slice t x G F (some S)=>VO P q t x G F S
 | .extract x i=>match bz P 0 q x with
  |some (.pv (.lR Q))=>(Q[i]?).map .pv
  |some (.two v b)=>match i with
   |0=>some v
   |1=>some (.pv (.bool b))
   |_=>none
  |_=>none
 | .lookup t x k ok=>match P.underlying t with
  |some (.map L R)=>match(bz P t q x).bind (FW q),(bz P L q k).bind iJ with
   |some O,some key=>bif ok&&jE P L key&&(pH P R).isSome then(pJ key O).map λr=> .two .any r.isSome else none
   |_,_=>match(bz P t q x).bind (maps q),(bz P L q k).bind iJ with
   |some (O,Q),some key=>bif jE P L key then
     match Uu key O Q with
     |some (some v)=>some (.pv (found ok v true))
     |some none=>(pH P R).map λz=> .pv (found ok z false)
     |none=>none
    else none
   |_,_=>none
  |_=>none
 | .build t H=>yj P (zeroCells P t) t H q
 |_=>none
def pY.mentions (id:Nat):pY->Bool
 | .p j| .r j=>Nat.beq j id
 | .v _=>false
def SV.mentions (id:Nat):SV->Bool
 | .ptr j _| .row j| .rp j _ _ _| .sub j _ _ _=>Nat.beq j id
 | .cl _ l=>l.any (pY.mentions id)
 | .ag l=>l.any (pY.mentions id)
 | .two v _=>v.mentions id
 | .aq j _=>Nat.beq j id||Nat.beq (j+40000) id
 |_=>false
def SV.dG (id:Nat) (v:SV):SV:=bif v.mentions id then .any else v
def Ob.dG (id:Nat):Ob->Ob
 | .box t cells=> .box t (cells.map (SV.dG id))
 |o=>o
def St.dG (l:St) (id:Nat):St:=
 {env:=λi=>(l.env i).map (SV.dG id),ob:=put (λi=>(l.ob i).map (Ob.dG id)) id none }
def St.new (l:St) (id:Nat) (o:Ob):St:=
 let s:=l.dG id
 {s with ob:=put s.ob id (some o) }
def SV.dL (id:Nat) (v:AV):SV->SV
 | .row j=>bif Nat.beq j id then .pv v else .row j
 |s=>s.dG id
def oS {q:Type}:List (Option q)->Option (List q)
 |[]=>some []
 |some x::l=>(oS l).map (x:: ·)
 |none::_=>none
def wG (k l:Nat):List (List AV)->List (List (List AV))->List (List AV)
 |x::xs,y::q=>x.set k (.dK l y)::wG k l xs q
 |_,_=>[]
def Ob.val:Ob->Option AV
 | .row _ sz xs=>some (.dK sz xs)
 | .mp _ _ q z=>some (.mp q z)
 | .mr _ _ sz q z=>(oS z).map λl=> .mp q (l.map (.dK sz))
 | .box _ _=>none
 | .it _ _=>none
 | .lp _=>none
 | .rn _ sz k _ w xs B=>(oS B).map λl=> .dK sz (wG k w xs l)
def Ob.dL (id:Nat) (v:AV):Ob->Ob
 | .box t cells=> .box t (cells.map (SV.dL id v))
 |o=>o
def w8 (id:Nat):Bool:=Nat.blt id 10000
def St.dL (l:St) (id:Nat):Option St:=
 match w8 id,(l.ob id).bind Ob.val with
 |true,some v=>some { env:=λi=>(l.env i).map (SV.dL id v),ob:=put (λi=>(l.ob i).map (Ob.dL id v)) id none }
 |_,_=>none
def SV.pR (id:Nat) (q:List AV):SV->SV
 | .ptr j l=>bif Nat.beq j id then .cp (q.drop l) else .ptr j l
 |s=>s.dG id
def Ob.pR (id:Nat) (l:List AV):Ob->Ob
 | .box t cells=> .box t (cells.map (SV.pR id l))
 |o=>o
def St.pR (l:St) (id:Nat):Option St:=
 match w8 id,l.ob id with
 |true,some (.box _ cells)=>match lW cells with
  |some q=>some { env:=λi=>(l.env i).map (SV.pR id q),ob:=put (λi=>(l.ob i).map (Ob.pR id q)) id none }
  |none=>none
 |_,_=>none
def vR (q:St):List Operand->Option St
 |[]=>some q
 | .tmp i::l=>match q.env i with
  |some (.ptr id _)=>(q.pR id).bind λw=>vR w l
  |_=>vR q l
 |_::l=>vR q l
def jU (q:St):List pY->Option (List AV)
 |[]=>some []
 | .v a::l=>(jU q l).map (a:: ·)
 | .r id::l=>match(q.ob id).bind Ob.val,jU q l with
  |some v,some w=>some (v::w)
  |_,_=>none
 | .p _::_=>none
def mh (l:St):SV->Option AV
 | .pv v=>some v
 | .row id=>(l.ob id).bind Ob.val
 | .ag q=>(jU l q).map .agg
 | .aq id (.nr i)=>match l.ob id with
  |some (.rn _ _ _ _ w _ z)=>match z[i]? with
   |some (some B)=>some (.dK w B)
   |_=>none
  |_=>none
 |_=>none
def jx (P:Program) (l:St):List Operand->List TypeId->Option (List AV)
 |[],_=>some []
 |x::xs,q=>match(bz P (q.headD 0) l x).bind (mh l),jx P l xs q.tail with
  |some v,some w=>some (v::w)
  |_,_=>none
def kK (l:St):Operand->Bool
 | .tmp i=>match l.env i with
  |some (.row _)=>true
  |some (.ag _)=>true
  |some (.aq _ _)=>true
  |_=>false
 |_=>false
def vZ (l:St):Operand->Bool
 | .tmp i=>match l.env i with
  |some (.ag _)=>true
  |some (.aq _ _)=>true
  |_=>false
 |_=>false
def tE (w:St):List Operand->Option (List AV)
 |[]=>some []
 | .tmp i::l=>match w.env i,tE w l with
  |some (.pv v),some q=>some (v::q)
  |some (.cp z),some q=>some (.ref z::q)
  |_,_=>none
 |_::_=>none
def qi (z:St):List Operand->Option (List pY)
 |[]=>some []
 | .tmp i::l=>match z.env i,qi z l with
  |some (.pv v),some q=>some (.v v::q)
  |some (.cp w),some q=>some (.v (.ref w)::q)
  |some (.ptr id 0),some q=>some (.p id::q)
  |_,_=>none
 |_::_=>none
def kD (P:Program) (t:TypeId) (len:Nat) (l:List (Nat×Operand)) (st:St):Option (TypeId×Nat×List (List AV)):=
 match isSlice P t with
 |some (e,s)=>match zeroCells P e,partsOf P (λ_=>e) st l with
  |some z,some q=>
   if len *s<=16777216/\0<s/\z.length=s/\q.all (λp=>p.2.F6)=true then
    (wP (λi=>some (i *s,s)) (tj z len) q).map λw=>(e,s,chunks s len w)
   else none
  |_,_=>none
 |none=>none
abbrev dX:=Nat->List SV->List (Nat×Ob)->Option (AV×List (Nat×Ob))
def ou (h:Hint) (l:St):Operand->Option Nat
 | .tmp t=>bif h.jT.contains t then
   match l.env t with
   |some (.row id)=>some id
   |_=>none
  else none
 |_=>none
def pT (h:Hint):Operand->Bool
 | .tmp t=>h.rows.contains t
 |_=>false
def iI (id:Nat):Bool:=Nat.blt id 10000||(Nat.ble 20000 id&&Nat.blt id 30000)
def SV.ids:SV->List Nat
 | .ptr j _| .row j| .rp j _ _ _| .sub j _ _ _=>[j]
 | .cl _ l=>l.filterMap fun
  | .p j| .r j=>some j
  | .v _=>none
 | .ag l=>l.filterMap fun
  | .p j| .r j=>some j
  | .v _=>none
 | .two v _=>v.ids
 | .aq j _=>[j,j+40000]
 |_=>[]
def SV.NU:SV->List Nat
 | .aq j _=>[j]
 |v=>v.ids
def SV.closed (names:List Nat):SV->Bool
 | .ptr j _| .row j| .rp j _ _ _| .sub j _ _ _=>names.contains j
 | .cl _ l=>l.all fun
  | .p j| .r j=>names.contains j
  | .v _=>true
 | .ag l=>l.all fun
  | .p j| .r j=>names.contains j
  | .v _=>true
 | .two v _=>v.closed names
 | .aq _ _=>false
 |_=>true
def Ob.closed (names:List Nat):Ob->Bool
 | .box _ cells=>cells.all (SV.closed names)
 | .row _ _ _=>true
 | .mp _ _ _ _=>true
 | .mr _ _ _ _ _=>false
 | .it _ _=>true
 | .lp _=>true
 | .rn _ _ _ _ _ _ _=>false
def DJ (st:St):Operand->Bool
 | .tmp t=>match st.env t with
  |some (.ptr _ _)=>true
  |some (.cl _ _)=>true
  |_=>false
 |_=>false
def TT (l:St):Operand->Bool
 | .tmp t=>match l.env t with
  |some (.cl _ _)=>true
  |_=>false
 |_=>false
def wide (st:St) (c:Call) (f:Operand):Bool:=TT st f||c.args.toList.any (DJ st)
def isRef (h:Hint):Operand->Bool
 | .tmp t=>h.jT.contains t
 |_=>false
def Zs (P:Program) (h:Hint) (z:St) (t:TypeId) (x:Operand):Option SV:=
 match bz P t z x with
 |some (.pv v)=>some (.pv v)
 |some (.ptr id q)=>some (.ptr id q)
 |some (.row id)=>bif isRef h x then some (.row id) else none
 |some (.cl f l)=>some (.cl f l)
 |some (.cp w)=>some (.cp w)
 |_=>none
def tD (P:Program) (h:Hint) (l:St):List Operand->List TypeId->Option (List SV)
 |[],_=>some []
 |x::xs,q=>match Zs P h l (q.headD 0) x,tD P h l xs q.tail with
  |some v,some w=>some (v::w)
  |_,_=>none
def H8:pY->SV
 | .v a=> .pv a
 | .p id=> .ptr id 0
 | .r id=> .row id
def fnSV:SV->Option (Nat×List SV×List SV)
 | .pv (.fn g l)=>bif Nat.blt g 1000000 then some (g,[],l.map .pv) else none
 | .cl g l=>bif Nat.blt g 1000000 then some (g,[],l.map H8) else bif Nat.blt g 2000000 then some (g-1000000,l.map H8,[]) else match l with
  |[c]=>some (g,[],[H8 c])
  |_=>none
 |_=>none
def GX (l:St) (id:Nat):List Nat:=
 match l.ob id with
 |some (.box _ cells)=>cells.flatMap SV.ids
 |_=>[]
def kB (q:St):Nat->List Nat->List Nat->List Nat
 |0,_,done=>done
 |_+1,[],done=>done
 |n+1,id::l,done=>bif done.contains id then kB q n l done else kB q n (l++GX q id) (done++[id])
def pS:List SV->List Nat
 |[]=>[]
 | .row id::l=>id::pS l
 |_::l=>pS l
def V2 (l:St) (id:Nat):Bool:=
 match l.ob id with
 |some (.row _ _ _)=>true
 |_=>false
def lF (q:Bool) (w:St) (l:List Nat) (id:Nat):Bool:=V2 w id&&iI id&& !(l.contains id)&& !q
def jK (q:Nat->Bool):Nat->List Nat->List (Nat×Nat)
 |_,[]=>[]
 |k,id::l=>(id,bif q id then 20000+k else 10000+k)::jK q (k+1) l
def swap:List (Nat×Nat)->List (Nat×Nat)
 |[]=>[]
 |(a,b)::l=>(b,a)::swap l
def qI (m:List (Nat×Nat)) (id:Nat):Nat:=(find m id).getD id
def pY.tC (l:Nat->Nat):pY->pY
 | .p id=> .p (l id)
 | .r id=> .r (l id)
 |c=>c
def SV.tC (w:Nat->Nat):SV->SV
 | .ptr j q=> .ptr (w j) q
 | .row j=> .row (w j)
 | .rp j z i q=> .rp (w j) z i q
 | .sub j z D B=> .sub (w j) z D B
 | .cl f l=> .cl f (l.map (pY.tC w))
 | .ag l=> .ag (l.map (pY.tC w))
 | .two v b=> .two (v.tC w) b
 |s=>s
def Ob.tC (l:Nat->Nat):Ob->Ob
 | .box t cells=> .box t (cells.map (SV.tC l))
 |o=>o
def lE (q:St) (ids:List Nat) (w:Nat->Nat):List (Nat×Nat)->Option (List (Nat×Ob))
 |[]=>some []
 |(id,z)::l=>match q.ob id,lE q ids w l with
  |some o,some B=>bif o.closed ids then some ((z,o.tC w)::B) else none
  |_,_=>none
def nR (names:List Nat) (w:Nat->Nat):List (Nat×Nat)->List (Nat×Ob)->Option (List (Nat×Ob))
 |[],[]=>some []
 |(id,z)::l,(q,o)::B=>bif Nat.beq z q&&o.closed names then(nR names w l B).map λr=>(id,o.tC w)::r else none
 |_,_=>none
def distinct:List Nat->Bool
 |[]=>true
 |x::l=> !(l.contains x)&&distinct l
def kH:List Nat->St->St
 |[],q=>q
 |id::l,q=>kH l (q.dG id)
mutual
def AV.same:AV->AV->Bool
 | .bool a, .bool b=>a==b
 | .int k a, .int k' b=>decide (k=k')&&decide (a=b)
 | .str a, .str b=>decide (a=b)
 | .dK s xs, .dK s' ys=>Nat.beq s s'&&Az xs ys
 | .agg a, .agg b=>rK a b
 | .fn f a, .fn g b=>Nat.beq f g&&rK a b
 | .lR a, .lR b=>rK a b
 | .ref a, .ref b=>rK a b
 | .mp a b, .mp c d=>rK a c&&rK b d
 | .self a, .self b=>Nat.beq a b
 | .DQ, .DQ=>true
 | .qm, .qm=>true
 | .hole, .hole=>true
 |_,_=>false
def rK:List AV->List AV->Bool
 |[],[]=>true
 |a::l,b::m=>AV.same a b&&rK l m
 |_,_=>false
def Az:List (List AV)->List (List AV)->Bool
 |[],[]=>true
 |a::l,b::m=>rK a b&&Az l m
 |_,_=>false
end
def pY.same:pY->pY->Bool
 | .v a, .v b=>AV.same a b
 | .p a, .p b=>Nat.beq a b
 | .r a, .r b=>Nat.beq a b
 |_,_=>false
def rL:List pY->List pY->Bool
 |[],[]=>true
 |a::l,b::m=>pY.same a b&&rL l m
 |_,_=>false
def Ak.same:Ak->Ak->Bool
 | .full, .full=>true
 | .nr i, .nr j=>Nat.beq i j
 |_,_=>false
def SV.same:SV->SV->Bool
 | .undef, .undef=>true
 | .any, .any=>true
 | .pv a, .pv b=>AV.same a b
 | .ptr a b, .ptr c d=>Nat.beq a c&&Nat.beq b d
 | .row a, .row b=>Nat.beq a b
 | .rp a b c d, .rp l w c' z=>Nat.beq a l&&Nat.beq b w&&Nat.beq c c'&&Nat.beq d z
 | .sub a b c d, .sub l w c' z=>Nat.beq a l&&Nat.beq b w&&Nat.beq c c'&&Nat.beq d z
 | .cp a, .cp b=>rK a b
 | .cl f a, .cl g b=>Nat.beq f g&&rL a b
 | .two s a, .two t b=>SV.same s t&&(a==b)
 | .ag a, .ag b=>rL a b
 | .aq a q, .aq b r=>Nat.beq a b&&Ak.same q r
 |_,_=>false
def vU:List SV->List SV->Bool
 |[],[]=>true
 |a::l,b::m=>SV.same a b&&vU l m
 |_,_=>false
def qt:List (Option (List (List AV)))->List (Option (List (List AV)))->Bool
 |[],[]=>true
 |some a::l,some b::m=>Az a b&&qt l m
 |none::l,none::m=>qt l m
 |_,_=>false
def Ob.same:Ob->Ob->Bool
 | .box t a, .box u b=>Nat.beq t u&&vU a b
 | .row e s xs, .row l q H=>Nat.beq e l&&Nat.beq s q&&Az xs H
 | .mp k e a b, .mp k' l c d=>Nat.beq k k'&&Nat.beq e l&&rK a c&&rK b d
 | .mr k e s a b, .mr k' l q c d=>Nat.beq k k'&&Nat.beq e l&&Nat.beq s q&&rK a c&&qt b d
 | .it s p, .it q B=>decide (s=q)&&Nat.beq p B
 | .lp a, .lp b=>rK a b
 | .rn e s k w s2 x y, .rn l q k' z D F G=>Nat.beq e l&&Nat.beq s q&&Nat.beq k k'&&Nat.beq w z&&Nat.beq s2 D&&Az x F&&qt y G
 |_,_=>false
def uz:List (Nat×Ob)->List (Nat×Ob)->Bool
 |[],[]=>true
 |(i,a)::l,(j,b)::m=>Nat.beq i j&&Ob.same a b&&uz l m
 |_,_=>false
def tK (P:Program) (h:Hint) (q:St) (c:Call) (f:Operand):Option (Nat×List SV):=
 match(bz P 0 q f).bind fnSV,tD P h q c.args.toList c.argTypes.toList with
 |some (g,pre,l),some w=>some (g,pre++(w++l))
 |_,_=>none
def kM (l:St) (args:List SV):List Nat:=kB l 200 (args.flatMap SV.ids) []
def jA (ids:List Nat):List (Nat×Nat):=jK (λ_=>false) 0 ids
def r8 (P:Program) (h:Hint) (q:dX) (l:St) (c:Call) (f:Operand):Option AV:=
 match tK P h l c f with
 |some (g,args)=>
  bif distinct (kM l args)&&Nat.blt (kM l args).length 10000&&args.all (SV.closed (kM l args)) then
   match lE l (kM l args) (qI (jA (kM l args))) (jA (kM l args)) with
   |some cF=>match q g (args.map (SV.tC (qI (jA (kM l args))))) cF with
    |some (r,w)=>bif uz w cF&&r.kF then some r else none
    |none=>none
   |none=>none
  else none
 |none=>none
def ew (P:Program) (h:Hint) (cI:dX) (o:Oper) (st:St):Option SV:=
 match o.op with
 | .buildSlice t len q=>bif(o.dst.any h.rows.contains) then none else(kD P t len q.toList st).map λx=> .pv (.dK x.2.1 x.2.2)
 | .call c=>match c.callee with
  | .value f=>bif o.dst.any h.owns.contains then none else bif o.dst.any h.stay.contains&&wide st c f then(r8 P h cI st c f).map .pv else
   bif wide st c f||c.args.toList.any (λx=>(ou h st x).isSome) then none else
   match bz P 0 st f,jx P st c.args.toList c.argTypes.toList with
   |some (.pv (.fn g l)),some z=>match cI g ((z++l).map .pv) [] with
    |some (r,[])=>bif(!(c.args.toList.any (kK st))||r.plain)&&r.kF then some (.pv r) else none
    |_=>none
   |_,_=>none
  |_=>xb P c st
 | .lookup _ x _ ok=>bif pT h x&& !ok then none else eY P o st
 | .build t q=>bif o.dst.any h.rows.contains then none else yj P (L3 P h o.dst t) t q st
 | .load _ _=>bif o.dst.any h.take.contains then none else eY P o st
 | .makeFunc (.func g) first l=>bif first.isEmpty then
   bif o.dst.any h.jT.contains then bif Nat.blt g 1000000 then(qi st l.toList).map λw=> .cl g w else none
   else(tE st l.toList).map λz=> .pv (.fn g z)
  else bif l.isEmpty&&o.dst.any h.jT.contains&&Nat.blt g 1000000 then(qi st first.toList).map λw=> .cl (g+1000000) w else none
 | .assign x=>match o.dst,x,eY P o st with
  |some d, .const _,some (.pv (.dK B xs))=>bif h.rows.contains d then none else some (.pv (.dK B xs))
  |some d,_,some (.row id)=>bif h.mu.contains d||h.mvs.contains d then none else some (.row id)
  |_,_,r=>r
 |_=>eY P o st
def rB (l:St):SV->Bool
 | .pv (.agg _)| .pv (.lR _)=>false
 | .pv _=>true
 | .ptr _ _| .rp _ _ _ _| .cp _| .cl _ _=>true
 | .row id=>match l.ob id with
  |some (.row _ _ _)=>true
  |some (.mp _ _ _ _)=>true
  |some (.rn _ _ _ _ _ _ _)=>true
  |_=>false
 |_=>false
def storeAt (P:Program) (t:TypeId) (q:St) (a:SV) (v:SV):Option St:=
 match a with
 | .ptr id l=>match q.ob id,kN P t with
  |some (.box B cells),some n=>match v with
   | .ag w=>if w.length=n/\l+n<=cells.length then
     some { q with ob:=put q.ob id (some (.box B (cells.take l++w.map H8++cells.drop (l+n)))) } else none
   | .pv (.agg w)=>if w.length=n/\l+n<=cells.length then
     some { q with ob:=put q.ob id (some (.box B (cells.take l++w.map .pv++cells.drop (l+n)))) } else none
   |v=>if n=1/\l<cells.length/\rB q v=true then some { q with ob:=put q.ob id (some (.box B (cells.set l v))) } else none
  |_,_=>none
 | .rp id D i l=>match q.ob id,kN P t,v with
  |some (.row e z xs),some n, .pv v=>match xs[i]? with
   |some c=>if D=z/\v.cells.length=n/\l+n<=c.length/\v.F6=true then
     some { q with ob:=put q.ob id (some (.row e z (xs.set i (c.take l++v.cells++c.drop (l+n))))) } else none
   |none=>none
  |_,_,_=>none
 |_=>none
def A6 (P:Program) (h:Hint) (l:St):List Operand->List TypeId->Option (List SV×List Nat)
 |[],_=>some ([],[])
 |x::xs,w=>match ou h l x,A6 P h l xs w.tail with
  |some id,some (q,ids)=>some (.row 10000::q,id::ids)
  |none,some (q,ids)=>match(bz P (w.headD 0) l x).bind iJ with
   |some v=>some (.pv v::q,ids)
   |none=>none
  |_,none=>none
def oU (P:Program) (h:Hint) (l:dX) (z:St) (c:Call) (f:Operand) (d:Option Nat):Option St:=
 match bz P 0 z f,A6 P h z c.args.toList c.argTypes.toList with
 |some (.pv (.fn g B)),some (H,[id])=>match z.ob id with
  |some (.row e F xs)=>match l g (H++B.map .pv) [(10000, .row e F xs)] with
   |some (r,[(G, .row D q w)])=>bif Nat.beq e D&&Nat.beq F q&&Nat.beq G 10000 then
     match r with
     | .self n=>bif Nat.ble n w.length&&iI id then some ((z.new id (.row D q (w.take n))).set d (.row id)) else none
     |r=>bif r.plain then some (St.set { z with ob:=put z.ob id (some (.row D q w)) } d (.pv r)) else none
    else none
   |_=>none
  |_=>none
 |_,_=>none
def jC (P:Program) (h:Hint) (l:dX) (w:St) (c:Call) (f:Operand) (d:Option Nat):Option St:=
 match(bz P 0 w f).bind fnSV,tD P h w c.args.toList c.argTypes.toList with
 |some (g,pre,z),some G=>
  let args:=pre++(G++z)
  let ids:=kB w 200 (args.flatMap SV.ids) [];let D:=lF (d.any h.stay.contains) w (pS args);let m:=jK D 0 ids;let names:=m.map (·.2);let F:=qI m
  bif distinct ids&&Nat.blt ids.length 10000&&args.all (SV.closed ids) then
   match lE w ids F m with
   |some cF=>match l g (args.map (SV.tC F)) cF with
    |some (r,q)=>match nR names (qI (swap m)) m q with
     |some back=>bif r.kF then
       let B:=kH (ids.filter D) w
       some (St.set { env:=B.env,ob:=λi=>(find back i).orElse λ_=>B.ob i } d (.pv r)) else none
     |none=>none
    |none=>none
   |none=>none
  else none
 |_,_=>none
def AS (P:Program) (t:TypeId):Option (List Value):=
 match P.info? t with
 |some i=>i.zero.map λz=>z.cells.toList
 |none=>none
def uq (P:Program) (d:Nat):Nat->List TypeId->List Value->Option (List SV×List (Nat×TypeId×Nat))
 |_,[],[]=>some ([],[])
 |j,t::w,v::z=>match uq P d (j+1) w z with
  |some (q,l)=>match isSlice P t,v with
   |some (e,s), .slice none 0 0=>bif Nat.blt 0 s&&Nat.blt (5000+16 *d+j) 10000 then some (.row (5000+16 *d+j)::q,(5000+16 *d+j,e,s)::l) else none
   |_,v=>(ofConst P t v).map λa=>(.pv a::q,l)
  |none=>none
 |_,_,_=>none
def DF (l:List (Nat×Nat×TypeId×Nat)) (id:Nat) (e:TypeId) (s:Nat):Ob:=
 match find l id with
 |some (k,q,w)=>bif Nat.blt k s then .rn e s k q w [] [] else .row e s []
 |none=> .row e s []
def uv (nst:List (Nat×Nat×TypeId×Nat)):List (Nat×TypeId×Nat)->St->St
 |[],q=>q
 |(id,e,s)::l,q=>uv nst l (q.new id (DF nst id e s))
def w5 (h:Hint) (d:Nat):Option (List (Nat×TypeId×Nat)):=find h.qm d
def TV:Operand->Bool
 | .const (.slice none 0 0)=>true
 |_=>false
def NK (P:Program) (b:Bool) (l:St) (t:TypeId) (x:Operand):Option AV:=bif b&&TV x then some .qm else(bz P t l x).bind iJ
def rF (P:Program) (b:Bool) (l:St):List Operand->List TypeId->Option (List AV)
 |[],_=>some []
 |x::xs,q=>match NK P b l (q.headD 0) x,rF P b l xs q.tail with
  |some v,some w=>some (v::w)
  |_,_=>none
def sI:List AV->List (Nat×TypeId×Nat)->Option (List pY)
 |[],_=>some []
 | .qm::q,x::l=>(sI q l).map (.r x.1:: ·)
 | .qm::_,[]=>none
 |a::q,l=>(sI q l).map (.v a:: ·)
def kL (P:Program) (h:Hint) (q:dX) (z:St) (c:Call) (f:Operand) (d:Option Nat):Option St:=
 match d with
 |some d=>match bz P 0 z f,rF P (w5 h d).isSome z c.args.toList c.argTypes.toList with
  |some (.pv (.fn g w)),some G=>match q g ((G++w).map .pv) [] with
   |some (.lR [.lR [.self e, .dK F xs]],[])=>bif(w5 h d).isSome then none else some ((z.new d (.row e F xs)).set (some d) (.row d))
   |some (.agg B,[])=>match w5 h d with
    |some []=>some (z.set (some d) (.pv (.agg B)))
    |some l=>match sI B l with
     |some D=>bif l.all (λx=>Nat.blt x.1 10000) then some ((uv h.nest l z).set (some d) (.ag D)) else none
     |none=>none
    |none=>none
   |_=>none
  |_,_=>none
 |none=>none
def capOf (l:St) (s:SV):Option pY:=
 bif rB l s then
  match s with
  | .pv a=>some (.v a)
  | .row id=>some (.r id)
  |_=>none
 else none
def Dm (q:St):List SV->Option (List pY)
 |[]=>some []
 |s::l=>match capOf q s,Dm q l with
  |some c,some w=>some (c::w)
  |_,_=>none
def UN (q:St):SV->Option (List SV)
 | .pv (.agg l)=>some (l.map .pv)
 |s=>bif rB q s then some [s] else none
def DV (P:Program) (ty:Nat->TypeId) (q:St):List (Nat×Operand)->Option (List (Nat×List SV))
 |[]=>some []
 |(i,x)::l=>match(bz P (ty i) q x).bind (UN q),DV P ty q l with
  |some v,some w=>some ((i,v)::w)
  |_,_=>none
def Qn (place:Nat->Option (Nat×Nat)) (cells:List SV):List (Nat×List SV)->Option (List SV)
 |[]=>some cells
 |(i,v)::q=>match place i with
  |none=>none
  |some (l,size)=>if v.length=size/\l+size<=cells.length then Qn place (cells.take l++v++cells.drop (l+size)) q else none
def EI (P:Program) (h:Hint) (w:St) (d:Nat) (t:TypeId) (q:List (Nat×Operand)):Option St:=
 match P.underlying t,(AS P t).bind λG=>uq P d 0 (vD P 8 t) G with
 |some (.struct D),some (z,l)=>bif D.toList.all (λf=>(kN P f.type).isSome) then
   match DV P (VK P t) (uv h.nest l w) q with
   |some F=>match(Qn (ow P t) z F).bind (Dm (uv h.nest l w)) with
    |some B=>some ((uv h.nest l w).set (some d) (.ag B))
    |none=>none
   |none=>none
  else none
 |_,_=>none
def wX (P:Program) (l:St) (t:TypeId) (m k:Operand):Option St:=
 match P.underlying t with
 |some (.map z _)=>match bz P t l m,(bz P z l k).bind iJ with
  |some (.row id),some key=>match l.ob id with
   |some (.mp k' B D F)=>bif jE P z key then
     match mdel key D F with
     |some (q,w)=>some { l with ob:=put l.ob id (some (.mp k' B q w)) }
     |none=>none
    else none
   |_=>none
  |_,_=>none
 |_=>none
def uF (P:Program) (l:St):Option Operand->Bool
 |none=>true
 |some x=>match(bz P 0 l x).bind iJ with
  |some (.int _ _)=>true
  |_=>false
def Um (P:Program) (l:St) (q:TypeId) (x:Operand):Option St:=
 match bz P q l x with
 |some (.pv _)=>some l
 |some (.row j)=>l.dL j
 |_=>none
def wY (P:Program) (G:St) (t:TypeId) (m k x:Operand):Option St:=
 match P.underlying t with
 |some (.map B z)=>match Um P G z x with
  |some l=>match bz P t l m,(bz P B l k).bind iJ,(bz P z l x).bind iJ with
   |some (.row id),some key,some v=>match l.ob id with
    |some (.mp k' D F H)=>bif jE P B key&&v.F6 then
      match Cf key v F H with
      |some (q,w)=>some { l with ob:=put l.ob id (some (.mp k' D q w)) }
      |none=>none
     else none
    |_=>none
   |_,_,_=>none
  |none=>none
 |_=>none
def LA (P:Program) (l:St) (t:TypeId) (m k:Operand):Option (TypeId×Nat×AV×TypeId×TypeId×Nat×List AV×List (Option (List (List AV)))):=
 match P.underlying t with
 |some (.map q w)=>match bz P t l m,(bz P q l k).bind iJ with
  |some (.row id),some key=>match l.ob id with
   |some (.mr k' e B z D)=>bif jE P q key&&Nat.blt id 10000 then some (w,id,key,k',e,B,z,D) else none
   |_=>none
  |_,_=>none
 |_=>none
def LB (P:Program) (l:St) (t:TypeId) (m k:Operand) (d:Nat):Option St:=
 match LA P l t m k with
 |some (w,id,key,k',e,q,z,B)=>bif Nat.beq id d then none else match pJ key z with
  |some (some i)=>match B[i]? with
   |some (some xs)=>some ((St.new { l with ob:=put l.ob id (some (.mr k' e q z (B.set i none))) } d (.row e q xs)).set (some d) (.row d))
   |_=>none
  |some none=>match pH P w,isSlice P w with
   |some (.dK _ []),some (D,s)=>if e=D/\s=q/\0<s then some ((l.new d (.row e q [])).set (some d) (.row d)) else none
   |_,_=>none
  |none=>none
 |none=>none
def Ux (P:Program) (w:St) (t:TypeId) (m k x:Operand):Option St:=
 match LA P w t m k with
 |some (D,id,key,k',e,z,F,G)=>match x with
  | .const (.slice none 0 0)=>match isSlice P D with
   |some (B,s)=>if e=B/\s=z/\0<s then
     match Cf key (some []) F G with
     |some (l,q)=>some { w with ob:=put w.ob id (some (.mr k' e z l q)) }
     |none=>none
    else none
   |none=>none
  |x=>match bz P D w x with
   |some (.row j)=>match w.ob j with
    |some (.row B s xs)=>if e=B/\s=z/\j<10000 then
      match Cf key (some xs) F G with
      |some (l,q)=>let s1:=w.dG j;some { s1 with ob:=put s1.ob id (some (.mr k' e z l q)) }
      |none=>none
     else none
    |_=>none
   |_=>none
 |none=>none
def vX (P:Program) (q:St) (t:TypeId) (x:Operand) (d:Nat):Option St:=
 match bz P 0 q x,CJ P t with
 |some (.rp id F i w),some false=>match q.ob id with
  |some (.rn e l k z B xs D)=>match D[i]? with
   |some (some G)=>bif Nat.beq F l&&Nat.beq w k&& !(Nat.beq id d)&&Nat.blt id 10000 then some ((St.new { q with ob:=put q.ob id (some (.rn e l k z B xs (D.set i none))) } d (.row z B G)).set (some d) (.row d)) else none
   |_=>none
  |_=>none
 |_,_=>none
def Gd (P:Program) (q:St) (t:TypeId) (id G i w j:Nat):Option St:=
 match CJ P t,kN P t,q.ob id,q.ob j with
 |some false,some 1,some (.rn e l k z B xs D),some (.row F s2 H)=>
  bif Nat.beq G l&&Nat.beq w k&&Nat.blt id 10000&&Nat.blt j 10000&&Nat.beq z F&&Nat.beq B s2&&Nat.blt i D.length&& !(Nat.beq id j) then
   some { (q.dG j).dG (id+40000) with ob:=put ((q.dG j).dG (id+40000)).ob id (some (.rn e l k z B xs (D.set i (some H)))) } else none
 |_,_,_,_=>none
def VE (P:Program) (w:St) (t:TypeId) (id q j z n:Nat):Option St:=
 match w.ob j with
 |some (.row e l xs)=>bif Nat.beq z l&&iI j&& !(Nat.beq id j) then storeAt P t (w.new j (.row e l (xs.take n))) (.ptr id q) (.row j) else none
 |_=>none
def Uw (l:St) (id d:Nat):Option St:=
 match l.ob id with
 |some (.row e q xs)=>bif Nat.beq id d then some (l.set (some d) (.row d)) else bif Nat.blt id 10000 then some (((l.dG id).new d (.row e q xs)).set (some d) (.row d)) else none
 |_=>none
def qe (k:Nat) (c:List AV):Bool:=match c[k]? with
 |some .qm=>true
 |_=>false
def mD (P:Program) (h:Hint) (D:dX) (o:Oper) (q:St):Option St:=
 match o.dst,o.op with
 |some d, .assign (.const (.slice none 0 0))=>match isSlice P o.type with
  |some (e,s)=>if 0<s then some ((q.new d (.row e s [])).set (some d) (.row d)) else none
  |none=>none
 |some d, .assign x=>match bz P o.type q x with
  |some (.row id)=>bif h.mvs.contains d then Uw q id d else match q.dL id with
   |some B=>match bz P o.type B x with
    |some v=>some (B.set (some d) v)
    |none=>none
   |none=>none
  |_=>none
 |some d, .box t x=>match bz P t q x,CJ P t with
  |some (.pv (.agg O)),some true=>some ((q.new d (.box t (O.map .pv))).set (some d) (.ptr d 0))
  |some (.ag O),some true=>bif(SV.ag O).mentions d then none else some ((q.new d (.box t (O.map H8))).set (some d) (.ptr d 0))
  |some v,some false=>if rB q v=true then some ((q.new d (.box t [v.dG d])).set (some d) (.ptr d 0)) else none
  |_,_=>none
 |some d, .alloc t=>bif h.rows.contains d then
   match(AS P t).bind λN=>uq P d 0 (vD P 8 t) N with
   |some (S,l)=>some (((uv h.nest l q).new d (.box t (S.map (SV.dG d)))).set (some d) (.ptr d 0))
   |none=>none
  else match L3 P h (some d) t with
  |some z=>some ((q.new d (.box t (z.map .pv))).set (some d) (.ptr d 0))
  |none=>none
 |some d, .makeSlice t l c=>match isSlice P t,(bz P 0 q l).bind iJ,(bz P 0 q c).bind iJ with
  |some (e,s),some (.int _ l),some (.int _ c)=>match zeroCells P e,P.info? e with
   |some z,some i=>if 0<s/\z.length=s/\0<=l/\l<=c/\i.bytes *c.toNat<=281474976710656/\c<=9223372036854775807 then
     some ((q.new d (.row e s (List.replicate l.toNat z))).set (some d) (.row d)) else none
   |_,_=>none
  |_,_,_=>none
 |some d, .buildSlice t len G=>match kD P t len G.toList q with
  |some (e,s,xs)=>match find h.nest d with
   |none=>some ((q.new d (.row e s xs)).set (some d) (.row d))
   |some (k,K,s')=>bif Nat.blt k s&&xs.all (qe k) then some ((q.new d (.rn e s k K s' (xs.map λc=>c.set k .hole) (xs.map λ_=>some []))).set (some d) (.row d)) else none
  |none=>none
 |none, .store t a x=>match bz P 0 q a,bz P t q x with
  |some (.rp id w i L),some (.row j)=>Gd P q t id w i L j
  |some (.ptr id L),some (.sub j w 0 n)=>VE P q t id L j w n
  |some a,some v=>storeAt P t q a v
  |_,_=>none
 |some d, .makeMap t r=>match P.underlying t with
  |some (.map k e)=>bif uF P q r then
    bif h.rows.contains d then
     match isSlice P e with
     |some (K,s)=>if 0<s then some ((q.new d (.mr k K s [] [])).set (some d) (.row d)) else none
     |none=>none
    else some ((q.new d (.mp k e [] [])).set (some d) (.row d)) else none
  |_=>none
 |none, .mapUpdate t m k x=>bif pT h m then Ux P q t m k x else wY P q t m k x
 |none, .insert t m k x=>bif pT h m then Ux P q t m k x else wY P q t m k x
 |some d, .lookup t m k false=>bif pT h m then LB P q t m k d else none
 |some d, .range t x=>match P.underlying t,(bz P t q x).bind iJ with
  |some .string,some (.str s)=>some ((q.new d (.it s 0)).set (some d) (.ptr d 0))
  |_,_=>none
 |some d, .next x true=>match bz P 0 q x with
  |some (.ptr id 0)=>match q.ob id with
   |some (.it s pos)=>if pos<s.length then
     some (St.set { q with ob:=put q.ob id (some (.it s (pos+(Utf8.decode ⟨s.toArray⟩ pos).2))) } (some d) (.pv (.lR [.bool true, .int .i64 pos, .int .i32 (Utf8.decode ⟨s.toArray⟩ pos).1])))
    else some (q.set (some d) (.pv (.lR [.bool false])))
   |_=>none
  |_=>none
 |some d, .build t G=>bif h.rows.contains d then EI P h q d t G.toList else none
 |some d, .load t x=>bif h.take.contains d then vX P q t x d else none
 |some d, .makeFunc (.func g) first H=>bif first.isEmpty then
   match vR q H.toList with
   |some B=>(tE B H.toList).map λN=>B.set (some d) (.pv (.fn g N))
   |none=>none
  else none
 |d, .call c=>match c.callee with
  | .builtin .append=>match d,c.args.toList,c.argTypes.toList with
   |some d,[x,y],[t,Q]=>match isSlice P t,bz P t q x,bz P Q q y with
    |some (e,s),some (.row id),some y=>match q.ob id,elems q y,P.info? e with
     |some (.row K w xs),some (F,I),some i=>
      if t=Q/\e=K/\s=w/\w=F/\0<w/\(xs.length+I.length) *i.bytes<=140737488355328/\xs.length+I.length<=4611686018427387904/\i.zero.map (λz=>z.cells.size)=some w/\iI id=true then
       some ((q.new id (.row e w (xs++I))).set (some d) (.row id)) else none
     |some (.rn K w k V s2 xs zs),some (F,I),some i=>
      if t=Q/\e=K/\s=w/\w=F/\0<w/\(xs.length+I.length) *i.bytes<=140737488355328/\xs.length+I.length<=4611686018427387904/\i.zero.map (λz=>z.cells.size)=some w/\iI id=true/\I.all (qe k)=true then
       some ((q.new id (.rn e w k V s2 (xs++I.map λc=>c.set k .hole) (zs++I.map λ_=>some []))).set (some d) (.row id)) else none
     |_,_,_=>none
    |some (e,s),some (.aq id .full),some y=>match q.ob id,elems q y,P.info? e with
     |some (.row K w xs),some (F,I),some i=>
      if t=Q/\e=K/\s=w/\w=F/\0<w/\(xs.length+I.length) *i.bytes<=140737488355328/\xs.length+I.length<=4611686018427387904/\i.zero.map (λz=>z.cells.size)=some w/\iI id=true/\I.isEmpty=false then
       some ((q.new id (.row e w (xs++I))).set (some d) (.row id)) else none
     |_,_,_=>none
    |_,_,_=>none
   |_,_,_=>none
  | .builtin .delete=>match d,c.args.toList,c.argTypes.toList with
   |none,[m,k],t::_=>wX P q t m k
   |_,_,_=>none
  | .builtin .clear=>match d,c.args.toList,c.argTypes.toList with
   |none,[x],[t]=>match isSlice P t,bz P t q x with
    |some (e,s),some (.sub id w U R)=>match q.ob id,zeroCells P e with
     |some (.row K F xs),some z=>if s=w/\w=F/\z.length=w/\R<=xs.length/\e=K/\0<w then
       some { q with ob:=put q.ob id (some (.row K F (xs.take U++List.replicate (R-U) z++xs.drop R))) } else none
     |_,_=>none
    |_,_=>none
   |_,_,_=>none
  | .value f=>bif d.any h.owns.contains then kL P h D q c f d else bif d.any h.stay.contains&&wide q c f then none else bif wide q c f then jC P h D q c f d else bif c.args.toList.any (λx=>(ou h q x).isSome) then oU P h D q c f d else
   match jj q c.args.toList with
   |some B=>match bz P 0 B f,jx P B c.args.toList c.argTypes.toList with
    |some (.pv (.fn g H)),some N=>match D g ((N++H).map .pv) [] with
     |some (r,[])=>bif c.args.toList.any (kK B)|| !r.kF then none else some (B.set d (.pv r))
     |_=>none
    |_,_=>none
   |none=>none
  |_=>none
 |_,_=>none
where
 jj (q:St) (l:List Operand):Option St:=bif l.any (vZ q) then none else gZ q l
 gZ (q:St):List Operand->Option St
  |[]=>some q
  | .tmp i::l=>match q.env i with
   |some (.row id)=>(q.dL id).bind λB=>gZ B l
   |_=>gZ q l
  |_::l=>gZ q l
def ot:List SV->St->Option St
 |[],q=>some q
 | .row id::l,q=>(q.dL id).bind (ot l)
 |_::l,q=>ot l q
def step0 (P:Program) (h:Hint) (l:dX) (o:Oper) (q:St):Option St:=
 match ew P h l o q with
 |some v=>some (q.set o.dst v)
 |none=>mD P h l o q
def vf (l:St) (t:Nat):Option St:=
 match l.env t with
 |some (.row id)=>l.dL id
 |some (.ptr id _)=>match l.ob id with
  |some (.box _ cells)=>ot cells l
  |_=>none
 |_=>some l
def nD:List Nat->St->Option St
 |[],q=>some q
 |t::l,q=>(vf q t).bind (nD l)
def slotsOf (o:Oper):List Nat:=o.op.operands.toList.filterMap fun
 | .tmp t=>some t
 |_=>none
def DY (h:Hint) (o:Oper):List Nat:=bif h.use.isEmpty then[] else(slotsOf o).filter h.use.contains
def step (P:Program) (h:Hint) (l:dX) (o:Oper) (q:St):Option St:=(nD (DY h o) q).bind (step0 P h l o)
def pG (q:Array Oper) (o:Oper) (w:St):Option Bool:=
 match o.guard with
 |none=>some true
 |some (j,l)=>match(q[j]?).bind (·.dst) with
  |some d=>match w.env d with
   |some (.pv (.bool b))=>some (b==l)
   |some .undef=>some false
   |_=>none
  |none=>none
def pV (P:Program) (h:Hint) (q:dX) (w:Array Oper):List Oper->St->Option St
 |[],z=>some z
 |o::l,z=>match pG w o z with
  |some b=>bif b then(step P h q o z).bind (pV P h q w l) else pV P h q w l (z.set o.dst .undef)
  |none=>none
inductive Ex where
 |normal
 |exit (id:Nat)
 |ret
 deriving DecidableEq
def exOf:Nat->Ex
 |0=> .normal
 |_=> .ret
def iter (h:Hint) (key:Nat) (f:St->Option (Ex×St)):Nat->St->Option (Ex×St)
 |0,_=>none
 |n+1,q=>match f (h.canon key q) with
  |some (.normal,l)=>iter h key f n l
  |r=>r
def gG (l:Array Oper) (o:Oper):List Nat:=slotsOf o++match o.guard with
 |some (j,_)=>((l[j]?).bind (·.dst)).toList
 |none=>[]
def ZY (o:Oper) (j:Nat):Bool:=o.after.toList.any λe=>Region.binds .any e&&Nat.beq e.on j
def sd:Nat->List Oper->Bool
 |_,[]=>true
 |i,o::l=>o.after.toList.all (λe=> !(Region.binds .any e)||Nat.blt e.on i)&&sd (i+1) l
def reach (l:Array Oper):Nat->Nat->Nat->Bool
 |0,_,_=>false
 |n+1,i,j=>match l[i]? with
  |some o=>ZY o j||o.after.toList.any λe=>Region.binds .any e&&reach l n e.on j
  |none=>false
def Ob.tv:Ob->Ob
 | .row e l xs=> .row e l (xs.map λ_=>[])
 | .rn e l k w q xs _=> .rn e l k w q (xs.map λ_=>[]) []
 |_=> .it [] 0
structure gi where
 rs:List Nat:=[]
 rl:List Nat:=[]
 kp:Nat->Bool:=λ_=>false
 ws:List Nat:=[]
 ro:List Nat:=[]
 wo:List Nat:=[]
 mv:List Nat:=[]
 men:List Nat:=[]
 all:Bool:=false
 we:Nat->Bool:=λ_=>false
 oe:Nat->Bool:=λ_=>false
def meets (a b:List Nat):Bool:=a.any λx=>b.any (Nat.beq x)
def gi.conflict (a b:gi):Bool:=a.all||b.all||meets a.ws b.rs||meets a.rs b.ws||meets a.ws b.ws||meets a.wo b.ro||meets a.ro b.wo||meets a.wo b.wo||meets a.mv b.men||meets b.mv a.men||b.rs.any a.we||b.ro.any a.oe||b.rl.any (λj=>a.wo.contains j&& !(a.kp j))||a.rl.any (λj=>b.wo.contains j&& !(b.kp j))
def Lq (q:St):List Operand->List Nat
 |[]=>[]
 | .tmp t::l=>(match q.env t with
  |some s=>s.ids
  |none=>[])++Lq q l
 |_::l=>Lq q l
def BG (l:St) (o:Oper):List Nat:=Lq l o.op.operands.toList
def targetId:SV->Option Nat
 | .ptr id _=>some id
 | .rp id _ _ _=>some id
 |_=>none
def wI:List Oper->List Nat
 |[]=>[]
 |o::l=>match o.op,o.dst with
  | .alloc _,some d=>d::wI l
  |_,_=>wI l
def wq (q:Array Oper) (l:List (Nat×gi)) (i:Nat) (f:gi):Bool:=l.all λp=>reach q 12 i p.1|| !(p.2.conflict f)
def Rt:Op->Bool
 | .move _| .assign _| .pick _ _ _=>true
 |_=>false
def Jv (P:Program) (h:Hint) (o:Oper) (l:St):List Nat:=
 match o.op with
 | .call c=>match c.callee with
  | .value f=>match tK P h l c f with
   |some (_,args)=>bif o.dst.any h.stay.contains then kM l args else[]
   |none=>[]
  |_=>[]
 |_=>[]
def Ob.mentions (id:Nat):Ob->Bool
 | .box _ cells=>cells.any (SV.mentions id)
 |_=>false
def Ob.ids:Ob->List Nat
 | .box _ cells=>cells.flatMap SV.ids
 |_=>[]
def My (l:St) (t:Nat):List Nat:=match l.env t with
 |some s=>s.ids
 |none=>[]
def WK (l:St) (j:Nat):List Nat:=match l.ob j with
 |some o=>o.ids
 |none=>[]
def gi.fill (q l:St) (f:gi):gi:=
 {f with
  men:=f.mv++(f.ro++(f.wo++(f.rs.flatMap (My q)++(f.ws.flatMap (My l)++(f.ro.flatMap (WK q)++f.wo.flatMap (WK l))))))
  we:=λt=>match q.env t with
   |some v=>f.mv.any λid=>v.mentions id
   |none=>false
  oe:=λj=>match q.ob j with
   |some o=>f.mv.any λid=>o.mentions id
   |none=>false }
def lX:gi:={ all:=true }
def aaL:Op->Bool
 | .indexAddr _ _ _=>true
 |_=>false
def uT (P:Program) (h:Hint) (l:Array Oper) (o:Oper) (q:St):gi:=
 {rs:=gG l o,ws:=o.dst.toList,ro:=bif Rt o.op||aaL o.op then[] else BG q o++Jv P h o q,rl:=bif aaL o.op then BG q o else[] }
def s8 (l:Array Oper) (o:Oper):gi:={ rs:=gG l o,ws:=o.dst.toList }
def A4 (P:Program) (l:Array Oper) (o:Oper) (q:St) (a:Operand):gi:=match(bz P 0 q a).bind targetId with
 |some id=>{ rs:=gG l o,ro:=id::BG q o,wo:=[id] }
 |none=>lX
def MK (P:Program) (l:Array Oper) (o:Oper) (q:St) (c:Call):gi:=match c.args.toList,c.argTypes.toList,o.dst with
 |[x,_],[t,_],some d=>match bz P t q x with
  |some (.row id)=>{ rs:=gG l o,ws:=[d],ro:=id::BG q o,wo:=[id],mv:=[id] }
  |some (.aq id .full)=>{ rs:=gG l o,ws:=[d],ro:=id::BG q o,wo:=[id],mv:=[id] }
  |_=>lX
 |_,_,_=>lX
def Qv (P:Program) (l:Array Oper) (o:Oper) (q:St) (x:Operand) (d:Nat):gi:=match bz P 0 q x with
 |some (.rp id _ _ _)=>match q.ob id with
  |some (.rn _ _ _ _ _ _ _)=>{ rs:=gG l o,ws:=[d],ro:=[id],wo:=[id,d],mv:=[d],kp:=λj=>Nat.beq j id&& !(Nat.beq id d) }
  |_=>lX
 |_=>lX
def DE (P:Program) (l:Array Oper) (o:Oper) (w:St) (t:TypeId) (a x:Operand):gi:=match bz P 0 w a,bz P t w x with
 |some (.rp id _ _ _),some (.row j)=>{ rs:=gG l o,ro:=[id,j],wo:=[id,j,id+40000],mv:=[j,id+40000],kp:=λq=>Nat.beq q id&& !(Nat.beq id j) }
 |some (.ptr _ _),some (.sub _ _ _ _)=>lX
 |_,_=>A4 P l o w a
def uS (P:Program) (h:Hint) (q:Array Oper) (o:Oper) (l:St) (c:Call) (f:Operand):gi:=match tK P h l c f with
 |some (_,args)=>{ rs:=gG q o,ws:=o.dst.toList,ro:=kM l args,wo:=kM l args,mv:=(kM l args).filter (lF false l (pS args)) }
 |none=>lX
def kO (P:Program) (h:Hint) (l:Array Oper) (o:Oper) (q:St):gi:=
 match o.op,o.dst with
 | .store t a x,none=>DE P l o q t a x
 | .alloc _,some d=>bif h.rows.contains d then lX else { rs:=gG l o,ws:=[d],wo:=[d],mv:=[d] }
 | .buildSlice _ _ _,some d=>bif h.rows.contains d then { rs:=gG l o,ws:=[d],wo:=[d],mv:=[d] } else lX
 | .call c,_=>match c.callee with
  | .builtin .append=>MK P l o q c
  | .value f=>bif o.dst.any h.owns.contains&& !(o.dst.any (λd=>(w5 h d).isSome)) then { rs:=gG l o,ws:=o.dst.toList,wo:=o.dst.toList,mv:=o.dst.toList }
   else bif !(o.dst.any h.owns.contains)&&(!(o.dst.any h.stay.contains)&&wide q c f) then uS P h l o q c f else lX
  |_=>lX
 | .load _ x,some d=>bif h.take.contains d then Qv P l o q x d else lX
 |_,_=>lX
def rG:List Nat->St->St
 |[],q=>q
 |p::l,q=>rG l (q.dG p)
def isF (h:Hint) (l:St) (o:Oper):Bool:=
 match o.op with
 | .buildSlice _ _ _=> !(o.dst.any h.rows.contains)
 | .call c=>match c.callee with
  | .builtin .append=>false
  | .builtin .delete=>false
  | .builtin .clear=>false
  | .value f=> !(o.dst.any h.owns.contains)&&((o.dst.any h.stay.contains&&wide l c f)|| !(wide l c f||c.args.toList.any (λx=>(ou h l x).isSome)))
  |_=>true
 | .assign x=>match o.dst,x with
  |some d, .const (.slice none 0 0)=> !(h.rows.contains d)
  |some d,x=>(!(h.mu.contains d)&& !(h.mvs.contains d))|| !(kK l x)
  |none,_=>true
 | .lookup _ x _ ok=> !(pT h x&& !ok)
 | .makeFunc _ _ _| .move _| .pick _ _ _| .binOp _ _ _ _ _| .unOp _ _ _| .convert _ _ _| .fieldAddr _ _ _| .field _ _ _| .indexAddr _ _ _| .index _ _ _| .slice _ _ _ _ _| .extract _ _| .nilCheck _=>true
 | .build _ _=> !(o.dst.any h.rows.contains)
 | .load _ _=> !(o.dst.any h.take.contains)
 |_=>false
def isW:Op->Bool
 | .buildSlice _ _ _| .build _ _| .load _ _=>true
 |_=>false
def isWc (l:St):Op->Bool
 | .call c=>match c.callee with
  | .value _=> !(c.args.toList.any (kK l))
  |_=>false
 |_=>false
def vn:List SV->List Nat
 |[]=>[]
 | .row id::l=>id::vn l
 |_::l=>vn l
def NF (l:St) (t:Nat):gi:=
 match l.env t with
 |some (.row id)=>{ rs:=[t],ro:=[id],wo:=[id],mv:=[id] }
 |some (.ptr id _)=>match l.ob id with
  |some (.box _ cells)=>{ rs:=[t],ro:=id::vn cells,wo:=vn cells,mv:=vn cells }
  |_=>lX
 |_=>{ rs:=[t] }
def gi.then (a b:gi):gi:={ rs:=a.rs++b.rs,ws:=b.ws++a.ws,ro:=a.ro++b.ro,wo:=b.wo++a.wo,mv:=a.mv++b.mv,all:=a.all||b.all,rl:=a.rl++b.rl,kp:=λj=>(a.kp j|| !(a.wo.contains j))&&(b.kp j|| !(b.wo.contains j)) }
def Ll (P:Program) (h:Hint) (q:Array Oper) (o:Oper):List Nat->St->gi
 |[],w=>bif isF h w o then(bif isW o.op||isWc w o.op then uT P h q o w else lX) else kO P h q o w
 |t::l,w=>match vf w t with
  |some z=>(NF w t).then (Ll P h q o l z)
  |none=>lX
def tN (P:Program) (h:Hint) (l:Array Oper) (o:Oper) (q:St):gi:=(Ll P h l o (DY h o) q).then { rs:=gG l o }
def jL (P:Program) (h:Hint) (w:dX) (q:Array Oper):Nat->List Oper->List (Nat×gi)->St->Option St
 |_,[],_,z=>some z
 |i,o::l,B,z=>match pG q o z with
  |none=>none
  |some b=>bif b then
    bif isF h z o&&(DY h o).isEmpty then
     match ew P h w o z with
     |some v=>bif wq q B i ((uT P h q o z).fill z (z.set o.dst v)) then jL P h w q (i+1) l ((i,(uT P h q o z).fill z (z.set o.dst v))::B) (z.set o.dst v) else none
     |none=>none
    else match step P h w o z with
     |some D=>bif wq q B i ((tN P h q o z).fill z D) then jL P h w q (i+1) l ((i,(tN P h q o z).fill z D)::B) D else none
     |none=>none
   else bif wq q B i ((s8 q o).fill z (z.set o.dst .undef)) then jL P h w q (i+1) l ((i,(s8 q o).fill z (z.set o.dst .undef))::B) (z.set o.dst .undef) else none
def St.Ji (l:St) (id:Nat):Option St:=
 match l.ob id with
 |some (.box _ _)=>l.pR id
 |none=>some l
 |_=>l.dL id
def yI:List Nat->St->Option St
 |[],q=>some q
 |id::l,q=>(q.Ji id).bind (yI l)
def Hint.ac9 (h:Hint) (id:Nat) (q:St):Option St:=
 match find h.nV id with
 |some l=>yI l q
 |none=>some q
def exec (P:Program) (h:Hint) (l:dX) (n:Nat):Code->St->Option (Ex×St)
 | .skip,q=>some (.normal,q)
 | .label _,q=>some (.normal,q)
 | .region id w B,q=>(h.ac9 id q).bind λq=>
  bif B then
   bif sd 0 w.toList then(jL P h l w 0 w.toList [] (rG (wI w.toList) q)).map λs=>(.normal,s) else none
  else(pV P h l w w.toList q).map λs=>(.normal,s)
 | .seq a b,q=>match find h.blk (dU a) with
  |some x=>bif x.1 q then some (exOf (x.2 q).1,(x.2 q).2) else none
  |none=>match exec P h l n a q with
   |some (.normal,z)=>exec P h l n b z
   |r=>r
 | .cond c a b,q=>match bz P 0 q c with
  |some (.pv (.bool t))=>bif t then exec P h l n a q else exec P h l n b q
  |_=>none
 | .block id c,q=>match exec P h l n c q with
  |some (.exit j,z)=>bif Nat.beq j id then some (.normal,z) else some (.exit j,z)
  |r=>r
 | .loop c,q=>iter h (dU c) (exec P h l n c) n q
 | .exit id,q=>some (.exit id,q)
 | .ret,q=>some (.ret,q)
 | .scope c,q=>exec P h l n c q
 |_,_=>none
def yf:Nat->List SV->List (Nat×SV)
 |_,[]=>[]
 |i,v::l=>(i,v)::yf (i+1) l
def St.NH (q:St) (id:Nat):Option St:=
 match q.ob id with
 |some (.box _ cells)=>(ot cells q).bind λl=>l.pR id
 |_=>none
def NI (q:St) (t:Nat):Option (St×AV):=
 match q.env t with
 |some (.pv v)=>some (q,v)
 |some (.ptr id 0)=>match q.NH id with
  |some l=>match l.env t with
   |some (.cp w)=>some (l, .ref w)
   |_=>none
  |none=>none
 |some (.row id)=>match q.dL id with
  |some l=>match l.env t with
   |some (.pv v)=>some (l,v)
   |_=>none
  |none=>none
 |_=>none
def sS (P:Program):List ResultVar->St->Option (St×List AV)
 |[],z=>some (z,[])
 | .tmp t::l,z=>match NI z t with
  |some (w,v)=>match sS P l w with
   |some (q,B)=>some (q,v::B)
   |none=>none
  |none=>none
 | .cell ad t::l,z=>match eY P ⟨none, .load t (.tmp ad),t, "", #[],none⟩ z with
  |some (.pv v)=>match sS P l z with
   |some (q,B)=>some (q,v::B)
   |none=>none
  |some (.row id)=>match z.dL id with
   |some w=>match eY P ⟨none, .load t (.tmp ad),t, "", #[],none⟩ w with
    |some (.pv v)=>match sS P l w with
     |some (q,B)=>some (q,v::B)
     |none=>none
    |_=>none
   |none=>none
  |_=>none
def result:List AV->AV
 |[v]=>v
 |vs=> .lR vs
def oT (names:List Nat) (q:St):List Nat->Option (List (Nat×Ob))
 |[]=>some []
 |id::l=>match q.ob id,oT names q l with
  |some o,some w=>bif o.closed names then some ((id,o)::w) else none
  |_,_=>none
def nP (N:Nat):Code->Bool
 | .region _ l _=>l.toList.all λo=>match o.dst with
  |some d=>Nat.blt d N
  |none=>true
 | .seq a b=>nP N a&&nP N b
 | .cond _ a b=>nP N a&&nP N b
 | .block _ c=>nP N c
 | .loop c=>nP N c
 | .scope c=>nP N c
 |_=>true
def TE (fn:Func):Bool:=Nat.ble fn.ntmps 10000&& !(fn.name== "runtime.NumGoroutine")&&match fn.body with
 |some c=>nP fn.ntmps c
 |none=>true
def Cm (P:Program):Bool:=P.follows .mixedOrders&&P.funcs.toList.all TE&&Nat.ble P.funcs.size 1000000
def N2 (fn:Func) (names:List Nat) (l:St):Option Nat:=
 match fn.results.toList,names with
 |[.tmp t],[10000]=>match l.env t,l.ob 10000 with
  |some (.row 10000),some (.row _ _ xs)=>some xs.length
  |some (.sub 10000 _ 0 n),some (.row _ _ _)=>some n
  |_,_=>none
 |_,_=>none
def UM (fn:Func) (l:St):Option AV:=
 match fn.results.toList with
 |[.tmp t]=>match l.env t with
  |some (.row id)=>match w8 id,l.ob id with
   |true,some (.row e q xs)=>some (.lR [.lR [.self e, .dK q xs]])
   |_,_=>none
  |_=>none
 |_=>none
def Z5 (P:Program) (own:Bool) (fn:Func) (names:List Nat) (e:Ex) (q:St):Option (AV×List (Nat×Ob)):=
 match e with
 | .exit _=>none
 |_=>bif own then
   match UM fn q,oT names q names with
   |some r,some l=>some (r,l)
   |_,_=>none
  else match N2 fn names q with
  |some n=>match oT names q names with
   |some l=>some (.self n,l)
   |none=>none
  |none=>match sS P fn.results.toList q with
   |some (w,z)=>match oT names w names with
    |some l=>some (result z,l)
    |none=>none
   |none=>none
def Z4 (P:Program) (own:Bool) (fn:Func) (cF:List (Nat×Ob)) (e:Ex) (l:St):Option (AV×List (Nat×Ob)):=Z5 P own fn (cF.map (·.1)) e l
def nT (P:Program) (H:Nat->Hint) (eX:dX):Nat->dX
 |0=>λ_ _ _=>none
 |n+1=>λf args cF=>match eX f args cF with
  |some r=>some r
  |none=>match P.funcs[f]? with
   |some fn=>match fn.body with
    |some c=>
     bif Nat.ble args.length fn.ntmps&&(cF.map (·.1)).all (λi=> !(w8 i)) then
      match exec P (H f) (nT P H eX n) n c { env:=find (yf 0 args),ob:=find cF } with
      |some (e,l)=>Z4 P (H f).own fn cF e l
      |none=>none
     else none
    |none=>none
   |none=>none
