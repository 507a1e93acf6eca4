/- AN ABSTRACT MACHINE over the model's code. -/
import Derived.Calls
import Derived.CallsIn
import Derived.OrdersIn
import Derived.LoopNIn
import Derived.TacticsIn
import Derived.RangeFuncIn
import Derived.Orders
import Derived.LoopN
import Derived.Scope
import Derived.Below
import Derived.Laws.OwnMore
import Derived.Maps.AppendAt
import Derived.Laws.BytesString
set_option linter.all false
def af {p:Prop} (h:p:=by omega):p:=h
def ai {p:Prop} (h:p:=by simp):p:=h
def aH {p:Prop} (h:p:=by simp;omega):p:=h
abbrev dy:=@Option.bind_eq_some_iff
abbrev gV:=@if_true
abbrev bg:=@Option.some.injEq
abbrev aP:=@congrArg
abbrev cR:=@List.cons.injEq
abbrev eH:=@and_true
abbrev mu:=@Array.getElem?_eq_some_iff
abbrev iY:=@List.mem_of_mem_drop
abbrev vO:=@List.mem_of_mem_take
abbrev bu:=@List.mem_append
abbrev jQ:=@Nat.add_mul
abbrev Hl:=@List.drop_succ_cons
abbrev Ho:=@List.take_succ_cons
abbrev aR:=@Nat.le_refl
abbrev cS:=@Nat.zero_le
abbrev bR:=@Go.run_underlying
abbrev jm:=@Go.Sem.run_bind
abbrev kJ:=@Go.Result.andThen_ok
abbrev fh:=@List.length_take
abbrev Bv:=@Go.run_loadCells_list
abbrev cL:=@Option.map_eq_some_iff
abbrev qX:=@Option.isSome_iff_exists
abbrev aB:=@if_pos
abbrev Bw:=@List.drop_length_add_append
abbrev lS:=@List.eq_nil_of_length_eq_zero
abbrev aV:=@List.mem_of_getElem?
abbrev oQ:=@List.getElem?_take
abbrev gb:=@List.foldl_cons
abbrev bH:=@List.map_cons
abbrev gE:=@Nat.add_assoc
abbrev bP:=@List.getElem?_eq_some_iff
abbrev wW:=@List.getElem?_drop
abbrev jR:=@Nat.mul_le_mul_right
abbrev aM:=@List.getElem?_eq_getElem
abbrev eF:=@Nat.zero_add
abbrev Hp:=@List.drop_take
abbrev az:=@if_neg
abbrev aN:=@List.mem_cons
abbrev bz:=@List.length_cons
abbrev Hr:=@List.take_set_of_le
abbrev Hs:=@List.drop_set_of_lt
abbrev ee:=@List.append_assoc
abbrev gF:=@List.cons_append
abbrev dK:=@List.nil_append
abbrev lV:=@Nat.add_zero
abbrev Bx:=@Array.length_toList
abbrev RP:=@Array.toList_zipIdx
abbrev lW:=@List.all_cons
abbrev aU:=@Bool.and_eq_true
abbrev qY:=@List.mapM_cons
abbrev eG:=@List.map_map
abbrev mX:=@Function.comp_def
abbrev cI:=@List.all_eq_true
abbrev Ht:=@List.getElem?_toArray
abbrev au:=@cond_true
abbrev wX:=@List.any_cons
abbrev fT:=@Bool.or_eq_false_iff
abbrev jo:=@List.mem_iff_getElem
abbrev fO:=@Nat.le_trans
abbrev fG:=@Nat.lt_of_lt_of_le
abbrev fP:=@List.getElem?_append_right
abbrev oR:=@List.replicate_succ
abbrev aA:=@cond_false
abbrev mY:=@Nat.succ_mul
abbrev jS:=@Nat.add_comm
abbrev wY:=@List.range_add
abbrev kK:=@List.ext_getElem?
abbrev iG:=@List.take_of_length_le
abbrev By:=@Nat.zero_mul
abbrev eU:=@List.getElem?_append_left
abbrev gW:=@Go.RowKit.Below.refl
abbrev qZ:=@Go.heap_alloc_new
abbrev Bz:=@Nat.mul_le_mul_left
abbrev aD:=@List.mem_map
abbrev dA:=@List.getElem?_map
abbrev wZ:=@Nat.eq_of_beq_eq_true
abbrev q7:=@List.range'_succ
abbrev cK:=@Nat.blt_eq
abbrev xb:=@Go.run_storeCells_at
abbrev tL:=@Go.Sem.run_pure
abbrev ey:=@List.map_nil
abbrev xd:=@Go.setRow_other
abbrev BA:=@Go.setRow_heap
abbrev xe:=@Nat.min_eq_left
abbrev bQ:=@List.length_append
abbrev BB:=@not_true_eq_false
abbrev gG:=@if_false
abbrev bf:=@List.length_map
abbrev Hu:=@List.set_eq_take_append_cons_drop
abbrev Hv:=@List.take_length_add_append
abbrev gx:=@Bool.or_eq_true
abbrev eB:=@Ne.symm
abbrev q8:=@List.size_toArray
abbrev mZ:=@List.getElem?_set_self
abbrev cE:=@List.map_append
abbrev jq:=@List.nodup_append
abbrev jw:=@Bool.not_eq_true'
abbrev xg:=@List.getElem?_set
abbrev ng:=@List.getElem?_set_ne
abbrev xk:=@List.mem_or_eq_of_mem_set
abbrev zo:=@List.set_append_left
abbrev nt:=@List.set_append_right
abbrev nv:=@Nat.lt_of_le_of_lt
abbrev zq:=@List.any_eq_false
abbrev e8:=@List.mem_filterMap
abbrev uO:=@Go.callsIn_wide
abbrev pN:=@Nat.beq_refl
abbrev fF:=@Nat.le_of_ble_eq_true
abbrev cD:=@Prod.mk.injEq
abbrev zu:=@List.nodup_nil
abbrev gj:=@List.nodup_cons
abbrev dz:=@List.mem_cons_of_mem
abbrev lH:=@Bool.and_eq_true_iff
abbrev dM:=@Bool.not_true
abbrev pO:=@Bool.false_or
abbrev cT:=@List.mem_filter
abbrev cM:=@List.mem_append_left
abbrev gz:=@List.mem_append_right
abbrev zw:=@List.filter_eq_self
abbrev lI:=@List.filter_congr
abbrev uP:=@Bool.true_or
abbrev zx:=@Bool.and_true
abbrev rH:=@List.drop_length
abbrev eo:=@List.append_nil
abbrev er:=@Bool.false_eq_true
abbrev ny:=@false_imp_iff
abbrev gP:=@List.map_congr_left
abbrev lJ:=@List.map_id
abbrev rI:=@Bool.and_self
abbrev e9:=@Option.map_some
abbrev zy:=@List.filter_eq_nil_iff
abbrev fe:=@Option.some.inj
abbrev lK:=@Nat.add_sub_cancel
abbrev iT:=@Array.toList_append
abbrev cz:=@List.mem_singleton
abbrev rJ:=@Bool.or_false
abbrev aS:=@decide_eq_false_iff_not
abbrev kB:=@Option.bind_some
abbrev nC:=@List.not_mem_nil
abbrev pQ:=@or_false
abbrev pR:=@Bool.false_and
abbrev gQ:=@List.mem_range
abbrev gm:=@List.mem_cons_self
abbrev iU:=@Bool.eq_iff_iff
abbrev rK:=@Option.getD_some
abbrev uQ:=@Option.any_some
abbrev zz:=@List.isEmpty_iff
abbrev Ew:=@Array.getElem?_eq_getElem
abbrev Ey:=@Array.all_eq_true'
abbrev ff:=@Classical.byContradiction
abbrev dN:=@List.pairwise_cons
abbrev Ez:=@List.append_of_mem
abbrev rL:=@List.pairwise_append
abbrev nD:=@Go.wpIn_mono
abbrev uR:=@Array.getElem?_append_left
abbrev kC:=@dif_pos
abbrev uS:=@Nat.le_max_left
abbrev zA:=@Nat.le_max_right
abbrev nE:=@List.any_eq_true
abbrev uT:=@Nat.ble_eq_true_of_le
abbrev iz:=@Bool.true_and
abbrev ew:=@true_and
abbrev bw:=@List.getD_eq_getElem?_getD
abbrev fU:=@Int.eq_ofNat_of_zero_le
abbrev pS:=@decide_eq_true_eq
abbrev iV:=@beq_iff_eq
abbrev EA:=@UInt8.lt_iff_toNat_lt
abbrev uU:=@List.findIdx?_cons
abbrev zB:=@List.findIdx?_eq_some_iff_getElem
abbrev nF:=@List.ext_getElem
abbrev uV:=@List.map_set
abbrev pV:=@List.map_drop
abbrev uW:=@List.map_replicate
abbrev pX:=@Prod.ext
abbrev rM:=@and_assoc
abbrev zD:=@Go.mapM_some_length
abbrev uX:=@List.idxOf_cons
abbrev lM:=@beq_eq_false_iff_ne
abbrev nG:=@bne_iff_ne
abbrev nH:=@List.filter_cons
abbrev rN:=@List.prefix_refl
abbrev zF:=@List.IsPrefix.trans
abbrev c4:=@List.length_singleton
abbrev jI:=@List.pairwise_map
abbrev gA:=@List.getElem?_eq_none
abbrev rO:=@List.getElem?_cons_succ
abbrev zG:=@List.length_pos_of_mem
abbrev uY:=@List.getElem?_range
abbrev nJ:=@List.mem_of_find?_eq_some
abbrev pY:=@List.find?_some
abbrev zH:=@List.find?_eq_none
abbrev EB:=@List.length_filterMap_le
abbrev rP:=@Nat.lt_irrefl
abbrev kD:=@Nat.sub_self
abbrev eO:=@List.length_nil
abbrev pZ:=@List.length_replicate
abbrev lN:=@Nat.testBit_and
abbrev uZ:=@Nat.eq_of_testBit_eq
abbrev EC:=@List.findIdx?_eq_none_iff
abbrev bU:=@List.getElem_mem
abbrev rQ:=@List.getElem_inj
abbrev kE:=@List.range_succ
abbrev kF:=@List.getElem_map
abbrev ED:=@List.getElem_range
abbrev aZ:=@Int.toNat_natCast
abbrev zI:=@List.range_eq_range'
abbrev rR:=@List.drop_eq_nil_of_le
abbrev iW:=@List.drop_eq_getElem_cons
abbrev zJ:=@decide_false
abbrev rS:=@Nat.and_le_left
abbrev zK:=@Nat.testBit_lt_two_pow
abbrev u6:=@Nat.pow_le_pow_right
abbrev u7:=@decide_eq_decide
abbrev lP:=@List.mem_map_of_mem
abbrev nK:=@List.take_append_drop
abbrev fN:=@Bool.not_false
abbrev u9:=@Nat.sub_zero
abbrev EE:=@List.filter_filter
abbrev c7:=@List.take_add_one
abbrev vc:=@List.mem_take_iff_getElem
abbrev EF:=@List.length_eq_one_iff
abbrev ve:=@List.length_filter_le
abbrev EG:=@List.filter_append
abbrev gp:=@List.take_length
abbrev nM:=@List.pairwise_iff_getElem
abbrev lQ:=@List.length_eq_zero_iff
abbrev zL:=@List.filter_sublist
abbrev zM:=@Nat.lt_trichotomy
abbrev lR:=@List.find?_cons
abbrev rT:=@List.flatMap_cons
abbrev p7:=@List.drop_zero
abbrev EH:=@Option.isSome_some
abbrev bA:=@decide_eq_true_iff
abbrev iX:=@List.length_set
abbrev zN:=@Int.lt_trichotomy
abbrev zO:=@List.take_left'
abbrev zP:=@List.idxOf_append
abbrev nN:=@List.set_cons_zero
abbrev vf:=@List.drop_append_of_le_length
abbrev zQ:=@List.take_zero
abbrev vg:=@List.replicate_zero
abbrev vh:=@List.replicate_succ'
abbrev p9:=@List.getElem?_replicate
abbrev jJ:=@List.mem_iff_getElem?
abbrev nP:=@Nat.mul_le_mul
abbrev rU:=@List.pairwise_singleton
abbrev rV:=@List.sum_cons
abbrev vi:=@List.getElem_cons_succ
abbrev rW:=@dif_neg
abbrev EI:=@List.contains_iff_mem
abbrev lT:=@List.length_drop
abbrev lU:=@of_decide_eq_true
abbrev qa:=@decide_eq_true
abbrev nQ:=@Nat.add_sub_cancel_left
abbrev jK:=@Int.le_refl
abbrev vj:=@decide_eq_false
abbrev zR:=@Array.getElem?_modify
abbrev jL:=@Iff.rfl
abbrev zS:=@Nat.mul_one
abbrev zT:=@of_decide_eq_false
abbrev vk:=@List.flatten_cons
abbrev qb:=@List.getElem!_eq_getElem?_getD
abbrev EJ:=@List.getElem!_toArray
abbrev zU:=@Go.Addr.add_lit
abbrev vm:=@Go.wpList_append_own
abbrev vn:=@Go.World.ownsRow_made
abbrev zV:=@Go.callsIn_of_wp
abbrev vo:=@Array.replicate_succ
abbrev vp:=@Array.replicate_zero
abbrev vq:=@List.push_toArray
abbrev vr:=@List.append_toArray
open BitVec (ofInt)
namespace Go.AM
inductive AV where
 |bool (b:Bool)
 |int (k:IntKind) (n:Int)
 |str (s:List UInt8)
 |dD (sz:Nat) (xs:List (List AV))
 |agg (cs:List AV)
 |fn (f:Nat) (caps:List AV)
 |gU (vs:List AV)
 |ref (cs:List AV)
 |mp (ks vs:List AV)
 |self (n:Nat)
 |qh
 |tS
 |hole
 deriving Inhabited
inductive oF where
 |v (a:AV)
 |p (id:Nat)
 |r (id:Nat)
 deriving Inhabited
inductive Ak where
 |full
 |nr (i:Nat)
 |bs (n:Nat)
 deriving Inhabited
inductive SV where
 |undef
 |any
 |pv (v:AV)
 |ptr (id off:Nat)
 |row (id:Nat)
 |rp (id sz i off:Nat)
 |sub (id sz lo hi:Nat)
 |cp (cs:List AV)
 |cl (f:Nat) (caps:List oF)
 |two (v w:SV)
 |three (u v w:SV)
 |ag (cs:List oF)
 |aq (id:Nat) (q:Ak)
 deriving Inhabited
inductive Ob where
 |box (t:TypeId) (cells:List SV)
 |row (e:TypeId) (sz:Nat) (xs:List (List AV))
 |mp (k e:TypeId) (ks vs:List AV)
  |lp (xs:List AV)
  |rn (e:TypeId) (sz k:Nat) (e':TypeId) (sz':Nat) (xs:List (List AV)) (ys:List (Option (List (List AV))))
 deriving Inhabited
structure St where
 env:Nat->Option SV
 ob:Nat->Option Ob
def AV.cells:AV->List AV
 | .agg l=>l
 |v=>[v]
def AV.HY:AV->Bool
 | .gU _=>false
 |_=>true
def AV.XL:AV->Bool
 | .gU _=>true
 |_=>false
def AV.jG:AV->Bool
 | .self _=>false
 | .gU l=>bif Nat.beq l.length 1 then !(l.any AV.XL) else true
 |_=>true
def AV.scalar:AV->Bool
 | .bool _| .int _ _| .str _=>true
 |_=>false
def AV.plain:AV->Bool
 | .gU l=>l.all AV.scalar
 |v=>v.scalar
def find {q:Type}:List (Nat×q)->Nat->Option q
 |[],_=>none
 |(j,v)::l,i=>cond (Nat.beq j i) (some v) (find l i)
def put {l:Type} (m:Nat->Option l) (d:Nat) (v:Option l):Nat->Option l:=λi=>cond (Nat.beq d i) v (m i)
def St.set (l:St) (d:Option Nat) (v:SV):St:=
 match d with
 |some d=>{ l with env:=put l.env d (some v) }
 |none=>l
structure Hint where
 loops:List (Nat×List Nat×List Nat):=[]
 rows:List Nat:=[]
 kW:List Nat:=[]
 fq:List Nat:=[]
 mU:List (Nat×List Nat):=[]
 stay:List Nat:=[]
 keep:List Nat:=[]
 blk:List (Nat×(St->Bool)×(St->Nat×St)):=[]
 use:List Nat:=[]
 owns:List Nat:=[]
 own:Bool:=false
 tS:List (Nat×List (Nat×TypeId×Nat)):=[]
 take:List Nat:=[]
 PD:List (Nat×List Nat):=[]
 nest:List (Nat×Nat×TypeId×Nat):=[]
 mvs:List Nat:=[]
 bx:List Nat:=[]
 rE:List (Nat×Nat×List Nat):=[]
def vA {q:Type} (m:Nat->Option q):List Nat->List (Nat×q)
 |[]=>[]
 |i::l=>match m i with
  |some v=>(i,v)::vA m l
  |none=>vA m l
def Hint.canon (h:Hint) (key:Nat) (w:St):St:=
 match find h.loops key with
 |some (l,q)=>{ env:=find (vA w.env l),ob:=find (vA w.ob q) }
 |none=>w
def fk:Code->Nat
 | .region id _ _=>id
 | .seq a _=>fk a
 | .cond _ a _=>fk a
 | .block _ c=>fk c
 | .loop c=>fk c
 | .scope c=>fk c
 |_=>0
def isSlice (P:Program) (t:TypeId):Option (TypeId×Nat):=
 match P.underlying t with
 |some (.slice e)=>(P.info? e).map λi=>(e,i.size)
 |_=>none
def Ev (P:Program) (t:TypeId):Option Bool:=
 match P.underlying t with
 |some (.struct _)|some (.array _ _)=>some true
 |some _=>some false
 |none=>none
def kZ (P:Program) (t:TypeId):Option Nat:=(P.info? t).map (·.size)
def ofConst (P:Program) (t:TypeId):Value->Option AV
 | .bool b=>some (.bool b)
 | .int k n=>some (.int k n)
 | .string s=>some (.str s.data.toList)
 | .slice none 0 0=>(isSlice P t).map λx=> .dD x.2 []
 | .pointer none=>some .qh
 | .nilFunc=>some .hole
 | .map none=>match P.underlying t with
  |some (.map _ _)=>some (.mp [] [])
  |_=>none
 |_=>none
def bI (P:Program) (t:TypeId) (st:St):Operand->Option SV
 | .tmp i=>st.env i
 | .const v=>(ofConst P t v).map .pv
 | .func f=>some (.pv (.fn f []))
 | .global _=>none
def tA (P:Program):Nat->TypeId->List TypeId
 |0,_=>[]
 |n+1,t=>match P.underlying t with
  |some (.struct l)=>l.toList.flatMap λf=>tA P n f.type
  |some (.array m e)=>(List.replicate m (tA P n e)).flatten
  |_=>[t]
def n9 (P:Program):List TypeId->List Value->Option (List AV)
 |[],[]=>some []
 |t::l,v::q=>match ofConst P t v,n9 P l q with
  |some a,some as=>some (a::as)
  |_,_=>none
 |_,_=>none
def zeroCells (P:Program) (t:TypeId):Option (List AV):=
 match P.info? t with
 |some i=>match i.zero with
  |some z=>n9 P (tA P 8 t) z.cells.toList
  |none=>none
 |none=>none
def FV:List Nat->List AV->Option (List AV)
 |[],l=>some l
 |k::q,l=>match l[k]? with
  |some (.dD _ [])=>(FV q l).map λz=>z.set k .tS
  |_=>none
def Oe (P:Program) (h:Hint) (d:Option Nat) (t:TypeId):Option (List AV):=
 match d.bind (find h.PD) with
 |some l=>(zeroCells P t).bind (FV l)
 |none=>zeroCells P t
def GB (op:BinOp) (k:IntKind) (a b:Int):Option AV:=
 match op with
 | .add=>some (.int k (k.wrap (a+b)))
 | .sub=>some (.int k (k.wrap (a-b)))
 | .mul=>some (.int k (k.wrap (a *b)))
 | .quo=>if b=0 then none else some (.int k (k.wrap (a.tdiv b)))
 | .rem=>if b=0 then none else some (.int k (a.tmod b))
 | .and=>some (.int k (k.wrap (ofInt k.bits a&&&ofInt k.bits b).toNat))
 | .or=>some (.int k (k.wrap (ofInt k.bits a|||ofInt k.bits b).toNat))
 | .xor=>some (.int k (k.wrap (ofInt k.bits a^^^ ofInt k.bits b).toNat))
 | .andNot=>some (.int k (k.wrap (ofInt k.bits a&&& ~~~ofInt k.bits b).toNat))
 | .eql=>some (.bool (a==b))
 | .neq=>some (.bool (a !=b))
 | .lss=>some (.bool (a<b))
 | .leq=>some (.bool (a<=b))
 | .gtr=>some (.bool (a>b))
 | .geq=>some (.bool (a>=b))
 | .shl| .shr=>none
def Cr (op:BinOp) (k:IntKind) (a b:Int):Option AV:=
 if b<0 then none else
 match op with
 | .shl=>some (.int k (k.wrap (a *2^ min b.toNat k.bits)))
 | .shr=>some (.int k (a.fdiv (2^ min b.toNat k.bits)))
 |_=>none
def WR (op:BinOp) (a b:List UInt8):Option AV:=
 match op with
 | .add=>if a.length+b.length<=9223372036854775807 then some (.str (a++b)) else none
 | .eql=>some (.bool (a==b))
 | .neq=>some (.bool !(a==b))
 | .lss=>some (.bool (Op.bytesLess a b))
 | .leq=>some (.bool (Op.bytesLess a b||a==b))
 | .gtr=>some (.bool !(Op.bytesLess a b||a==b))
 | .geq=>some (.bool !(Op.bytesLess a b))
 |_=>none
def xC:AV->AV->Option Bool
 | .str a, .str b=>some (a==b)
 | .int k a, .int k' b=>if k=k' then some (a==b) else none
 | .bool a, .bool b=>some (a==b)
 |_,_=>none
def om (P:Program) (k:TypeId) (key:AV):Bool:=
 match P.underlying k,key with
 |some .string, .str _=>true
 |some (.int q), .int l _=>q==l
 |some .bool, .bool _=>true
 |_,_=>false
def M1 (P:Program) (xs l:List AV):List Field->Option Bool
 |[]=>some true
 |f::w=>match xs[f.offset]?,l[f.offset]? with
  |some a,some b=>bif !(f.name== "_")&&om P f.type a&&om P f.type b&&(kZ P f.type).isSome then
    match xC a b,M1 P xs l w with
    |some r,some q=>some (r&&q)
    |_,_=>none
   else none
  |_,_=>none
def US (P:Program) (op:BinOp) (t:TypeId) (xs q:List AV):Option AV:=
 match P.underlying t with
 |some (.struct l)=>bif !(P.stoodInHeld t)&& !(P.eqGuardType P.depth t) then
   match op,M1 P xs q l.toList with
   | .eql,some b=>some (.bool b)
   | .neq,some b=>some (.bool !b)
   |_,_=>none
  else none
 |_=>none
def bin (P:Program) (op:BinOp) (t:TypeId) (x y:AV):Option AV:=
 match x,y with
 | .agg xs, .agg l=>US P op t xs l
 | .int k a, .int k' b=>match op with
  | .shl| .shr=>Cr op k a b
  |_=>if k=k' then GB op k a b else none
 | .str a, .str b=>WR op a b
 | .bool a, .bool b=>match P.underlying t,op with
  |some .bool, .eql=>some (.bool (a==b))
  |some .bool, .neq=>some (.bool !(a==b))
  |_,_=>none
 |_,_=>none
def un (op:UnOp) (x:AV):Option AV:=
 match op,x with
 | .neg, .int k n=>some (.int k (k.wrap (0-n)))
 | .not, .bool b=>some (.bool !b)
 |_,_=>none
def kM :SV->Option AV
 | .pv v=>some v
 |_=>none
def mG:List SV->Option (List AV)
 |[]=>some []
 | .pv v::l=>(mG l).map (v:: ·)
 |_::_=>none
def xu:List SV->Option (List oF)
 |[]=>some []
 | .pv v::l=>(xu l).map (.v v:: ·)
 | .row id::l=>(xu l).map (.r id:: ·)
 |_::_=>none
def iO (P:Program) (t:TypeId) (l:List AV):Option AV:=
 match Ev P t,kZ P t with
 |some true,some n=>if n<=l.length then some (.agg (l.take n)) else none
 |some false,some _=>l[0]?
 |_,_=>none
def xz (P:Program) (t:TypeId) (f:Nat):Option Field:=
 match P.underlying t with
 |some (.struct l)=>l[f]?
 |_=>none
def yL (place:Nat->Option (Nat×Nat)) (cells:List AV):List (Nat×AV)->Option (List AV)
 |[]=>some cells
 |(i,v)::q=>match place i with
  |none=>none
  |some (l,size)=>if v.cells.length=size/\l+size<=cells.length then yL place (cells.take l++v.cells++cells.drop (l+size)) q else none
def pJ (P:Program) (t:TypeId) (f:Nat):Option (Nat×Nat):=
 match xz P t f with
 |some fd=>(kZ P fd.type).map λn=>(fd.offset,n)
 |none=>none
def partsOf (P:Program) (ty:Nat->TypeId) (q:St):List (Nat×Operand)->Option (List (Nat×AV))
 |[]=>some []
 |(i,x)::l=>match(bI P (ty i) q x).bind kM,partsOf P ty q l with
  |some v,some w=>some ((i,v)::w)
  |_,_=>none
def I3 (P:Program) (t:TypeId) (i:Nat):TypeId:=((xz P t i).map (·.type)).getD 0
def chunks (q:Nat):Nat->List AV->List (List AV)
 |0,_=>[]
 |n+1,l=>l.take q::chunks q n (l.drop q)
def tV (z:List AV):Nat->List AV
 |0=>[]
 |n+1=>z++tV z n
def elems (q:St):SV->Option (Nat×List (List AV))
 | .pv (.dD l xs)=>some (l,xs)
 | .row id=>match q.ob id with
  |some (.row _ l xs)=>some (l,xs)
  |_=>none
 | .sub id s z w=>match q.ob id with
  |some (.row _ l xs)=>bif Nat.beq s l then some (l,(xs.take w).drop z) else none
  |_=>none
 |_=>none
def lenOf (l:St):SV->Option Nat
 | .pv (.dD _ xs)=>some xs.length
 | .row id=>match l.ob id with
  |some (.row _ _ xs)=>some xs.length
  |some (.rn _ _ _ _ _ xs _)=>some xs.length
  |_=>none
 | .aq _ (.bs n)=>some n
 |_=>none
def xD (key:AV):List AV->Option (Option Nat)
 |[]=>some none
 |x::l=>match xC key x with
  |some true=>some (some 0)
  |some false=>(xD key l).map λr=>r.map (· +1)
  |none=>none
def Wg {l:Type} (key:AV) (ks:List AV) (q:List l):Option (Option l):=
 match xD key ks with
 |some (some i)=>(q[i]?).map some
 |some none=>some none
 |none=>none
def Wj {q:Type} (key:AV) (v:q) (l:List AV) (w:List q):Option (List AV×List q):=
 match xD key l with
 |some (some i)=>some (l,w.set i v)
 |some none=>some (l++[key],w++[v])
 |none=>none
def maps (w:St):SV->Option (List AV×List AV)
 | .pv (.mp l q)=>some (l,q)
 | .row id=>match w.ob id with
  |some (.mp _ _ l q)=>some (l,q)
  |_=>none
 |_=>none
def C1 (P:Program) (t:TypeId):Option AV:=
 match P.info? t with
 |some i=>match i.zero with
  |some (.agg l)=>(n9 P (tA P 8 t) l.toList).map .agg
  |some v=>ofConst P t v
  |none=>none
 |none=>none
def found (ok:Bool) (v:AV) (b:Bool):AV:=bif ok then .gU [v, .bool b] else v
def bytesOf:List (List AV)->Option (List UInt8)
 |[]=>some []
 |[.int .u8 n]::l=>(bytesOf l).map (UInt8.ofNat n.toNat:: ·)
 |_=>none
def gX (w:Option SV) (l:Nat) (q:Nat):Option Nat:=
 match w with
 |none=>some l
 |some (.pv (.int _ i))=>if 0<=i/\i<=q then some i.toNat else none
 |some _=>none
def nV (P:Program) (l:St):Option Operand->Option (Option SV)
 |none=>some none
 |some x=>(bI P 0 l x).map some
def adF (l:Bool):AV->AV->Option AV
 | .int k a, .int k' b=>if k=k' then some (.int k (if l then(if b>a then b else a) else(if b<a then b else a))) else none
 | .str a, .str b=>some (.str (bif l then(bif !(Op.bytesLess a b) then a else b) else(bif Op.bytesLess a b||a==b then a else b)))
 |_,_=>none
def mP (P:Program) (z:St) (q:Bool) (w:AV):List Operand->Option AV
 |[]=>some w
 |x::l=>match(bI P 0 z x).bind kM with
  |some v=>match adF q w v with
   |some r=>mP P z q r l
   |none=>none
  |none=>none
def Bb (P:Program) (c:Call) (q:St):Option SV:=
 match c.callee,c.args.toList with
 | .builtin .len,[x]=>match c.argTypes.toList with
  |[t]=>match P.underlying t,bI P t q x with
   |some .string,some (.pv (.str s))=>some (.pv (.int .i64 s.length))
   |some (.slice _),some (.pv .tS)=>some (.pv (.int .i64 0))
   |some (.slice _),some (.sub _ _ z w)=>some (.pv (.int .i64 ((w-z:Nat):Int)))
   |some (.slice _),some v=>(lenOf q v).map λ(n:Nat)=>SV.pv (.int .i64 (n:Int))
   |some (.map _ _),some v=>(maps q v).map λe=> .pv (.int .i64 e.1.length)
   |_,_=>none
  |_=>none
 | .builtin .max,x::l=>match(bI P 0 q x).bind kM with
  |some v=>(mP P q true v l).map .pv
  |none=>none
 | .builtin .min,x::l=>match(bI P 0 q x).bind kM with
  |some v=>(mP P q false v l).map .pv
  |none=>none
 |_,_=>none
def D2 (P:Program) (q:St) (n:Nat) (e:TypeId) (x z:Operand):Option SV:=
 match kZ P e,bI P 0 q x,bI P 0 q z with
 |some s,some (.ptr id l),some (.pv (.int _ i))=>if 0<=i/\i<n/\0<s then some (.ptr id (l+i.toNat *s)) else none
 |some s,some (.rp id B j l),some (.pv (.int _ i))=>if 0<=i/\i<n/\0<s then some (.rp id B j (l+i.toNat *s)) else none
 |some s,some (.cp w),some (.pv (.int _ i))=>if 0<=i/\i<n/\0<s then some (.cp (w.drop (i.toNat *s))) else none
 |_,_,_=>none
def xB (P:Program) (q:St) (t:TypeId) (x B:Operand):Option SV:=
 match isSlice P t,bI P t q x,bI P 0 q B with
 |some (_,s),some (.pv (.dD l xs)),some (.pv (.int _ i))=>if s=l/\0<=i then(xs[i.toNat]?).map .cp else none
 |some (_,s),some (.row id),some (.pv (.int _ i))=>match q.ob id with
  |some (.row _ l xs)=>if s=l/\0<=i/\i.toNat<xs.length then some (.rp id l i.toNat 0) else none
  |some (.rn _ l _ _ _ xs _)=>if s=l/\0<=i/\i.toNat<xs.length then some (.rp id l i.toNat 0) else none
  |_=>none
 |some (_,s),some (.sub id l w z),some (.pv (.int _ i))=>if s=l/\0<=i/\i.toNat<z-w then some (.rp id l (w+i.toNat) 0) else none
 |some (_,s),some (.aq id (.bs n)),some (.pv (.int _ i))=>if s=1/\0<=i/\i.toNat<n then some (.ptr id i.toNat) else none
 |_,_,_=>none
def zZ (P:Program) (z:Option (List AV)) (t:TypeId) (l:Array (Nat×Operand)) (B:St):Option SV:=
 match P.underlying t with
 |some (.struct D)=>match z,partsOf P (I3 P t) B l.toList with
  |some z,some q=>if q.all (λp=>p.2.HY)=true/\D.toList.all (λf=>(kZ P f.type).isSome)=true then(yL (pJ P t) z q).map λw=> .pv (.agg w) else none
  |_,_=>none
 |some (.array _ e)=>match z,partsOf P (λ_=>e) B l.toList,kZ P e with
  |some z,some q,some s=>if q.all (λp=>p.2.HY)=true then(yL (λi=>some (i *s,s)) z q).map λw=> .pv (.agg w) else none
  |_,_,_=>none
 |_=>none
def XA (P:Program) (l:St) (t:TypeId) (x:Operand) (w q:Option Operand) (z:Operand):Option SV:=
 match w,q with
 |none,some q=>match bI P t l x with
  |some (.row id)=>match l.ob id,isSlice P t,bI P 0 l q,bI P 0 l z with
   |some (.row _ B xs),some (_,s),some (.pv (.int _ a)),some (.pv (.int _ b))=>if s=B/\a=(xs.length:Int)/\b=(xs.length:Int) then some (.aq id .full) else none
   |_,_,_,_=>none
  |_=>none
 |_,_=>none
def fB (P:Program) (o:Oper) (q:St):Option SV:=
 match o.op with
 | .move x| .assign x=>bI P o.type q x
 | .pick c a b=>match bI P 0 q c with
  |some (.pv (.bool t))=>bif t then bI P o.type q a else bI P o.type q b
  |_=>none
 | .binOp op t x y _=>match(bI P t q x).bind kM,(bI P t q y).bind kM with
  |some a,some b=>(bin P op t a b).map .pv
  |_,_=>none
 | .unOp op _ x=>match(bI P 0 q x).bind kM with
  |some a=>(un op a).map .pv
  |none=>none
 | .convert src L x=>match P.underlying src,P.underlying L with
  |some (.slice e),some .string=>match P.underlying e,kZ P e,(bI P src q x).bind (elems q) with
   |some (.int .u8),some 1,some (1,xs)=>(bytesOf xs).map λb=> .pv (.str b)
   |_,_,_=>none
  |some _,some (.int k)=>match(bI P 0 q x).bind kM with
   |some (.int _ n)=>some (.pv (.int k (k.wrap n)))
   |_=>none
  |some _,some .string=>match(bI P 0 q x).bind kM with
   |some (.str s)=>some (.pv (.str s))
   |_=>none
  |_,_=>none
 | .call c=>Bb P c q
 | .nilCheck x=>match bI P 0 q x with
  |some (.ptr id w)=>some (.ptr id w)
  |some (.cp B)=>some (.cp B)
  |some (.pv (.ref B))=>some (.pv (.ref B))
  |some (.rp id D i w)=>some (.rp id D i w)
  |_=>none
 | .fieldAddr t x f=>match xz P t f with
  |some fd=>match kZ P fd.type with
   |some 0=>none
   |some _=>match bI P 0 q x with
    |some (.ptr id w)=>some (.ptr id (w+fd.offset))
    |some (.cp B)=>some (.cp (B.drop fd.offset))
    |some (.pv (.ref B))=>some (.cp (B.drop fd.offset))
    |some (.rp id D i w)=>some (.rp id D i (w+fd.offset))
    |_=>none
   |none=>none
  |none=>none
 | .field t x f=>match xz P t f,(bI P 0 q x).bind kM with
  |some fd,some (.agg B)=>(iO P fd.type (B.drop fd.offset)).map .pv
  |_,_=>none
 | .indexAddr t x K=>match P.underlying t with
  |some (.array n e)=>D2 P q n e x K
  |_=>xB P q t x K
 | .index t x K=>match P.underlying t,bI P t q x,bI P 0 q K with
  |some .string,some (.pv (.str s)),some (.pv (.int _ i))=>if 0<=i then(s[i.toNat]?).map λb=> .pv (.int .u8 b.toNat) else none
  |_,_,_=>none
 | .load t x=>match bI P 0 q x with
  |some (.cp B)=>(iO P t B).map .pv
  |some (.pv (.ref B))=>(iO P t B).map .pv
  |some (.rp id D i w)=>match q.ob id with
   |some (.row _ I xs)=>if D=I then(xs[i]?).bind λc=>(iO P t (c.drop w)).map .pv else none
   |some (.rn _ I k _ _ xs _)=>if D=I/\w=k/\i<xs.length/\Ev P t=some false then some (.aq id (.nr i)) else none
   |_=>none
  |some (.ptr id w)=>match q.ob id with
   |some (.box _ cells)=>match Ev P t with
    |some false=>if(kZ P t).isSome then cells[w]? else none
    |some true=>match kZ P t with
     |some n=>if w+n<=cells.length then match mG ((cells.drop w).take n) with
       |some B=>some (.pv (.agg B))
       |none=>(xu ((cells.drop w).take n)).map .ag
      else none
     |none=>none
    |none=>none
   |_=>none
  |_=>none
 | .slice t x G F none=>match P.underlying t,bI P t q x,nV P q G,nV P q F with
  |some .string,some (.pv (.str s)),some G,some F=>match gX F s.length s.length with
   |some h=>(gX G 0 h).map λl=> .pv (.str ((s.take h).drop l))
   |none=>none
  |some (.slice _),some (.pv (.dD D xs)),some G,some F=>match isSlice P t,gX F xs.length xs.length with
   |some (_,s),some h=>if s=D then(gX G 0 h).map λl=> .pv (.dD D ((xs.take h).drop l)) else none
   |_,_=>none
  |some (.slice _),some (.row id),some G,some F=>match isSlice P t,q.ob id with
   |some (_,s),some (.row _ D xs)=>match gX F xs.length xs.length with
    |some h=>if s=D then(gX G 0 h).map λl=> .sub id D l h else none
    |none=>none
   |_,_=>none
  |some (.slice _),some (.sub id D a b),some G,some F=>match isSlice P t,gX F (b-a) (b-a) with
   |some (_,s),some h=>if s=D then(gX G 0 h).map λl=> .sub id D (a+l) (a+h) else none
   |_,_=>none
  |_,_,_,_=>none
 | .slice t x G F (some S)=>XA P q t x G F S
 | .extract x i=>match bI P 0 q x with
  |some (.pv (.gU N))=>(N[i]?).map .pv
  |some (.two v b)=>match i with
   |0=>some v
   |1=>some b
   |_=>none
  |some (.three u v b)=>match i with
   |0=>some u
   |1=>some v
   |2=>some b
   |_=>none
  |_=>none
 | .lookup t x k ok=>match P.underlying t with
  |some (.map O Q)=>match(bI P t q x).bind (maps q),(bI P O q k).bind kM with
   |some (R,N),some key=>bif om P O key then
     match Wg key R N with
     |some (some v)=>some (.pv (found ok v true))
     |some none=>(C1 P Q).map λz=> .pv (found ok z false)
     |none=>none
    else none
   |_,_=>none
  |_=>none
 | .build t H=>zZ P (zeroCells P t) t H q
 |_=>none
def oF.mentions (id:Nat):oF->Bool
 | .p j| .r j=>Nat.beq j id
 | .v _=>false
def SV.mentions (id:Nat):SV->Bool
 | .ptr j _| .row j| .rp j _ _ _| .sub j _ _ _=>Nat.beq j id
 | .cl _ l=>l.any (oF.mentions id)
 | .ag l=>l.any (oF.mentions id)
 | .two v w=>v.mentions id||w.mentions id
 | .three u v w=>u.mentions id||v.mentions id||w.mentions id
 | .aq j _=>Nat.beq j id||Nat.beq (j+40000) id
 |_=>false
def SV.dG (id:Nat) (v:SV):SV:=bif v.mentions id then .any else v
def Ob.dG (id:Nat):Ob->Ob
 | .box t cells=> .box t (cells.map (SV.dG id))
 |o=>o
def St.dG (l:St) (id:Nat):St:=
 {env:=λi=>(l.env i).map (SV.dG id),ob:=put (λi=>(l.ob i).map (Ob.dG id)) id none }
def St.new (l:St) (id:Nat) (o:Ob):St:=
 let s:=l.dG id
 {s with ob:=put s.ob id (some o) }
def SV.dr (id:Nat) (v:AV):SV->SV
 | .row j=>bif Nat.beq j id then .pv v else .row j
 | .ag [.r j]=>bif Nat.beq j id then .pv (.agg [v]) else .ag [.r j]
 |s=>s.dG id
def qD {q:Type}:List (Option q)->Option (List q)
 |[]=>some []
 |some x::l=>(qD l).map (x:: ·)
 |none::_=>none
def wP (k l:Nat):List (List AV)->List (List (List AV))->List (List AV)
 |x::xs,y::q=>x.set k (.dD l y)::wP k l xs q
 |_,_=>[]
def Ob.val:Ob->Option AV
 | .row _ q xs=>some (.dD q xs)
 | .mp _ _ z B=>some (.mp z B)
 | .box _ _=>none
 | .lp _=>none
 | .rn _ q k _ w xs D=>(qD D).map λl=> .dD q (wP k w xs l)
def Ob.dr (id:Nat) (v:AV):Ob->Ob
 | .box t cells=> .box t (cells.map (SV.dr id v))
 |o=>o
def iC (id:Nat):Bool:=Nat.blt id 10000
def St.dr (l:St) (id:Nat):Option St:=
 match iC id,(l.ob id).bind Ob.val with
 |true,some v=>some { env:=λi=>(l.env i).map (SV.dr id v),ob:=put (λi=>(l.ob i).map (Ob.dr id v)) id none }
 |_,_=>none
def SV.qx (id:Nat) (q:List AV):SV->SV
 | .ptr j l=>bif Nat.beq j id then .cp (q.drop l) else .ptr j l
 |s=>s.dG id
def Ob.qx (id:Nat) (l:List AV):Ob->Ob
 | .box t cells=> .box t (cells.map (SV.qx id l))
 |o=>o
def St.qx (l:St) (id:Nat):Option St:=
 match iC id,l.ob id with
 |true,some (.box _ cells)=>match mG cells with
  |some q=>some { env:=λi=>(l.env i).map (SV.qx id q),ob:=put (λi=>(l.ob i).map (Ob.qx id q)) id none }
  |none=>none
 |_,_=>none
def xI (q:St):List Operand->Option St
 |[]=>some q
 | .tmp i::l=>match q.env i with
  |some (.ptr id _)=>(q.qx id).bind λw=>xI w l
  |_=>xI q l
 |_::l=>xI q l
def ku (q:St):List oF->Option (List AV)
 |[]=>some []
 | .v a::l=>(ku q l).map (a:: ·)
 | .r id::l=>match(q.ob id).bind Ob.val,ku q l with
  |some v,some w=>some (v::w)
  |_,_=>none
 | .p _::_=>none
def nT (l:St):SV->Option AV
 | .pv v=>some v
 | .row id=>(l.ob id).bind Ob.val
 | .ag q=>(ku l q).map .agg
 | .aq id (.nr i)=>match l.ob id with
  |some (.rn _ _ _ _ w _ z)=>match z[i]? with
   |some (some B)=>some (.dD w B)
   |_=>none
  |_=>none
 |_=>none
def jN (P:Program) (l:St):List Operand->List TypeId->Option (List AV)
 |[],_=>some []
 |x::xs,q=>match(bI P (q.headD 0) l x).bind (nT l),jN P l xs q.tail with
  |some v,some w=>some (v::w)
  |_,_=>none
def kV (l:St):Operand->Bool
 | .tmp i=>match l.env i with
  |some (.row _)=>true
  |some (.ag _)=>true
  |some (.aq _ _)=>true
  |_=>false
 |_=>false
def zn (l:St):Operand->Bool
 | .tmp i=>match l.env i with
  |some (.ag _)=>true
  |some (.aq _ _)=>true
  |_=>false
 |_=>false
def uw (w:St):List Operand->Option (List AV)
 |[]=>some []
 | .tmp i::l=>match w.env i,uw w l with
  |some (.pv v),some q=>some (v::q)
  |some (.cp z),some q=>some (.ref z::q)
  |_,_=>none
 |_::_=>none
def qL (z:St):List Operand->Option (List oF)
 |[]=>some []
 | .tmp i::l=>match z.env i,qL z l with
  |some (.pv v),some q=>some (.v v::q)
  |some (.cp w),some q=>some (.v (.ref w)::q)
  |some (.ptr id 0),some q=>some (.p id::q)
  |_,_=>none
 |_::_=>none
def kT (P:Program) (t:TypeId) (len:Nat) (l:List (Nat×Operand)) (st:St):Option (TypeId×Nat×List (List AV)):=
 match isSlice P t with
 |some (e,s)=>match zeroCells P e,partsOf P (λ_=>e) st l with
  |some z,some q=>
   if len *s<=16777216/\0<s/\z.length=s/\q.all (λp=>p.2.HY)=true then
    (yL (λi=>some (i *s,s)) (tV z len) q).map λw=>(e,s,chunks s len w)
   else none
  |_,_=>none
 |none=>none
abbrev eE:=Nat->List SV->List (Nat×Ob)->Option (AV×List (Nat×Ob))
def pE (h:Hint) (l:St):Operand->Option Nat
 | .tmp t=>bif h.fq.contains t then
   match l.env t with
   |some (.row id)=>some id
   |_=>none
  else none
 |_=>none
def gC (id:Nat):Bool:=Nat.blt id 10000||(Nat.ble 20000 id&&Nat.blt id 30000)
def SV.ids:SV->List Nat
 | .ptr j _| .row j| .rp j _ _ _| .sub j _ _ _=>[j]
 | .cl _ l=>l.filterMap fun
  | .p j| .r j=>some j
  | .v _=>none
 | .ag l=>l.filterMap fun
  | .p j| .r j=>some j
  | .v _=>none
 | .two v w=>v.ids++w.ids
 | .three u v w=>u.ids++v.ids++w.ids
 | .aq j _=>[j,j+40000]
 |_=>[]
def SV.P8:SV->List Nat
 | .aq j _=>[j]
 |v=>v.ids
def SV.closed (names:List Nat):SV->Bool
 | .ptr j _| .row j| .rp j _ _ _| .sub j _ _ _=>names.contains j
 | .cl _ l=>l.all fun
  | .p j| .r j=>names.contains j
  | .v _=>true
 | .ag l=>l.all fun
  | .p j| .r j=>names.contains j
  | .v _=>true
 | .two v w=>v.closed names&&w.closed names
 | .three u v w=>u.closed names&&v.closed names&&w.closed names
 | .aq _ _=>false
 |_=>true
def Ob.closed (names:List Nat):Ob->Bool
 | .box _ cells=>cells.all (SV.closed names)
 | .row _ _ _=>true
 | .mp _ _ _ _=>true
 | .lp _=>true
 | .rn _ _ _ _ _ _ _=>true
def Fg (st:St):Operand->Bool
 | .tmp t=>match st.env t with
  |some (.ptr _ _)=>true
  |some (.cl _ _)=>true
  |_=>false
 |_=>false
def VJ (l:St):Operand->Bool
 | .tmp t=>match l.env t with
  |some (.cl _ _)=>true
  |_=>false
 |_=>false
def wide (st:St) (c:Call) (f:Operand):Bool:=VJ st f||c.args.toList.any (Fg st)
def isRef (h:Hint):Operand->Bool
 | .tmp t=>h.fq.contains t
 |_=>false
def aaZ (P:Program) (h:Hint) (z:St) (t:TypeId) (x:Operand):Option SV:=
 match bI P t z x with
 |some (.pv v)=>some (.pv v)
 |some (.ptr id q)=>some (.ptr id q)
 |some (.row id)=>bif isRef h x then some (.row id) else none
 |some (.cl f l)=>some (.cl f l)
 |some (.cp w)=>some (.cp w)
 |_=>none
def uv (P:Program) (h:Hint) (l:St):List Operand->List TypeId->Option (List SV)
 |[],_=>some []
 |x::xs,q=>match aaZ P h l (q.headD 0) x,uv P h l xs q.tail with
  |some v,some w=>some (v::w)
  |_,_=>none
def J7:oF->SV
 | .v a=> .pv a
 | .p id=> .ptr id 0
 | .r id=> .row id
def SJ:SV->Option (Nat×List SV×List SV)
 | .pv (.fn g l)=>bif Nat.blt g 1000000 then some (g,[],l.map .pv) else none
 | .cl g l=>bif Nat.blt g 1000000 then some (g,[],l.map J7) else bif Nat.blt g 2000000 then some (g-1000000,l.map J7,[]) else match l with
  |[c]=>some (g,[],[J7 c])
  |_=>none
 |_=>none
def CM (l:St) (id:Nat):List Nat:=
 match l.ob id with
 |some (.box _ cells)=>cells.flatMap SV.ids
 |_=>[]
def gB (q:St):Nat->List Nat->List Nat->List Nat
 |0,_,done=>done
 |_+1,[],done=>done
 |n+1,id::l,done=>bif done.contains id then gB q n l done else gB q n (l++CM q id) (done++[id])
def qy:List SV->List Nat
 |[]=>[]
 | .row id::l=>id::qy l
 |_::l=>qy l
def O7 (l:St) (id:Nat):Bool:=
 match l.ob id with
 |some (.row _ _ _)=>true
 |_=>false
def gZ (q:Bool) (w:St) (l:List Nat) (id:Nat):Bool:=O7 w id&&gC id&& !(l.contains id)&& !q
def iP (q:Nat->Bool):Nat->List Nat->List (Nat×Nat)
 |_,[]=>[]
 |k,id::l=>(id,bif q id then 20000+k else 10000+k)::iP q (k+1) l
def swap:List (Nat×Nat)->List (Nat×Nat)
 |[]=>[]
 |(a,b)::l=>(b,a)::swap l
def iD (m:List (Nat×Nat)) (id:Nat):Nat:=(find m id).getD id
def oF.oI (l:Nat->Nat):oF->oF
 | .p id=> .p (l id)
 | .r id=> .r (l id)
 |c=>c
def SV.oI (q:Nat->Nat):SV->SV
 | .ptr j z=> .ptr (q j) z
 | .row j=> .row (q j)
 | .rp j B i z=> .rp (q j) B i z
 | .sub j B F D=> .sub (q j) B F D
 | .cl f l=> .cl f (l.map (oF.oI q))
 | .ag l=> .ag (l.map (oF.oI q))
 | .two v w=> .two (v.oI q) (w.oI q)
 | .three u v w=> .three (u.oI q) (v.oI q) (w.oI q)
 |s=>s
def Ob.oI (l:Nat->Nat):Ob->Ob
 | .box t cells=> .box t (cells.map (SV.oI l))
 |o=>o
def jO (q:St) (ids:List Nat) (w:Nat->Nat):List (Nat×Nat)->Option (List (Nat×Ob))
 |[]=>some []
 |(id,z)::l=>match q.ob id,jO q ids w l with
  |some o,some B=>bif o.closed ids then some ((z,o.oI w)::B) else none
  |_,_=>none
def mH (names:List Nat) (w:Nat->Nat):List (Nat×Nat)->List (Nat×Ob)->Option (List (Nat×Ob))
 |[],[]=>some []
 |(id,z)::l,(q,o)::B=>bif Nat.beq z q&&o.closed names then(mH names w l B).map λr=>(id,o.oI w)::r else none
 |_,_=>none
def distinct:List Nat->Bool
 |[]=>true
 |x::l=> !(l.contains x)&&distinct l
def fD:List Nat->St->St
 |[],q=>q
 |id::l,q=>fD l (q.dG id)
mutual
def AV.same:AV->AV->Bool
 | .bool a, .bool b=>a==b
 | .int k a, .int k' b=>decide (k=k')&&decide (a=b)
 | .str a, .str b=>decide (a=b)
 | .dD s xs, .dD s' ys=>Nat.beq s s'&&Cp xs ys
 | .agg a, .agg b=>sY a b
 | .fn f a, .fn g b=>Nat.beq f g&&sY a b
 | .gU a, .gU b=>sY a b
 | .ref a, .ref b=>sY a b
 | .mp a b, .mp c d=>sY a c&&sY b d
 | .self a, .self b=>Nat.beq a b
 | .qh, .qh=>true
 | .tS, .tS=>true
 | .hole, .hole=>true
 |_,_=>false
def sY:List AV->List AV->Bool
 |[],[]=>true
 |a::l,b::m=>AV.same a b&&sY l m
 |_,_=>false
def Cp:List (List AV)->List (List AV)->Bool
 |[],[]=>true
 |a::l,b::m=>sY a b&&Cp l m
 |_,_=>false
end
def oF.same:oF->oF->Bool
 | .v a, .v b=>AV.same a b
 | .p a, .p b=>Nat.beq a b
 | .r a, .r b=>Nat.beq a b
 |_,_=>false
def sH:List oF->List oF->Bool
 |[],[]=>true
 |a::l,b::m=>oF.same a b&&sH l m
 |_,_=>false
def Ak.same:Ak->Ak->Bool
 | .full, .full=>true
 | .nr i, .nr j=>Nat.beq i j
 | .bs i, .bs j=>Nat.beq i j
 |_,_=>false
def SV.same:SV->SV->Bool
 | .undef, .undef=>true
 | .any, .any=>true
 | .pv a, .pv b=>AV.same a b
 | .ptr a b, .ptr c d=>Nat.beq a c&&Nat.beq b d
 | .row a, .row b=>Nat.beq a b
 | .rp a b c d, .rp l w c' z=>Nat.beq a l&&Nat.beq b w&&Nat.beq c c'&&Nat.beq d z
 | .sub a b c d, .sub l w c' z=>Nat.beq a l&&Nat.beq b w&&Nat.beq c c'&&Nat.beq d z
 | .cp a, .cp b=>sY a b
 | .cl f a, .cl g b=>Nat.beq f g&&sH a b
 | .two s a, .two t b=>SV.same s t&&SV.same a b
 | .three s a p, .three t b q=>SV.same s t&&SV.same a b&&SV.same p q
 | .ag a, .ag b=>sH a b
 | .aq a q, .aq b r=>Nat.beq a b&&Ak.same q r
 |_,_=>false
def xK:List SV->List SV->Bool
 |[],[]=>true
 |a::l,b::m=>SV.same a b&&xK l m
 |_,_=>false
def sI:List (Option (List (List AV)))->List (Option (List (List AV)))->Bool
 |[],[]=>true
 |some a::l,some b::m=>Cp a b&&sI l m
 |none::l,none::m=>sI l m
 |_,_=>false
def Ob.same:Ob->Ob->Bool
 | .box t a, .box u b=>Nat.beq t u&&xK a b
 | .row e s xs, .row l q H=>Nat.beq e l&&Nat.beq s q&&Cp xs H
 | .mp k e a b, .mp k' l c d=>Nat.beq k k'&&Nat.beq e l&&sY a c&&sY b d
 | .lp a, .lp b=>sY a b
 | .rn e s k w B x y, .rn l q k' z D F G=>Nat.beq e l&&Nat.beq s q&&Nat.beq k k'&&Nat.beq w z&&Nat.beq B D&&Cp x F&&sI y G
 |_,_=>false
def vD:List (Nat×Ob)->List (Nat×Ob)->Bool
 |[],[]=>true
 |(i,a)::l,(j,b)::m=>Nat.beq i j&&Ob.same a b&&vD l m
 |_,_=>false
def uC (P:Program) (h:Hint) (q:St) (c:Call) (f:Operand):Option (Nat×List SV):=
 match(bI P 0 q f).bind SJ,uv P h q c.args.toList c.argTypes.toList with
 |some (g,pre,l),some w=>some (g,pre++(w++l))
 |_,_=>none
def jA (l:St) (args:List SV):List Nat:=gB l 200 (args.flatMap SV.ids) []
def me (ids:List Nat):List (Nat×Nat):=iP (λ_=>false) 0 ids
def s9 (P:Program) (h:Hint) (q:eE) (l:St) (c:Call) (f:Operand):Option AV:=
 match uC P h l c f with
 |some (g,args)=>
  bif distinct (jA l args)&&Nat.blt (jA l args).length 10000&&args.all (SV.closed (jA l args)) then
   match jO l (jA l args) (iD (me (jA l args))) (me (jA l args)) with
   |some cG=>match q g (args.map (SV.oI (iD (me (jA l args))))) cG with
    |some (r,w)=>bif vD w cG&&r.jG then some r else none
    |none=>none
   |none=>none
  else none
 |none=>none
def dW (P:Program) (h:Hint) (cB:eE) (o:Oper) (st:St):Option SV:=
 match o.op with
 | .buildSlice t len q=>bif(o.dst.any h.rows.contains||o.dst.any h.fq.contains) then none else(kT P t len q.toList st).map λx=> .pv (.dD x.2.1 x.2.2)
 | .call c=>match c.callee with
  | .value f=>bif o.dst.any h.owns.contains then none else bif o.dst.any h.stay.contains&&wide st c f then(s9 P h cB st c f).map .pv else
   bif wide st c f||c.args.toList.any (λx=>(pE h st x).isSome) then none else
   match bI P 0 st f,jN P st c.args.toList c.argTypes.toList with
   |some (.pv (.fn g l)),some z=>match cB g ((z++l).map .pv) [] with
    |some (r,[])=>bif(!(c.args.toList.any (kV st))||r.plain)&&r.jG then some (.pv r) else none
    |_=>none
   |_,_=>none
  |_=>Bb P c st
 | .build t q=>bif o.dst.any h.rows.contains then none else zZ P (Oe P h o.dst t) t q st
 | .load _ _=>bif o.dst.any h.take.contains then none else fB P o st
 | .makeFunc (.func g) first l=>bif first.isEmpty then
   bif o.dst.any h.fq.contains then bif Nat.blt g 1000000 then(qL st l.toList).map λw=> .cl g w else none
   else(uw st l.toList).map λz=> .pv (.fn g z)
  else bif l.isEmpty&&o.dst.any h.fq.contains&&Nat.blt g 1000000 then(qL st first.toList).map λw=> .cl (g+1000000) w else none
 | .assign x=>match o.dst,x,fB P o st with
  |some d, .const _,some (.pv (.dD B xs))=>bif h.rows.contains d then none else some (.pv (.dD B xs))
  |some d,_,some (.row id)=>bif h.kW.contains d||h.mvs.contains d then none else some (.row id)
  |_,_,r=>r
 |_=>fB P o st
def ot (l:St):SV->Bool
 | .pv (.agg _)| .pv (.gU _)=>false
 | .pv _=>true
 | .ptr _ _| .rp _ _ _ _| .cp _| .cl _ _=>true
 | .row id=>match l.ob id with
  |some (.row _ _ _)=>true
  |some (.mp _ _ _ _)=>true
  |some (.rn _ _ _ _ _ _ _)=>true
  |_=>false
 |_=>false
def storeAt (P:Program) (t:TypeId) (q:St) (a:SV) (v:SV):Option St:=
 match a with
 | .ptr id l=>match q.ob id,kZ P t with
  |some (.box B cells),some n=>match v with
   | .ag w=>if w.length=n/\l+n<=cells.length then
     some { q with ob:=put q.ob id (some (.box B (cells.take l++w.map J7++cells.drop (l+n)))) } else none
   | .pv (.agg w)=>if w.length=n/\l+n<=cells.length then
     some { q with ob:=put q.ob id (some (.box B (cells.take l++w.map .pv++cells.drop (l+n)))) } else none
   |v=>if n=1/\l<cells.length/\ot q v=true then some { q with ob:=put q.ob id (some (.box B (cells.set l v))) } else none
  |_,_=>none
 | .rp id D i l=>match q.ob id,kZ P t,v with
  |some (.row e z xs),some n, .pv v=>match xs[i]? with
   |some c=>if D=z/\v.cells.length=n/\l+n<=c.length/\v.HY=true then
     some { q with ob:=put q.ob id (some (.row e z (xs.set i (c.take l++v.cells++c.drop (l+n))))) } else none
   |none=>none
  |_,_,_=>none
 |_=>none
def Fl (P:Program) (h:Hint) (l:St):List Operand->List TypeId->Option (List SV×List Nat)
 |[],_=>some ([],[])
 |x::xs,w=>match pE h l x,Fl P h l xs w.tail with
  |some id,some (q,ids)=>some (.row 10000::q,id::ids)
  |none,some (q,ids)=>match(bI P (w.headD 0) l x).bind kM with
   |some v=>some (.pv v::q,ids)
   |none=>none
  |_,none=>none
def qe (P:Program) (h:Hint) (l:eE) (z:St) (c:Call) (f:Operand) (d:Option Nat):Option St:=
 match bI P 0 z f,Fl P h z c.args.toList c.argTypes.toList with
 |some (.pv (.fn g B)),some (H,[id])=>match z.ob id with
  |some (.row e F xs)=>match l g (H++B.map .pv) [(10000, .row e F xs)] with
   |some (r,[(G, .row D q w)])=>bif Nat.beq e D&&Nat.beq F q&&Nat.beq G 10000 then
     match r with
     | .self n=>bif Nat.ble n w.length&&gC id then some ((z.new id (.row D q (w.take n))).set d (.row id)) else none
     |r=>bif r.plain then some (St.set { z with ob:=put z.ob id (some (.row D q w)) } d (.pv r)) else none
    else none
   |_=>none
  |_=>none
 |_,_=>none
def jT (P:Program) (h:Hint) (l:eE) (w:St) (c:Call) (f:Operand) (d:Option Nat):Option St:=
 match(bI P 0 w f).bind SJ,uv P h w c.args.toList c.argTypes.toList with
 |some (g,pre,B),some H=>
  let args:=pre++(H++B)
  let ids:=gB w 200 (args.flatMap SV.ids) [];let F:=gZ (d.any h.stay.contains) w (qy args);let m:=iP F 0 ids;let names:=m.map (·.2);let G:=iD m
  bif distinct ids&&Nat.blt ids.length 10000&&args.all (SV.closed ids) then
   match jO w ids G m with
   |some cG=>match l g (args.map (SV.oI G)) cG with
    |some (r,q)=>match mH names (iD (swap m)) m q with
     |some z=>bif r.jG then
       let D:=fD (ids.filter F) w
       some (St.set { env:=D.env,ob:=λi=>(find z i).orElse λ_=>D.ob i } d (.pv r)) else none
     |none=>none
    |none=>none
   |none=>none
  else none
 |_,_=>none
def zi (P:Program) (t:TypeId):Option (List Value):=
 match P.info? t with
 |some i=>i.zero.map λz=>z.cells.toList
 |none=>none
def nR (P:Program) (w:List Nat) (d:Nat):Nat->List TypeId->List Value->Option (List SV×List (Nat×TypeId×Nat))
 |_,[],[]=>some ([],[])
 |j,t::z,v::B=>match nR P w d (j+1) z B with
  |some (q,l)=>match(bif w.contains j then none else isSlice P t),v with
   |some (e,s), .slice none 0 0=>bif Nat.blt 0 s&&Nat.blt (5000+16 *d+j) 10000 then some (.row (5000+16 *d+j)::q,(5000+16 *d+j,e,s)::l) else none
   |_,v=>(ofConst P t v).map λa=>(.pv a::q,l)
  |none=>none
 |_,_,_=>none
def Km (l:List (Nat×Nat×TypeId×Nat)) (id:Nat) (e:TypeId) (s:Nat):Ob:=
 match find l id with
 |some (k,q,w)=>bif Nat.blt k s then .rn e s k q w [] [] else .row e s []
 |none=> .row e s []
def iB (q:List (Nat×Nat×TypeId×Nat)):List (Nat×TypeId×Nat)->St->St
 |[],w=>w
 |(id,e,s)::l,w=>iB q l (w.new id (Km q id e s))
def D3:Operand->Bool
 | .const (.slice none 0 0)=>true
 |_=>false
def mO (P:Program) (l:List Nat) (d:Nat):Nat->List Operand->List TypeId->List (Nat×TypeId×Nat)
 |_,[],_=>[]
 |j,x::xs,q=>bif D3 x&&l.contains j then match isSlice P (q.headD 0) with
   |some (e,s)=>(5008+16 *d+j,e,s)::mO P l d (j+1) xs q.tail
   |none=>mO P l d (j+1) xs q.tail
  else mO P l d (j+1) xs q.tail
def argG (P:Program) (z:List Nat) (d j:Nat) (B:St) (t:TypeId) (x:Operand):Option SV:=
 bif D3 x&&z.contains j then(isSlice P t).bind λ_=>some (.row (5008+16 *d+j)) else match bI P t B x with
 |some (.pv v)=>some (.pv v)
 |some (.ptr id w)=>some (.ptr id w)
 |some (.row id)=>some (.row id)
 |some (.cl f l)=>some (.cl f l)
 |some (.cp q)=>some (.cp q)
 |some (.ag q)=>some (.ag q)
 |_=>none
def Dh (P:Program) (l:List Nat) (d:Nat) (q:St):Nat->List Operand->List TypeId->Option (List SV)
 |_,[],_=>some []
 |j,x::xs,w=>match argG P l d j q (w.headD 0) x,Dh P l d q (j+1) xs w.tail with
  |some v,some z=>some (v::z)
  |_,_=>none
def wu (q:List Nat):Nat->List SV->List Nat
 |_,[]=>[]
 |j, .row id::l=>bif q.contains j then wu q (j+1) l else id::wu q (j+1) l
 |j,_::l=>wu q (j+1) l
def newNames (d:Nat):Nat->List (Nat×Ob)->List (Nat×Nat)
 |_,[]=>[]
 |k,(q,_)::l=>(5000+16 *d+k,q)::newNames d (k+1) l
def Jk:AV->oF
 | .self n=> .r n
 |a=> .v a
def uy:AV->SV
 | .self n=> .row n
 | .agg l=> .ag (l.map Jk)
 |a=> .pv a
def wk:AV->SV
 | .gU [a,b]=> .two (uy a) (uy b)
 | .gU [a,b,c]=> .three (uy a) (uy b) (uy c)
 |a=>uy a
def Ld (l:Nat->Option Ob):SV->SV
 | .row id=>match l id with
  |some (.box _ _)=> .ptr id 0
  |_=> .row id
 |s=>s
def qu (q:Nat->Nat):Nat->List Nat->List (Nat×Nat)
 |_,[]=>[]
 |k,id::l=>(id,q id+k)::qu q (k+1) l
def stays (l:Nat->Nat) (i:Nat):Bool:=Nat.beq (l i) 10000
def given (l:Nat->Nat) (i:Nat):Bool:=Nat.beq (l i) 9000
def Fq (l:Nat->Bool) (i:Nat):Nat:=bif l i then 20000 else 10000
def VL (l:St) (id:Nat):Bool:=
 match l.ob id with
 |some (.rn _ _ _ _ _ _ _)=>iC id
 |_=>false
def Kt (q:St) (l:Nat->Bool) (i:Nat):Nat:=bif VL q i then 9000 else Fq l i
def ki (z:eE) (F:St) (g:Nat) (args:List SV) (B:Nat->Nat) (d:Option Nat):Option St:=
 let ids:=gB F 200 (args.flatMap SV.ids) [];let m:=qu B 0 ids;let G:=m.filter λp=> !(given B p.1)
 bif distinct ids&&Nat.blt ids.length 10000&&args.all (SV.closed ids)&&(ids.all (λi=> !(given B i))||(Nat.blt ids.length 1000&&ids.all λi=> !(given B i)||iC i)) then
  match jO F ids (iD m) m with
  |some cG=>match z g (args.map (SV.oI (iD m))) cG with
   |some (r,q)=>
    let D:=newNames (d.getD 0) 0 (q.drop G.length);let mm:=G++D
    bif Nat.ble D.length 8&&distinct (mm.map (·.1))&&distinct (mm.map (·.2))&&D.all (λx=>Nat.blt x.1 10000)&&D.all (λx=>Nat.ble 25000 x.2) then
     match mH (mm.map (·.2)) (iD (swap mm)) mm q with
     |some l=>match r with
      | .gU [.gU [.self 0, .qh,x]]=>bif(wk x).closed (mm.map (·.2)) then
        let w:=fD (ids.filter (λi=> !(stays B i))++D.map (·.1)) F
        some (St.set { env:=w.env,ob:=λi=>(find l i).orElse λ_=>w.ob i } d (Ld (find l) ((wk x).oI (iD (swap mm)))))
       else none
      |r=>bif r.jG then
        let w:=fD (ids.filter (λi=> !(stays B i))++D.map (·.1)) F
        some (St.set { env:=w.env,ob:=λi=>(find l i).orElse λ_=>w.ob i } d (.pv r))
       else none
     |none=>none
    else none
   |none=>none
  |none=>none
 else none
def Dk (P:Program) (h:Hint) (q:eE) (D:St) (c:Call) (f:Operand) (d:Nat) (z:List Nat):Option St:=
 let l:=iB h.nest (mO P z d 0 c.args.toList c.argTypes.toList) D;match(bI P 0 l f).bind SJ,Dh P z d l 0 c.args.toList c.argTypes.toList with
 |some (g,pre,w),some B=>bif(mO P z d 0 c.args.toList c.argTypes.toList).all (λx=>Nat.blt x.1 10000) then
   ki q l g (pre++(B++w)) (Kt l (gZ false l (wu z 0 B))) (some d) else none
 |_,_=>none
def xF (h:Hint) (d:Nat):Option (List (Nat×TypeId×Nat)):=match find h.rE d with
 |some _=>some []
 |none=>find h.tS d
def PY (P:Program) (b:Bool) (l:St) (t:TypeId) (x:Operand):Option AV:=bif b&&D3 x then some .tS else(bI P t l x).bind kM
def sA (P:Program) (b:Bool) (l:St):List Operand->List TypeId->Option (List AV)
 |[],_=>some []
 |x::xs,q=>match PY P b l (q.headD 0) x,sA P b l xs q.tail with
  |some v,some w=>some (v::w)
  |_,_=>none
def tC:List AV->List (Nat×TypeId×Nat)->Option (List oF)
 |[],_=>some []
 | .tS::q,x::l=>(tC q l).map (.r x.1:: ·)
 | .tS::_,[]=>none
 |a::q,l=>(tC q l).map (.v a:: ·)
def iA (P:Program) (h:Hint) (q:eE) (w:St) (c:Call) (f:Operand) (d:Option Nat):Option St:=
 match d with
 |some d=>match find h.rE d with
  |some D=>Dk P h q w c f d D.2
  |none=>match bI P 0 w f,sA P (xF h d).isSome w c.args.toList c.argTypes.toList with
  |some (.pv (.fn g z)),some H=>match q g ((H++z).map .pv) [] with
   |some (.gU [.gU [.self e, .dD G xs]],[])=>bif(xF h d).isSome then none else some ((w.new d (.row e G xs)).set (some d) (.row d))
   |some (.agg B,[])=>match xF h d with
    |some []=>some (w.set (some d) (.pv (.agg B)))
    |some l=>match tC B l with
     |some F=>bif l.all (λx=>Nat.blt x.1 10000) then some ((iB h.nest l w).set (some d) (.ag F)) else none
     |none=>none
    |none=>none
   |_=>none
  |_,_=>none
 |none=>none
def aba (l:St) (s:SV):Option oF:=
 bif ot l s then
  match s with
  | .pv a=>some (.v a)
  | .row id=>some (.r id)
  |_=>none
 else none
def xx (q:St):List SV->Option (List oF)
 |[]=>some []
 |s::l=>match aba q s,xx q l with
  |some c,some w=>some (c::w)
  |_,_=>none
def GL (q:St):SV->Option (List SV)
 | .pv (.agg l)=>some (l.map .pv)
 |s=>bif ot q s then some [s] else none
def qG (P:Program) (ty:Nat->TypeId) (q:St):List (Nat×Operand)->Option (List (Nat×List SV))
 |[]=>some []
 |(i,x)::l=>match(bI P (ty i) q x).bind (GL q),qG P ty q l with
  |some v,some w=>some ((i,v)::w)
  |_,_=>none
def HG (place:Nat->Option (Nat×Nat)) (cells:List SV):List (Nat×List SV)->Option (List SV)
 |[]=>some cells
 |(i,v)::q=>match place i with
  |none=>none
  |some (l,size)=>if v.length=size/\l+size<=cells.length then HG place (cells.take l++v++cells.drop (l+size)) q else none
def vI (P:Program) (h:Hint) (w:St) (d:Nat) (t:TypeId) (q:List (Nat×Operand)):Option St:=
 match P.underlying t,(zi P t).bind λG=>nR P ((find h.PD d).getD []) d 0 (tA P 8 t) G with
 |some (.struct D),some (z,l)=>bif D.toList.all (λf=>(kZ P f.type).isSome) then
   match qG P (I3 P t) (iB h.nest l w) q with
   |some F=>match(HG (pJ P t) z F).bind (xx (iB h.nest l w)) with
    |some B=>some ((iB h.nest l w).set (some d) (.ag B))
    |none=>none
   |none=>none
  else none
 |_,_=>none
def Fp (P:Program) (l:St) (t:TypeId) (m:Operand):Option St:=
 match P.underlying t with
 |some (.map _ _)=>match bI P t l m with
  |some (.row id)=>match l.ob id with
   |some (.mp k' q _ _)=>some { l with ob:=put l.ob id (some (.mp k' q [] [])) }
   |_=>none
  |_=>none
 |_=>none
def y6 (P:Program) (l:St):Option Operand->Bool
 |none=>true
 |some x=>match(bI P 0 l x).bind kM with
  |some (.int _ _)=>true
  |_=>false
def V6 (P:Program) (l:St) (q:TypeId) (x:Operand):Option St:=
 match bI P q l x with
 |some (.pv _)=>some l
 |some (.row j)=>l.dr j
 |_=>none
def yS (P:Program) (G:St) (t:TypeId) (m k x:Operand):Option St:=
 match P.underlying t with
 |some (.map B z)=>match V6 P G z x with
  |some l=>match bI P t l m,(bI P B l k).bind kM,(bI P z l x).bind kM with
   |some (.row id),some key,some v=>match l.ob id with
    |some (.mp k' D F H)=>bif om P B key&&v.HY then
      match Wj key v F H with
      |some (q,w)=>some { l with ob:=put l.ob id (some (.mp k' D q w)) }
      |none=>none
     else none
    |_=>none
   |_,_,_=>none
  |none=>none
 |_=>none
def xP (P:Program) (q:St) (t:TypeId) (x:Operand) (d:Nat):Option St:=
 match bI P 0 q x,Ev P t with
 |some (.rp id F i w),some false=>match q.ob id with
  |some (.rn e l k z B xs D)=>match D[i]? with
   |some (some G)=>bif Nat.beq F l&&Nat.beq w k&& !(Nat.beq id d)&&Nat.blt id 10000 then some ((St.new { q with ob:=put q.ob id (some (.rn e l k z B xs (D.set i none))) } d (.row z B G)).set (some d) (.row d)) else none
   |_=>none
  |_=>none
 |_,_=>none
def Ia (P:Program) (q:St) (t:TypeId) (id H i w j:Nat):Option St:=
 match Ev P t,kZ P t,q.ob id,q.ob j with
 |some false,some 1,some (.rn e l k z B xs D),some (.row F G I)=>
  bif Nat.beq H l&&Nat.beq w k&&Nat.blt id 10000&&Nat.blt j 10000&&Nat.beq z F&&Nat.beq B G&&Nat.blt i D.length&& !(Nat.beq id j) then
   some { (q.dG j).dG (id+40000) with ob:=put ((q.dG j).dG (id+40000)).ob id (some (.rn e l k z B xs (D.set i (some I)))) } else none
 |_,_,_,_=>none
def B9 (P:Program) (w:St):Nat->List (Nat×Operand)->Option (List SV)
 |_,[]=>some []
 |i,(j,x)::l=>match bI P 0 w x,B9 P w (i+1) l with
  |some (.ptr id q),some z=>bif Nat.beq i j then some (.ptr id q::z) else none
  |_,_=>none
def Pu (P:Program) (q:St) (d:Nat) (t:TypeId) (len:Nat) (l:List (Nat×Operand)):Option St:=
 match isSlice P t,B9 P q 0 l with
 |some (e,1),some w=>match zeroCells P e with
  |some [_]=>bif Nat.beq w.length len&&Nat.blt 0 len&&Nat.blt len 100 then some ((q.new d (.box e (w.map (SV.dG d)))).set (some d) (.aq d (.bs len))) else none
  |_=>none
 |_,_=>none
def Xm (P:Program) (w:St) (t:TypeId) (id q j z n:Nat):Option St:=
 match w.ob j with
 |some (.row e l xs)=>bif Nat.beq z l&&gC j&& !(Nat.beq id j) then storeAt P t (w.new j (.row e l (xs.take n))) (.ptr id q) (.row j) else none
 |_=>none
def Wi (l:St) (id d:Nat):Option St:=
 match l.ob id with
 |some (.row e q xs)=>bif Nat.beq id d then some (l.set (some d) (.row d)) else bif Nat.blt id 10000 then some (((l.dG id).new d (.row e q xs)).set (some d) (.row d)) else none
 |_=>none
def qF (k:Nat) (c:List AV):Bool:=match c[k]? with
 |some .tS=>true
 |_=>false
def ni (P:Program) (h:Hint) (D:eE) (o:Oper) (q:St):Option St:=
 match o.dst,o.op with
 |some d, .assign (.const (.slice none 0 0))=>match isSlice P o.type with
  |some (e,s)=>if 0<s then some ((q.new d (.row e s [])).set (some d) (.row d)) else none
  |none=>none
 |some d, .assign x=>match bI P o.type q x with
  |some (.row id)=>bif h.mvs.contains d then Wi q id d else match q.dr id with
   |some B=>match bI P o.type B x with
    |some v=>some (B.set (some d) v)
    |none=>none
   |none=>none
  |_=>none
 |some d, .box t x=>match bI P t q x,Ev P t with
  |some (.pv (.agg O)),some true=>some ((q.new d (.box t (O.map .pv))).set (some d) (.ptr d 0))
  |some (.ag O),some true=>bif(SV.ag O).mentions d then none else some ((q.new d (.box t (O.map J7))).set (some d) (.ptr d 0))
  |some v,some false=>if ot q v=true then some ((q.new d (.box t [v.dG d])).set (some d) (.ptr d 0)) else none
  |_,_=>none
 |some d, .alloc t=>bif h.rows.contains d then
   match(zi P t).bind λN=>nR P ((find h.PD d).getD []) d 0 (tA P 8 t) N with
   |some (S,l)=>some (((iB h.nest l q).new d (.box t (S.map (SV.dG d)))).set (some d) (.ptr d 0))
   |none=>none
  else match Oe P h (some d) t with
  |some z=>some ((q.new d (.box t (z.map .pv))).set (some d) (.ptr d 0))
  |none=>none
 |some d, .makeSlice t l c=>match isSlice P t,(bI P 0 q l).bind kM,(bI P 0 q c).bind kM with
  |some (e,s),some (.int _ l),some (.int _ c)=>match zeroCells P e,P.info? e with
   |some z,some i=>if 0<s/\z.length=s/\0<=l/\l<=c/\i.bytes *c.toNat<=281474976710656/\c<=9223372036854775807 then
     some ((q.new d (.row e s (List.replicate l.toNat z))).set (some d) (.row d)) else none
   |_,_=>none
  |_,_,_=>none
 |some d, .buildSlice t len F=>bif h.fq.contains d&& !h.rows.contains d then Pu P q d t len F.toList else match kT P t len F.toList q with
  |some (e,s,xs)=>match find h.nest d with
   |none=>some ((q.new d (.row e s xs)).set (some d) (.row d))
   |some (k,K,s')=>bif Nat.blt k s&&xs.all (qF k) then some ((q.new d (.rn e s k K s' (xs.map λc=>c.set k .hole) (xs.map λ_=>some []))).set (some d) (.row d)) else none
  |none=>none
 |none, .store t a x=>match bI P 0 q a,bI P t q x with
  |some (.rp id w i L),some (.row j)=>Ia P q t id w i L j
  |some (.ptr id L),some (.sub j w 0 n)=>Xm P q t id L j w n
  |some a,some v=>storeAt P t q a v
  |_,_=>none
 |some d, .makeMap t r=>match P.underlying t with
  |some (.map k e)=>bif y6 P q r then
    some ((q.new d (.mp k e [] [])).set (some d) (.row d)) else none
  |_=>none
 |none, .mapUpdate t m k x=>yS P q t m k x
 |none, .insert t m k x=>yS P q t m k x
 |some d, .build t F=>bif h.rows.contains d then vI P h q d t F.toList else none
 |some d, .load t x=>bif h.take.contains d then xP P q t x d else none
 |some d, .makeFunc (.func g) first H=>bif first.isEmpty then
   match xI q H.toList with
   |some B=>(uw B H.toList).map λN=>B.set (some d) (.pv (.fn g N))
   |none=>none
  else none
 |d, .call c=>match c.callee with
  | .builtin .append=>match d,c.args.toList,c.argTypes.toList with
   |some d,[x,y],[t,Q]=>match isSlice P t,bI P t q x,bI P Q q y with
    |some (e,s),some (.row id),some y=>match q.ob id,elems q y,P.info? e with
     |some (.row K w xs),some (G,I),some i=>
      if t=Q/\e=K/\s=w/\w=G/\0<w/\(xs.length+I.length) *i.bytes<=140737488355328/\xs.length+I.length<=4611686018427387904/\i.zero.map (λz=>z.cells.size)=some w/\gC id=true then
       some ((q.new id (.row e w (xs++I))).set (some d) (.row id)) else none
     |some (.rn K w k V s2 xs zs),some (G,I),some i=>
      if t=Q/\e=K/\s=w/\w=G/\0<w/\(xs.length+I.length) *i.bytes<=140737488355328/\xs.length+I.length<=4611686018427387904/\i.zero.map (λz=>z.cells.size)=some w/\gC id=true/\I.all (qF k)=true then
       some ((q.new id (.rn e w k V s2 (xs++I.map λc=>c.set k .hole) (zs++I.map λ_=>some []))).set (some d) (.row id)) else none
     |_,_,_=>none
    |some (e,s),some (.aq id .full),some y=>match q.ob id,elems q y,P.info? e with
     |some (.row K w xs),some (G,I),some i=>
      if t=Q/\e=K/\s=w/\w=G/\0<w/\(xs.length+I.length) *i.bytes<=140737488355328/\xs.length+I.length<=4611686018427387904/\i.zero.map (λz=>z.cells.size)=some w/\gC id=true/\I.isEmpty=false then
       some ((q.new id (.row e w (xs++I))).set (some d) (.row id)) else none
     |_,_,_=>none
    |_,_,_=>none
   |_,_,_=>none
  | .builtin .clear=>match d,c.args.toList,c.argTypes.toList with
   |none,[x],[t]=>match isSlice P t,bI P t q x with
    |some (e,s),some (.sub id w U R)=>match q.ob id,zeroCells P e with
     |some (.row K G xs),some z=>if s=w/\w=G/\z.length=w/\R<=xs.length/\e=K/\0<w then
       some { q with ob:=put q.ob id (some (.row K G (xs.take U++List.replicate (R-U) z++xs.drop R))) } else none
     |_,_=>none
    |none,_=>Fp P q t x
    |_,_=>none
   |_,_,_=>none
  | .value f=>bif d.any h.owns.contains then iA P h D q c f d else bif d.any h.stay.contains&&wide q c f then none else bif wide q c f then jT P h D q c f d else bif c.args.toList.any (λx=>(pE h q x).isSome) then qe P h D q c f d else
   match jH q c.args.toList with
   |some B=>match bI P 0 B f,jN P B c.args.toList c.argTypes.toList with
    |some (.pv (.fn g H)),some N=>match D g ((N++H).map .pv) [] with
     |some (r,[])=>bif c.args.toList.any (kV B)|| !r.jG then none else some (B.set d (.pv r))
     |_=>none
    |_,_=>none
   |none=>none
  |_=>none
 |_,_=>none
where
 jH (q:St) (l:List Operand):Option St:=bif l.any (zn q) then none else ia q l
 ia (q:St):List Operand->Option St
  |[]=>some q
  | .tmp i::l=>match q.env i with
   |some (.row id)=>(q.dr id).bind λB=>ia B l
   |_=>ia q l
  |_::l=>ia q l
def pq:List SV->St->Option St
 |[],q=>some q
 | .row id::l,q=>(q.dr id).bind (pq l)
 |_::l,q=>pq l q
def step0 (P:Program) (h:Hint) (l:eE) (o:Oper) (q:St):Option St:=
 match dW P h l o q with
 |some v=>some (q.set o.dst v)
 |none=>ni P h l o q
def qw (l:St) (t:Nat):Option St:=
 match l.env t with
 |some (.row id)=>l.dr id
 |some (.ag [.r id])=>l.dr id
 |some (.ptr id _)=>match l.ob id with
  |some (.box _ cells)=>pq cells l
  |_=>none
 |_=>some l
def mT:List Nat->St->Option St
 |[],q=>some q
 |t::l,q=>(qw q t).bind (mT l)
def slotsOf (o:Oper):List Nat:=o.op.operands.toList.filterMap fun
 | .tmp t=>some t
 |_=>none
def FE (h:Hint) (o:Oper):List Nat:=bif h.use.isEmpty then[] else(slotsOf o).filter h.use.contains
def step (P:Program) (h:Hint) (l:eE) (o:Oper) (q:St):Option St:=(mT (FE h o) q).bind (step0 P h l o)
def qp (q:Array Oper) (o:Oper) (w:St):Option Bool:=
 match o.guard with
 |none=>some true
 |some (j,l)=>match(q[j]?).bind (·.dst) with
  |some d=>match w.env d with
   |some (.pv (.bool b))=>some (b==l)
   |some .undef=>some false
   |_=>none
  |none=>none
def qS (P:Program) (h:Hint) (q:eE) (w:Array Oper):List Oper->St->Option St
 |[],z=>some z
 |o::l,z=>match qp w o z with
  |some b=>bif b then(step P h q o z).bind (qS P h q w l) else qS P h q w l (z.set o.dst .undef)
  |none=>none
inductive Ex where
 |normal
 |exit (id:Nat)
 |ret
 deriving DecidableEq
def exOf:Nat->Ex
 |0=> .normal
 |_=> .ret
def iter (h:Hint) (key:Nat) (f:St->Option (Ex×St)):Nat->St->Option (Ex×St)
 |0,_=>none
 |n+1,q=>match f (h.canon key q) with
  |some (.normal,l)=>iter h key f n l
  |r=>r
def fu (l:Array Oper) (o:Oper):List Nat:=slotsOf o++match o.guard with
 |some (j,_)=>((l[j]?).bind (·.dst)).toList
 |none=>[]
def abr (o:Oper) (j:Nat):Bool:=o.after.toList.any λe=>Region.binds .any e&&Nat.beq e.on j
def td:Nat->List Oper->Bool
 |_,[]=>true
 |i,o::l=>o.after.toList.all (λe=> !(Region.binds .any e)||Nat.blt e.on i)&&td (i+1) l
def reach (l:Array Oper):Nat->Nat->Nat->Bool
 |0,_,_=>false
 |n+1,i,j=>match l[i]? with
  |some o=>abr o j||o.after.toList.any λe=>Region.binds .any e&&reach l n e.on j
  |none=>false
def Ob.ue:Ob->Ob
 | .row e l xs=> .row e l (xs.map λ_=>[])
 | .rn e l k w q xs _=> .rn e l k w q (xs.map λ_=>[]) []
 |_=> .lp []
structure ga where
 rs:List Nat:=[]
 rl:List Nat:=[]
 kp:Nat->Bool:=λ_=>false
 ws:List Nat:=[]
 ro:List Nat:=[]
 wo:List Nat:=[]
 mv:List Nat:=[]
 men:List Nat:=[]
 all:Bool:=false
 we:Nat->Bool:=λ_=>false
 oe:Nat->Bool:=λ_=>false
def meets (a b:List Nat):Bool:=a.any λx=>b.any (Nat.beq x)
def ga.conflict (a b:ga):Bool:=a.all||b.all||meets a.ws b.rs||meets a.rs b.ws||meets a.ws b.ws||meets a.wo b.ro||meets a.ro b.wo||meets a.wo b.wo||meets a.mv b.men||meets b.mv a.men||b.rs.any a.we||b.ro.any a.oe||b.rl.any (λj=>a.wo.contains j&& !(a.kp j))||a.rl.any (λj=>b.wo.contains j&& !(b.kp j))
def Nx (q:St):List Operand->List Nat
 |[]=>[]
 | .tmp t::l=>(match q.env t with
  |some s=>s.ids
  |none=>[])++Nx q l
 |_::l=>Nx q l
def DA (l:St) (o:Oper):List Nat:=Nx l o.op.operands.toList
def targetId:SV->Option Nat
 | .ptr id _=>some id
 | .rp id _ _ _=>some id
 |_=>none
def yE:List Oper->List Nat
 |[]=>[]
 |o::l=>match o.op,o.dst with
  | .alloc _,some d=>d::yE l
  |_,_=>yE l
def yb (q:Array Oper) (l:List (Nat×ga)) (i:Nat) (f:ga):Bool:=l.all λp=>reach q 12 i p.1|| !(p.2.conflict f)
def TK:Op->Bool
 | .move _| .assign _| .pick _ _ _=>true
 |_=>false
def Lr (P:Program) (h:Hint) (o:Oper) (l:St):List Nat:=
 match o.op with
 | .call c=>match c.callee with
  | .value f=>match uC P h l c f with
   |some (_,args)=>bif o.dst.any h.stay.contains then jA l args else[]
   |none=>[]
  |_=>[]
 |_=>[]
def Ob.mentions (id:Nat):Ob->Bool
 | .box _ cells=>cells.any (SV.mentions id)
 |_=>false
def Ob.ids:Ob->List Nat
 | .box _ cells=>cells.flatMap SV.ids
 |_=>[]
def OM (l:St) (t:Nat):List Nat:=match l.env t with
 |some s=>s.ids
 |none=>[]
def Yn (l:St) (j:Nat):List Nat:=match l.ob j with
 |some o=>o.ids
 |none=>[]
def ga.fill (q l:St) (f:ga):ga:=
 {f with
  men:=f.mv++(f.ro++(f.wo++(f.rs.flatMap (OM q)++(f.ws.flatMap (OM l)++(f.ro.flatMap (Yn q)++f.wo.flatMap (Yn l))))))
  we:=λt=>match q.env t with
   |some v=>f.mv.any λid=>v.mentions id
   |none=>false
  oe:=λj=>match q.ob j with
   |some o=>f.mv.any λid=>o.mentions id
   |none=>false }
def jB:ga:={ all:=true }
def ace:Op->Bool
 | .indexAddr _ _ _=>true
 |_=>false
def wj (P:Program) (h:Hint) (l:Array Oper) (o:Oper) (q:St):ga:=
 {rs:=fu l o,ws:=o.dst.toList,ro:=bif TK o.op||ace o.op then[] else DA q o++Lr P h o q,rl:=bif ace o.op then DA q o else[] }
def tN (l:Array Oper) (o:Oper):ga:={ rs:=fu l o,ws:=o.dst.toList }
def CK (P:Program) (l:Array Oper) (o:Oper) (q:St) (a:Operand):ga:=match(bI P 0 q a).bind targetId with
 |some id=>{ rs:=fu l o,ro:=id::DA q o,wo:=[id] }
 |none=>jB
def OU (P:Program) (l:Array Oper) (o:Oper) (q:St) (c:Call):ga:=match c.args.toList,c.argTypes.toList,o.dst with
 |[x,_],[t,_],some d=>match bI P t q x with
  |some (.row id)=>{ rs:=fu l o,ws:=[d],ro:=id::DA q o,wo:=[id],mv:=[id] }
  |some (.aq id .full)=>{ rs:=fu l o,ws:=[d],ro:=id::DA q o,wo:=[id],mv:=[id] }
  |_=>jB
 |_,_,_=>jB
def SM (P:Program) (l:Array Oper) (o:Oper) (q:St) (x:Operand) (d:Nat):ga:=match bI P 0 q x with
 |some (.rp id _ _ _)=>match q.ob id with
  |some (.rn _ _ _ _ _ _ _)=>{ rs:=fu l o,ws:=[d],ro:=[id],wo:=[id,d],mv:=[d],kp:=λj=>Nat.beq j id&& !(Nat.beq id d) }
  |_=>jB
 |_=>jB
def Fa (P:Program) (l:Array Oper) (o:Oper) (w:St) (t:TypeId) (a x:Operand):ga:=match bI P 0 w a,bI P t w x with
 |some (.rp id _ _ _),some (.row j)=>{ rs:=fu l o,ro:=[id,j],wo:=[id,j,id+40000],mv:=[j,id+40000],kp:=λq=>Nat.beq q id&& !(Nat.beq id j) }
 |some (.ptr _ _),some (.sub _ _ _ _)=>jB
 |_,_=>CK P l o w a
def wh (P:Program) (h:Hint) (q:Array Oper) (o:Oper) (l:St) (c:Call) (f:Operand):ga:=match uC P h l c f with
 |some (_,args)=>{ rs:=fu q o,ws:=o.dst.toList,ro:=jA l args,wo:=jA l args,mv:=(jA l args).filter (gZ false l (qy args)) }
 |none=>jB
def oh (d:Nat):List Nat:=(List.range 8).map λk=>5000+16 *d+k
def E9 (P:Program) (h:Hint) (z:Array Oper) (o:Oper) (q:St) (c:Call) (f:Operand):ga:=match o.dst with
 |some d=>match find h.rE d with
  |some (_,[])=>match(bI P 0 q f).bind SJ,Dh P [] d q 0 c.args.toList c.argTypes.toList with
   |some (_,pre,l),some w=>{ rs:=fu z o,ws:=[d],ro:=jA q (pre++(w++l))++oh d,wo:=jA q (pre++(w++l))++oh d,mv:=(jA q (pre++(w++l))).filter (λi=> !(stays (Kt q (gZ false q (wu [] 0 w))) i))++oh d }
   |_,_=>jB
  |_=>jB
 |none=>jB
def BW (P:Program) (h:Hint) (w:Array Oper) (o:Oper) (z:St) (d:Nat) (t:TypeId) (q:List (Nat×Operand)):ga:=
 match(zi P t).bind λB=>nR P ((find h.PD d).getD []) d 0 (tA P 8 t) B,partsOf P (I3 P t) z q with
 |some (_,l),some _=>{ rs:=fu w o,ws:=[d],ro:=l.map (·.1),wo:=l.map (·.1),mv:=l.map (·.1) }
 |_,_=>jB
def lz (P:Program) (h:Hint) (l:Array Oper) (o:Oper) (w:St):ga:=
 match o.op,o.dst with
 | .store t a x,none=>Fa P l o w t a x
 | .alloc _,some d=>bif h.rows.contains d then jB else { rs:=fu l o,ws:=[d],wo:=[d],mv:=[d] }
 | .buildSlice _ _ _,some d=>bif h.fq.contains d&& !h.rows.contains d then jB else bif h.rows.contains d then { rs:=fu l o,ws:=[d],wo:=[d],mv:=[d] } else jB
 | .build t q,some d=>bif h.rows.contains d then BW P h l o w d t q.toList else jB
 | .makeSlice _ _ _,some d=>{ rs:=fu l o,ws:=[d],wo:=[d],mv:=[d] }
 | .call c,_=>match c.callee with
  | .builtin .append=>OU P l o w c
  | .value f=>bif o.dst.any h.owns.contains&& !(o.dst.any (λd=>(xF h d).isSome)) then { rs:=fu l o,ws:=o.dst.toList,wo:=o.dst.toList,mv:=o.dst.toList }
   else bif !(o.dst.any h.owns.contains)&&(!(o.dst.any h.stay.contains)&&wide w c f) then wh P h l o w c f else bif o.dst.any h.owns.contains then E9 P h l o w c f else jB
  |_=>jB
 | .load _ x,some d=>bif h.take.contains d then SM P l o w x d else jB
 |_,_=>jB
def sB:List Nat->St->St
 |[],q=>q
 |p::l,q=>sB l (q.dG p)
def isF (h:Hint) (l:St) (o:Oper):Bool:=
 match o.op with
 | .buildSlice _ _ _=> !(o.dst.any h.rows.contains||o.dst.any h.fq.contains)
 | .call c=>match c.callee with
  | .builtin .append=>false
  | .builtin .delete=>false
  | .builtin .clear=>false
  | .value f=> !(o.dst.any h.owns.contains)&&((o.dst.any h.stay.contains&&wide l c f)|| !(wide l c f||c.args.toList.any (λx=>(pE h l x).isSome)))
  |_=>true
 | .assign x=>match o.dst,x with
  |some d, .const (.slice none 0 0)=> !(h.rows.contains d)
  |some d,x=>(!(h.kW.contains d)&& !(h.mvs.contains d))|| !(kV l x)
  |none,_=>true
 | .lookup _ _ _ _=>true
 | .makeFunc _ _ _| .move _| .pick _ _ _| .binOp _ _ _ _ _| .unOp _ _ _| .convert _ _ _| .fieldAddr _ _ _| .field _ _ _| .indexAddr _ _ _| .index _ _ _| .slice _ _ _ _ _| .extract _ _| .nilCheck _=>true
 | .build _ _=> !(o.dst.any h.rows.contains)
 | .load _ _=> !(o.dst.any h.take.contains)
 |_=>false
def isW:Op->Bool
 | .buildSlice _ _ _| .build _ _| .load _ _=>true
 |_=>false
def isWc (l:St):Op->Bool
 | .call c=>match c.callee with
  | .value _=> !(c.args.toList.any (kV l))
  |_=>false
 |_=>false
def wK:List SV->List Nat
 |[]=>[]
 | .row id::l=>id::wK l
 |_::l=>wK l
def PO (l:St) (t:Nat):ga:=
 match l.env t with
 |some (.row id)=>{ rs:=[t],ro:=[id],wo:=[id],mv:=[id] }
 |some (.ag [.r id])=>{ rs:=[t],ro:=[id],wo:=[id],mv:=[id] }
 |some (.ptr id _)=>match l.ob id with
  |some (.box _ cells)=>{ rs:=[t],ro:=id::wK cells,wo:=wK cells,mv:=wK cells }
  |_=>jB
 |_=>{ rs:=[t] }
def ga.then (a b:ga):ga:={ rs:=a.rs++b.rs,ws:=b.ws++a.ws,ro:=a.ro++b.ro,wo:=b.wo++a.wo,mv:=a.mv++b.mv,all:=a.all||b.all,rl:=a.rl++b.rl,kp:=λj=>(a.kp j|| !(a.wo.contains j))&&(b.kp j|| !(b.wo.contains j)) }
def Nr (P:Program) (h:Hint) (q:Array Oper) (o:Oper):List Nat->St->ga
 |[],w=>bif isF h w o then(bif isW o.op||isWc w o.op then wj P h q o w else jB) else lz P h q o w
 |t::l,w=>match qw w t with
  |some z=>(PO w t).then (Nr P h q o l z)
  |none=>jB
def uK (P:Program) (h:Hint) (l:Array Oper) (o:Oper) (q:St):ga:=(Nr P h l o (FE h o) q).then { rs:=fu l o }
def jZ (P:Program) (h:Hint) (w:eE) (q:Array Oper):Nat->List Oper->List (Nat×ga)->St->Option St
 |_,[],_,z=>some z
 |i,o::l,B,z=>match qp q o z with
  |none=>none
  |some b=>bif b then
    bif isF h z o&&(FE h o).isEmpty then
     match dW P h w o z with
     |some v=>bif yb q B i ((wj P h q o z).fill z (z.set o.dst v)) then jZ P h w q (i+1) l ((i,(wj P h q o z).fill z (z.set o.dst v))::B) (z.set o.dst v) else none
     |none=>none
    else match step P h w o z with
     |some D=>bif yb q B i ((uK P h q o z).fill z D) then jZ P h w q (i+1) l ((i,(uK P h q o z).fill z D)::B) D else none
     |none=>none
   else bif yb q B i ((tN q o).fill z (z.set o.dst .undef)) then jZ P h w q (i+1) l ((i,(tN q o).fill z (z.set o.dst .undef))::B) (z.set o.dst .undef) else none
def St.PU (l:St) (id:Nat):Option St:=
 match l.ob id with
 |some (.box _ _)=>l.qx id
 |none=>some l
 |_=>l.dr id
def Cc:List Nat->St->Option St
 |[],q=>some q
 |id::l,q=>(q.PU id).bind (Cc l)
def Hint.ad2 (h:Hint) (id:Nat) (q:St):Option St:=
 match find h.mU id with
 |some l=>Cc l q
 |none=>some q
def exec (P:Program) (h:Hint) (l:eE) (n:Nat):Code->St->Option (Ex×St)
 | .skip,q=>some (.normal,q)
 | .label _,q=>some (.normal,q)
 | .region id w B,q=>(h.ad2 id q).bind λq=>
  bif B then
   bif td 0 w.toList then(jZ P h l w 0 w.toList [] (sB (yE w.toList) q)).map λs=>(.normal,s) else none
  else(qS P h l w w.toList q).map λs=>(.normal,s)
 | .seq a b,q=>match find h.blk (fk a) with
  |some x=>bif x.1 q then some (exOf (x.2 q).1,(x.2 q).2) else none
  |none=>match exec P h l n a q with
   |some (.normal,z)=>exec P h l n b z
   |r=>r
 | .cond c a b,q=>match bI P 0 q c with
  |some (.pv (.bool t))=>bif t then exec P h l n a q else exec P h l n b q
  |_=>none
 | .block id c,q=>match exec P h l n c q with
  |some (.exit j,z)=>bif Nat.beq j id then some (.normal,z) else some (.exit j,z)
  |r=>r
 | .loop c,q=>iter h (fk c) (exec P h l n c) n q
 | .exit id,q=>some (.exit id,q)
 | .ret,q=>some (.ret,q)
 | .scope c,q=>exec P h l n c q
 |_,_=>none
def zW:Nat->List SV->List (Nat×SV)
 |_,[]=>[]
 |i,v::l=>(i,v)::zW (i+1) l
def St.PV (q:St) (id:Nat):Option St:=
 match q.ob id with
 |some (.box _ cells)=>(pq cells q).bind λl=>l.qx id
 |_=>none
def PW (q:St) (t:Nat):Option (St×AV):=
 match q.env t with
 |some (.pv v)=>some (q,v)
 |some (.ptr id 0)=>match q.PV id with
  |some l=>match l.env t with
   |some (.cp w)=>some (l, .ref w)
   |_=>none
  |none=>none
 |some (.row id)=>match q.dr id with
  |some l=>match l.env t with
   |some (.pv v)=>some (l,v)
   |_=>none
  |none=>none
 |_=>none
def tI (P:Program):List ResultVar->St->Option (St×List AV)
 |[],z=>some (z,[])
 | .tmp t::l,z=>match PW z t with
  |some (w,v)=>match tI P l w with
   |some (q,B)=>some (q,v::B)
   |none=>none
  |none=>none
 | .cell D t::l,z=>match fB P ⟨none, .load t (.tmp D),t, "", #[],none⟩ z with
  |some (.pv v)=>match tI P l z with
   |some (q,B)=>some (q,v::B)
   |none=>none
  |some (.row id)=>match z.dr id with
   |some w=>match fB P ⟨none, .load t (.tmp D),t, "", #[],none⟩ w with
    |some (.pv v)=>match tI P l w with
     |some (q,B)=>some (q,v::B)
     |none=>none
    |_=>none
   |none=>none
  |_=>none
def result:List AV->AV
 |[v]=>v
 |vs=> .gU vs
def qd (names:List Nat) (q:St):List Nat->Option (List (Nat×Ob))
 |[]=>some []
 |id::l=>match q.ob id,qd names q l with
  |some o,some w=>bif o.closed names then some ((id,o)::w) else none
  |_,_=>none
def qM (N:Nat):Code->Bool
 | .region _ l _=>l.toList.all λo=>match o.dst with
  |some d=>Nat.blt d N
  |none=>true
 | .seq a b=>qM N a&&qM N b
 | .cond _ a b=>qM N a&&qM N b
 | .block _ c=>qM N c
 | .loop c=>qM N c
 | .scope c=>qM N c
 |_=>true
def Vt (fn:Func):Bool:=Nat.ble fn.ntmps 10000&& !(fn.name== "runtime.NumGoroutine")&&match fn.body with
 |some c=>qM fn.ntmps c
 |none=>true
def Ec (P:Program):Bool:=P.follows .mixedOrders&&P.funcs.toList.all Vt&&Nat.ble P.funcs.size 1000000
def Qf (fn:Func) (names:List Nat) (l:St):Option Nat:=
 match fn.results.toList,names with
 |[.tmp t],[10000]=>match l.env t,l.ob 10000 with
  |some (.row 10000),some (.row _ _ xs)=>some xs.length
  |some (.sub 10000 _ 0 n),some (.row _ _ _)=>some n
  |_,_=>none
 |_,_=>none
def Wx (fn:Func) (l:St):Option AV:=
 match fn.results.toList with
 |[.tmp t]=>match l.env t with
  |some (.row id)=>match iC id,l.ob id with
   |true,some (.row e q xs)=>some (.gU [.gU [.self e, .dD q xs]])
   |_,_=>none
  |_=>none
 |_=>none
def vz:Nat->List Nat->List (Nat×Nat)
 |_,[]=>[]
 |k,id::l=>(id,25000+k)::vz (k+1) l
def Xi:oF->AV
 | .v a=>a
 | .r n=> .self n
 | .p n=> .self n
def abb:oF->Bool
 | .v (.self _)=>false
 |_=>true
def ug:SV->Option AV
 | .row n=>some (.self n)
 | .ptr n 0=>some (.self n)
 | .ag l=>bif l.all abb then some (.agg (l.map Xi)) else none
 | .pv v=>bif v.scalar then some v else none
 |_=>none
def WW:SV->Option AV
 | .two v w=>match ug v,ug w with
  |some a,some b=>some (.gU [a,b])
  |_,_=>none
 | .three u v w=>match ug u,ug v,ug w with
  |some a,some b,some c=>some (.gU [a,b,c])
  |_,_,_=>none
 |v=>ug v
def Lp (P:Program) (l:St):ResultVar->Option SV
 | .tmp t=>l.env t
 | .cell q t=>fB P ⟨none, .load t (.tmp q),t, "", #[],none⟩ l
def WH (P:Program) (l:St):List ResultVar->Option SV
 |[r]=>Lp P l r
 |[r,q]=>match Lp P l r,Lp P l q with
  |some v,some w=>some (.two v w)
  |_,_=>none
 |[r,q,p]=>match Lp P l r,Lp P l q,Lp P l p with
  |some u,some v,some w=>some (.three u v w)
  |_,_,_=>none
 |_=>none
def OV (P:Program) (fn:Func) (names:List Nat) (q:St):Option (AV×List (Nat×Ob)):=
 match WH P q fn.results.toList with
  |some w=>
   let ids:=(gB q 200 (w.ids++names.flatMap (CM q)) []).filter iC;let nn:=vz 0 ids
   bif distinct ids&&names.all (λn=>Nat.blt n 25000)&&w.closed (names++ids) then
    match WW (w.oI (iD nn)),jO q (names++ids) (iD nn) (names.map (λn=>(n,n))++nn) with
    |some x,some l=>some (.gU [.gU [.self 0, .qh,x]],l)
    |_,_=>none
   else none
  |none=>none
def abw (P:Program) (own:Bool) (fn:Func) (names:List Nat) (e:Ex) (q:St):Option (AV×List (Nat×Ob)):=
 match e with
 | .exit _=>none
 |_=>bif own then
   match Wx fn q,qd names q names with
   |some r,some l=>some (r,l)
   |_,_=>OV P fn names q
  else match Qf fn names q with
  |some n=>match qd names q names with
   |some l=>some (.self n,l)
   |none=>none
  |none=>match tI P fn.results.toList q with
   |some (w,z)=>match qd names w names with
    |some l=>some (result z,l)
    |none=>none
   |none=>none
def giv (i:Nat):Bool:=Nat.ble 9000 i&&iC i
def abv (P:Program) (own:Bool) (fn:Func) (cG:List (Nat×Ob)) (e:Ex) (l:St):Option (AV×List (Nat×Ob)):=abw P own fn ((cG.map (·.1)).filter λi=> !(iC i)) e l
def qA (P:Program) (H:Nat->Hint) (gM:eE):Nat->eE
 |0=>λ_ _ _=>none
 |n+1=>λf args cG=>match gM f args cG with
  |some r=>some r
  |none=>match P.funcs[f]? with
   |some fn=>match fn.body with
    |some c=>
     bif Nat.ble args.length fn.ntmps&&(cG.map (·.1)).all (λi=> !(iC i)||giv i) then
      match exec P (H f) (qA P H gM n) n c { env:=find (zW 0 args),ob:=find cG } with
      |some (e,l)=>abv P (H f).own fn cG e l
      |none=>none
     else none
    |none=>none
   |none=>none
