/- AN ABSTRACT MACHINE over the model's code. -/
import Derived.Calls
import Derived.CallsIn
import Derived.OrdersIn
import Derived.LoopNIn
import Derived.TacticsIn
import Derived.RangeFuncIn
import Derived.Orders
import Derived.LoopN
import Derived.Scope
import Derived.Below
import Derived.Laws.OwnMore
import Derived.Maps.AppendAt
import Derived.Laws.BytesString
set_option linter.all false
def af {p:Prop} (h:p:=by omega):p:=h
def ah {p:Prop} (h:p:=by simp):p:=h
def aD {p:Prop} (h:p:=by simp;omega):p:=h
abbrev dL:=@Option.bind_eq_some_iff
abbrev fQ:=@if_true
abbrev aM:=@Option.some.injEq
abbrev aJ:=@congrArg
abbrev dM:=@List.cons.injEq
abbrev fD:=@and_true
abbrev eC:=@Array.getElem?_eq_some_iff
abbrev uE:=@List.mem_of_mem_drop
abbrev uF:=@List.mem_of_mem_take
abbrev bu:=@List.mem_append
abbrev j8:=@Nat.add_mul
abbrev aT:=@Nat.le_refl
abbrev cV:=@Nat.zero_le
abbrev bI:=@Go.run_underlying
abbrev fU:=@Go.Sem.run_bind
abbrev gM:=@Go.Result.andThen_ok
abbrev fF:=@List.length_take
abbrev zh:=@Go.run_loadCells_list
abbrev bY:=@Option.map_eq_some_iff
abbrev j9:=@Option.isSome_iff_exists
abbrev au:=@if_pos
abbrev Fh:=@List.drop_length_add_append
abbrev kX:=@List.eq_nil_of_length_eq_zero
abbrev aH:=@List.mem_of_getElem?
abbrev qu:=@List.getElem?_take
abbrev fB:=@List.foldl_cons
abbrev aR:=@List.map_cons
abbrev kY:=@Nat.add_assoc
abbrev bD:=@List.getElem?_eq_some_iff
abbrev vn:=@List.getElem?_drop
abbrev jx:=@Nat.mul_le_mul_right
abbrev aK:=@List.getElem?_eq_getElem
abbrev gv:=@Nat.zero_add
abbrev zi:=@Go.Value.pointer.injEq
abbrev zj:=@Go.Addr.mk.injEq
abbrev Fi:=@List.drop_take
abbrev aq:=@if_neg
abbrev aF:=@List.mem_cons
abbrev bg:=@List.length_cons
abbrev eO:=@List.append_assoc
abbrev e7:=@List.cons_append
abbrev dw:=@List.nil_append
abbrev qv:=@Nat.add_zero
abbrev zk:=@Array.length_toList
abbrev Px:=@Array.toList_zipIdx
abbrev gO:=@List.all_cons
abbrev aI:=@Bool.and_eq_true
abbrev zl:=@List.mapM_cons
abbrev eS:=@List.map_map
abbrev kg:=@Function.comp_def
abbrev cv:=@List.all_eq_true
abbrev Fj:=@List.getElem?_toArray
abbrev zm:=@Option.map_none
abbrev ai:=@cond_true
abbrev dz:=@Nat.le_trans
abbrev zn:=@Nat.le_succ
abbrev bz:=@Prod.mk.injEq
abbrev gw:=@Nat.eq_of_beq_eq_true
abbrev fV:=@Nat.beq_refl
abbrev qw:=@List.any_cons
abbrev mE:=@Bool.or_eq_false_iff
abbrev vo:=@Array.getElem?_setIfInBounds_ne
abbrev iw:=@List.mem_iff_getElem
abbrev Fk:=@List.getElem?_eq_none_iff
abbrev vp:=@Array.getElem?_eq_getElem
abbrev eM:=@Nat.lt_of_lt_of_le
abbrev fW:=@List.getElem?_append_right
abbrev vq:=@List.replicate_succ
abbrev sN:=@Nat.succ_mul
abbrev sO:=@Nat.add_comm
abbrev ki:=@List.ext_getElem?
abbrev sP:=@Nat.mod_eq_of_lt
abbrev gx:=@List.take_of_length_le
abbrev zo:=@Nat.zero_mul
abbrev dA:=@List.getElem?_append_left
abbrev iX:=@Go.RowKit.Below.refl
abbrev sQ:=@Go.heap_alloc_new
abbrev Fl:=@Nat.mul_le_mul_left
abbrev aC:=@List.mem_map
abbrev dB:=@List.getElem?_map
abbrev vr:=@Go.run_storeCells_at
abbrev kZ:=@Go.Sem.run_pure
abbrev dQ:=@List.map_nil
abbrev vt:=@Go.setRow_other
abbrev zq:=@Go.setRow_heap
abbrev zu:=@Nat.min_eq_left
abbrev cR:=@List.length_append
abbrev qx:=@not_true_eq_false
abbrev ez:=@if_false
abbrev aU:=@List.length_map
abbrev Fo:=@List.set_eq_take_append_cons_drop
abbrev fo:=@Bool.or_eq_true
abbrev cN:=@Ne.symm
abbrev mF:=@List.size_toArray
abbrev lg:=@List.getElem?_set_self
abbrev bJ:=@List.map_append
abbrev gV:=@List.nodup_append
abbrev iy:=@Bool.not_eq_true'
abbrev cC:=@Nat.blt_eq
abbrev qy:=@List.getElem?_set
abbrev gz:=@List.getElem?_set_ne
abbrev mM:=@List.mem_or_eq_of_mem_set
abbrev CG:=@List.set_append_left
abbrev mN:=@List.set_append_right
abbrev jg:=@Nat.lt_of_le_of_lt
abbrev az:=@cond_false
abbrev qJ:=@List.any_eq_false
abbrev fm:=@List.mem_filterMap
abbrev CH:=@List.filterMap_cons
abbrev bW:=@List.mem_singleton
abbrev fH:=@Option.bind_some
abbrev oz:=@Go.callsIn_wide
abbrev di:=@Nat.le_of_ble_eq_true
abbrev fu:=@List.nodup_cons
abbrev er:=@List.mem_cons_of_mem
abbrev jS:=@not_or
abbrev cG:=@List.mem_filter
abbrev cU:=@Bool.false_eq_true
abbrev mO:=@false_imp_iff
abbrev ga:=@beq_iff_eq
abbrev gR:=@List.map_congr_left
abbrev jT:=@List.map_id
abbrev qK:=@Bool.and_self
abbrev cQ:=@Option.map_some
abbrev gA:=@Bool.not_true
abbrev qL:=@Option.getD_some
abbrev xy:=@List.filter_eq_nil_iff
abbrev xz:=@Bool.and_eq_true_iff
abbrev c9:=@Option.some.inj
abbrev oA:=@Nat.add_sub_cancel
abbrev ji:=@Array.toList_append
abbrev bM:=@decide_eq_false_iff_not
abbrev dU:=@List.mem_append_left
abbrev eN:=@List.not_mem_nil
abbrev eV:=@or_false
abbrev qM:=@Bool.false_and
abbrev qN:=@List.filter_congr
abbrev xA:=@Option.any_some
abbrev iJ:=@Bool.false_or
abbrev xB:=@Bool.or_false
abbrev tK:=@List.isEmpty_iff
abbrev eH:=@List.mem_range
abbrev CI:=@Array.all_eq_true'
abbrev dm:=@Classical.byContradiction
abbrev dr:=@List.pairwise_cons
abbrev CJ:=@List.append_of_mem
abbrev oB:=@List.pairwise_append
abbrev tL:=@Go.wpIn_wide
abbrev kT:=@Go.wpIn_mono
abbrev tM:=@Array.getElem?_append_left
abbrev jU:=@dif_pos
abbrev qO:=@Nat.le_max_left
abbrev qP:=@Nat.le_max_right
abbrev qQ:=@List.mem_cons_self
abbrev mP:=@List.any_eq_true
abbrev ig:=@Nat.ble_eq_true_of_le
abbrev gd:=@Bool.true_and
abbrev gB:=@true_and
abbrev aX:=@List.getD_eq_getElem?_getD
abbrev eL:=@Int.eq_ofNat_of_zero_le
abbrev jV:=@decide_eq_true_eq
abbrev CK:=@UInt8.lt_iff_toNat_lt
abbrev xC:=@List.length_drop
abbrev ek:=@List.length_nil
abbrev qR:=@List.drop_drop
abbrev aP:=@Int.toNat_natCast
abbrev tN:=@List.findIdx?_cons
abbrev tO:=@decide_false
abbrev xD:=@List.findIdx?_eq_some_iff_getElem
abbrev jj:=@List.map_set
abbrev oC:=@List.ext_getElem
abbrev kU:=@List.map_drop
abbrev oD:=@List.map_replicate
abbrev jk:=@Bool.eq_iff_iff
abbrev xE:=@Go.mapM_some_length
abbrev eW:=@List.append_nil
abbrev tP:=@List.idxOf_cons
abbrev iK:=@beq_eq_false_iff_ne
abbrev jW:=@bne_iff_ne
abbrev CL:=@List.filter_eq_self
abbrev fI:=@List.filter_cons
abbrev mQ:=@List.prefix_refl
abbrev xF:=@List.IsPrefix.trans
abbrev xG:=@List.prefix_append
abbrev jX:=@List.length_singleton
abbrev gT:=@List.pairwise_map
abbrev fA:=@List.getElem?_eq_none
abbrev qS:=@List.getElem?_cons_succ
abbrev xH:=@List.length_pos_of_mem
abbrev oE:=@List.getElem?_range
abbrev xI:=@Int.natCast_nonneg
abbrev gC:=@List.mem_iff_getElem?
abbrev oF:=@List.mem_of_find?_eq_some
abbrev oG:=@List.find?_some
abbrev tQ:=@List.find?_eq_none
abbrev xJ:=@List.length_filterMap_le
abbrev tR:=@Nat.lt_irrefl
abbrev mR:=@Nat.sub_self
abbrev jY:=@List.length_replicate
abbrev iL:=@Nat.testBit_and
abbrev qT:=@Nat.eq_of_testBit_eq
abbrev CM:=@List.findIdx?_eq_none_iff
abbrev bq:=@List.getElem_mem
abbrev qU:=@List.getElem_inj
abbrev iN:=@List.range_succ
abbrev oH:=@List.getElem_map
abbrev CN:=@List.getElem_range
abbrev tS:=@List.range'_succ
abbrev xK:=@List.range_eq_range'
abbrev mS:=@List.drop_eq_nil_of_le
abbrev kV:=@List.drop_eq_getElem_cons
abbrev jZ:=@Nat.and_le_left
abbrev xL:=@Nat.testBit_lt_two_pow
abbrev xM:=@Nat.pow_le_pow_right
abbrev mU:=@decide_eq_decide
abbrev iO:=@List.mem_map_of_mem
abbrev jl:=@List.take_append_drop
abbrev mV:=@Bool.not_false
abbrev tT:=@Nat.sub_zero
abbrev CO:=@List.filter_filter
abbrev cg:=@List.take_add_one
abbrev fJ:=@List.take_length
abbrev tU:=@decide_true
abbrev tV:=@List.mem_take_iff_getElem
abbrev xN:=@Bool.true_eq_false
abbrev xO:=@Bool.not_eq_false
abbrev xP:=@List.take_append_of_le_length
abbrev CP:=@List.getElem?_cons_zero
abbrev kW:=@List.length_filter_le
abbrev jm:=@List.getElem?_replicate
abbrev CQ:=@Int.fdiv_eq_ediv_of_nonneg
abbrev bF:=@decide_eq_true_iff
abbrev CR:=@List.filter_append
abbrev mW:=@List.pairwise_iff_getElem
abbrev xQ:=@List.perm_middle
abbrev oI:=@List.length_eq_zero_iff
abbrev CS:=@List.pairwise_lt_range
abbrev xR:=@List.filter_sublist
abbrev xS:=@Nat.testBit_two_pow_mul_add
abbrev xT:=@Nat.pow_succ
abbrev CT:=@BitVec.ofInt_natCast
abbrev tW:=@BitVec.toNat_ofNat
abbrev qV:=@List.find?_cons
abbrev oJ:=@List.flatMap_cons
abbrev tX:=@List.drop_zero
abbrev CU:=@Option.isSome_some
abbrev xU:=@List.length_range
abbrev fK:=@List.length_set
abbrev xV:=@Int.lt_trichotomy
abbrev fL:=@List.mem_append_right
abbrev qW:=@List.idxOf_append
abbrev qX:=@List.set_cons_zero
abbrev tY:=@List.drop_append_of_le_length
abbrev CV:=@List.replicate_zero
abbrev mX:=@List.replicate_succ'
abbrev tZ:=@Nat.mul_le_mul
abbrev CW:=@List.pairwise_singleton
abbrev CX:=@List.getElem?_zipWith
abbrev qY:=@List.sum_cons
abbrev xW:=@bne_eq_false_iff_eq
abbrev ua:=@decide_eq_false
abbrev jo:=@Int.le_refl
abbrev CY:=@Nat.add_sub_cancel_left
abbrev CZ:=@List.contains_iff_mem
abbrev gD:=@of_decide_eq_true
abbrev xX:=@Array.getElem?_modify
abbrev xY:=@Nat.mul_one
abbrev xZ:=@of_decide_eq_false
abbrev qZ:=@List.flatten_cons
abbrev oK:=@List.getElem!_eq_getElem?_getD
abbrev C0:=@List.getElem!_toArray
abbrev x4:=@Go.Oper.semAt_some
abbrev uc:=@Go.callsIn_of_wp
abbrev oL:=@Array.replicate_succ
abbrev oM:=@Array.replicate_zero
abbrev oN:=@List.push_toArray
abbrev oO:=@List.append_toArray
abbrev jq:=@Go.RowKit.Below.heap_alloc
abbrev ud:=@Array.getElem?_setIfInBounds
abbrev oP:=@Go.wp_seq
abbrev x5:=@Go.wp_region_list
abbrev j0:=@Go.wpList_plain
abbrev ue:=@Go.wpList_nil
abbrev uf:=@Array.mem_of_getElem?
abbrev ug:=@Array.mem_def
open BitVec (ofInt)
namespace Go.AM
inductive AV where
 |bool (b:Bool)
 |int (k:IntKind) (n:Int)
 |str (s:List UInt8)
 |dH (sz:Nat) (xs:List (List AV))
 |agg (cs:List AV)
 |fn (f:Nat) (caps:List AV)
 |lQ (vs:List AV)
 |ref (cs:List AV)
 |mp (ks vs:List AV)
 |self (n:Nat)
 |DF
 |qk
 |hole
 deriving Inhabited
inductive pV where
 |v (a:AV)
 |p (id:Nat)
 |r (id:Nat)
 deriving Inhabited
inductive Ak where
 |full
 |nr (i:Nat)
 deriving Inhabited
inductive SV where
 |undef
 |any
 |pv (v:AV)
 |ptr (id off:Nat)
 |row (id:Nat)
 |rp (id sz i off:Nat)
 |sub (id sz lo hi:Nat)
 |cp (cs:List AV)
 |cl (f:Nat) (caps:List pV)
 |two (v:SV) (b:Bool)
 |ag (cs:List pV)
 |at (id:Nat) (q:Ak)
 deriving Inhabited
inductive Ob where
 |box (t:TypeId) (cells:List SV)
 |row (e:TypeId) (sz:Nat) (xs:List (List AV))
 |mp (k e:TypeId) (ks vs:List AV)
 |mr (k e:TypeId) (sz:Nat) (ks:List AV) (vs:List (Option (List (List AV))))
 |it (s:List UInt8) (pos:Nat)
  |lp (xs:List AV)
  |rn (e:TypeId) (sz k:Nat) (e':TypeId) (sz':Nat) (xs:List (List AV)) (ys:List (Option (List (List AV))))
 deriving Inhabited
structure St where
 env:Nat->Option SV
 ob:Nat->Option Ob
def AV.cells:AV->List AV
 | .agg l=>l
 |v=>[v]
def AV.FQ:AV->Bool
 | .lQ _=>false
 |_=>true
def AV.aat:AV->Bool
 | .lQ _=>true
 |_=>false
def AV.kC:AV->Bool
 | .self _=>false
 | .lQ l=>bif Nat.beq l.length 1 then !(l.any AV.aat) else true
 |_=>true
def AV.scalar:AV->Bool
 | .bool _| .int _ _| .str _=>true
 |_=>false
def AV.plain:AV->Bool
 | .lQ l=>l.all AV.scalar
 |v=>v.scalar
def find {q:Type}:List (Nat×q)->Nat->Option q
 |[],_=>none
 |(j,v)::l,i=>cond (Nat.beq j i) (some v) (find l i)
def put {l:Type} (m:Nat->Option l) (d:Nat) (v:Option l):Nat->Option l:=λi=>cond (Nat.beq d i) v (m i)
def St.set (l:St) (d:Option Nat) (v:SV):St:=
 match d with
 |some d=>{ l with env:=put l.env d (some v) }
 |none=>l
structure Hint where
 loops:List (Nat×List Nat×List Nat):=[]
 rows:List Nat:=[]
 mq:List Nat:=[]
 jP:List Nat:=[]
 nT:List (Nat×List Nat):=[]
 stay:List Nat:=[]
 keep:List Nat:=[]
 blk:List (Nat×(St->Bool)×(St->Nat×St)):=[]
 use:List Nat:=[]
 owns:List Nat:=[]
 own:Bool:=false
 qk:List (Nat×List (Nat×TypeId×Nat)):=[]
 take:List Nat:=[]
 nilz:List (Nat×List Nat):=[]
 nest:List (Nat×Nat×TypeId×Nat):=[]
 mvs:List Nat:=[]
 bx:List Nat:=[]
def sH {q:Type} (m:Nat->Option q):List Nat->List (Nat×q)
 |[]=>[]
 |i::l=>match m i with
  |some v=>(i,v)::sH m l
  |none=>sH m l
def Hint.canon (h:Hint) (key:Nat) (w:St):St:=
 match find h.loops key with
 |some (l,q)=>{ env:=find (sH w.env l),ob:=find (sH w.ob q) }
 |none=>w
def dR:Code->Nat
 | .region id _ _=>id
 | .seq a _=>dR a
 | .cond _ a _=>dR a
 | .block _ c=>dR c
 | .loop c=>dR c
 | .scope c=>dR c
 |_=>0
def isSlice (P:Program) (t:TypeId):Option (TypeId×Nat):=
 match P.underlying t with
 |some (.slice e)=>(P.info? e).map λi=>(e,i.size)
 |_=>none
def CE (P:Program) (t:TypeId):Option Bool:=
 match P.underlying t with
 |some (.struct _)|some (.array _ _)=>some true
 |some _=>some false
 |none=>none
def kL (P:Program) (t:TypeId):Option Nat:=(P.info? t).map (·.size)
def ofConst (P:Program) (t:TypeId):Value->Option AV
 | .bool b=>some (.bool b)
 | .int k n=>some (.int k n)
 | .string s=>some (.str s.data.toList)
 | .slice none 0 0=>(isSlice P t).map λx=> .dH x.2 []
 | .pointer none=>some .DF
 | .nilFunc=>some .hole
 | .map none=>match P.underlying t with
  |some (.map _ _)=>some (.mp [] [])
  |_=>none
 |_=>none
def bw (P:Program) (t:TypeId) (st:St):Operand->Option SV
 | .tmp i=>st.env i
 | .const v=>(ofConst P t v).map .pv
 | .func f=>some (.pv (.fn f []))
 | .global _=>none
def vz (P:Program):Nat->TypeId->List TypeId
 |0,_=>[]
 |n+1,t=>match P.underlying t with
  |some (.struct l)=>l.toList.flatMap λf=>vz P n f.type
  |some (.array m e)=>(List.replicate m (vz P n e)).flatten
  |_=>[t]
def nt (P:Program):List TypeId->List Value->Option (List AV)
 |[],[]=>some []
 |t::l,v::q=>match ofConst P t v,nt P l q with
  |some a,some as=>some (a::as)
  |_,_=>none
 |_,_=>none
def zeroCells (P:Program) (t:TypeId):Option (List AV):=
 match P.info? t with
 |some i=>match i.zero with
  |some z=>nt P (vz P 8 t) z.cells.toList
  |none=>none
 |none=>none
def DZ:List Nat->List AV->Option (List AV)
 |[],l=>some l
 |k::q,l=>match l[k]? with
  |some (.dH _ [])=>(DZ q l).map λz=>z.set k .qk
  |_=>none
def LU (P:Program) (h:Hint) (d:Option Nat) (t:TypeId):Option (List AV):=
 match d.bind (find h.nilz) with
 |some l=>(zeroCells P t).bind (DZ l)
 |none=>zeroCells P t
def EE (op:BinOp) (k:IntKind) (a b:Int):Option AV:=
 match op with
 | .add=>some (.int k (k.wrap (a+b)))
 | .sub=>some (.int k (k.wrap (a-b)))
 | .mul=>some (.int k (k.wrap (a *b)))
 | .quo=>if b=0 then none else some (.int k (k.wrap (a.tdiv b)))
 | .rem=>if b=0 then none else some (.int k (a.tmod b))
 | .and=>some (.int k (k.wrap (ofInt k.bits a&&&ofInt k.bits b).toNat))
 | .or=>some (.int k (k.wrap (ofInt k.bits a|||ofInt k.bits b).toNat))
 | .xor=>some (.int k (k.wrap (ofInt k.bits a^^^ ofInt k.bits b).toNat))
 | .andNot=>some (.int k (k.wrap (ofInt k.bits a&&& ~~~ofInt k.bits b).toNat))
 | .eql=>some (.bool (a==b))
 | .neq=>some (.bool (a !=b))
 | .lss=>some (.bool (a<b))
 | .leq=>some (.bool (a<=b))
 | .gtr=>some (.bool (a>b))
 | .geq=>some (.bool (a>=b))
 | .shl| .shr=>none
def An (op:BinOp) (k:IntKind) (a b:Int):Option AV:=
 if b<0 then none else
 match op with
 | .shl=>some (.int k (k.wrap (a *2^ min b.toNat k.bits)))
 | .shr=>some (.int k (a.fdiv (2^ min b.toNat k.bits)))
 |_=>none
def UT (op:BinOp) (a b:List UInt8):Option AV:=
 match op with
 | .add=>if a.length+b.length<=9223372036854775807 then some (.str (a++b)) else none
 | .eql=>some (.bool (a==b))
 | .neq=>some (.bool !(a==b))
 | .lss=>some (.bool (Op.bytesLess a b))
 | .leq=>some (.bool (Op.bytesLess a b||a==b))
 | .gtr=>some (.bool !(Op.bytesLess a b||a==b))
 | .geq=>some (.bool !(Op.bytesLess a b))
 |_=>none
def vF:AV->AV->Option Bool
 | .str a, .str b=>some (a==b)
 | .int k a, .int k' b=>if k=k' then some (a==b) else none
 | .bool a, .bool b=>some (a==b)
 |_,_=>none
def jB (P:Program) (k:TypeId) (key:AV):Bool:=
 match P.underlying k,key with
 |some .string, .str _=>true
 |some (.int q), .int l _=>q==l
 |some .bool, .bool _=>true
 |_,_=>false
def KV (P:Program) (xs l:List AV):List Field->Option Bool
 |[]=>some true
 |f::w=>match xs[f.offset]?,l[f.offset]? with
  |some a,some b=>bif !(f.name== "_")&&jB P f.type a&&jB P f.type b&&(kL P f.type).isSome then
    match vF a b,KV P xs l w with
    |some r,some q=>some (r&&q)
    |_,_=>none
   else none
  |_,_=>none
def SE (P:Program) (op:BinOp) (t:TypeId) (xs q:List AV):Option AV:=
 match P.underlying t with
 |some (.struct l)=>bif !(P.stoodInHeld t)&& !(P.eqGuardType P.depth t) then
   match op,KV P xs q l.toList with
   | .eql,some b=>some (.bool b)
   | .neq,some b=>some (.bool !b)
   |_,_=>none
  else none
 |_=>none
def bin (P:Program) (op:BinOp) (t:TypeId) (x y:AV):Option AV:=
 match x,y with
 | .agg xs, .agg l=>SE P op t xs l
 | .int k a, .int k' b=>match op with
  | .shl| .shr=>An op k a b
  |_=>if k=k' then EE op k a b else none
 | .str a, .str b=>UT op a b
 | .bool a, .bool b=>match P.underlying t,op with
  |some .bool, .eql=>some (.bool (a==b))
  |some .bool, .neq=>some (.bool !(a==b))
  |_,_=>none
 |_,_=>none
def un (op:UnOp) (x:AV):Option AV:=
 match op,x with
 | .neg, .int k n=>some (.int k (k.wrap (0-n)))
 | .not, .bool b=>some (.bool !b)
 |_,_=>none
def iH :SV->Option AV
 | .pv v=>some v
 |_=>none
def lV:List SV->Option (List AV)
 |[]=>some []
 | .pv v::l=>(lV l).map (v:: ·)
 |_::_=>none
def vv:List SV->Option (List pV)
 |[]=>some []
 | .pv v::l=>(vv l).map (.v v:: ·)
 | .row id::l=>(vv l).map (.r id:: ·)
 |_::_=>none
def iD (P:Program) (t:TypeId) (l:List AV):Option AV:=
 match CE P t,kL P t with
 |some true,some n=>if n<=l.length then some (.agg (l.take n)) else none
 |some false,some _=>l[0]?
 |_,_=>none
def vD (P:Program) (t:TypeId) (f:Nat):Option Field:=
 match P.underlying t with
 |some (.struct l)=>l[f]?
 |_=>none
def wK (place:Nat->Option (Nat×Nat)) (cells:List AV):List (Nat×AV)->Option (List AV)
 |[]=>some cells
 |(i,v)::q=>match place i with
  |none=>none
  |some (l,size)=>if v.cells.length=size/\l+size<=cells.length then wK place (cells.take l++v.cells++cells.drop (l+size)) q else none
def ot (P:Program) (t:TypeId) (f:Nat):Option (Nat×Nat):=
 match vD P t f with
 |some fd=>(kL P fd.type).map λn=>(fd.offset,n)
 |none=>none
def partsOf (P:Program) (ty:Nat->TypeId) (q:St):List (Nat×Operand)->Option (List (Nat×AV))
 |[]=>some []
 |(i,x)::l=>match(bw P (ty i) q x).bind iH,partsOf P ty q l with
  |some v,some w=>some ((i,v)::w)
  |_,_=>none
def Vz (P:Program) (t:TypeId) (i:Nat):TypeId:=((vD P t i).map (·.type)).getD 0
def chunks (q:Nat):Nat->List AV->List (List AV)
 |0,_=>[]
 |n+1,l=>l.take q::chunks q n (l.drop q)
def s5 (z:List AV):Nat->List AV
 |0=>[]
 |n+1=>z++s5 z n
def elems (q:St):SV->Option (Nat×List (List AV))
 | .pv (.dH l xs)=>some (l,xs)
 | .row id=>match q.ob id with
  |some (.row _ l xs)=>some (l,xs)
  |_=>none
 | .sub id s z w=>match q.ob id with
  |some (.row _ l xs)=>bif Nat.beq s l then some (l,(xs.take w).drop z) else none
  |_=>none
 |_=>none
def lenOf (l:St):SV->Option Nat
 | .pv (.dH _ xs)=>some xs.length
 | .row id=>match l.ob id with
  |some (.row _ _ xs)=>some xs.length
  |some (.rn _ _ _ _ _ xs _)=>some xs.length
  |_=>none
 |_=>none
def pH (key:AV):List AV->Option (Option Nat)
 |[]=>some none
 |x::l=>match vF key x with
  |some true=>some (some 0)
  |some false=>(pH key l).map λr=>r.map (· +1)
  |none=>none
def Ul {l:Type} (key:AV) (ks:List AV) (q:List l):Option (Option l):=
 match pH key ks with
 |some (some i)=>(q[i]?).map some
 |some none=>some none
 |none=>none
def B8 {q:Type} (key:AV) (v:q) (l:List AV) (w:List q):Option (List AV×List q):=
 match pH key l with
 |some (some i)=>some (l,w.set i v)
 |some none=>some (l++[key],w++[v])
 |none=>none
def mdel {w:Type} (key:AV) (l:List AV) (q:List w):Option (List AV×List w):=
 match pH key l with
 |some (some i)=>some (l.eraseIdx i,q.eraseIdx i)
 |some none=>some (l,q)
 |none=>none
def maps (w:St):SV->Option (List AV×List AV)
 | .pv (.mp l q)=>some (l,q)
 | .row id=>match w.ob id with
  |some (.mp _ _ l q)=>some (l,q)
  |_=>none
 |_=>none
def FI (q:St):SV->Option (List AV)
 | .row id=>match q.ob id with
  |some (.mr _ _ _ l _)=>some l
  |_=>none
 |_=>none
def pE (P:Program) (t:TypeId):Option AV:=
 match P.info? t with
 |some i=>match i.zero with
  |some (.agg l)=>(nt P (vz P 8 t) l.toList).map .agg
  |some v=>ofConst P t v
  |none=>none
 |none=>none
def found (ok:Bool) (v:AV) (b:Bool):AV:=bif ok then .lQ [v, .bool b] else v
def bytesOf:List (List AV)->Option (List UInt8)
 |[]=>some []
 |[.int .u8 n]::l=>(bytesOf l).map (UInt8.ofNat n.toNat:: ·)
 |_=>none
def gW (w:Option SV) (l:Nat) (q:Nat):Option Nat:=
 match w with
 |none=>some l
 |some (.pv (.int _ i))=>if 0<=i/\i<=q then some i.toNat else none
 |some _=>none
def ng (P:Program) (l:St):Option Operand->Option (Option SV)
 |none=>some none
 |some x=>(bw P 0 l x).map some
def aci (l:Bool):AV->AV->Option AV
 | .int k a, .int k' b=>if k=k' then some (.int k (if l then(if b>a then b else a) else(if b<a then b else a))) else none
 | .str a, .str b=>some (.str (bif l then(bif !(Op.bytesLess a b) then a else b) else(bif Op.bytesLess a b||a==b then a else b)))
 |_,_=>none
def mh (P:Program) (z:St) (q:Bool) (w:AV):List Operand->Option AV
 |[]=>some w
 |x::l=>match(bw P 0 z x).bind iH with
  |some v=>match aci q w v with
   |some r=>mh P z q r l
   |none=>none
  |none=>none
def wX (P:Program) (c:Call) (q:St):Option SV:=
 match c.callee,c.args.toList with
 | .builtin .len,[x]=>match c.argTypes.toList with
  |[t]=>match P.underlying t,bw P t q x with
   |some .string,some (.pv (.str s))=>some (.pv (.int .i64 s.length))
   |some (.slice _),some (.pv .qk)=>some (.pv (.int .i64 0))
   |some (.slice _),some (.sub _ _ z w)=>some (.pv (.int .i64 ((w-z:Nat):Int)))
   |some (.slice _),some v=>(lenOf q v).map λ(n:Nat)=>SV.pv (.int .i64 (n:Int))
   |some (.map _ _),some v=>(maps q v).map λe=> .pv (.int .i64 e.1.length)
   |_,_=>none
  |_=>none
 | .builtin .max,x::l=>match(bw P 0 q x).bind iH with
  |some v=>(mh P q true v l).map .pv
  |none=>none
 | .builtin .min,x::l=>match(bw P 0 q x).bind iH with
  |some v=>(mh P q false v l).map .pv
  |none=>none
 |_,_=>none
def B1 (P:Program) (q:St) (n:Nat) (e:TypeId) (x z:Operand):Option SV:=
 match kL P e,bw P 0 q x,bw P 0 q z with
 |some s,some (.ptr id l),some (.pv (.int _ i))=>if 0<=i/\i<n/\0<s then some (.ptr id (l+i.toNat *s)) else none
 |some s,some (.rp id B j l),some (.pv (.int _ i))=>if 0<=i/\i<n/\0<s then some (.rp id B j (l+i.toNat *s)) else none
 |some s,some (.cp w),some (.pv (.int _ i))=>if 0<=i/\i<n/\0<s then some (.cp (w.drop (i.toNat *s))) else none
 |_,_,_=>none
def wN (P:Program) (q:St) (t:TypeId) (x B:Operand):Option SV:=
 match isSlice P t,bw P t q x,bw P 0 q B with
 |some (_,s),some (.pv (.dH l xs)),some (.pv (.int _ i))=>if s=l/\0<=i then(xs[i.toNat]?).map .cp else none
 |some (_,s),some (.row id),some (.pv (.int _ i))=>match q.ob id with
  |some (.row _ l xs)=>if s=l/\0<=i/\i.toNat<xs.length then some (.rp id l i.toNat 0) else none
  |some (.rn _ l _ _ _ xs _)=>if s=l/\0<=i/\i.toNat<xs.length then some (.rp id l i.toNat 0) else none
  |_=>none
 |some (_,s),some (.sub id l w z),some (.pv (.int _ i))=>if s=l/\0<=i/\i.toNat<z-w then some (.rp id l (w+i.toNat) 0) else none
 |_,_,_=>none
def ya (P:Program) (z:Option (List AV)) (t:TypeId) (l:Array (Nat×Operand)) (B:St):Option SV:=
 match P.underlying t with
 |some (.struct D)=>match z,partsOf P (Vz P t) B l.toList with
  |some z,some q=>if q.all (λp=>p.2.FQ)=true/\D.toList.all (λf=>(kL P f.type).isSome)=true then(wK (ot P t) z q).map λw=> .pv (.agg w) else none
  |_,_=>none
 |some (.array _ e)=>match z,partsOf P (λ_=>e) B l.toList,kL P e with
  |some z,some q,some s=>if q.all (λp=>p.2.FQ)=true then(wK (λi=>some (i *s,s)) z q).map λw=> .pv (.agg w) else none
  |_,_,_=>none
 |_=>none
def VD (P:Program) (l:St) (t:TypeId) (x:Operand) (w q:Option Operand) (z:Operand):Option SV:=
 match w,q with
 |none,some q=>match bw P t l x with
  |some (.row id)=>match l.ob id,isSlice P t,bw P 0 l q,bw P 0 l z with
   |some (.row _ B xs),some (_,s),some (.pv (.int _ a)),some (.pv (.int _ b))=>if s=B/\a=(xs.length:Int)/\b=(xs.length:Int) then some (.at id .full) else none
   |_,_,_,_=>none
  |_=>none
 |_,_=>none
def eU (P:Program) (o:Oper) (q:St):Option SV:=
 match o.op with
 | .move x| .assign x=>bw P o.type q x
 | .pick c a b=>match bw P 0 q c with
  |some (.pv (.bool t))=>bif t then bw P o.type q a else bw P o.type q b
  |_=>none
 | .binOp op t x y _=>match(bw P t q x).bind iH,(bw P t q y).bind iH with
  |some a,some b=>(bin P op t a b).map .pv
  |_,_=>none
 | .unOp op _ x=>match(bw P 0 q x).bind iH with
  |some a=>(un op a).map .pv
  |none=>none
 | .convert src N x=>match P.underlying src,P.underlying N with
  |some (.slice e),some .string=>match P.underlying e,kL P e,(bw P src q x).bind (elems q) with
   |some (.int .u8),some 1,some (1,xs)=>(bytesOf xs).map λb=> .pv (.str b)
   |_,_,_=>none
  |some _,some (.int k)=>match(bw P 0 q x).bind iH with
   |some (.int _ n)=>some (.pv (.int k (k.wrap n)))
   |_=>none
  |some _,some .string=>match(bw P 0 q x).bind iH with
   |some (.str s)=>some (.pv (.str s))
   |_=>none
  |_,_=>none
 | .call c=>wX P c q
 | .nilCheck x=>match bw P 0 q x with
  |some (.ptr id w)=>some (.ptr id w)
  |some (.cp B)=>some (.cp B)
  |some (.pv (.ref B))=>some (.pv (.ref B))
  |some (.rp id D i w)=>some (.rp id D i w)
  |_=>none
 | .fieldAddr t x f=>match vD P t f with
  |some fd=>match kL P fd.type with
   |some 0=>none
   |some _=>match bw P 0 q x with
    |some (.ptr id w)=>some (.ptr id (w+fd.offset))
    |some (.cp B)=>some (.cp (B.drop fd.offset))
    |some (.pv (.ref B))=>some (.cp (B.drop fd.offset))
    |some (.rp id D i w)=>some (.rp id D i (w+fd.offset))
    |_=>none
   |none=>none
  |none=>none
 | .field t x f=>match vD P t f,(bw P 0 q x).bind iH with
  |some fd,some (.agg B)=>(iD P fd.type (B.drop fd.offset)).map .pv
  |_,_=>none
 | .indexAddr t x K=>match P.underlying t with
  |some (.array n e)=>B1 P q n e x K
  |_=>wN P q t x K
 | .index t x K=>match P.underlying t,bw P t q x,bw P 0 q K with
  |some .string,some (.pv (.str s)),some (.pv (.int _ i))=>if 0<=i then(s[i.toNat]?).map λb=> .pv (.int .u8 b.toNat) else none
  |_,_,_=>none
 | .load t x=>match bw P 0 q x with
  |some (.cp B)=>(iD P t B).map .pv
  |some (.pv (.ref B))=>(iD P t B).map .pv
  |some (.rp id D i w)=>match q.ob id with
   |some (.row _ I xs)=>if D=I then(xs[i]?).bind λc=>(iD P t (c.drop w)).map .pv else none
   |some (.rn _ I k _ _ xs _)=>if D=I/\w=k/\i<xs.length/\CE P t=some false then some (.at id (.nr i)) else none
   |_=>none
  |some (.ptr id w)=>match q.ob id with
   |some (.box _ cells)=>match CE P t with
    |some false=>if(kL P t).isSome then cells[w]? else none
    |some true=>match kL P t with
     |some n=>if w+n<=cells.length then match lV ((cells.drop w).take n) with
       |some B=>some (.pv (.agg B))
       |none=>(vv ((cells.drop w).take n)).map .ag
      else none
     |none=>none
    |none=>none
   |_=>none
  |_=>none
 | .slice t x G F none=>match P.underlying t,bw P t q x,ng P q G,ng P q F with
  |some .string,some (.pv (.str s)),some G,some F=>match gW F s.length s.length with
   |some h=>(gW G 0 h).map λl=> .pv (.str ((s.take h).drop l))
   |none=>none
  |some (.slice _),some (.pv (.dH D xs)),some G,some F=>match isSlice P t,gW F xs.length xs.length with
   |some (_,s),some h=>if s=D then(gW G 0 h).map λl=> .pv (.dH D ((xs.take h).drop l)) else none
   |_,_=>none
  |some (.slice _),some (.row id),some G,some F=>match isSlice P t,q.ob id with
   |some (_,s),some (.row _ D xs)=>match gW F xs.length xs.length with
    |some h=>if s=D then(gW G 0 h).map λl=> .sub id D l h else none
    |none=>none
   |_,_=>none
  |some (.slice _),some (.sub id D a b),some G,some F=>match isSlice P t,gW F (b-a) (b-a) with
   |some (_,s),some h=>if s=D then(gW G 0 h).map λl=> .sub id D (a+l) (a+h) else none
   |_,_=>none
  |_,_,_,_=>none
 | .slice t x G F (some S)=>VD P q t x G F S
 | .extract x i=>match bw P 0 q x with
  |some (.pv (.lQ Q))=>(Q[i]?).map .pv
  |some (.two v b)=>match i with
   |0=>some v
   |1=>some (.pv (.bool b))
   |_=>none
  |_=>none
 | .lookup t x k ok=>match P.underlying t with
  |some (.map L R)=>match(bw P t q x).bind (FI q),(bw P L q k).bind iH with
   |some O,some key=>bif ok&&jB P L key&&(pE P R).isSome then(pH key O).map λr=> .two .any r.isSome else none
   |_,_=>match(bw P t q x).bind (maps q),(bw P L q k).bind iH with
   |some (O,Q),some key=>bif jB P L key then
     match Ul key O Q with
     |some (some v)=>some (.pv (found ok v true))
     |some none=>(pE P R).map λz=> .pv (found ok z false)
     |none=>none
    else none
   |_,_=>none
  |_=>none
 | .build t H=>ya P (zeroCells P t) t H q
 |_=>none
def pV.mentions (id:Nat):pV->Bool
 | .p j| .r j=>Nat.beq j id
 | .v _=>false
def SV.mentions (id:Nat):SV->Bool
 | .ptr j _| .row j| .rp j _ _ _| .sub j _ _ _=>Nat.beq j id
 | .cl _ l=>l.any (pV.mentions id)
 | .ag l=>l.any (pV.mentions id)
 | .two v _=>v.mentions id
 | .at j _=>Nat.beq j id||Nat.beq (j+40000) id
 |_=>false
def SV.dF (id:Nat) (v:SV):SV:=bif v.mentions id then .any else v
def Ob.dF (id:Nat):Ob->Ob
 | .box t cells=> .box t (cells.map (SV.dF id))
 |o=>o
def St.dF (l:St) (id:Nat):St:=
 {env:=λi=>(l.env i).map (SV.dF id),ob:=put (λi=>(l.ob i).map (Ob.dF id)) id none }
def St.new (l:St) (id:Nat) (o:Ob):St:=
 let s:=l.dF id
 {s with ob:=put s.ob id (some o) }
def SV.dK (id:Nat) (v:AV):SV->SV
 | .row j=>bif Nat.beq j id then .pv v else .row j
 |s=>s.dF id
def oQ {q:Type}:List (Option q)->Option (List q)
 |[]=>some []
 |some x::l=>(oQ l).map (x:: ·)
 |none::_=>none
def wC (k l:Nat):List (List AV)->List (List (List AV))->List (List AV)
 |x::xs,y::q=>x.set k (.dH l y)::wC k l xs q
 |_,_=>[]
def Ob.val:Ob->Option AV
 | .row _ q xs=>some (.dH q xs)
 | .mp _ _ w B=>some (.mp w B)
 | .mr _ _ q w B=>(oQ B).map λl=> .mp w (l.map (.dH q))
 | .box _ _=>none
 | .it _ _=>none
 | .lp _=>none
 | .rn _ q k _ z xs D=>(oQ D).map λl=> .dH q (wC k z xs l)
def Ob.dK (id:Nat) (v:AV):Ob->Ob
 | .box t cells=> .box t (cells.map (SV.dK id v))
 |o=>o
def wW (id:Nat):Bool:=Nat.blt id 10000
def St.dK (l:St) (id:Nat):Option St:=
 match wW id,(l.ob id).bind Ob.val with
 |true,some v=>some { env:=λi=>(l.env i).map (SV.dK id v),ob:=put (λi=>(l.ob i).map (Ob.dK id v)) id none }
 |_,_=>none
def SV.pO (id:Nat) (q:List AV):SV->SV
 | .ptr j l=>bif Nat.beq j id then .cp (q.drop l) else .ptr j l
 |s=>s.dF id
def Ob.pO (id:Nat) (l:List AV):Ob->Ob
 | .box t cells=> .box t (cells.map (SV.pO id l))
 |o=>o
def St.pO (l:St) (id:Nat):Option St:=
 match wW id,l.ob id with
 |true,some (.box _ cells)=>match lV cells with
  |some q=>some { env:=λi=>(l.env i).map (SV.pO id q),ob:=put (λi=>(l.ob i).map (Ob.pO id q)) id none }
  |none=>none
 |_,_=>none
def vN (q:St):List Operand->Option St
 |[]=>some q
 | .tmp i::l=>match q.env i with
  |some (.ptr id _)=>(q.pO id).bind λw=>vN w l
  |_=>vN q l
 |_::l=>vN q l
def jQ (q:St):List pV->Option (List AV)
 |[]=>some []
 | .v a::l=>(jQ q l).map (a:: ·)
 | .r id::l=>match(q.ob id).bind Ob.val,jQ q l with
  |some v,some w=>some (v::w)
  |_,_=>none
 | .p _::_=>none
def me (l:St):SV->Option AV
 | .pv v=>some v
 | .row id=>(l.ob id).bind Ob.val
 | .ag q=>(jQ l q).map .agg
 | .at id (.nr i)=>match l.ob id with
  |some (.rn _ _ _ _ w _ z)=>match z[i]? with
   |some (some B)=>some (.dH w B)
   |_=>none
  |_=>none
 |_=>none
def jt (P:Program) (l:St):List Operand->List TypeId->Option (List AV)
 |[],_=>some []
 |x::xs,q=>match(bw P (q.headD 0) l x).bind (me l),jt P l xs q.tail with
  |some v,some w=>some (v::w)
  |_,_=>none
def kI (l:St):Operand->Bool
 | .tmp i=>match l.env i with
  |some (.row _)=>true
  |some (.ag _)=>true
  |some (.at _ _)=>true
  |_=>false
 |_=>false
def vV (l:St):Operand->Bool
 | .tmp i=>match l.env i with
  |some (.ag _)=>true
  |some (.at _ _)=>true
  |_=>false
 |_=>false
def tq (w:St):List Operand->Option (List AV)
 |[]=>some []
 | .tmp i::l=>match w.env i,tq w l with
  |some (.pv v),some q=>some (v::q)
  |some (.cp z),some q=>some (.ref z::q)
  |_,_=>none
 |_::_=>none
def qg (z:St):List Operand->Option (List pV)
 |[]=>some []
 | .tmp i::l=>match z.env i,qg z l with
  |some (.pv v),some q=>some (.v v::q)
  |some (.cp w),some q=>some (.v (.ref w)::q)
  |some (.ptr id 0),some q=>some (.p id::q)
  |_,_=>none
 |_::_=>none
def kA (P:Program) (t:TypeId) (len:Nat) (l:List (Nat×Operand)) (st:St):Option (TypeId×Nat×List (List AV)):=
 match isSlice P t with
 |some (e,s)=>match zeroCells P e,partsOf P (λ_=>e) st l with
  |some z,some q=>
   if len *s<=16777216/\0<s/\z.length=s/\q.all (λp=>p.2.FQ)=true then
    (wK (λi=>some (i *s,s)) (s5 z len) q).map λw=>(e,s,chunks s len w)
   else none
  |_,_=>none
 |none=>none
abbrev dW:=Nat->List SV->List (Nat×Ob)->Option (AV×List (Nat×Ob))
def oq (h:Hint) (l:St):Operand->Option Nat
 | .tmp t=>bif h.jP.contains t then
   match l.env t with
   |some (.row id)=>some id
   |_=>none
  else none
 |_=>none
def pR (h:Hint):Operand->Bool
 | .tmp t=>h.rows.contains t
 |_=>false
def iG (id:Nat):Bool:=Nat.blt id 10000||(Nat.ble 20000 id&&Nat.blt id 30000)
def SV.ids:SV->List Nat
 | .ptr j _| .row j| .rp j _ _ _| .sub j _ _ _=>[j]
 | .cl _ l=>l.filterMap fun
  | .p j| .r j=>some j
  | .v _=>none
 | .ag l=>l.filterMap fun
  | .p j| .r j=>some j
  | .v _=>none
 | .two v _=>v.ids
 | .at j _=>[j,j+40000]
 |_=>[]
def SV.NJ:SV->List Nat
 | .at j _=>[j]
 |v=>v.ids
def SV.closed (names:List Nat):SV->Bool
 | .ptr j _| .row j| .rp j _ _ _| .sub j _ _ _=>names.contains j
 | .cl _ l=>l.all fun
  | .p j| .r j=>names.contains j
  | .v _=>true
 | .ag l=>l.all fun
  | .p j| .r j=>names.contains j
  | .v _=>true
 | .two v _=>v.closed names
 | .at _ _=>false
 |_=>true
def Ob.closed (names:List Nat):Ob->Bool
 | .box _ cells=>cells.all (SV.closed names)
 | .row _ _ _=>true
 | .mp _ _ _ _=>true
 | .mr _ _ _ _ _=>false
 | .it _ _=>true
 | .lp _=>true
 | .rn _ _ _ _ _ _ _=>false
def Dx (st:St):Operand->Bool
 | .tmp t=>match st.env t with
  |some (.ptr _ _)=>true
  |some (.cl _ _)=>true
  |_=>false
 |_=>false
def TE (l:St):Operand->Bool
 | .tmp t=>match l.env t with
  |some (.cl _ _)=>true
  |_=>false
 |_=>false
def wide (st:St) (c:Call) (f:Operand):Bool:=TE st f||c.args.toList.any (Dx st)
def isRef (h:Hint):Operand->Bool
 | .tmp t=>h.jP.contains t
 |_=>false
def Zc (P:Program) (h:Hint) (z:St) (t:TypeId) (x:Operand):Option SV:=
 match bw P t z x with
 |some (.pv v)=>some (.pv v)
 |some (.ptr id q)=>some (.ptr id q)
 |some (.row id)=>bif isRef h x then some (.row id) else none
 |some (.cl f l)=>some (.cl f l)
 |some (.cp w)=>some (.cp w)
 |_=>none
def tn (P:Program) (h:Hint) (l:St):List Operand->List TypeId->Option (List SV)
 |[],_=>some []
 |x::xs,q=>match Zc P h l (q.headD 0) x,tn P h l xs q.tail with
  |some v,some w=>some (v::w)
  |_,_=>none
def HQ:pV->SV
 | .v a=> .pv a
 | .p id=> .ptr id 0
 | .r id=> .row id
def fnSV:SV->Option (Nat×List SV×List SV)
 | .pv (.fn g l)=>bif Nat.blt g 1000000 then some (g,[],l.map .pv) else none
 | .cl g l=>bif Nat.blt g 1000000 then some (g,[],l.map HQ) else bif Nat.blt g 2000000 then some (g-1000000,l.map HQ,[]) else match l with
  |[c]=>some (g,[],[HQ c])
  |_=>none
 |_=>none
def GJ (l:St) (id:Nat):List Nat:=
 match l.ob id with
 |some (.box _ cells)=>cells.flatMap SV.ids
 |_=>[]
def ku (q:St):Nat->List Nat->List Nat->List Nat
 |0,_,done=>done
 |_+1,[],done=>done
 |n+1,id::l,done=>bif done.contains id then ku q n l done else ku q n (l++GJ q id) (done++[id])
def pQ:List SV->List Nat
 |[]=>[]
 | .row id::l=>id::pQ l
 |_::l=>pQ l
def VR (l:St) (id:Nat):Bool:=
 match l.ob id with
 |some (.row _ _ _)=>true
 |_=>false
def lE (q:Bool) (w:St) (l:List Nat) (id:Nat):Bool:=VR w id&&iG id&& !(l.contains id)&& !q
def jH (q:Nat->Bool):Nat->List Nat->List (Nat×Nat)
 |_,[]=>[]
 |k,id::l=>(id,bif q id then 20000+k else 10000+k)::jH q (k+1) l
def swap:List (Nat×Nat)->List (Nat×Nat)
 |[]=>[]
 |(a,b)::l=>(b,a)::swap l
def qG (m:List (Nat×Nat)) (id:Nat):Nat:=(find m id).getD id
def pV.tj (l:Nat->Nat):pV->pV
 | .p id=> .p (l id)
 | .r id=> .r (l id)
 |c=>c
def SV.tj (w:Nat->Nat):SV->SV
 | .ptr j q=> .ptr (w j) q
 | .row j=> .row (w j)
 | .rp j z i q=> .rp (w j) z i q
 | .sub j z D B=> .sub (w j) z D B
 | .cl f l=> .cl f (l.map (pV.tj w))
 | .ag l=> .ag (l.map (pV.tj w))
 | .two v b=> .two (v.tj w) b
 |s=>s
def Ob.tj (l:Nat->Nat):Ob->Ob
 | .box t cells=> .box t (cells.map (SV.tj l))
 |o=>o
def lD (q:St) (ids:List Nat) (w:Nat->Nat):List (Nat×Nat)->Option (List (Nat×Ob))
 |[]=>some []
 |(id,z)::l=>match q.ob id,lD q ids w l with
  |some o,some B=>bif o.closed ids then some ((z,o.tj w)::B) else none
  |_,_=>none
def nP (names:List Nat) (w:Nat->Nat):List (Nat×Nat)->List (Nat×Ob)->Option (List (Nat×Ob))
 |[],[]=>some []
 |(id,z)::l,(q,o)::B=>bif Nat.beq z q&&o.closed names then(nP names w l B).map λr=>(id,o.tj w)::r else none
 |_,_=>none
def distinct:List Nat->Bool
 |[]=>true
 |x::l=> !(l.contains x)&&distinct l
def kF:List Nat->St->St
 |[],q=>q
 |id::l,q=>kF l (q.dF id)
mutual
def AV.same:AV->AV->Bool
 | .bool a, .bool b=>a==b
 | .int k a, .int k' b=>decide (k=k')&&decide (a=b)
 | .str a, .str b=>decide (a=b)
 | .dH s xs, .dH s' ys=>Nat.beq s s'&&Ai xs ys
 | .agg a, .agg b=>rF a b
 | .fn f a, .fn g b=>Nat.beq f g&&rF a b
 | .lQ a, .lQ b=>rF a b
 | .ref a, .ref b=>rF a b
 | .mp a b, .mp c d=>rF a c&&rF b d
 | .self a, .self b=>Nat.beq a b
 | .DF, .DF=>true
 | .qk, .qk=>true
 | .hole, .hole=>true
 |_,_=>false
def rF:List AV->List AV->Bool
 |[],[]=>true
 |a::l,b::m=>AV.same a b&&rF l m
 |_,_=>false
def Ai:List (List AV)->List (List AV)->Bool
 |[],[]=>true
 |a::l,b::m=>rF a b&&Ai l m
 |_,_=>false
end
def pV.same:pV->pV->Bool
 | .v a, .v b=>AV.same a b
 | .p a, .p b=>Nat.beq a b
 | .r a, .r b=>Nat.beq a b
 |_,_=>false
def rG:List pV->List pV->Bool
 |[],[]=>true
 |a::l,b::m=>pV.same a b&&rG l m
 |_,_=>false
def Ak.same:Ak->Ak->Bool
 | .full, .full=>true
 | .nr i, .nr j=>Nat.beq i j
 |_,_=>false
def SV.same:SV->SV->Bool
 | .undef, .undef=>true
 | .any, .any=>true
 | .pv a, .pv b=>AV.same a b
 | .ptr a b, .ptr c d=>Nat.beq a c&&Nat.beq b d
 | .row a, .row b=>Nat.beq a b
 | .rp a b c d, .rp l w c' z=>Nat.beq a l&&Nat.beq b w&&Nat.beq c c'&&Nat.beq d z
 | .sub a b c d, .sub l w c' z=>Nat.beq a l&&Nat.beq b w&&Nat.beq c c'&&Nat.beq d z
 | .cp a, .cp b=>rF a b
 | .cl f a, .cl g b=>Nat.beq f g&&rG a b
 | .two s a, .two t b=>SV.same s t&&(a==b)
 | .ag a, .ag b=>rG a b
 | .at a q, .at b r=>Nat.beq a b&&Ak.same q r
 |_,_=>false
def vQ:List SV->List SV->Bool
 |[],[]=>true
 |a::l,b::m=>SV.same a b&&vQ l m
 |_,_=>false
def qp:List (Option (List (List AV)))->List (Option (List (List AV)))->Bool
 |[],[]=>true
 |some a::l,some b::m=>Ai a b&&qp l m
 |none::l,none::m=>qp l m
 |_,_=>false
def Ob.same:Ob->Ob->Bool
 | .box t a, .box u b=>Nat.beq t u&&vQ a b
 | .row e s xs, .row l q H=>Nat.beq e l&&Nat.beq s q&&Ai xs H
 | .mp k e a b, .mp k' l c d=>Nat.beq k k'&&Nat.beq e l&&rF a c&&rF b d
 | .mr k e s a b, .mr k' l q c d=>Nat.beq k k'&&Nat.beq e l&&Nat.beq s q&&rF a c&&qp b d
 | .it s p, .it q B=>decide (s=q)&&Nat.beq p B
 | .lp a, .lp b=>rF a b
 | .rn e s k w s2 x y, .rn l q k' z D F G=>Nat.beq e l&&Nat.beq s q&&Nat.beq k k'&&Nat.beq w z&&Nat.beq s2 D&&Ai x F&&qp y G
 |_,_=>false
def uu:List (Nat×Ob)->List (Nat×Ob)->Bool
 |[],[]=>true
 |(i,a)::l,(j,b)::m=>Nat.beq i j&&Ob.same a b&&uu l m
 |_,_=>false
def tD (P:Program) (h:Hint) (q:St) (c:Call) (f:Operand):Option (Nat×List SV):=
 match(bw P 0 q f).bind fnSV,tn P h q c.args.toList c.argTypes.toList with
 |some (g,pre,l),some w=>some (g,pre++(w++l))
 |_,_=>none
def kK (l:St) (args:List SV):List Nat:=ku l 200 (args.flatMap SV.ids) []
def jw (ids:List Nat):List (Nat×Nat):=jH (λ_=>false) 0 ids
def rY (P:Program) (h:Hint) (q:dW) (l:St) (c:Call) (f:Operand):Option AV:=
 match tD P h l c f with
 |some (g,args)=>
  bif distinct (kK l args)&&Nat.blt (kK l args).length 10000&&args.all (SV.closed (kK l args)) then
   match lD l (kK l args) (qG (jw (kK l args))) (jw (kK l args)) with
   |some cE=>match q g (args.map (SV.tj (qG (jw (kK l args))))) cE with
    |some (r,w)=>bif uu w cE&&r.kC then some r else none
    |none=>none
   |none=>none
  else none
 |none=>none
def eo (P:Program) (h:Hint) (cH:dW) (o:Oper) (st:St):Option SV:=
 match o.op with
 | .buildSlice t len q=>bif(o.dst.any h.rows.contains) then none else(kA P t len q.toList st).map λx=> .pv (.dH x.2.1 x.2.2)
 | .call c=>match c.callee with
  | .value f=>bif o.dst.any h.owns.contains then none else bif o.dst.any h.stay.contains&&wide st c f then(rY P h cH st c f).map .pv else
   bif wide st c f||c.args.toList.any (λx=>(oq h st x).isSome) then none else
   match bw P 0 st f,jt P st c.args.toList c.argTypes.toList with
   |some (.pv (.fn g l)),some z=>match cH g ((z++l).map .pv) [] with
    |some (r,[])=>bif(!(c.args.toList.any (kI st))||r.plain)&&r.kC then some (.pv r) else none
    |_=>none
   |_,_=>none
  |_=>wX P c st
 | .lookup _ x _ ok=>bif pR h x&& !ok then none else eU P o st
 | .build t q=>bif o.dst.any h.rows.contains then none else ya P (LU P h o.dst t) t q st
 | .load _ _=>bif o.dst.any h.take.contains then none else eU P o st
 | .makeFunc (.func g) first l=>bif first.isEmpty then
   bif o.dst.any h.jP.contains then bif Nat.blt g 1000000 then(qg st l.toList).map λw=> .cl g w else none
   else(tq st l.toList).map λz=> .pv (.fn g z)
  else bif l.isEmpty&&o.dst.any h.jP.contains&&Nat.blt g 1000000 then(qg st first.toList).map λw=> .cl (g+1000000) w else none
 | .assign x=>match o.dst,x,eU P o st with
  |some d, .const _,some (.pv (.dH B xs))=>bif h.rows.contains d then none else some (.pv (.dH B xs))
  |some d,_,some (.row id)=>bif h.mq.contains d||h.mvs.contains d then none else some (.row id)
  |_,_,r=>r
 |_=>eU P o st
def rj (l:St):SV->Bool
 | .pv (.agg _)| .pv (.lQ _)=>false
 | .pv _=>true
 | .ptr _ _| .rp _ _ _ _| .cp _| .cl _ _=>true
 | .row id=>match l.ob id with
  |some (.row _ _ _)=>true
  |some (.mp _ _ _ _)=>true
  |some (.rn _ _ _ _ _ _ _)=>true
  |_=>false
 |_=>false
def storeAt (P:Program) (t:TypeId) (q:St) (a:SV) (v:SV):Option St:=
 match a with
 | .ptr id l=>match q.ob id,kL P t with
  |some (.box B cells),some n=>match v with
   | .ag w=>if w.length=n/\l+n<=cells.length then
     some { q with ob:=put q.ob id (some (.box B (cells.take l++w.map HQ++cells.drop (l+n)))) } else none
   | .pv (.agg w)=>if w.length=n/\l+n<=cells.length then
     some { q with ob:=put q.ob id (some (.box B (cells.take l++w.map .pv++cells.drop (l+n)))) } else none
   |v=>if n=1/\l<cells.length/\rj q v=true then some { q with ob:=put q.ob id (some (.box B (cells.set l v))) } else none
  |_,_=>none
 | .rp id D i l=>match q.ob id,kL P t,v with
  |some (.row e z xs),some n, .pv v=>match xs[i]? with
   |some c=>if D=z/\v.cells.length=n/\l+n<=c.length/\v.FQ=true then
     some { q with ob:=put q.ob id (some (.row e z (xs.set i (c.take l++v.cells++c.drop (l+n))))) } else none
   |none=>none
  |_,_,_=>none
 |_=>none
def AR (P:Program) (h:Hint) (l:St):List Operand->List TypeId->Option (List SV×List Nat)
 |[],_=>some ([],[])
 |x::xs,w=>match oq h l x,AR P h l xs w.tail with
  |some id,some (q,ids)=>some (.row 10000::q,id::ids)
  |none,some (q,ids)=>match(bw P (w.headD 0) l x).bind iH with
   |some v=>some (.pv v::q,ids)
   |none=>none
  |_,none=>none
def oS (P:Program) (h:Hint) (l:dW) (z:St) (c:Call) (f:Operand) (d:Option Nat):Option St:=
 match bw P 0 z f,AR P h z c.args.toList c.argTypes.toList with
 |some (.pv (.fn g B)),some (H,[id])=>match z.ob id with
  |some (.row e F xs)=>match l g (H++B.map .pv) [(10000, .row e F xs)] with
   |some (r,[(G, .row D q w)])=>bif Nat.beq e D&&Nat.beq F q&&Nat.beq G 10000 then
     match r with
     | .self n=>bif Nat.ble n w.length&&iG id then some ((z.new id (.row D q (w.take n))).set d (.row id)) else none
     |r=>bif r.plain then some (St.set { z with ob:=put z.ob id (some (.row D q w)) } d (.pv r)) else none
    else none
   |_=>none
  |_=>none
 |_,_=>none
def jy (P:Program) (h:Hint) (l:dW) (w:St) (c:Call) (f:Operand) (d:Option Nat):Option St:=
 match(bw P 0 w f).bind fnSV,tn P h w c.args.toList c.argTypes.toList with
 |some (g,pre,z),some G=>
  let args:=pre++(G++z)
  let ids:=ku w 200 (args.flatMap SV.ids) [];let D:=lE (d.any h.stay.contains) w (pQ args);let m:=jH D 0 ids;let names:=m.map (·.2);let F:=qG m
  bif distinct ids&&Nat.blt ids.length 10000&&args.all (SV.closed ids) then
   match lD w ids F m with
   |some cE=>match l g (args.map (SV.tj F)) cE with
    |some (r,q)=>match nP names (qG (swap m)) m q with
     |some back=>bif r.kC then
       let B:=kF (ids.filter D) w
       some (St.set { env:=B.env,ob:=λi=>(find back i).orElse λ_=>B.ob i } d (.pv r)) else none
     |none=>none
    |none=>none
   |none=>none
  else none
 |_,_=>none
def AD (P:Program) (t:TypeId):Option (List Value):=
 match P.info? t with
 |some i=>i.zero.map λz=>z.cells.toList
 |none=>none
def uh (P:Program) (d:Nat):Nat->List TypeId->List Value->Option (List SV×List (Nat×TypeId×Nat))
 |_,[],[]=>some ([],[])
 |j,t::w,v::z=>match uh P d (j+1) w z with
  |some (q,l)=>match isSlice P t,v with
   |some (e,s), .slice none 0 0=>bif Nat.blt 0 s&&Nat.blt (5000+16 *d+j) 10000 then some (.row (5000+16 *d+j)::q,(5000+16 *d+j,e,s)::l) else none
   |_,v=>(ofConst P t v).map λa=>(.pv a::q,l)
  |none=>none
 |_,_,_=>none
def Du (l:List (Nat×Nat×TypeId×Nat)) (id:Nat) (e:TypeId) (s:Nat):Ob:=
 match find l id with
 |some (k,q,w)=>bif Nat.blt k s then .rn e s k q w [] [] else .row e s []
 |none=> .row e s []
def um (nst:List (Nat×Nat×TypeId×Nat)):List (Nat×TypeId×Nat)->St->St
 |[],q=>q
 |(id,e,s)::l,q=>um nst l (q.new id (Du nst id e s))
def wU (h:Hint) (d:Nat):Option (List (Nat×TypeId×Nat)):=find h.qk d
def TG:Operand->Bool
 | .const (.slice none 0 0)=>true
 |_=>false
def NA (P:Program) (b:Bool) (l:St) (t:TypeId) (x:Operand):Option AV:=bif b&&TG x then some .qk else(bw P t l x).bind iH
def rA (P:Program) (b:Bool) (l:St):List Operand->List TypeId->Option (List AV)
 |[],_=>some []
 |x::xs,q=>match NA P b l (q.headD 0) x,rA P b l xs q.tail with
  |some v,some w=>some (v::w)
  |_,_=>none
def sD:List AV->List (Nat×TypeId×Nat)->Option (List pV)
 |[],_=>some []
 | .qk::q,x::l=>(sD q l).map (.r x.1:: ·)
 | .qk::_,[]=>none
 |a::q,l=>(sD q l).map (.v a:: ·)
def kJ (P:Program) (h:Hint) (q:dW) (z:St) (c:Call) (f:Operand) (d:Option Nat):Option St:=
 match d with
 |some d=>match bw P 0 z f,rA P (wU h d).isSome z c.args.toList c.argTypes.toList with
  |some (.pv (.fn g w)),some G=>match q g ((G++w).map .pv) [] with
   |some (.lQ [.lQ [.self e, .dH F xs]],[])=>bif(wU h d).isSome then none else some ((z.new d (.row e F xs)).set (some d) (.row d))
   |some (.agg B,[])=>match wU h d with
    |some []=>some (z.set (some d) (.pv (.agg B)))
    |some l=>match sD B l with
     |some D=>bif l.all (λx=>Nat.blt x.1 10000) then some ((um h.nest l z).set (some d) (.ag D)) else none
     |none=>none
    |none=>none
   |_=>none
  |_,_=>none
 |none=>none
def capOf (l:St) (s:SV):Option pV:=
 bif rj l s then
  match s with
  | .pv a=>some (.v a)
  | .row id=>some (.r id)
  |_=>none
 else none
def Dd (q:St):List SV->Option (List pV)
 |[]=>some []
 |s::l=>match capOf q s,Dd q l with
  |some c,some w=>some (c::w)
  |_,_=>none
def UE (q:St):SV->Option (List SV)
 | .pv (.agg l)=>some (l.map .pv)
 |s=>bif rj q s then some [s] else none
def DK (P:Program) (ty:Nat->TypeId) (q:St):List (Nat×Operand)->Option (List (Nat×List SV))
 |[]=>some []
 |(i,x)::l=>match(bw P (ty i) q x).bind (UE q),DK P ty q l with
  |some v,some w=>some ((i,v)::w)
  |_,_=>none
def Qf (place:Nat->Option (Nat×Nat)) (cells:List SV):List (Nat×List SV)->Option (List SV)
 |[]=>some cells
 |(i,v)::q=>match place i with
  |none=>none
  |some (l,size)=>if v.length=size/\l+size<=cells.length then Qf place (cells.take l++v++cells.drop (l+size)) q else none
def Ev (P:Program) (h:Hint) (w:St) (d:Nat) (t:TypeId) (q:List (Nat×Operand)):Option St:=
 match P.underlying t,(AD P t).bind λG=>uh P d 0 (vz P 8 t) G with
 |some (.struct D),some (z,l)=>bif D.toList.all (λf=>(kL P f.type).isSome) then
   match DK P (Vz P t) (um h.nest l w) q with
   |some F=>match(Qf (ot P t) z F).bind (Dd (um h.nest l w)) with
    |some B=>some ((um h.nest l w).set (some d) (.ag B))
    |none=>none
   |none=>none
  else none
 |_,_=>none
def wR (P:Program) (l:St) (t:TypeId) (m k:Operand):Option St:=
 match P.underlying t with
 |some (.map z _)=>match bw P t l m,(bw P z l k).bind iH with
  |some (.row id),some key=>match l.ob id with
   |some (.mp k' B D F)=>bif jB P z key then
     match mdel key D F with
     |some (q,w)=>some { l with ob:=put l.ob id (some (.mp k' B q w)) }
     |none=>none
    else none
   |_=>none
  |_,_=>none
 |_=>none
def uA (P:Program) (l:St):Option Operand->Bool
 |none=>true
 |some x=>match(bw P 0 l x).bind iH with
  |some (.int _ _)=>true
  |_=>false
def Ud (P:Program) (l:St) (q:TypeId) (x:Operand):Option St:=
 match bw P q l x with
 |some (.pv _)=>some l
 |some (.row j)=>l.dK j
 |_=>none
def wS (P:Program) (G:St) (t:TypeId) (m k x:Operand):Option St:=
 match P.underlying t with
 |some (.map B z)=>match Ud P G z x with
  |some l=>match bw P t l m,(bw P B l k).bind iH,(bw P z l x).bind iH with
   |some (.row id),some key,some v=>match l.ob id with
    |some (.mp k' D F H)=>bif jB P B key&&v.FQ then
      match B8 key v F H with
      |some (q,w)=>some { l with ob:=put l.ob id (some (.mp k' D q w)) }
      |none=>none
     else none
    |_=>none
   |_,_,_=>none
  |none=>none
 |_=>none
def Lp (P:Program) (l:St) (t:TypeId) (m k:Operand):Option (TypeId×Nat×AV×TypeId×TypeId×Nat×List AV×List (Option (List (List AV)))):=
 match P.underlying t with
 |some (.map q w)=>match bw P t l m,(bw P q l k).bind iH with
  |some (.row id),some key=>match l.ob id with
   |some (.mr k' e B z D)=>bif jB P q key&&Nat.blt id 10000 then some (w,id,key,k',e,B,z,D) else none
   |_=>none
  |_,_=>none
 |_=>none
def Lq (P:Program) (l:St) (t:TypeId) (m k:Operand) (d:Nat):Option St:=
 match Lp P l t m k with
 |some (w,id,key,k',e,q,z,B)=>bif Nat.beq id d then none else match pH key z with
  |some (some i)=>match B[i]? with
   |some (some xs)=>some ((St.new { l with ob:=put l.ob id (some (.mr k' e q z (B.set i none))) } d (.row e q xs)).set (some d) (.row d))
   |_=>none
  |some none=>match pE P w,isSlice P w with
   |some (.dH _ []),some (D,s)=>if e=D/\s=q/\0<s then some ((l.new d (.row e q [])).set (some d) (.row d)) else none
   |_,_=>none
  |none=>none
 |none=>none
def Uo (P:Program) (w:St) (t:TypeId) (m k x:Operand):Option St:=
 match Lp P w t m k with
 |some (D,id,key,k',e,z,F,G)=>match x with
  | .const (.slice none 0 0)=>match isSlice P D with
   |some (B,s)=>if e=B/\s=z/\0<s then
     match B8 key (some []) F G with
     |some (l,q)=>some { w with ob:=put w.ob id (some (.mr k' e z l q)) }
     |none=>none
    else none
   |none=>none
  |x=>match bw P D w x with
   |some (.row j)=>match w.ob j with
    |some (.row B s xs)=>if e=B/\s=z/\j<10000 then
      match B8 key (some xs) F G with
      |some (l,q)=>let s1:=w.dF j;some { s1 with ob:=put s1.ob id (some (.mr k' e z l q)) }
      |none=>none
     else none
    |_=>none
   |_=>none
 |none=>none
def vT (P:Program) (q:St) (t:TypeId) (x:Operand) (d:Nat):Option St:=
 match bw P 0 q x,CE P t with
 |some (.rp id F i w),some false=>match q.ob id with
  |some (.rn e l k z B xs D)=>match D[i]? with
   |some (some G)=>bif Nat.beq F l&&Nat.beq w k&& !(Nat.beq id d)&&Nat.blt id 10000 then some ((St.new { q with ob:=put q.ob id (some (.rn e l k z B xs (D.set i none))) } d (.row z B G)).set (some d) (.row d)) else none
   |_=>none
  |_=>none
 |_,_=>none
def FZ (P:Program) (q:St) (t:TypeId) (id G i w j:Nat):Option St:=
 match CE P t,kL P t,q.ob id,q.ob j with
 |some false,some 1,some (.rn e l k z B xs D),some (.row F s2 H)=>
  bif Nat.beq G l&&Nat.beq w k&&Nat.blt id 10000&&Nat.blt j 10000&&Nat.beq z F&&Nat.beq B s2&&Nat.blt i D.length&& !(Nat.beq id j) then
   some { (q.dF j).dF (id+40000) with ob:=put ((q.dF j).dF (id+40000)).ob id (some (.rn e l k z B xs (D.set i (some H)))) } else none
 |_,_,_,_=>none
def Vt (P:Program) (w:St) (t:TypeId) (id q j z n:Nat):Option St:=
 match w.ob j with
 |some (.row e l xs)=>bif Nat.beq z l&&iG j&& !(Nat.beq id j) then storeAt P t (w.new j (.row e l (xs.take n))) (.ptr id q) (.row j) else none
 |_=>none
def Un (l:St) (id d:Nat):Option St:=
 match l.ob id with
 |some (.row e q xs)=>bif Nat.beq id d then some (l.set (some d) (.row d)) else bif Nat.blt id 10000 then some (((l.dF id).new d (.row e q xs)).set (some d) (.row d)) else none
 |_=>none
def qc (k:Nat) (c:List AV):Bool:=match c[k]? with
 |some .qk=>true
 |_=>false
def mC (P:Program) (h:Hint) (D:dW) (o:Oper) (q:St):Option St:=
 match o.dst,o.op with
 |some d, .assign (.const (.slice none 0 0))=>match isSlice P o.type with
  |some (e,s)=>if 0<s then some ((q.new d (.row e s [])).set (some d) (.row d)) else none
  |none=>none
 |some d, .assign x=>match bw P o.type q x with
  |some (.row id)=>bif h.mvs.contains d then Un q id d else match q.dK id with
   |some B=>match bw P o.type B x with
    |some v=>some (B.set (some d) v)
    |none=>none
   |none=>none
  |_=>none
 |some d, .box t x=>match bw P t q x,CE P t with
  |some (.pv (.agg O)),some true=>some ((q.new d (.box t (O.map .pv))).set (some d) (.ptr d 0))
  |some (.ag O),some true=>bif(SV.ag O).mentions d then none else some ((q.new d (.box t (O.map HQ))).set (some d) (.ptr d 0))
  |some v,some false=>if rj q v=true then some ((q.new d (.box t [v.dF d])).set (some d) (.ptr d 0)) else none
  |_,_=>none
 |some d, .alloc t=>bif h.rows.contains d then
   match(AD P t).bind λN=>uh P d 0 (vz P 8 t) N with
   |some (S,l)=>some (((um h.nest l q).new d (.box t (S.map (SV.dF d)))).set (some d) (.ptr d 0))
   |none=>none
  else match LU P h (some d) t with
  |some z=>some ((q.new d (.box t (z.map .pv))).set (some d) (.ptr d 0))
  |none=>none
 |some d, .makeSlice t l c=>match isSlice P t,(bw P 0 q l).bind iH,(bw P 0 q c).bind iH with
  |some (e,s),some (.int _ l),some (.int _ c)=>match zeroCells P e,P.info? e with
   |some z,some i=>if 0<s/\z.length=s/\0<=l/\l<=c/\i.bytes *c.toNat<=281474976710656/\c<=9223372036854775807 then
     some ((q.new d (.row e s (List.replicate l.toNat z))).set (some d) (.row d)) else none
   |_,_=>none
  |_,_,_=>none
 |some d, .buildSlice t len G=>match kA P t len G.toList q with
  |some (e,s,xs)=>match find h.nest d with
   |none=>some ((q.new d (.row e s xs)).set (some d) (.row d))
   |some (k,K,s')=>bif Nat.blt k s&&xs.all (qc k) then some ((q.new d (.rn e s k K s' (xs.map λc=>c.set k .hole) (xs.map λ_=>some []))).set (some d) (.row d)) else none
  |none=>none
 |none, .store t a x=>match bw P 0 q a,bw P t q x with
  |some (.rp id w i L),some (.row j)=>FZ P q t id w i L j
  |some (.ptr id L),some (.sub j w 0 n)=>Vt P q t id L j w n
  |some a,some v=>storeAt P t q a v
  |_,_=>none
 |some d, .makeMap t r=>match P.underlying t with
  |some (.map k e)=>bif uA P q r then
    bif h.rows.contains d then
     match isSlice P e with
     |some (K,s)=>if 0<s then some ((q.new d (.mr k K s [] [])).set (some d) (.row d)) else none
     |none=>none
    else some ((q.new d (.mp k e [] [])).set (some d) (.row d)) else none
  |_=>none
 |none, .mapUpdate t m k x=>bif pR h m then Uo P q t m k x else wS P q t m k x
 |none, .insert t m k x=>bif pR h m then Uo P q t m k x else wS P q t m k x
 |some d, .lookup t m k false=>bif pR h m then Lq P q t m k d else none
 |some d, .range t x=>match P.underlying t,(bw P t q x).bind iH with
  |some .string,some (.str s)=>some ((q.new d (.it s 0)).set (some d) (.ptr d 0))
  |_,_=>none
 |some d, .next x true=>match bw P 0 q x with
  |some (.ptr id 0)=>match q.ob id with
   |some (.it s pos)=>if pos<s.length then
     some (St.set { q with ob:=put q.ob id (some (.it s (pos+(Utf8.decode ⟨s.toArray⟩ pos).2))) } (some d) (.pv (.lQ [.bool true, .int .i64 pos, .int .i32 (Utf8.decode ⟨s.toArray⟩ pos).1])))
    else some (q.set (some d) (.pv (.lQ [.bool false])))
   |_=>none
  |_=>none
 |some d, .build t G=>bif h.rows.contains d then Ev P h q d t G.toList else none
 |some d, .load t x=>bif h.take.contains d then vT P q t x d else none
 |some d, .makeFunc (.func g) first H=>bif first.isEmpty then
   match vN q H.toList with
   |some B=>(tq B H.toList).map λN=>B.set (some d) (.pv (.fn g N))
   |none=>none
  else none
 |d, .call c=>match c.callee with
  | .builtin .append=>match d,c.args.toList,c.argTypes.toList with
   |some d,[x,y],[t,Q]=>match isSlice P t,bw P t q x,bw P Q q y with
    |some (e,s),some (.row id),some y=>match q.ob id,elems q y,P.info? e with
     |some (.row K w xs),some (F,I),some i=>
      if t=Q/\e=K/\s=w/\w=F/\0<w/\(xs.length+I.length) *i.bytes<=140737488355328/\xs.length+I.length<=4611686018427387904/\i.zero.map (λz=>z.cells.size)=some w/\iG id=true then
       some ((q.new id (.row e w (xs++I))).set (some d) (.row id)) else none
     |some (.rn K w k V s2 xs zs),some (F,I),some i=>
      if t=Q/\e=K/\s=w/\w=F/\0<w/\(xs.length+I.length) *i.bytes<=140737488355328/\xs.length+I.length<=4611686018427387904/\i.zero.map (λz=>z.cells.size)=some w/\iG id=true/\I.all (qc k)=true then
       some ((q.new id (.rn e w k V s2 (xs++I.map λc=>c.set k .hole) (zs++I.map λ_=>some []))).set (some d) (.row id)) else none
     |_,_,_=>none
    |some (e,s),some (.at id .full),some y=>match q.ob id,elems q y,P.info? e with
     |some (.row K w xs),some (F,I),some i=>
      if t=Q/\e=K/\s=w/\w=F/\0<w/\(xs.length+I.length) *i.bytes<=140737488355328/\xs.length+I.length<=4611686018427387904/\i.zero.map (λz=>z.cells.size)=some w/\iG id=true/\I.isEmpty=false then
       some ((q.new id (.row e w (xs++I))).set (some d) (.row id)) else none
     |_,_,_=>none
    |_,_,_=>none
   |_,_,_=>none
  | .builtin .delete=>match d,c.args.toList,c.argTypes.toList with
   |none,[m,k],t::_=>wR P q t m k
   |_,_,_=>none
  | .builtin .clear=>match d,c.args.toList,c.argTypes.toList with
   |none,[x],[t]=>match isSlice P t,bw P t q x with
    |some (e,s),some (.sub id w U R)=>match q.ob id,zeroCells P e with
     |some (.row K F xs),some z=>if s=w/\w=F/\z.length=w/\R<=xs.length/\e=K/\0<w then
       some { q with ob:=put q.ob id (some (.row K F (xs.take U++List.replicate (R-U) z++xs.drop R))) } else none
     |_,_=>none
    |_,_=>none
   |_,_,_=>none
  | .value f=>bif d.any h.owns.contains then kJ P h D q c f d else bif d.any h.stay.contains&&wide q c f then none else bif wide q c f then jy P h D q c f d else bif c.args.toList.any (λx=>(oq h q x).isSome) then oS P h D q c f d else
   match jf q c.args.toList with
   |some B=>match bw P 0 B f,jt P B c.args.toList c.argTypes.toList with
    |some (.pv (.fn g H)),some N=>match D g ((N++H).map .pv) [] with
     |some (r,[])=>bif c.args.toList.any (kI B)|| !r.kC then none else some (B.set d (.pv r))
     |_=>none
    |_,_=>none
   |none=>none
  |_=>none
 |_,_=>none
where
 jf (q:St) (l:List Operand):Option St:=bif l.any (vV q) then none else gY q l
 gY (q:St):List Operand->Option St
  |[]=>some q
  | .tmp i::l=>match q.env i with
   |some (.row id)=>(q.dK id).bind λB=>gY B l
   |_=>gY q l
  |_::l=>gY q l
def om:List SV->St->Option St
 |[],q=>some q
 | .row id::l,q=>(q.dK id).bind (om l)
 |_::l,q=>om l q
def step0 (P:Program) (h:Hint) (l:dW) (o:Oper) (q:St):Option St:=
 match eo P h l o q with
 |some v=>some (q.set o.dst v)
 |none=>mC P h l o q
def u7 (l:St) (t:Nat):Option St:=
 match l.env t with
 |some (.row id)=>l.dK id
 |some (.ptr id _)=>match l.ob id with
  |some (.box _ cells)=>om cells l
  |_=>none
 |_=>some l
def ny:List Nat->St->Option St
 |[],q=>some q
 |t::l,q=>(u7 q t).bind (ny l)
def slotsOf (o:Oper):List Nat:=o.op.operands.toList.filterMap fun
 | .tmp t=>some t
 |_=>none
def DN (h:Hint) (o:Oper):List Nat:=bif h.use.isEmpty then[] else(slotsOf o).filter h.use.contains
def step (P:Program) (h:Hint) (l:dW) (o:Oper) (q:St):Option St:=(ny (DN h o) q).bind (step0 P h l o)
def pz (q:Array Oper) (o:Oper) (w:St):Option Bool:=
 match o.guard with
 |none=>some true
 |some (j,l)=>match(q[j]?).bind (·.dst) with
  |some d=>match w.env d with
   |some (.pv (.bool b))=>some (b==l)
   |some .undef=>some false
   |_=>none
  |none=>none
def pS (P:Program) (h:Hint) (q:dW) (w:Array Oper):List Oper->St->Option St
 |[],z=>some z
 |o::l,z=>match pz w o z with
  |some b=>bif b then(step P h q o z).bind (pS P h q w l) else pS P h q w l (z.set o.dst .undef)
  |none=>none
inductive Ex where
 |normal
 |exit (id:Nat)
 |ret
 deriving DecidableEq
def exOf:Nat->Ex
 |0=> .normal
 |_=> .ret
def iter (h:Hint) (key:Nat) (f:St->Option (Ex×St)):Nat->St->Option (Ex×St)
 |0,_=>none
 |n+1,q=>match f (h.canon key q) with
  |some (.normal,l)=>iter h key f n l
  |r=>r
def gF (l:Array Oper) (o:Oper):List Nat:=slotsOf o++match o.guard with
 |some (j,_)=>((l[j]?).bind (·.dst)).toList
 |none=>[]
def ZG (o:Oper) (j:Nat):Bool:=o.after.toList.any λe=>Region.binds .any e&&Nat.beq e.on j
def r5:Nat->List Oper->Bool
 |_,[]=>true
 |i,o::l=>o.after.toList.all (λe=> !(Region.binds .any e)||Nat.blt e.on i)&&r5 (i+1) l
def reach (l:Array Oper):Nat->Nat->Nat->Bool
 |0,_,_=>false
 |n+1,i,j=>match l[i]? with
  |some o=>ZG o j||o.after.toList.any λe=>Region.binds .any e&&reach l n e.on j
  |none=>false
def Ob.s9:Ob->Ob
 | .row e l xs=> .row e l (xs.map λ_=>[])
 | .rn e l k w q xs _=> .rn e l k w q (xs.map λ_=>[]) []
 |_=> .it [] 0
structure fZ where
 rs:List Nat:=[]
 rl:List Nat:=[]
 kp:Nat->Bool:=λ_=>false
 ws:List Nat:=[]
 ro:List Nat:=[]
 wo:List Nat:=[]
 mv:List Nat:=[]
 men:List Nat:=[]
 all:Bool:=false
 we:Nat->Bool:=λ_=>false
 oe:Nat->Bool:=λ_=>false
def meets (a b:List Nat):Bool:=a.any λx=>b.any (Nat.beq x)
def fZ.conflict (a b:fZ):Bool:=a.all||b.all||meets a.ws b.rs||meets a.rs b.ws||meets a.ws b.ws||meets a.wo b.ro||meets a.ro b.wo||meets a.wo b.wo||meets a.mv b.men||meets b.mv a.men||b.rs.any a.we||b.ro.any a.oe||b.rl.any (λj=>a.wo.contains j&& !(a.kp j))||a.rl.any (λj=>b.wo.contains j&& !(b.kp j))
def Lg (q:St):List Operand->List Nat
 |[]=>[]
 | .tmp t::l=>(match q.env t with
  |some s=>s.ids
  |none=>[])++Lg q l
 |_::l=>Lg q l
def Bu (l:St) (o:Oper):List Nat:=Lg l o.op.operands.toList
def targetId:SV->Option Nat
 | .ptr id _=>some id
 | .rp id _ _ _=>some id
 |_=>none
def wE:List Oper->List Nat
 |[]=>[]
 |o::l=>match o.op,o.dst with
  | .alloc _,some d=>d::wE l
  |_,_=>wE l
def wh (q:Array Oper) (l:List (Nat×fZ)) (i:Nat) (f:fZ):Bool:=l.all λp=>reach q 12 i p.1|| !(p.2.conflict f)
def Rj:Op->Bool
 | .move _| .assign _| .pick _ _ _=>true
 |_=>false
def Jn (P:Program) (h:Hint) (o:Oper) (l:St):List Nat:=
 match o.op with
 | .call c=>match c.callee with
  | .value f=>match tD P h l c f with
   |some (_,args)=>bif o.dst.any h.stay.contains then kK l args else[]
   |none=>[]
  |_=>[]
 |_=>[]
def Ob.mentions (id:Nat):Ob->Bool
 | .box _ cells=>cells.any (SV.mentions id)
 |_=>false
def Ob.ids:Ob->List Nat
 | .box _ cells=>cells.flatMap SV.ids
 |_=>[]
def Mo (l:St) (t:Nat):List Nat:=match l.env t with
 |some s=>s.ids
 |none=>[]
def Wx (l:St) (j:Nat):List Nat:=match l.ob j with
 |some o=>o.ids
 |none=>[]
def fZ.fill (q l:St) (f:fZ):fZ:=
 {f with
  men:=f.mv++(f.ro++(f.wo++(f.rs.flatMap (Mo q)++(f.ws.flatMap (Mo l)++(f.ro.flatMap (Wx q)++f.wo.flatMap (Wx l))))))
  we:=λt=>match q.env t with
   |some v=>f.mv.any λid=>v.mentions id
   |none=>false
  oe:=λj=>match q.ob j with
   |some o=>f.mv.any λid=>o.mentions id
   |none=>false }
def lW:fZ:={ all:=true }
def aas:Op->Bool
 | .indexAddr _ _ _=>true
 |_=>false
def uO (P:Program) (h:Hint) (l:Array Oper) (o:Oper) (q:St):fZ:=
 {rs:=gF l o,ws:=o.dst.toList,ro:=bif Rj o.op||aas o.op then[] else Bu q o++Jn P h o q,rl:=bif aas o.op then Bu q o else[] }
def sX (l:Array Oper) (o:Oper):fZ:={ rs:=gF l o,ws:=o.dst.toList }
def AN (P:Program) (l:Array Oper) (o:Oper) (q:St) (a:Operand):fZ:=match(bw P 0 q a).bind targetId with
 |some id=>{ rs:=gF l o,ro:=id::Bu q o,wo:=[id] }
 |none=>lW
def Mz (P:Program) (l:Array Oper) (o:Oper) (q:St) (c:Call):fZ:=match c.args.toList,c.argTypes.toList,o.dst with
 |[x,_],[t,_],some d=>match bw P t q x with
  |some (.row id)=>{ rs:=gF l o,ws:=[d],ro:=id::Bu q o,wo:=[id],mv:=[id] }
  |some (.at id .full)=>{ rs:=gF l o,ws:=[d],ro:=id::Bu q o,wo:=[id],mv:=[id] }
  |_=>lW
 |_,_,_=>lW
def Ql (P:Program) (l:Array Oper) (o:Oper) (q:St) (x:Operand) (d:Nat):fZ:=match bw P 0 q x with
 |some (.rp id _ _ _)=>match q.ob id with
  |some (.rn _ _ _ _ _ _ _)=>{ rs:=gF l o,ws:=[d],ro:=[id],wo:=[id,d],mv:=[d],kp:=λj=>Nat.beq j id&& !(Nat.beq id d) }
  |_=>lW
 |_=>lW
def Dt (P:Program) (l:Array Oper) (o:Oper) (w:St) (t:TypeId) (a x:Operand):fZ:=match bw P 0 w a,bw P t w x with
 |some (.rp id _ _ _),some (.row j)=>{ rs:=gF l o,ro:=[id,j],wo:=[id,j,id+40000],mv:=[j,id+40000],kp:=λq=>Nat.beq q id&& !(Nat.beq id j) }
 |some (.ptr _ _),some (.sub _ _ _ _)=>lW
 |_,_=>AN P l o w a
def uN (P:Program) (h:Hint) (q:Array Oper) (o:Oper) (l:St) (c:Call) (f:Operand):fZ:=match tD P h l c f with
 |some (_,args)=>{ rs:=gF q o,ws:=o.dst.toList,ro:=kK l args,wo:=kK l args,mv:=(kK l args).filter (lE false l (pQ args)) }
 |none=>lW
def kM (P:Program) (h:Hint) (l:Array Oper) (o:Oper) (q:St):fZ:=
 match o.op,o.dst with
 | .store t a x,none=>Dt P l o q t a x
 | .alloc _,some d=>bif h.rows.contains d then lW else { rs:=gF l o,ws:=[d],wo:=[d],mv:=[d] }
 | .buildSlice _ _ _,some d=>bif h.rows.contains d then { rs:=gF l o,ws:=[d],wo:=[d],mv:=[d] } else lW
 | .call c,_=>match c.callee with
  | .builtin .append=>Mz P l o q c
  | .value f=>bif o.dst.any h.owns.contains&& !(o.dst.any (λd=>(wU h d).isSome)) then { rs:=gF l o,ws:=o.dst.toList,wo:=o.dst.toList,mv:=o.dst.toList }
   else bif !(o.dst.any h.owns.contains)&&(!(o.dst.any h.stay.contains)&&wide q c f) then uN P h l o q c f else lW
  |_=>lW
 | .load _ x,some d=>bif h.take.contains d then Ql P l o q x d else lW
 |_,_=>lW
def rB:List Nat->St->St
 |[],q=>q
 |p::l,q=>rB l (q.dF p)
def isF (h:Hint) (l:St) (o:Oper):Bool:=
 match o.op with
 | .buildSlice _ _ _=> !(o.dst.any h.rows.contains)
 | .call c=>match c.callee with
  | .builtin .append=>false
  | .builtin .delete=>false
  | .builtin .clear=>false
  | .value f=> !(o.dst.any h.owns.contains)&&((o.dst.any h.stay.contains&&wide l c f)|| !(wide l c f||c.args.toList.any (λx=>(oq h l x).isSome)))
  |_=>true
 | .assign x=>match o.dst,x with
  |some d, .const (.slice none 0 0)=> !(h.rows.contains d)
  |some d,x=>(!(h.mq.contains d)&& !(h.mvs.contains d))|| !(kI l x)
  |none,_=>true
 | .lookup _ x _ ok=> !(pR h x&& !ok)
 | .makeFunc _ _ _| .move _| .pick _ _ _| .binOp _ _ _ _ _| .unOp _ _ _| .convert _ _ _| .fieldAddr _ _ _| .field _ _ _| .indexAddr _ _ _| .index _ _ _| .slice _ _ _ _ _| .extract _ _| .nilCheck _=>true
 | .build _ _=> !(o.dst.any h.rows.contains)
 | .load _ _=> !(o.dst.any h.take.contains)
 |_=>false
def isW:Op->Bool
 | .buildSlice _ _ _| .build _ _| .load _ _=>true
 |_=>false
def isWc (l:St):Op->Bool
 | .call c=>match c.callee with
  | .value _=> !(c.args.toList.any (kI l))
  |_=>false
 |_=>false
def vi:List SV->List Nat
 |[]=>[]
 | .row id::l=>id::vi l
 |_::l=>vi l
def Nv (l:St) (t:Nat):fZ:=
 match l.env t with
 |some (.row id)=>{ rs:=[t],ro:=[id],wo:=[id],mv:=[id] }
 |some (.ptr id _)=>match l.ob id with
  |some (.box _ cells)=>{ rs:=[t],ro:=id::vi cells,wo:=vi cells,mv:=vi cells }
  |_=>lW
 |_=>{ rs:=[t] }
def fZ.then (a b:fZ):fZ:={ rs:=a.rs++b.rs,ws:=b.ws++a.ws,ro:=a.ro++b.ro,wo:=b.wo++a.wo,mv:=a.mv++b.mv,all:=a.all||b.all,rl:=a.rl++b.rl,kp:=λj=>(a.kp j|| !(a.wo.contains j))&&(b.kp j|| !(b.wo.contains j)) }
def K9 (P:Program) (h:Hint) (q:Array Oper) (o:Oper):List Nat->St->fZ
 |[],w=>bif isF h w o then(bif isW o.op||isWc w o.op then uO P h q o w else lW) else kM P h q o w
 |t::l,w=>match u7 w t with
  |some z=>(Nv w t).then (K9 P h q o l z)
  |none=>lW
def tG (P:Program) (h:Hint) (l:Array Oper) (o:Oper) (q:St):fZ:=(K9 P h l o (DN h o) q).then { rs:=gF l o }
def jI (P:Program) (h:Hint) (w:dW) (q:Array Oper):Nat->List Oper->List (Nat×fZ)->St->Option St
 |_,[],_,z=>some z
 |i,o::l,B,z=>match pz q o z with
  |none=>none
  |some b=>bif b then
    bif isF h z o&&(DN h o).isEmpty then
     match eo P h w o z with
     |some v=>bif wh q B i ((uO P h q o z).fill z (z.set o.dst v)) then jI P h w q (i+1) l ((i,(uO P h q o z).fill z (z.set o.dst v))::B) (z.set o.dst v) else none
     |none=>none
    else match step P h w o z with
     |some D=>bif wh q B i ((tG P h q o z).fill z D) then jI P h w q (i+1) l ((i,(tG P h q o z).fill z D)::B) D else none
     |none=>none
   else bif wh q B i ((sX q o).fill z (z.set o.dst .undef)) then jI P h w q (i+1) l ((i,(sX q o).fill z (z.set o.dst .undef))::B) (z.set o.dst .undef) else none
def St.Ja (l:St) (id:Nat):Option St:=
 match l.ob id with
 |some (.box _ _)=>l.pO id
 |none=>some l
 |_=>l.dK id
def yu:List Nat->St->Option St
 |[],q=>some q
 |id::l,q=>(q.Ja id).bind (yu l)
def Hint.acP (h:Hint) (id:Nat) (q:St):Option St:=
 match find h.nT id with
 |some l=>yu l q
 |none=>some q
def exec (P:Program) (h:Hint) (l:dW) (n:Nat):Code->St->Option (Ex×St)
 | .skip,q=>some (.normal,q)
 | .label _,q=>some (.normal,q)
 | .region id w B,q=>(h.acP id q).bind λq=>
  bif B then
   bif r5 0 w.toList then(jI P h l w 0 w.toList [] (rB (wE w.toList) q)).map λs=>(.normal,s) else none
  else(pS P h l w w.toList q).map λs=>(.normal,s)
 | .seq a b,q=>match find h.blk (dR a) with
  |some x=>bif x.1 q then some (exOf (x.2 q).1,(x.2 q).2) else none
  |none=>match exec P h l n a q with
   |some (.normal,z)=>exec P h l n b z
   |r=>r
 | .cond c a b,q=>match bw P 0 q c with
  |some (.pv (.bool t))=>bif t then exec P h l n a q else exec P h l n b q
  |_=>none
 | .block id c,q=>match exec P h l n c q with
  |some (.exit j,z)=>bif Nat.beq j id then some (.normal,z) else some (.exit j,z)
  |r=>r
 | .loop c,q=>iter h (dR c) (exec P h l n c) n q
 | .exit id,q=>some (.exit id,q)
 | .ret,q=>some (.ret,q)
 | .scope c,q=>exec P h l n c q
 |_,_=>none
def x6:Nat->List SV->List (Nat×SV)
 |_,[]=>[]
 |i,v::l=>(i,v)::x6 (i+1) l
def St.Nx (q:St) (id:Nat):Option St:=
 match q.ob id with
 |some (.box _ cells)=>(om cells q).bind λl=>l.pO id
 |_=>none
def Ny (q:St) (t:Nat):Option (St×AV):=
 match q.env t with
 |some (.pv v)=>some (q,v)
 |some (.ptr id 0)=>match q.Nx id with
  |some l=>match l.env t with
   |some (.cp w)=>some (l, .ref w)
   |_=>none
  |none=>none
 |some (.row id)=>match q.dK id with
  |some l=>match l.env t with
   |some (.pv v)=>some (l,v)
   |_=>none
  |none=>none
 |_=>none
def sM (P:Program):List ResultVar->St->Option (St×List AV)
 |[],z=>some (z,[])
 | .tmp t::l,z=>match Ny z t with
  |some (w,v)=>match sM P l w with
   |some (q,B)=>some (q,v::B)
   |none=>none
  |none=>none
 | .cell ad t::l,z=>match eU P ⟨none, .load t (.tmp ad),t, "", #[],none⟩ z with
  |some (.pv v)=>match sM P l z with
   |some (q,B)=>some (q,v::B)
   |none=>none
  |some (.row id)=>match z.dK id with
   |some w=>match eU P ⟨none, .load t (.tmp ad),t, "", #[],none⟩ w with
    |some (.pv v)=>match sM P l w with
     |some (q,B)=>some (q,v::B)
     |none=>none
    |_=>none
   |none=>none
  |_=>none
def result:List AV->AV
 |[v]=>v
 |vs=> .lQ vs
def oR (names:List Nat) (q:St):List Nat->Option (List (Nat×Ob))
 |[]=>some []
 |id::l=>match q.ob id,oR names q l with
  |some o,some w=>bif o.closed names then some ((id,o)::w) else none
  |_,_=>none
def nM (N:Nat):Code->Bool
 | .region _ l _=>l.toList.all λo=>match o.dst with
  |some d=>Nat.blt d N
  |none=>true
 | .seq a b=>nM N a&&nM N b
 | .cond _ a b=>nM N a&&nM N b
 | .block _ c=>nM N c
 | .loop c=>nM N c
 | .scope c=>nM N c
 |_=>true
def Tv (fn:Func):Bool:=Nat.ble fn.ntmps 10000&& !(fn.name== "runtime.NumGoroutine")&&match fn.body with
 |some c=>nM fn.ntmps c
 |none=>true
def Cg (P:Program):Bool:=P.follows .mixedOrders&&P.funcs.toList.all Tv&&Nat.ble P.funcs.size 1000000
def NR (fn:Func) (names:List Nat) (l:St):Option Nat:=
 match fn.results.toList,names with
 |[.tmp t],[10000]=>match l.env t,l.ob 10000 with
  |some (.row 10000),some (.row _ _ xs)=>some xs.length
  |some (.sub 10000 _ 0 n),some (.row _ _ _)=>some n
  |_,_=>none
 |_,_=>none
def UD (fn:Func) (l:St):Option AV:=
 match fn.results.toList with
 |[.tmp t]=>match l.env t with
  |some (.row id)=>match wW id,l.ob id with
   |true,some (.row e q xs)=>some (.lQ [.lQ [.self e, .dH q xs]])
   |_,_=>none
  |_=>none
 |_=>none
def ZN (P:Program) (own:Bool) (fn:Func) (names:List Nat) (e:Ex) (q:St):Option (AV×List (Nat×Ob)):=
 match e with
 | .exit _=>none
 |_=>bif own then
   match UD fn q,oR names q names with
   |some r,some l=>some (r,l)
   |_,_=>none
  else match NR fn names q with
  |some n=>match oR names q names with
   |some l=>some (.self n,l)
   |none=>none
  |none=>match sM P fn.results.toList q with
   |some (w,z)=>match oR names w names with
    |some l=>some (result z,l)
    |none=>none
   |none=>none
def ZM (P:Program) (own:Bool) (fn:Func) (cE:List (Nat×Ob)) (e:Ex) (l:St):Option (AV×List (Nat×Ob)):=ZN P own fn (cE.map (·.1)) e l
def nQ (P:Program) (H:Nat->Hint) (eY:dW):Nat->dW
 |0=>λ_ _ _=>none
 |n+1=>λf args cE=>match eY f args cE with
  |some r=>some r
  |none=>match P.funcs[f]? with
   |some fn=>match fn.body with
    |some c=>
     bif Nat.ble args.length fn.ntmps&&(cE.map (·.1)).all (λi=> !(wW i)) then
      match exec P (H f) (nQ P H eY n) n c { env:=find (x6 0 args),ob:=find cE } with
      |some (e,l)=>ZM P (H f).own fn cE e l
      |none=>none
     else none
    |none=>none
   |none=>none
