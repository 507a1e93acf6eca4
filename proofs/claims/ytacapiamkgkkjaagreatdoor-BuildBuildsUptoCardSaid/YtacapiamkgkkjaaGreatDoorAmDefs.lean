/- AN ABSTRACT MACHINE over the model's code. -/
import Derived.Calls
import Derived.CallsIn
import Derived.OrdersIn
import Derived.LoopNIn
import Derived.TacticsIn
import Derived.RangeFuncIn
import Derived.Orders
import Derived.LoopN
import Derived.Scope
import Derived.Below
import Derived.Laws.OwnMore
import Derived.Maps.AppendAt
import Derived.Laws.BytesString
set_option linter.all false
def af {p:Prop} (h:p:=by omega):p:=h
def ai {p:Prop} (h:p:=by simp):p:=h
def aH {p:Prop} (h:p:=by simp;omega):p:=h
abbrev dx:=@Option.bind_eq_some_iff
abbrev fZ:=@if_true
abbrev aM:=@Option.some.injEq
abbrev aR:=@congrArg
abbrev cg:=@List.cons.injEq
abbrev c9:=@and_true
abbrev ga:=@Array.getElem?_eq_some_iff
abbrev iK:=@List.mem_of_mem_drop
abbrev sJ:=@List.mem_of_mem_take
abbrev bA:=@List.mem_append
abbrev jw:=@Nat.add_mul
abbrev Gw:=@List.drop_succ_cons
abbrev Gx:=@List.take_succ_cons
abbrev aW:=@Nat.le_refl
abbrev c4:=@Nat.zero_le
abbrev bJ:=@Go.run_underlying
abbrev gj:=@Go.Sem.run_bind
abbrev gG:=@Go.Result.andThen_ok
abbrev fC:=@List.length_take
abbrev Ar:=@Go.run_loadCells_list
abbrev cv:=@Option.map_eq_some_iff
abbrev oO:=@Option.isSome_iff_exists
abbrev aB:=@if_pos
abbrev As:=@List.drop_length_add_append
abbrev kR:=@List.eq_nil_of_length_eq_zero
abbrev bf:=@List.mem_of_getElem?
abbrev oP:=@List.getElem?_take
abbrev fO:=@List.foldl_cons
abbrev bu:=@List.map_cons
abbrev kS:=@Nat.add_assoc
abbrev bP:=@List.getElem?_eq_some_iff
abbrev wq:=@List.getElem?_drop
abbrev jS:=@Nat.mul_le_mul_right
abbrev aN:=@List.getElem?_eq_getElem
abbrev eN:=@Nat.zero_add
abbrev Au:=@Go.Value.pointer.injEq
abbrev Av:=@Go.Addr.mk.injEq
abbrev Gy:=@List.drop_take
abbrev aA:=@if_neg
abbrev aI:=@List.mem_cons
abbrev bw:=@List.length_cons
abbrev Gz:=@List.take_set_of_le
abbrev GA:=@List.drop_set_of_lt
abbrev ew:=@List.append_assoc
abbrev fS:=@List.cons_append
abbrev dS:=@List.nil_append
abbrev lX:=@Nat.add_zero
abbrev tj:=@Array.length_toList
abbrev Qm:=@Array.toList_zipIdx
abbrev gH:=@List.all_cons
abbrev aK:=@Bool.and_eq_true
abbrev tn:=@List.mapM_cons
abbrev fk:=@List.map_map
abbrev lY:=@Function.comp_def
abbrev cF:=@List.all_eq_true
abbrev GB:=@List.getElem?_toArray
abbrev Aw:=@Option.map_none
abbrev aj:=@cond_true
abbrev eE:=@Nat.le_trans
abbrev bD:=@Prod.mk.injEq
abbrev tq:=@Nat.eq_of_beq_eq_true
abbrev gz:=@Nat.beq_refl
abbrev nj:=@List.any_cons
abbrev jT:=@Bool.or_eq_false_iff
abbrev wu:=@Array.getElem?_setIfInBounds_ne
abbrev iQ:=@List.mem_iff_getElem
abbrev GC:=@List.getElem?_eq_none_iff
abbrev Ay:=@Array.getElem?_eq_getElem
abbrev eW:=@Nat.lt_of_lt_of_le
abbrev fD:=@List.getElem?_append_right
abbrev tu:=@List.replicate_succ
abbrev au:=@cond_false
abbrev nq:=@Nat.succ_mul
abbrev jU:=@Nat.add_comm
abbrev wv:=@List.range_add
abbrev kT:=@List.ext_getElem?
abbrev jV:=@List.take_of_length_le
abbrev wz:=@Nat.zero_mul
abbrev eX:=@List.getElem?_append_left
abbrev ic:=@Go.RowKit.Below.refl
abbrev qW:=@Go.heap_alloc_new
abbrev Az:=@Nat.mul_le_mul_left
abbrev aD:=@List.mem_map
abbrev dP:=@List.getElem?_map
abbrev qX:=@List.range'_succ
abbrev cz:=@Nat.blt_eq
abbrev wA:=@Go.run_storeCells_at
abbrev lZ:=@Go.Sem.run_pure
abbrev eY:=@List.map_nil
abbrev wB:=@Go.setRow_other
abbrev AA:=@Go.setRow_heap
abbrev wC:=@Nat.min_eq_left
abbrev cM:=@List.length_append
abbrev qY:=@not_true_eq_false
abbrev eF:=@if_false
abbrev bC:=@List.length_map
abbrev GD:=@List.set_eq_take_append_cons_drop
abbrev GF:=@List.take_length_add_append
abbrev gA:=@Bool.or_eq_true
abbrev dg:=@Ne.symm
abbrev pQ:=@List.size_toArray
abbrev kH:=@List.getElem?_set_self
abbrev bZ:=@List.map_append
abbrev iE:=@List.nodup_append
abbrev gO:=@Bool.not_eq_true'
abbrev ny:=@List.getElem?_set
abbrev gP:=@List.getElem?_set_ne
abbrev pR:=@List.mem_or_eq_of_mem_set
abbrev yC:=@List.set_append_left
abbrev pS:=@List.set_append_right
abbrev kI:=@Nat.lt_of_le_of_lt
abbrev uy:=@List.any_eq_false
abbrev fe:=@List.mem_filterMap
abbrev bS:=@List.mem_singleton
abbrev eG:=@Option.bind_some
abbrev uz:=@Go.callsIn_wide
abbrev ff:=@Nat.le_of_ble_eq_true
abbrev yD:=@List.nodup_nil
abbrev fM:=@List.nodup_cons
abbrev dF:=@List.mem_cons_of_mem
abbrev nC:=@not_or
abbrev lP:=@Bool.and_eq_true_iff
abbrev di:=@Bool.not_true
abbrev ja:=@Bool.false_or
abbrev cE:=@List.mem_filter
abbrev cT:=@List.mem_append_left
abbrev gQ:=@List.mem_append_right
abbrev cR:=@true_and
abbrev yE:=@List.filter_eq_self
abbrev lQ:=@List.filter_congr
abbrev uA:=@Bool.true_or
abbrev rz:=@Bool.and_true
abbrev rA:=@List.drop_length
abbrev dN:=@List.append_nil
abbrev yF:=@List.all_nil
abbrev jH:=@Bool.and_self
abbrev fN:=@List.mem_cons_self
abbrev dB:=@Bool.false_eq_true
abbrev nD:=@false_imp_iff
abbrev gR:=@List.map_congr_left
abbrev pT:=@List.map_id
abbrev cV:=@Option.map_some
abbrev nE:=@Option.getD_some
abbrev yG:=@List.filter_eq_nil_iff
abbrev fB:=@Option.some.inj
abbrev lR:=@Nat.add_sub_cancel
abbrev jd:=@Array.toList_append
abbrev rB:=@Bool.or_false
abbrev aS:=@decide_eq_false_iff_not
abbrev nF:=@List.not_mem_nil
abbrev pV:=@or_false
abbrev pX:=@Bool.false_and
abbrev gp:=@List.mem_range
abbrev iF:=@Bool.eq_iff_iff
abbrev rC:=@Option.any_some
abbrev yH:=@List.isEmpty_iff
abbrev DP:=@Array.all_eq_true'
abbrev ef:=@Classical.byContradiction
abbrev dO:=@List.pairwise_cons
abbrev DQ:=@List.append_of_mem
abbrev rD:=@List.pairwise_append
abbrev nG:=@Go.wpIn_mono
abbrev uB:=@Array.getElem?_append_left
abbrev iG:=@dif_pos
abbrev rE:=@Nat.le_max_left
abbrev rF:=@Nat.le_max_right
abbrev jI:=@List.any_eq_true
abbrev uC:=@Nat.ble_eq_true_of_le
abbrev gq:=@Bool.true_and
abbrev bq:=@List.getD_eq_getElem?_getD
abbrev fU:=@Int.eq_ofNat_of_zero_le
abbrev je:=@decide_eq_true_eq
abbrev gT:=@beq_iff_eq
abbrev DR:=@UInt8.lt_iff_toNat_lt
abbrev gB:=@List.length_drop
abbrev eS:=@List.length_nil
abbrev aV:=@Int.toNat_natCast
abbrev uD:=@List.findIdx?_cons
abbrev uE:=@decide_false
abbrev yI:=@List.findIdx?_eq_some_iff_getElem
abbrev pY:=@List.map_set
abbrev nH:=@List.ext_getElem
abbrev lS:=@List.map_drop
abbrev uF:=@List.map_replicate
abbrev gC:=@and_assoc
abbrev yJ:=@Go.mapM_some_length
abbrev uG:=@List.idxOf_cons
abbrev jf:=@beq_eq_false_iff_ne
abbrev kJ:=@bne_iff_ne
abbrev fV:=@List.filter_cons
abbrev rG:=@List.prefix_refl
abbrev yK:=@List.IsPrefix.trans
abbrev c8:=@List.length_singleton
abbrev kK:=@List.pairwise_map
abbrev gu:=@List.getElem?_eq_none
abbrev rH:=@List.getElem?_cons_succ
abbrev yL:=@List.length_pos_of_mem
abbrev uH:=@List.getElem?_range
abbrev DS:=@Int.natCast_nonneg
abbrev nJ:=@List.mem_of_find?_eq_some
abbrev pZ:=@List.find?_some
abbrev uI:=@List.find?_eq_none
abbrev DT:=@List.length_filterMap_le
abbrev rI:=@Nat.lt_irrefl
abbrev nK:=@Nat.sub_self
abbrev rJ:=@List.length_replicate
abbrev lT:=@Nat.testBit_and
abbrev uJ:=@Nat.eq_of_testBit_eq
abbrev DU:=@List.findIdx?_eq_none_iff
abbrev cG:=@List.getElem_mem
abbrev rK:=@List.getElem_inj
abbrev kL:=@List.range_succ
abbrev kM:=@List.getElem_map
abbrev DV:=@List.getElem_range
abbrev yM:=@List.range_eq_range'
abbrev nM:=@List.drop_eq_nil_of_le
abbrev jg:=@List.drop_eq_getElem_cons
abbrev nN:=@Nat.and_le_left
abbrev yN:=@Nat.testBit_lt_two_pow
abbrev uK:=@Nat.pow_le_pow_right
abbrev nP:=@decide_eq_decide
abbrev iH:=@List.mem_map_of_mem
abbrev nQ:=@List.take_append_drop
abbrev eB:=@Bool.not_false
abbrev uL:=@Nat.sub_zero
abbrev DW:=@List.filter_filter
abbrev dr:=@List.take_add_one
abbrev gw:=@List.take_length
abbrev uM:=@decide_true
abbrev uN:=@List.mem_take_iff_getElem
abbrev yO:=@Bool.true_eq_false
abbrev yP:=@List.getElem?_cons_zero
abbrev uO:=@List.take_left'
abbrev DX:=@List.length_eq_one_iff
abbrev p5:=@List.length_filter_le
abbrev kN:=@List.getElem?_replicate
abbrev DY:=@Int.fdiv_eq_ediv_of_nonneg
abbrev bz:=@decide_eq_true_iff
abbrev DZ:=@List.filter_append
abbrev nR:=@List.pairwise_iff_getElem
abbrev nS:=@List.length_eq_zero_iff
abbrev yQ:=@List.filter_sublist
abbrev yR:=@Nat.lt_trichotomy
abbrev lU:=@List.find?_cons
abbrev p6:=@List.flatMap_cons
abbrev nT:=@List.drop_zero
abbrev D0:=@Option.isSome_some
abbrev ji:=@List.length_set
abbrev yS:=@Int.lt_trichotomy
abbrev rL:=@List.idxOf_append
abbrev rM:=@List.set_cons_zero
abbrev uP:=@List.drop_append_of_le_length
abbrev yT:=@List.replicate_zero
abbrev uQ:=@List.replicate_succ'
abbrev jJ:=@List.mem_iff_getElem?
abbrev nU:=@Nat.mul_le_mul
abbrev uR:=@List.pairwise_singleton
abbrev rN:=@List.sum_cons
abbrev p7:=@decide_eq_false
abbrev D1:=@List.getElem_cons_succ
abbrev rO:=@dif_neg
abbrev D2:=@List.contains_iff_mem
abbrev lV:=@of_decide_eq_true
abbrev uS:=@decide_eq_true
abbrev lW:=@Int.le_refl
abbrev yU:=@Array.getElem?_modify
abbrev yV:=@Nat.mul_one
abbrev yW:=@of_decide_eq_false
abbrev uT:=@List.flatten_cons
abbrev p8:=@List.getElem!_eq_getElem?_getD
abbrev D3:=@List.getElem!_toArray
abbrev yX:=@Go.Addr.add_lit
abbrev uU:=@Go.wpList_append_own
abbrev uV:=@Go.World.ownsRow_made
abbrev yY:=@Go.callsIn_of_wp
abbrev uW:=@Array.replicate_succ
abbrev uX:=@Array.replicate_zero
abbrev uY:=@List.push_toArray
abbrev uZ:=@List.append_toArray
open BitVec (ofInt)
namespace Go.AM
inductive AV where
 |bool (b:Bool)
 |int (k:IntKind) (n:Int)
 |str (s:List UInt8)
 |dy (sz:Nat) (xs:List (List AV))
 |agg (cs:List AV)
 |fn (f:Nat) (caps:List AV)
 |gM (vs:List AV)
 |ref (cs:List AV)
 |mp (ks vs:List AV)
 |self (n:Nat)
 |qz
 |tH
 |hole
 deriving Inhabited
inductive oC where
 |v (a:AV)
 |p (id:Nat)
 |r (id:Nat)
 deriving Inhabited
inductive Ak where
 |full
 |nr (i:Nat)
 |bs (n:Nat)
 deriving Inhabited
inductive SV where
 |undef
 |any
 |pv (v:AV)
 |ptr (id off:Nat)
 |row (id:Nat)
 |rp (id sz i off:Nat)
 |sub (id sz lo hi:Nat)
 |cp (cs:List AV)
 |cl (f:Nat) (caps:List oC)
 |two (v w:SV)
 |ag (cs:List oC)
 |aq (id:Nat) (q:Ak)
 deriving Inhabited
inductive Ob where
 |box (t:TypeId) (cells:List SV)
 |row (e:TypeId) (sz:Nat) (xs:List (List AV))
 |mp (k e:TypeId) (ks vs:List AV)
 |mr (k e:TypeId) (sz:Nat) (ks:List AV) (vs:List (Option (List (List AV))))
 |it (s:List UInt8) (pos:Nat)
  |lp (xs:List AV)
  |rn (e:TypeId) (sz k:Nat) (e':TypeId) (sz':Nat) (xs:List (List AV)) (ys:List (Option (List (List AV))))
 deriving Inhabited
structure St where
 env:Nat->Option SV
 ob:Nat->Option Ob
def AV.cells:AV->List AV
 | .agg l=>l
 |v=>[v]
def AV.Hh:AV->Bool
 | .gM _=>false
 |_=>true
def AV.Wk:AV->Bool
 | .gM _=>true
 |_=>false
def AV.jF:AV->Bool
 | .self _=>false
 | .gM l=>bif Nat.beq l.length 1 then !(l.any AV.Wk) else true
 |_=>true
def AV.scalar:AV->Bool
 | .bool _| .int _ _| .str _=>true
 |_=>false
def AV.plain:AV->Bool
 | .gM l=>l.all AV.scalar
 |v=>v.scalar
def find {q:Type}:List (Nat×q)->Nat->Option q
 |[],_=>none
 |(j,v)::l,i=>cond (Nat.beq j i) (some v) (find l i)
def put {l:Type} (m:Nat->Option l) (d:Nat) (v:Option l):Nat->Option l:=λi=>cond (Nat.beq d i) v (m i)
def St.set (l:St) (d:Option Nat) (v:SV):St:=
 match d with
 |some d=>{ l with env:=put l.env d (some v) }
 |none=>l
structure Hint where
 loops:List (Nat×List Nat×List Nat):=[]
 rows:List Nat:=[]
 mF:List Nat:=[]
 fP:List Nat:=[]
 mY:List (Nat×List Nat):=[]
 stay:List Nat:=[]
 keep:List Nat:=[]
 blk:List (Nat×(St->Bool)×(St->Nat×St)):=[]
 use:List Nat:=[]
 owns:List Nat:=[]
 own:Bool:=false
 tH:List (Nat×List (Nat×TypeId×Nat)):=[]
 take:List Nat:=[]
 OF:List (Nat×List Nat):=[]
 nest:List (Nat×Nat×TypeId×Nat):=[]
 mvs:List Nat:=[]
 bx:List Nat:=[]
 ua:List (Nat×Nat×List Nat):=[]
def s7 {q:Type} (m:Nat->Option q):List Nat->List (Nat×q)
 |[]=>[]
 |i::l=>match m i with
  |some v=>(i,v)::s7 m l
  |none=>s7 m l
def Hint.canon (h:Hint) (key:Nat) (w:St):St:=
 match find h.loops key with
 |some (l,q)=>{ env:=find (s7 w.env l),ob:=find (s7 w.ob q) }
 |none=>w
def e7:Code->Nat
 | .region id _ _=>id
 | .seq a _=>e7 a
 | .cond _ a _=>e7 a
 | .block _ c=>e7 c
 | .loop c=>e7 c
 | .scope c=>e7 c
 |_=>0
def isSlice (P:Program) (t:TypeId):Option (TypeId×Nat):=
 match P.underlying t with
 |some (.slice e)=>(P.info? e).map λi=>(e,i.size)
 |_=>none
def DN (P:Program) (t:TypeId):Option Bool:=
 match P.underlying t with
 |some (.struct _)|some (.array _ _)=>some true
 |some _=>some false
 |none=>none
def lF (P:Program) (t:TypeId):Option Nat:=(P.info? t).map (·.size)
def ofConst (P:Program) (t:TypeId):Value->Option AV
 | .bool b=>some (.bool b)
 | .int k n=>some (.int k n)
 | .string s=>some (.str s.data.toList)
 | .slice none 0 0=>(isSlice P t).map λx=> .dy x.2 []
 | .pointer none=>some .qz
 | .nilFunc=>some .hole
 | .map none=>match P.underlying t with
  |some (.map _ _)=>some (.mp [] [])
  |_=>none
 |_=>none
def bG (P:Program) (t:TypeId) (st:St):Operand->Option SV
 | .tmp i=>st.env i
 | .const v=>(ofConst P t v).map .pv
 | .func f=>some (.pv (.fn f []))
 | .global _=>none
def sW (P:Program):Nat->TypeId->List TypeId
 |0,_=>[]
 |n+1,t=>match P.underlying t with
  |some (.struct l)=>l.toList.flatMap λf=>sW P n f.type
  |some (.array m e)=>(List.replicate m (sW P n e)).flatten
  |_=>[t]
def od (P:Program):List TypeId->List Value->Option (List AV)
 |[],[]=>some []
 |t::l,v::q=>match ofConst P t v,od P l q with
  |some a,some as=>some (a::as)
  |_,_=>none
 |_,_=>none
def zeroCells (P:Program) (t:TypeId):Option (List AV):=
 match P.info? t with
 |some i=>match i.zero with
  |some z=>od P (sW P 8 t) z.cells.toList
  |none=>none
 |none=>none
def E9:List Nat->List AV->Option (List AV)
 |[],l=>some l
 |k::q,l=>match l[k]? with
  |some (.dy _ [])=>(E9 q l).map λz=>z.set k .tH
  |_=>none
def Nb (P:Program) (h:Hint) (d:Option Nat) (t:TypeId):Option (List AV):=
 match d.bind (find h.OF) with
 |some l=>(zeroCells P t).bind (E9 l)
 |none=>zeroCells P t
def FT (op:BinOp) (k:IntKind) (a b:Int):Option AV:=
 match op with
 | .add=>some (.int k (k.wrap (a+b)))
 | .sub=>some (.int k (k.wrap (a-b)))
 | .mul=>some (.int k (k.wrap (a *b)))
 | .quo=>if b=0 then none else some (.int k (k.wrap (a.tdiv b)))
 | .rem=>if b=0 then none else some (.int k (a.tmod b))
 | .and=>some (.int k (k.wrap (ofInt k.bits a&&&ofInt k.bits b).toNat))
 | .or=>some (.int k (k.wrap (ofInt k.bits a|||ofInt k.bits b).toNat))
 | .xor=>some (.int k (k.wrap (ofInt k.bits a^^^ ofInt k.bits b).toNat))
 | .andNot=>some (.int k (k.wrap (ofInt k.bits a&&& ~~~ofInt k.bits b).toNat))
 | .eql=>some (.bool (a==b))
 | .neq=>some (.bool (a !=b))
 | .lss=>some (.bool (a<b))
 | .leq=>some (.bool (a<=b))
 | .gtr=>some (.bool (a>b))
 | .geq=>some (.bool (a>=b))
 | .shl| .shr=>none
def BE (op:BinOp) (k:IntKind) (a b:Int):Option AV:=
 if b<0 then none else
 match op with
 | .shl=>some (.int k (k.wrap (a *2^ min b.toNat k.bits)))
 | .shr=>some (.int k (a.fdiv (2^ min b.toNat k.bits)))
 |_=>none
def Vq (op:BinOp) (a b:List UInt8):Option AV:=
 match op with
 | .add=>if a.length+b.length<=9223372036854775807 then some (.str (a++b)) else none
 | .eql=>some (.bool (a==b))
 | .neq=>some (.bool !(a==b))
 | .lss=>some (.bool (Op.bytesLess a b))
 | .leq=>some (.bool (Op.bytesLess a b||a==b))
 | .gtr=>some (.bool !(Op.bytesLess a b||a==b))
 | .geq=>some (.bool !(Op.bytesLess a b))
 |_=>none
def wL:AV->AV->Option Bool
 | .str a, .str b=>some (a==b)
 | .int k a, .int k' b=>if k=k' then some (a==b) else none
 | .bool a, .bool b=>some (a==b)
 |_,_=>none
def jZ (P:Program) (k:TypeId) (key:AV):Bool:=
 match P.underlying k,key with
 |some .string, .str _=>true
 |some (.int q), .int l _=>q==l
 |some .bool, .bool _=>true
 |_,_=>false
def L5 (P:Program) (xs l:List AV):List Field->Option Bool
 |[]=>some true
 |f::w=>match xs[f.offset]?,l[f.offset]? with
  |some a,some b=>bif !(f.name== "_")&&jZ P f.type a&&jZ P f.type b&&(lF P f.type).isSome then
    match wL a b,L5 P xs l w with
    |some r,some q=>some (r&&q)
    |_,_=>none
   else none
  |_,_=>none
def Tu (P:Program) (op:BinOp) (t:TypeId) (xs q:List AV):Option AV:=
 match P.underlying t with
 |some (.struct l)=>bif !(P.stoodInHeld t)&& !(P.eqGuardType P.depth t) then
   match op,L5 P xs q l.toList with
   | .eql,some b=>some (.bool b)
   | .neq,some b=>some (.bool !b)
   |_,_=>none
  else none
 |_=>none
def bin (P:Program) (op:BinOp) (t:TypeId) (x y:AV):Option AV:=
 match x,y with
 | .agg xs, .agg l=>Tu P op t xs l
 | .int k a, .int k' b=>match op with
  | .shl| .shr=>BE op k a b
  |_=>if k=k' then FT op k a b else none
 | .str a, .str b=>Vq op a b
 | .bool a, .bool b=>match P.underlying t,op with
  |some .bool, .eql=>some (.bool (a==b))
  |some .bool, .neq=>some (.bool !(a==b))
  |_,_=>none
 |_,_=>none
def un (op:UnOp) (x:AV):Option AV:=
 match op,x with
 | .neg, .int k n=>some (.int k (k.wrap (0-n)))
 | .not, .bool b=>some (.bool !b)
 |_,_=>none
def iU :SV->Option AV
 | .pv v=>some v
 |_=>none
def mL:List SV->Option (List AV)
 |[]=>some []
 | .pv v::l=>(mL l).map (v:: ·)
 |_::_=>none
def wD:List SV->Option (List oC)
 |[]=>some []
 | .pv v::l=>(wD l).map (.v v:: ·)
 | .row id::l=>(wD l).map (.r id:: ·)
 |_::_=>none
def iV (P:Program) (t:TypeId) (l:List AV):Option AV:=
 match DN P t,lF P t with
 |some true,some n=>if n<=l.length then some (.agg (l.take n)) else none
 |some false,some _=>l[0]?
 |_,_=>none
def wG (P:Program) (t:TypeId) (f:Nat):Option Field:=
 match P.underlying t with
 |some (.struct l)=>l[f]?
 |_=>none
def xP (place:Nat->Option (Nat×Nat)) (cells:List AV):List (Nat×AV)->Option (List AV)
 |[]=>some cells
 |(i,v)::q=>match place i with
  |none=>none
  |some (l,size)=>if v.cells.length=size/\l+size<=cells.length then xP place (cells.take l++v.cells++cells.drop (l+size)) q else none
def pJ (P:Program) (t:TypeId) (f:Nat):Option (Nat×Nat):=
 match wG P t f with
 |some fd=>(lF P fd.type).map λn=>(fd.offset,n)
 |none=>none
def partsOf (P:Program) (ty:Nat->TypeId) (st:St):List (Nat×Operand)->Option (List (Nat×AV))
 |[]=>some []
 |(i,x)::l=>match(bG P (ty i) st x).bind iU,partsOf P ty st l with
  |some v,some q=>some ((i,v)::q)
  |_,_=>none
def Eo (P:Program) (t:TypeId) (i:Nat):TypeId:=((wG P t i).map (·.type)).getD 0
def chunks (q:Nat):Nat->List AV->List (List AV)
 |0,_=>[]
 |n+1,l=>l.take q::chunks q n (l.drop q)
def tK (z:List AV):Nat->List AV
 |0=>[]
 |n+1=>z++tK z n
def elems (q:St):SV->Option (Nat×List (List AV))
 | .pv (.dy l xs)=>some (l,xs)
 | .row id=>match q.ob id with
  |some (.row _ l xs)=>some (l,xs)
  |_=>none
 | .sub id s z w=>match q.ob id with
  |some (.row _ l xs)=>bif Nat.beq s l then some (l,(xs.take w).drop z) else none
  |_=>none
 |_=>none
def lenOf (l:St):SV->Option Nat
 | .pv (.dy _ xs)=>some xs.length
 | .row id=>match l.ob id with
  |some (.row _ _ xs)=>some xs.length
  |some (.rn _ _ _ _ _ xs _)=>some xs.length
  |_=>none
 | .aq _ (.bs n)=>some n
 |_=>none
def qp (key:AV):List AV->Option (Option Nat)
 |[]=>some none
 |x::l=>match wL key x with
  |some true=>some (some 0)
  |some false=>(qp key l).map λr=>r.map (· +1)
  |none=>none
def UP {l:Type} (key:AV) (ks:List AV) (q:List l):Option (Option l):=
 match qp key ks with
 |some (some i)=>(q[i]?).map some
 |some none=>some none
 |none=>none
def Ds {q:Type} (key:AV) (v:q) (l:List AV) (w:List q):Option (List AV×List q):=
 match qp key l with
 |some (some i)=>some (l,w.set i v)
 |some none=>some (l++[key],w++[v])
 |none=>none
def mdel {w:Type} (key:AV) (l:List AV) (q:List w):Option (List AV×List w):=
 match qp key l with
 |some (some i)=>some (l.eraseIdx i,q.eraseIdx i)
 |some none=>some (l,q)
 |none=>none
def maps (w:St):SV->Option (List AV×List AV)
 | .pv (.mp l q)=>some (l,q)
 | .row id=>match w.ob id with
  |some (.mp _ _ l q)=>some (l,q)
  |_=>none
 |_=>none
def G5 (q:St):SV->Option (List AV)
 | .row id=>match q.ob id with
  |some (.mr _ _ _ l _)=>some l
  |_=>none
 |_=>none
def qm (P:Program) (t:TypeId):Option AV:=
 match P.info? t with
 |some i=>match i.zero with
  |some (.agg l)=>(od P (sW P 8 t) l.toList).map .agg
  |some v=>ofConst P t v
  |none=>none
 |none=>none
def found (ok:Bool) (v:AV) (b:Bool):AV:=bif ok then .gM [v, .bool b] else v
def bytesOf:List (List AV)->Option (List UInt8)
 |[]=>some []
 |[.int .u8 n]::l=>(bytesOf l).map (UInt8.ofNat n.toNat:: ·)
 |_=>none
def ig (w:Option SV) (l:Nat) (q:Nat):Option Nat:=
 match w with
 |none=>some l
 |some (.pv (.int _ i))=>if 0<=i/\i<=q then some i.toNat else none
 |some _=>none
def nX (P:Program) (l:St):Option Operand->Option (Option SV)
 |none=>some none
 |some x=>(bG P 0 l x).map some
def ab3 (l:Bool):AV->AV->Option AV
 | .int k a, .int k' b=>if k=k' then some (.int k (if l then(if b>a then b else a) else(if b<a then b else a))) else none
 | .str a, .str b=>some (.str (bif l then(bif !(Op.bytesLess a b) then a else b) else(bif Op.bytesLess a b||a==b then a else b)))
 |_,_=>none
def mT (P:Program) (z:St) (q:Bool) (w:AV):List Operand->Option AV
 |[]=>some w
 |x::l=>match(bG P 0 z x).bind iU with
  |some v=>match ab3 q w v with
   |some r=>mT P z q r l
   |none=>none
  |none=>none
def x8 (P:Program) (c:Call) (q:St):Option SV:=
 match c.callee,c.args.toList with
 | .builtin .len,[x]=>match c.argTypes.toList with
  |[t]=>match P.underlying t,bG P t q x with
   |some .string,some (.pv (.str s))=>some (.pv (.int .i64 s.length))
   |some (.slice _),some (.pv .tH)=>some (.pv (.int .i64 0))
   |some (.slice _),some (.sub _ _ z w)=>some (.pv (.int .i64 ((w-z:Nat):Int)))
   |some (.slice _),some v=>(lenOf q v).map λ(n:Nat)=>SV.pv (.int .i64 (n:Int))
   |some (.map _ _),some v=>(maps q v).map λe=> .pv (.int .i64 e.1.length)
   |_,_=>none
  |_=>none
 | .builtin .max,x::l=>match(bG P 0 q x).bind iU with
  |some v=>(mT P q true v l).map .pv
  |none=>none
 | .builtin .min,x::l=>match(bG P 0 q x).bind iU with
  |some v=>(mT P q false v l).map .pv
  |none=>none
 |_,_=>none
def Dk (P:Program) (q:St) (n:Nat) (e:TypeId) (x z:Operand):Option SV:=
 match lF P e,bG P 0 q x,bG P 0 q z with
 |some s,some (.ptr id l),some (.pv (.int _ i))=>if 0<=i/\i<n/\0<s then some (.ptr id (l+i.toNat *s)) else none
 |some s,some (.rp id B j l),some (.pv (.int _ i))=>if 0<=i/\i<n/\0<s then some (.rp id B j (l+i.toNat *s)) else none
 |some s,some (.cp w),some (.pv (.int _ i))=>if 0<=i/\i<n/\0<s then some (.cp (w.drop (i.toNat *s))) else none
 |_,_,_=>none
def xT (P:Program) (q:St) (t:TypeId) (x B:Operand):Option SV:=
 match isSlice P t,bG P t q x,bG P 0 q B with
 |some (_,s),some (.pv (.dy l xs)),some (.pv (.int _ i))=>if s=l/\0<=i then(xs[i.toNat]?).map .cp else none
 |some (_,s),some (.row id),some (.pv (.int _ i))=>match q.ob id with
  |some (.row _ l xs)=>if s=l/\0<=i/\i.toNat<xs.length then some (.rp id l i.toNat 0) else none
  |some (.rn _ l _ _ _ xs _)=>if s=l/\0<=i/\i.toNat<xs.length then some (.rp id l i.toNat 0) else none
  |_=>none
 |some (_,s),some (.sub id l w z),some (.pv (.int _ i))=>if s=l/\0<=i/\i.toNat<z-w then some (.rp id l (w+i.toNat) 0) else none
 |some (_,s),some (.aq id (.bs n)),some (.pv (.int _ i))=>if s=1/\0<=i/\i.toNat<n then some (.ptr id i.toNat) else none
 |_,_,_=>none
def y5 (P:Program) (z:Option (List AV)) (t:TypeId) (l:Array (Nat×Operand)) (B:St):Option SV:=
 match P.underlying t with
 |some (.struct D)=>match z,partsOf P (Eo P t) B l.toList with
  |some z,some q=>if q.all (λp=>p.2.Hh)=true/\D.toList.all (λf=>(lF P f.type).isSome)=true then(xP (pJ P t) z q).map λw=> .pv (.agg w) else none
  |_,_=>none
 |some (.array _ e)=>match z,partsOf P (λ_=>e) B l.toList,lF P e with
  |some z,some q,some s=>if q.all (λp=>p.2.Hh)=true then(xP (λi=>some (i *s,s)) z q).map λw=> .pv (.agg w) else none
  |_,_,_=>none
 |_=>none
def V5 (P:Program) (l:St) (t:TypeId) (x:Operand) (w q:Option Operand) (z:Operand):Option SV:=
 match w,q with
 |none,some q=>match bG P t l x with
  |some (.row id)=>match l.ob id,isSlice P t,bG P 0 l q,bG P 0 l z with
   |some (.row _ B xs),some (_,s),some (.pv (.int _ a)),some (.pv (.int _ b))=>if s=B/\a=(xs.length:Int)/\b=(xs.length:Int) then some (.aq id .full) else none
   |_,_,_,_=>none
  |_=>none
 |_,_=>none
def eU (P:Program) (o:Oper) (q:St):Option SV:=
 match o.op with
 | .move x| .assign x=>bG P o.type q x
 | .pick c a b=>match bG P 0 q c with
  |some (.pv (.bool t))=>bif t then bG P o.type q a else bG P o.type q b
  |_=>none
 | .binOp op t x y _=>match(bG P t q x).bind iU,(bG P t q y).bind iU with
  |some a,some b=>(bin P op t a b).map .pv
  |_,_=>none
 | .unOp op _ x=>match(bG P 0 q x).bind iU with
  |some a=>(un op a).map .pv
  |none=>none
 | .convert src N x=>match P.underlying src,P.underlying N with
  |some (.slice e),some .string=>match P.underlying e,lF P e,(bG P src q x).bind (elems q) with
   |some (.int .u8),some 1,some (1,xs)=>(bytesOf xs).map λb=> .pv (.str b)
   |_,_,_=>none
  |some _,some (.int k)=>match(bG P 0 q x).bind iU with
   |some (.int _ n)=>some (.pv (.int k (k.wrap n)))
   |_=>none
  |some _,some .string=>match(bG P 0 q x).bind iU with
   |some (.str s)=>some (.pv (.str s))
   |_=>none
  |_,_=>none
 | .call c=>x8 P c q
 | .nilCheck x=>match bG P 0 q x with
  |some (.ptr id w)=>some (.ptr id w)
  |some (.cp B)=>some (.cp B)
  |some (.pv (.ref B))=>some (.pv (.ref B))
  |some (.rp id D i w)=>some (.rp id D i w)
  |_=>none
 | .fieldAddr t x f=>match wG P t f with
  |some fd=>match lF P fd.type with
   |some 0=>none
   |some _=>match bG P 0 q x with
    |some (.ptr id w)=>some (.ptr id (w+fd.offset))
    |some (.cp B)=>some (.cp (B.drop fd.offset))
    |some (.pv (.ref B))=>some (.cp (B.drop fd.offset))
    |some (.rp id D i w)=>some (.rp id D i (w+fd.offset))
    |_=>none
   |none=>none
  |none=>none
 | .field t x f=>match wG P t f,(bG P 0 q x).bind iU with
  |some fd,some (.agg B)=>(iV P fd.type (B.drop fd.offset)).map .pv
  |_,_=>none
 | .indexAddr t x K=>match P.underlying t with
  |some (.array n e)=>Dk P q n e x K
  |_=>xT P q t x K
 | .index t x K=>match P.underlying t,bG P t q x,bG P 0 q K with
  |some .string,some (.pv (.str s)),some (.pv (.int _ i))=>if 0<=i then(s[i.toNat]?).map λb=> .pv (.int .u8 b.toNat) else none
  |_,_,_=>none
 | .load t x=>match bG P 0 q x with
  |some (.cp B)=>(iV P t B).map .pv
  |some (.pv (.ref B))=>(iV P t B).map .pv
  |some (.rp id D i w)=>match q.ob id with
   |some (.row _ I xs)=>if D=I then(xs[i]?).bind λc=>(iV P t (c.drop w)).map .pv else none
   |some (.rn _ I k _ _ xs _)=>if D=I/\w=k/\i<xs.length/\DN P t=some false then some (.aq id (.nr i)) else none
   |_=>none
  |some (.ptr id w)=>match q.ob id with
   |some (.box _ cells)=>match DN P t with
    |some false=>if(lF P t).isSome then cells[w]? else none
    |some true=>match lF P t with
     |some n=>if w+n<=cells.length then match mL ((cells.drop w).take n) with
       |some B=>some (.pv (.agg B))
       |none=>(wD ((cells.drop w).take n)).map .ag
      else none
     |none=>none
    |none=>none
   |_=>none
  |_=>none
 | .slice t x G F none=>match P.underlying t,bG P t q x,nX P q G,nX P q F with
  |some .string,some (.pv (.str s)),some G,some F=>match ig F s.length s.length with
   |some h=>(ig G 0 h).map λl=> .pv (.str ((s.take h).drop l))
   |none=>none
  |some (.slice _),some (.pv (.dy D xs)),some G,some F=>match isSlice P t,ig F xs.length xs.length with
   |some (_,s),some h=>if s=D then(ig G 0 h).map λl=> .pv (.dy D ((xs.take h).drop l)) else none
   |_,_=>none
  |some (.slice _),some (.row id),some G,some F=>match isSlice P t,q.ob id with
   |some (_,s),some (.row _ D xs)=>match ig F xs.length xs.length with
    |some h=>if s=D then(ig G 0 h).map λl=> .sub id D l h else none
    |none=>none
   |_,_=>none
  |some (.slice _),some (.sub id D a b),some G,some F=>match isSlice P t,ig F (b-a) (b-a) with
   |some (_,s),some h=>if s=D then(ig G 0 h).map λl=> .sub id D (a+l) (a+h) else none
   |_,_=>none
  |_,_,_,_=>none
 | .slice t x G F (some S)=>V5 P q t x G F S
 | .extract x i=>match bG P 0 q x with
  |some (.pv (.gM Q))=>(Q[i]?).map .pv
  |some (.two v b)=>match i with
   |0=>some v
   |1=>some b
   |_=>none
  |_=>none
 | .lookup t x k ok=>match P.underlying t with
  |some (.map L R)=>match(bG P t q x).bind (G5 q),(bG P L q k).bind iU with
   |some O,some key=>bif ok&&jZ P L key&&(qm P R).isSome then(qp key O).map λr=> .two .any (.pv (.bool r.isSome)) else none
   |_,_=>match(bG P t q x).bind (maps q),(bG P L q k).bind iU with
   |some (O,Q),some key=>bif jZ P L key then
     match UP key O Q with
     |some (some v)=>some (.pv (found ok v true))
     |some none=>(qm P R).map λz=> .pv (found ok z false)
     |none=>none
    else none
   |_,_=>none
  |_=>none
 | .build t H=>y5 P (zeroCells P t) t H q
 |_=>none
def oC.mentions (id:Nat):oC->Bool
 | .p j| .r j=>Nat.beq j id
 | .v _=>false
def SV.mentions (id:Nat):SV->Bool
 | .ptr j _| .row j| .rp j _ _ _| .sub j _ _ _=>Nat.beq j id
 | .cl _ l=>l.any (oC.mentions id)
 | .ag l=>l.any (oC.mentions id)
 | .two v w=>v.mentions id||w.mentions id
 | .aq j _=>Nat.beq j id||Nat.beq (j+40000) id
 |_=>false
def SV.dA (id:Nat) (v:SV):SV:=bif v.mentions id then .any else v
def Ob.dA (id:Nat):Ob->Ob
 | .box t cells=> .box t (cells.map (SV.dA id))
 |o=>o
def St.dA (l:St) (id:Nat):St:=
 {env:=λi=>(l.env i).map (SV.dA id),ob:=put (λi=>(l.ob i).map (Ob.dA id)) id none }
def St.new (l:St) (id:Nat) (o:Ob):St:=
 let s:=l.dA id
 {s with ob:=put s.ob id (some o) }
def SV.cZ (id:Nat) (v:AV):SV->SV
 | .row j=>bif Nat.beq j id then .pv v else .row j
 | .ag [.r j]=>bif Nat.beq j id then .pv (.agg [v]) else .ag [.r j]
 |s=>s.dA id
def oI {q:Type}:List (Option q)->Option (List q)
 |[]=>some []
 |some x::l=>(oI l).map (x:: ·)
 |none::_=>none
def vZ (k l:Nat):List (List AV)->List (List (List AV))->List (List AV)
 |x::xs,y::q=>x.set k (.dy l y)::vZ k l xs q
 |_,_=>[]
def Ob.val:Ob->Option AV
 | .row _ q xs=>some (.dy q xs)
 | .mp _ _ w B=>some (.mp w B)
 | .mr _ _ q w B=>(oI B).map λl=> .mp w (l.map (.dy q))
 | .box _ _=>none
 | .it _ _=>none
 | .lp _=>none
 | .rn _ q k _ z xs D=>(oI D).map λl=> .dy q (vZ k z xs l)
def Ob.cZ (id:Nat) (v:AV):Ob->Ob
 | .box t cells=> .box t (cells.map (SV.cZ id v))
 |o=>o
def iC (id:Nat):Bool:=Nat.blt id 10000
def St.cZ (l:St) (id:Nat):Option St:=
 match iC id,(l.ob id).bind Ob.val with
 |true,some v=>some { env:=λi=>(l.env i).map (SV.cZ id v),ob:=put (λi=>(l.ob i).map (Ob.cZ id v)) id none }
 |_,_=>none
def SV.qu (id:Nat) (q:List AV):SV->SV
 | .ptr j l=>bif Nat.beq j id then .cp (q.drop l) else .ptr j l
 |s=>s.dA id
def Ob.qu (id:Nat) (l:List AV):Ob->Ob
 | .box t cells=> .box t (cells.map (SV.qu id l))
 |o=>o
def St.qu (l:St) (id:Nat):Option St:=
 match iC id,l.ob id with
 |true,some (.box _ cells)=>match mL cells with
  |some q=>some { env:=λi=>(l.env i).map (SV.qu id q),ob:=put (λi=>(l.ob i).map (Ob.qu id q)) id none }
  |none=>none
 |_,_=>none
def wR (q:St):List Operand->Option St
 |[]=>some q
 | .tmp i::l=>match q.env i with
  |some (.ptr id _)=>(q.qu id).bind λw=>wR w l
  |_=>wR q l
 |_::l=>wR q l
def kE (q:St):List oC->Option (List AV)
 |[]=>some []
 | .v a::l=>(kE q l).map (a:: ·)
 | .r id::l=>match(q.ob id).bind Ob.val,kE q l with
  |some v,some w=>some (v::w)
  |_,_=>none
 | .p _::_=>none
def mE (l:St):SV->Option AV
 | .pv v=>some v
 | .row id=>(l.ob id).bind Ob.val
 | .ag q=>(kE l q).map .agg
 | .aq id (.nr i)=>match l.ob id with
  |some (.rn _ _ _ _ w _ z)=>match z[i]? with
   |some (some B)=>some (.dy w B)
   |_=>none
  |_=>none
 |_=>none
def jM (P:Program) (l:St):List Operand->List TypeId->Option (List AV)
 |[],_=>some []
 |x::xs,q=>match(bG P (q.headD 0) l x).bind (mE l),jM P l xs q.tail with
  |some v,some w=>some (v::w)
  |_,_=>none
def lC (l:St):Operand->Bool
 | .tmp i=>match l.env i with
  |some (.row _)=>true
  |some (.ag _)=>true
  |some (.aq _ _)=>true
  |_=>false
 |_=>false
def xd (l:St):Operand->Bool
 | .tmp i=>match l.env i with
  |some (.ag _)=>true
  |some (.aq _ _)=>true
  |_=>false
 |_=>false
def tX (w:St):List Operand->Option (List AV)
 |[]=>some []
 | .tmp i::l=>match w.env i,tX w l with
  |some (.pv v),some q=>some (v::q)
  |some (.cp z),some q=>some (.ref z::q)
  |_,_=>none
 |_::_=>none
def qK (z:St):List Operand->Option (List oC)
 |[]=>some []
 | .tmp i::l=>match z.env i,qK z l with
  |some (.pv v),some q=>some (.v v::q)
  |some (.cp w),some q=>some (.v (.ref w)::q)
  |some (.ptr id 0),some q=>some (.p id::q)
  |_,_=>none
 |_::_=>none
def lu (P:Program) (t:TypeId) (len:Nat) (l:List (Nat×Operand)) (st:St):Option (TypeId×Nat×List (List AV)):=
 match isSlice P t with
 |some (e,s)=>match zeroCells P e,partsOf P (λ_=>e) st l with
  |some z,some q=>
   if len *s<=16777216/\0<s/\z.length=s/\q.all (λp=>p.2.Hh)=true then
    (xP (λi=>some (i *s,s)) (tK z len) q).map λw=>(e,s,chunks s len w)
   else none
  |_,_=>none
 |none=>none
abbrev eM:=Nat->List SV->List (Nat×Ob)->Option (AV×List (Nat×Ob))
def pE (h:Hint) (l:St):Operand->Option Nat
 | .tmp t=>bif h.fP.contains t then
   match l.env t with
   |some (.row id)=>some id
   |_=>none
  else none
 |_=>none
def qv (h:Hint):Operand->Bool
 | .tmp t=>h.rows.contains t
 |_=>false
def gE (id:Nat):Bool:=Nat.blt id 10000||(Nat.ble 20000 id&&Nat.blt id 30000)
def SV.ids:SV->List Nat
 | .ptr j _| .row j| .rp j _ _ _| .sub j _ _ _=>[j]
 | .cl _ l=>l.filterMap fun
  | .p j| .r j=>some j
  | .v _=>none
 | .ag l=>l.filterMap fun
  | .p j| .r j=>some j
  | .v _=>none
 | .two v w=>v.ids++w.ids
 | .aq j _=>[j,j+40000]
 |_=>[]
def SV.O2:SV->List Nat
 | .aq j _=>[j]
 |v=>v.ids
def SV.closed (names:List Nat):SV->Bool
 | .ptr j _| .row j| .rp j _ _ _| .sub j _ _ _=>names.contains j
 | .cl _ l=>l.all fun
  | .p j| .r j=>names.contains j
  | .v _=>true
 | .ag l=>l.all fun
  | .p j| .r j=>names.contains j
  | .v _=>true
 | .two v w=>v.closed names&&w.closed names
 | .aq _ _=>false
 |_=>true
def Ob.closed (names:List Nat):Ob->Bool
 | .box _ cells=>cells.all (SV.closed names)
 | .row _ _ _=>true
 | .mp _ _ _ _=>true
 | .mr _ _ _ _ _=>false
 | .it _ _=>true
 | .lp _=>true
 | .rn _ _ _ _ _ _ _=>true
def EA (st:St):Operand->Bool
 | .tmp t=>match st.env t with
  |some (.ptr _ _)=>true
  |some (.cl _ _)=>true
  |_=>false
 |_=>false
def Um (l:St):Operand->Bool
 | .tmp t=>match l.env t with
  |some (.cl _ _)=>true
  |_=>false
 |_=>false
def wide (st:St) (c:Call) (f:Operand):Bool:=Um st f||c.args.toList.any (EA st)
def isRef (h:Hint):Operand->Bool
 | .tmp t=>h.fP.contains t
 |_=>false
def Zy (P:Program) (h:Hint) (z:St) (t:TypeId) (x:Operand):Option SV:=
 match bG P t z x with
 |some (.pv v)=>some (.pv v)
 |some (.ptr id q)=>some (.ptr id q)
 |some (.row id)=>bif isRef h x then some (.row id) else none
 |some (.cl f l)=>some (.cl f l)
 |some (.cp w)=>some (.cp w)
 |_=>none
def tW (P:Program) (h:Hint) (l:St):List Operand->List TypeId->Option (List SV)
 |[],_=>some []
 |x::xs,q=>match Zy P h l (q.headD 0) x,tW P h l xs q.tail with
  |some v,some w=>some (v::w)
  |_,_=>none
def Jc:oC->SV
 | .v a=> .pv a
 | .p id=> .ptr id 0
 | .r id=> .row id
def Ro:SV->Option (Nat×List SV×List SV)
 | .pv (.fn g l)=>bif Nat.blt g 1000000 then some (g,[],l.map .pv) else none
 | .cl g l=>bif Nat.blt g 1000000 then some (g,[],l.map Jc) else bif Nat.blt g 2000000 then some (g-1000000,l.map Jc,[]) else match l with
  |[c]=>some (g,[],[Jc c])
  |_=>none
 |_=>none
def B4 (l:St) (id:Nat):List Nat:=
 match l.ob id with
 |some (.box _ cells)=>cells.flatMap SV.ids
 |_=>[]
def gD (q:St):Nat->List Nat->List Nat->List Nat
 |0,_,done=>done
 |_+1,[],done=>done
 |n+1,id::l,done=>bif done.contains id then gD q n l done else gD q n (l++B4 q id) (done++[id])
def pH:List SV->List Nat
 |[]=>[]
 | .row id::l=>id::pH l
 |_::l=>pH l
def N7 (l:St) (id:Nat):Bool:=
 match l.ob id with
 |some (.row _ _ _)=>true
 |_=>false
def ij (q:Bool) (w:St) (l:List Nat) (id:Nat):Bool:=N7 w id&&gE id&& !(l.contains id)&& !q
def iW (q:Nat->Bool):Nat->List Nat->List (Nat×Nat)
 |_,[]=>[]
 |k,id::l=>(id,bif q id then 20000+k else 10000+k)::iW q (k+1) l
def swap:List (Nat×Nat)->List (Nat×Nat)
 |[]=>[]
 |(a,b)::l=>(b,a)::swap l
def iD (m:List (Nat×Nat)) (id:Nat):Nat:=(find m id).getD id
def oC.pG (l:Nat->Nat):oC->oC
 | .p id=> .p (l id)
 | .r id=> .r (l id)
 |c=>c
def SV.pG (q:Nat->Nat):SV->SV
 | .ptr j z=> .ptr (q j) z
 | .row j=> .row (q j)
 | .rp j B i z=> .rp (q j) B i z
 | .sub j B F D=> .sub (q j) B F D
 | .cl f l=> .cl f (l.map (oC.pG q))
 | .ag l=> .ag (l.map (oC.pG q))
 | .two v w=> .two (v.pG q) (w.pG q)
 |s=>s
def Ob.pG (l:Nat->Nat):Ob->Ob
 | .box t cells=> .box t (cells.map (SV.pG l))
 |o=>o
def jN (q:St) (ids:List Nat) (w:Nat->Nat):List (Nat×Nat)->Option (List (Nat×Ob))
 |[]=>some []
 |(id,z)::l=>match q.ob id,jN q ids w l with
  |some o,some B=>bif o.closed ids then some ((z,o.pG w)::B) else none
  |_,_=>none
def mM (names:List Nat) (w:Nat->Nat):List (Nat×Nat)->List (Nat×Ob)->Option (List (Nat×Ob))
 |[],[]=>some []
 |(id,z)::l,(q,o)::B=>bif Nat.beq z q&&o.closed names then(mM names w l B).map λr=>(id,o.pG w)::r else none
 |_,_=>none
def distinct:List Nat->Bool
 |[]=>true
 |x::l=> !(l.contains x)&&distinct l
def fu:List Nat->St->St
 |[],q=>q
 |id::l,q=>fu l (q.dA id)
mutual
def AV.same:AV->AV->Bool
 | .bool a, .bool b=>a==b
 | .int k a, .int k' b=>decide (k=k')&&decide (a=b)
 | .str a, .str b=>decide (a=b)
 | .dy s xs, .dy s' ys=>Nat.beq s s'&&BC xs ys
 | .agg a, .agg b=>sk a b
 | .fn f a, .fn g b=>Nat.beq f g&&sk a b
 | .gM a, .gM b=>sk a b
 | .ref a, .ref b=>sk a b
 | .mp a b, .mp c d=>sk a c&&sk b d
 | .self a, .self b=>Nat.beq a b
 | .qz, .qz=>true
 | .tH, .tH=>true
 | .hole, .hole=>true
 |_,_=>false
def sk:List AV->List AV->Bool
 |[],[]=>true
 |a::l,b::m=>AV.same a b&&sk l m
 |_,_=>false
def BC:List (List AV)->List (List AV)->Bool
 |[],[]=>true
 |a::l,b::m=>sk a b&&BC l m
 |_,_=>false
end
def oC.same:oC->oC->Bool
 | .v a, .v b=>AV.same a b
 | .p a, .p b=>Nat.beq a b
 | .r a, .r b=>Nat.beq a b
 |_,_=>false
def sn:List oC->List oC->Bool
 |[],[]=>true
 |a::l,b::m=>oC.same a b&&sn l m
 |_,_=>false
def Ak.same:Ak->Ak->Bool
 | .full, .full=>true
 | .nr i, .nr j=>Nat.beq i j
 | .bs i, .bs j=>Nat.beq i j
 |_,_=>false
def SV.same:SV->SV->Bool
 | .undef, .undef=>true
 | .any, .any=>true
 | .pv a, .pv b=>AV.same a b
 | .ptr a b, .ptr c d=>Nat.beq a c&&Nat.beq b d
 | .row a, .row b=>Nat.beq a b
 | .rp a b c d, .rp l w c' z=>Nat.beq a l&&Nat.beq b w&&Nat.beq c c'&&Nat.beq d z
 | .sub a b c d, .sub l w c' z=>Nat.beq a l&&Nat.beq b w&&Nat.beq c c'&&Nat.beq d z
 | .cp a, .cp b=>sk a b
 | .cl f a, .cl g b=>Nat.beq f g&&sn a b
 | .two s a, .two t b=>SV.same s t&&SV.same a b
 | .ag a, .ag b=>sn a b
 | .aq a q, .aq b r=>Nat.beq a b&&Ak.same q r
 |_,_=>false
def wV:List SV->List SV->Bool
 |[],[]=>true
 |a::l,b::m=>SV.same a b&&wV l m
 |_,_=>false
def qS:List (Option (List (List AV)))->List (Option (List (List AV)))->Bool
 |[],[]=>true
 |some a::l,some b::m=>BC a b&&qS l m
 |none::l,none::m=>qS l m
 |_,_=>false
def Ob.same:Ob->Ob->Bool
 | .box t a, .box u b=>Nat.beq t u&&wV a b
 | .row e s xs, .row l q I=>Nat.beq e l&&Nat.beq s q&&BC xs I
 | .mp k e a b, .mp k' l c d=>Nat.beq k k'&&Nat.beq e l&&sk a c&&sk b d
 | .mr k e s a b, .mr k' l q c d=>Nat.beq k k'&&Nat.beq e l&&Nat.beq s q&&sk a c&&qS b d
 | .it s p, .it q B=>decide (s=q)&&Nat.beq p B
 | .lp a, .lp b=>sk a b
 | .rn e s k w D x y, .rn l q k' z F G H=>Nat.beq e l&&Nat.beq s q&&Nat.beq k k'&&Nat.beq w z&&Nat.beq D F&&BC x G&&qS y H
 |_,_=>false
def vh:List (Nat×Ob)->List (Nat×Ob)->Bool
 |[],[]=>true
 |(i,a)::l,(j,b)::m=>Nat.beq i j&&Ob.same a b&&vh l m
 |_,_=>false
def uj (P:Program) (h:Hint) (q:St) (c:Call) (f:Operand):Option (Nat×List SV):=
 match(bG P 0 q f).bind Ro,tW P h q c.args.toList c.argTypes.toList with
 |some (g,pre,l),some w=>some (g,pre++(w++l))
 |_,_=>none
def jB (l:St) (args:List SV):List Nat:=gD l 200 (args.flatMap SV.ids) []
def jO (ids:List Nat):List (Nat×Nat):=iW (λ_=>false) 0 ids
def sK (P:Program) (h:Hint) (q:eM) (l:St) (c:Call) (f:Operand):Option AV:=
 match uj P h l c f with
 |some (g,args)=>
  bif distinct (jB l args)&&Nat.blt (jB l args).length 10000&&args.all (SV.closed (jB l args)) then
   match jN l (jB l args) (iD (jO (jB l args))) (jO (jB l args)) with
   |some cL=>match q g (args.map (SV.pG (iD (jO (jB l args))))) cL with
    |some (r,w)=>bif vh w cL&&r.jF then some r else none
    |none=>none
   |none=>none
  else none
 |none=>none
def dW (P:Program) (h:Hint) (cC:eM) (o:Oper) (st:St):Option SV:=
 match o.op with
 | .buildSlice t len q=>bif(o.dst.any h.rows.contains||o.dst.any h.fP.contains) then none else(lu P t len q.toList st).map λx=> .pv (.dy x.2.1 x.2.2)
 | .call c=>match c.callee with
  | .value f=>bif o.dst.any h.owns.contains then none else bif o.dst.any h.stay.contains&&wide st c f then(sK P h cC st c f).map .pv else
   bif wide st c f||c.args.toList.any (λx=>(pE h st x).isSome) then none else
   match bG P 0 st f,jM P st c.args.toList c.argTypes.toList with
   |some (.pv (.fn g l)),some z=>match cC g ((z++l).map .pv) [] with
    |some (r,[])=>bif(!(c.args.toList.any (lC st))||r.plain)&&r.jF then some (.pv r) else none
    |_=>none
   |_,_=>none
  |_=>x8 P c st
 | .lookup _ x _ ok=>bif qv h x&& !ok then none else eU P o st
 | .build t q=>bif o.dst.any h.rows.contains then none else y5 P (Nb P h o.dst t) t q st
 | .load _ _=>bif o.dst.any h.take.contains then none else eU P o st
 | .makeFunc (.func g) first l=>bif first.isEmpty then
   bif o.dst.any h.fP.contains then bif Nat.blt g 1000000 then(qK st l.toList).map λw=> .cl g w else none
   else(tX st l.toList).map λz=> .pv (.fn g z)
  else bif l.isEmpty&&o.dst.any h.fP.contains&&Nat.blt g 1000000 then(qK st first.toList).map λw=> .cl (g+1000000) w else none
 | .assign x=>match o.dst,x,eU P o st with
  |some d, .const _,some (.pv (.dy B xs))=>bif h.rows.contains d then none else some (.pv (.dy B xs))
  |some d,_,some (.row id)=>bif h.mF.contains d||h.mvs.contains d then none else some (.row id)
  |_,_,r=>r
 |_=>eU P o st
def oJ (l:St):SV->Bool
 | .pv (.agg _)| .pv (.gM _)=>false
 | .pv _=>true
 | .ptr _ _| .rp _ _ _ _| .cp _| .cl _ _=>true
 | .row id=>match l.ob id with
  |some (.row _ _ _)=>true
  |some (.mp _ _ _ _)=>true
  |some (.rn _ _ _ _ _ _ _)=>true
  |_=>false
 |_=>false
def storeAt (P:Program) (t:TypeId) (q:St) (a:SV) (v:SV):Option St:=
 match a with
 | .ptr id l=>match q.ob id,lF P t with
  |some (.box B cells),some n=>match v with
   | .ag w=>if w.length=n/\l+n<=cells.length then
     some { q with ob:=put q.ob id (some (.box B (cells.take l++w.map Jc++cells.drop (l+n)))) } else none
   | .pv (.agg w)=>if w.length=n/\l+n<=cells.length then
     some { q with ob:=put q.ob id (some (.box B (cells.take l++w.map .pv++cells.drop (l+n)))) } else none
   |v=>if n=1/\l<cells.length/\oJ q v=true then some { q with ob:=put q.ob id (some (.box B (cells.set l v))) } else none
  |_,_=>none
 | .rp id D i l=>match q.ob id,lF P t,v with
  |some (.row e z xs),some n, .pv v=>match xs[i]? with
   |some c=>if D=z/\v.cells.length=n/\l+n<=c.length/\v.Hh=true then
     some { q with ob:=put q.ob id (some (.row e z (xs.set i (c.take l++v.cells++c.drop (l+n))))) } else none
   |none=>none
  |_,_,_=>none
 |_=>none
def B6 (P:Program) (h:Hint) (l:St):List Operand->List TypeId->Option (List SV×List Nat)
 |[],_=>some ([],[])
 |x::xs,w=>match pE h l x,B6 P h l xs w.tail with
  |some id,some (q,ids)=>some (.row 10000::q,id::ids)
  |none,some (q,ids)=>match(bG P (w.headD 0) l x).bind iU with
   |some v=>some (.pv v::q,ids)
   |none=>none
  |_,none=>none
def qa (P:Program) (h:Hint) (l:eM) (z:St) (c:Call) (f:Operand) (d:Option Nat):Option St:=
 match bG P 0 z f,B6 P h z c.args.toList c.argTypes.toList with
 |some (.pv (.fn g B)),some (H,[id])=>match z.ob id with
  |some (.row e F xs)=>match l g (H++B.map .pv) [(10000, .row e F xs)] with
   |some (r,[(G, .row D q w)])=>bif Nat.beq e D&&Nat.beq F q&&Nat.beq G 10000 then
     match r with
     | .self n=>bif Nat.ble n w.length&&gE id then some ((z.new id (.row D q (w.take n))).set d (.row id)) else none
     |r=>bif r.plain then some (St.set { z with ob:=put z.ob id (some (.row D q w)) } d (.pv r)) else none
    else none
   |_=>none
  |_=>none
 |_,_=>none
def jX (P:Program) (h:Hint) (l:eM) (w:St) (c:Call) (f:Operand) (d:Option Nat):Option St:=
 match(bG P 0 w f).bind Ro,tW P h w c.args.toList c.argTypes.toList with
 |some (g,pre,B),some H=>
  let args:=pre++(H++B)
  let ids:=gD w 200 (args.flatMap SV.ids) [];let F:=ij (d.any h.stay.contains) w (pH args);let m:=iW F 0 ids;let names:=m.map (·.2);let G:=iD m
  bif distinct ids&&Nat.blt ids.length 10000&&args.all (SV.closed ids) then
   match jN w ids G m with
   |some cL=>match l g (args.map (SV.pG G)) cL with
    |some (r,q)=>match mM names (iD (swap m)) m q with
     |some z=>bif r.jF then
       let D:=fu (ids.filter F) w
       some (St.set { env:=D.env,ob:=λi=>(find z i).orElse λ_=>D.ob i } d (.pv r)) else none
     |none=>none
    |none=>none
   |none=>none
  else none
 |_,_=>none
def yw (P:Program) (t:TypeId):Option (List Value):=
 match P.info? t with
 |some i=>i.zero.map λz=>z.cells.toList
 |none=>none
def nV (P:Program) (w:List Nat) (d:Nat):Nat->List TypeId->List Value->Option (List SV×List (Nat×TypeId×Nat))
 |_,[],[]=>some ([],[])
 |j,t::z,v::B=>match nV P w d (j+1) z B with
  |some (q,l)=>match(bif w.contains j then none else isSlice P t),v with
   |some (e,s), .slice none 0 0=>bif Nat.blt 0 s&&Nat.blt (5000+16 *d+j) 10000 then some (.row (5000+16 *d+j)::q,(5000+16 *d+j,e,s)::l) else none
   |_,v=>(ofConst P t v).map λa=>(.pv a::q,l)
  |none=>none
 |_,_,_=>none
def Eu (l:List (Nat×Nat×TypeId×Nat)) (id:Nat) (e:TypeId) (s:Nat):Ob:=
 match find l id with
 |some (k,q,w)=>bif Nat.blt k s then .rn e s k q w [] [] else .row e s []
 |none=> .row e s []
def iJ (nst:List (Nat×Nat×TypeId×Nat)):List (Nat×TypeId×Nat)->St->St
 |[],q=>q
 |(id,e,s)::l,q=>iJ nst l (q.new id (Eu nst id e s))
def Dl:Operand->Bool
 | .const (.slice none 0 0)=>true
 |_=>false
def mS (P:Program) (l:List Nat) (d:Nat):Nat->List Operand->List TypeId->List (Nat×TypeId×Nat)
 |_,[],_=>[]
 |j,x::xs,q=>bif Dl x&&l.contains j then match isSlice P (q.headD 0) with
   |some (e,s)=>(5008+16 *d+j,e,s)::mS P l d (j+1) xs q.tail
   |none=>mS P l d (j+1) xs q.tail
  else mS P l d (j+1) xs q.tail
def argG (P:Program) (z:List Nat) (d j:Nat) (B:St) (t:TypeId) (x:Operand):Option SV:=
 bif Dl x&&z.contains j then(isSlice P t).bind λ_=>some (.row (5008+16 *d+j)) else match bG P t B x with
 |some (.pv v)=>some (.pv v)
 |some (.ptr id w)=>some (.ptr id w)
 |some (.row id)=>some (.row id)
 |some (.cl f l)=>some (.cl f l)
 |some (.cp q)=>some (.cp q)
 |some (.ag q)=>some (.ag q)
 |_=>none
def Cx (P:Program) (l:List Nat) (d:Nat) (q:St):Nat->List Operand->List TypeId->Option (List SV)
 |_,[],_=>some []
 |j,x::xs,w=>match argG P l d j q (w.headD 0) x,Cx P l d q (j+1) xs w.tail with
  |some v,some z=>some (v::z)
  |_,_=>none
def vH (q:List Nat):Nat->List SV->List Nat
 |_,[]=>[]
 |j, .row id::l=>bif q.contains j then vH q (j+1) l else id::vH q (j+1) l
 |j,_::l=>vH q (j+1) l
def newNames (d:Nat):Nat->List (Nat×Ob)->List (Nat×Nat)
 |_,[]=>[]
 |k,(q,_)::l=>(5000+16 *d+k,q)::newNames d (k+1) l
def Ii:AV->oC
 | .self n=> .r n
 |a=> .v a
def zc:AV->SV
 | .self n=> .row n
 | .agg l=> .ag (l.map Ii)
 |a=> .pv a
def vE:AV->SV
 | .gM [a,b]=> .two (zc a) (zc b)
 |a=>zc a
def Kj (l:Nat->Option Ob):SV->SV
 | .row id=>match l id with
  |some (.box _ _)=> .ptr id 0
  |_=> .row id
 |s=>s
def qq (q:Nat->Nat):Nat->List Nat->List (Nat×Nat)
 |_,[]=>[]
 |k,id::l=>(id,q id+k)::qq q (k+1) l
def stays (l:Nat->Nat) (i:Nat):Bool:=Nat.beq (l i) 10000
def given (l:Nat->Nat) (i:Nat):Bool:=Nat.beq (l i) 9000
def EI (l:Nat->Bool) (i:Nat):Nat:=bif l i then 20000 else 10000
def Uo (l:St) (id:Nat):Bool:=
 match l.ob id with
 |some (.rn _ _ _ _ _ _ _)=>iC id
 |_=>false
def Jz (q:St) (l:Nat->Bool) (i:Nat):Nat:=bif Uo q i then 9000 else EI l i
def jW (z:eM) (F:St) (g:Nat) (args:List SV) (B:Nat->Nat) (d:Option Nat):Option St:=
 let ids:=gD F 200 (args.flatMap SV.ids) [];let m:=qq B 0 ids;let G:=m.filter λp=> !(given B p.1)
 bif distinct ids&&Nat.blt ids.length 10000&&args.all (SV.closed ids)&&(ids.all (λi=> !(given B i))||(Nat.blt ids.length 1000&&ids.all λi=> !(given B i)||iC i)) then
  match jN F ids (iD m) m with
  |some cL=>match z g (args.map (SV.pG (iD m))) cL with
   |some (r,q)=>
    let D:=newNames (d.getD 0) 0 (q.drop G.length);let mm:=G++D
    bif Nat.ble D.length 8&&distinct (mm.map (·.1))&&distinct (mm.map (·.2))&&D.all (λx=>Nat.blt x.1 10000)&&D.all (λx=>Nat.ble 25000 x.2) then
     match mM (mm.map (·.2)) (iD (swap mm)) mm q with
     |some l=>match r with
      | .gM [.gM [.self 0, .qz,x]]=>bif(vE x).closed (mm.map (·.2)) then
        let w:=fu (ids.filter (λi=> !(stays B i))++D.map (·.1)) F
        some (St.set { env:=w.env,ob:=λi=>(find l i).orElse λ_=>w.ob i } d (Kj (find l) ((vE x).pG (iD (swap mm)))))
       else none
      |r=>bif r.jF then
        let w:=fu (ids.filter (λi=> !(stays B i))++D.map (·.1)) F
        some (St.set { env:=w.env,ob:=λi=>(find l i).orElse λ_=>w.ob i } d (.pv r))
       else none
     |none=>none
    else none
   |none=>none
  |none=>none
 else none
def Cz (P:Program) (h:Hint) (q:eM) (D:St) (c:Call) (f:Operand) (d:Nat) (z:List Nat):Option St:=
 let l:=iJ h.nest (mS P z d 0 c.args.toList c.argTypes.toList) D;match(bG P 0 l f).bind Ro,Cx P z d l 0 c.args.toList c.argTypes.toList with
 |some (g,pre,w),some B=>bif(mS P z d 0 c.args.toList c.argTypes.toList).all (λx=>Nat.blt x.1 10000) then
   jW q l g (pre++(B++w)) (Jz l (ij false l (vH z 0 B))) (some d) else none
 |_,_=>none
def wO (h:Hint) (d:Nat):Option (List (Nat×TypeId×Nat)):=match find h.ua d with
 |some _=>some []
 |none=>find h.tH d
def OV (P:Program) (b:Bool) (l:St) (t:TypeId) (x:Operand):Option AV:=bif b&&Dl x then some .tH else(bG P t l x).bind iU
def r6 (P:Program) (b:Bool) (l:St):List Operand->List TypeId->Option (List AV)
 |[],_=>some []
 |x::xs,q=>match OV P b l (q.headD 0) x,r6 P b l xs q.tail with
  |some v,some w=>some (v::w)
  |_,_=>none
def sZ:List AV->List (Nat×TypeId×Nat)->Option (List oC)
 |[],_=>some []
 | .tH::q,x::l=>(sZ q l).map (.r x.1:: ·)
 | .tH::_,[]=>none
 |a::q,l=>(sZ q l).map (.v a:: ·)
def iI (P:Program) (h:Hint) (q:eM) (w:St) (c:Call) (f:Operand) (d:Option Nat):Option St:=
 match d with
 |some d=>match find h.ua d with
  |some D=>Cz P h q w c f d D.2
  |none=>match bG P 0 w f,r6 P (wO h d).isSome w c.args.toList c.argTypes.toList with
  |some (.pv (.fn g z)),some H=>match q g ((H++z).map .pv) [] with
   |some (.gM [.gM [.self e, .dy G xs]],[])=>bif(wO h d).isSome then none else some ((w.new d (.row e G xs)).set (some d) (.row d))
   |some (.agg B,[])=>match wO h d with
    |some []=>some (w.set (some d) (.pv (.agg B)))
    |some l=>match sZ B l with
     |some F=>bif l.all (λx=>Nat.blt x.1 10000) then some ((iJ h.nest l w).set (some d) (.ag F)) else none
     |none=>none
    |none=>none
   |_=>none
  |_,_=>none
 |none=>none
def ZK (l:St) (s:SV):Option oC:=
 bif oJ l s then
  match s with
  | .pv a=>some (.v a)
  | .row id=>some (.r id)
  |_=>none
 else none
def wE (q:St):List SV->Option (List oC)
 |[]=>some []
 |s::l=>match ZK q s,wE q l with
  |some c,some w=>some (c::w)
  |_,_=>none
def F7 (q:St):SV->Option (List SV)
 | .pv (.agg l)=>some (l.map .pv)
 |s=>bif oJ q s then some [s] else none
def qF (P:Program) (ty:Nat->TypeId) (st:St):List (Nat×Operand)->Option (List (Nat×List SV))
 |[]=>some []
 |(i,x)::l=>match(bG P (ty i) st x).bind (F7 st),qF P ty st l with
  |some v,some q=>some ((i,v)::q)
  |_,_=>none
def GU (place:Nat->Option (Nat×Nat)) (cells:List SV):List (Nat×List SV)->Option (List SV)
 |[]=>some cells
 |(i,v)::q=>match place i with
  |none=>none
  |some (l,size)=>if v.length=size/\l+size<=cells.length then GU place (cells.take l++v++cells.drop (l+size)) q else none
def vj (P:Program) (h:Hint) (w:St) (d:Nat) (t:TypeId) (q:List (Nat×Operand)):Option St:=
 match P.underlying t,(yw P t).bind λG=>nV P ((find h.OF d).getD []) d 0 (sW P 8 t) G with
 |some (.struct D),some (z,l)=>bif D.toList.all (λf=>(lF P f.type).isSome) then
   match qF P (Eo P t) (iJ h.nest l w) q with
   |some F=>match(GU (pJ P t) z F).bind (wE (iJ h.nest l w)) with
    |some B=>some ((iJ h.nest l w).set (some d) (.ag B))
    |none=>none
   |none=>none
  else none
 |_,_=>none
def xX (P:Program) (l:St) (t:TypeId) (m k:Operand):Option St:=
 match P.underlying t with
 |some (.map z _)=>match bG P t l m,(bG P z l k).bind iU with
  |some (.row id),some key=>match l.ob id with
   |some (.mp k' B D F)=>bif jZ P z key then
     match mdel key D F with
     |some (q,w)=>some { l with ob:=put l.ob id (some (.mp k' B q w)) }
     |none=>none
    else none
   |_=>none
  |_,_=>none
 |_=>none
def EH (P:Program) (l:St) (t:TypeId) (m:Operand):Option St:=
 match P.underlying t with
 |some (.map _ _)=>match bG P t l m with
  |some (.row id)=>match l.ob id with
   |some (.mp k' q _ _)=>some { l with ob:=put l.ob id (some (.mp k' q [] [])) }
   |_=>none
  |_=>none
 |_=>none
def vn (P:Program) (l:St):Option Operand->Bool
 |none=>true
 |some x=>match(bG P 0 l x).bind iU with
  |some (.int _ _)=>true
  |_=>false
def UG (P:Program) (l:St) (q:TypeId) (x:Operand):Option St:=
 match bG P q l x with
 |some (.pv _)=>some l
 |some (.row j)=>l.cZ j
 |_=>none
def xY (P:Program) (G:St) (t:TypeId) (m k x:Operand):Option St:=
 match P.underlying t with
 |some (.map B z)=>match UG P G z x with
  |some l=>match bG P t l m,(bG P B l k).bind iU,(bG P z l x).bind iU with
   |some (.row id),some key,some v=>match l.ob id with
    |some (.mp k' D F H)=>bif jZ P B key&&v.Hh then
      match Ds key v F H with
      |some (q,w)=>some { l with ob:=put l.ob id (some (.mp k' D q w)) }
      |none=>none
     else none
    |_=>none
   |_,_,_=>none
  |none=>none
 |_=>none
def MF (P:Program) (l:St) (t:TypeId) (m k:Operand):Option (TypeId×Nat×AV×TypeId×TypeId×Nat×List AV×List (Option (List (List AV)))):=
 match P.underlying t with
 |some (.map q w)=>match bG P t l m,(bG P q l k).bind iU with
  |some (.row id),some key=>match l.ob id with
   |some (.mr k' e B z D)=>bif jZ P q key&&Nat.blt id 10000 then some (w,id,key,k',e,B,z,D) else none
   |_=>none
  |_,_=>none
 |_=>none
def MH (P:Program) (l:St) (t:TypeId) (m k:Operand) (d:Nat):Option St:=
 match MF P l t m k with
 |some (w,id,key,k',e,q,z,B)=>bif Nat.beq id d then none else match qp key z with
  |some (some i)=>match B[i]? with
   |some (some xs)=>some ((St.new { l with ob:=put l.ob id (some (.mr k' e q z (B.set i none))) } d (.row e q xs)).set (some d) (.row d))
   |_=>none
  |some none=>match qm P w,isSlice P w with
   |some (.dy _ []),some (D,s)=>if e=D/\s=q/\0<s then some ((l.new d (.row e q [])).set (some d) (.row d)) else none
   |_,_=>none
  |none=>none
 |none=>none
def UR (P:Program) (w:St) (t:TypeId) (m k x:Operand):Option St:=
 match MF P w t m k with
 |some (D,id,key,k',e,z,F,H)=>match x with
  | .const (.slice none 0 0)=>match isSlice P D with
   |some (B,s)=>if e=B/\s=z/\0<s then
     match Ds key (some []) F H with
     |some (l,q)=>some { w with ob:=put w.ob id (some (.mr k' e z l q)) }
     |none=>none
    else none
   |none=>none
  |x=>match bG P D w x with
   |some (.row j)=>match w.ob j with
    |some (.row B s xs)=>if e=B/\s=z/\j<10000 then
      match Ds key (some xs) F H with
      |some (l,q)=>let G:=w.dA j;some { G with ob:=put G.ob id (some (.mr k' e z l q)) }
      |none=>none
     else none
    |_=>none
   |_=>none
 |none=>none
def w6 (P:Program) (q:St) (t:TypeId) (x:Operand) (d:Nat):Option St:=
 match bG P 0 q x,DN P t with
 |some (.rp id F i w),some false=>match q.ob id with
  |some (.rn e l k z B xs D)=>match D[i]? with
   |some (some G)=>bif Nat.beq F l&&Nat.beq w k&& !(Nat.beq id d)&&Nat.blt id 10000 then some ((St.new { q with ob:=put q.ob id (some (.rn e l k z B xs (D.set i none))) } d (.row z B G)).set (some d) (.row d)) else none
   |_=>none
  |_=>none
 |_,_=>none
def Hp (P:Program) (q:St) (t:TypeId) (id H i w j:Nat):Option St:=
 match DN P t,lF P t,q.ob id,q.ob j with
 |some false,some 1,some (.rn e l k z B xs D),some (.row F G I)=>
  bif Nat.beq H l&&Nat.beq w k&&Nat.blt id 10000&&Nat.blt j 10000&&Nat.beq z F&&Nat.beq B G&&Nat.blt i D.length&& !(Nat.beq id j) then
   some { (q.dA j).dA (id+40000) with ob:=put ((q.dA j).dA (id+40000)).ob id (some (.rn e l k z B xs (D.set i (some I)))) } else none
 |_,_,_,_=>none
def Bo (P:Program) (w:St):Nat->List (Nat×Operand)->Option (List SV)
 |_,[]=>some []
 |i,(j,x)::l=>match bG P 0 w x,Bo P w (i+1) l with
  |some (.ptr id q),some z=>bif Nat.beq i j then some (.ptr id q::z) else none
  |_,_=>none
def Ov (P:Program) (q:St) (d:Nat) (t:TypeId) (len:Nat) (l:List (Nat×Operand)):Option St:=
 match isSlice P t,Bo P q 0 l with
 |some (e,1),some w=>match zeroCells P e with
  |some [_]=>bif Nat.beq w.length len&&Nat.blt 0 len&&Nat.blt len 100 then some ((q.new d (.box e (w.map (SV.dA d)))).set (some d) (.aq d (.bs len))) else none
  |_=>none
 |_,_=>none
def VS (P:Program) (w:St) (t:TypeId) (id q j z n:Nat):Option St:=
 match w.ob j with
 |some (.row e l xs)=>bif Nat.beq z l&&gE j&& !(Nat.beq id j) then storeAt P t (w.new j (.row e l (xs.take n))) (.ptr id q) (.row j) else none
 |_=>none
def UQ (l:St) (id d:Nat):Option St:=
 match l.ob id with
 |some (.row e q xs)=>bif Nat.beq id d then some (l.set (some d) (.row d)) else bif Nat.blt id 10000 then some (((l.dA id).new d (.row e q xs)).set (some d) (.row d)) else none
 |_=>none
def qE (k:Nat) (c:List AV):Bool:=match c[k]? with
 |some .tH=>true
 |_=>false
def mD (P:Program) (h:Hint) (D:eM) (o:Oper) (q:St):Option St:=
 match o.dst,o.op with
 |some d, .assign (.const (.slice none 0 0))=>match isSlice P o.type with
  |some (e,s)=>if 0<s then some ((q.new d (.row e s [])).set (some d) (.row d)) else none
  |none=>none
 |some d, .assign x=>match bG P o.type q x with
  |some (.row id)=>bif h.mvs.contains d then UQ q id d else match q.cZ id with
   |some B=>match bG P o.type B x with
    |some v=>some (B.set (some d) v)
    |none=>none
   |none=>none
  |_=>none
 |some d, .box t x=>match bG P t q x,DN P t with
  |some (.pv (.agg O)),some true=>some ((q.new d (.box t (O.map .pv))).set (some d) (.ptr d 0))
  |some (.ag O),some true=>bif(SV.ag O).mentions d then none else some ((q.new d (.box t (O.map Jc))).set (some d) (.ptr d 0))
  |some v,some false=>if oJ q v=true then some ((q.new d (.box t [v.dA d])).set (some d) (.ptr d 0)) else none
  |_,_=>none
 |some d, .alloc t=>bif h.rows.contains d then
   match(yw P t).bind λN=>nV P ((find h.OF d).getD []) d 0 (sW P 8 t) N with
   |some (S,l)=>some (((iJ h.nest l q).new d (.box t (S.map (SV.dA d)))).set (some d) (.ptr d 0))
   |none=>none
  else match Nb P h (some d) t with
  |some z=>some ((q.new d (.box t (z.map .pv))).set (some d) (.ptr d 0))
  |none=>none
 |some d, .makeSlice t l c=>match isSlice P t,(bG P 0 q l).bind iU,(bG P 0 q c).bind iU with
  |some (e,s),some (.int _ l),some (.int _ c)=>match zeroCells P e,P.info? e with
   |some z,some i=>if 0<s/\z.length=s/\0<=l/\l<=c/\i.bytes *c.toNat<=281474976710656/\c<=9223372036854775807 then
     some ((q.new d (.row e s (List.replicate l.toNat z))).set (some d) (.row d)) else none
   |_,_=>none
  |_,_,_=>none
 |some d, .buildSlice t len F=>bif h.fP.contains d then Ov P q d t len F.toList else match lu P t len F.toList q with
  |some (e,s,xs)=>match find h.nest d with
   |none=>some ((q.new d (.row e s xs)).set (some d) (.row d))
   |some (k,K,s')=>bif Nat.blt k s&&xs.all (qE k) then some ((q.new d (.rn e s k K s' (xs.map λc=>c.set k .hole) (xs.map λ_=>some []))).set (some d) (.row d)) else none
  |none=>none
 |none, .store t a x=>match bG P 0 q a,bG P t q x with
  |some (.rp id w i L),some (.row j)=>Hp P q t id w i L j
  |some (.ptr id L),some (.sub j w 0 n)=>VS P q t id L j w n
  |some a,some v=>storeAt P t q a v
  |_,_=>none
 |some d, .makeMap t r=>match P.underlying t with
  |some (.map k e)=>bif vn P q r then
    bif h.rows.contains d then
     match isSlice P e with
     |some (K,s)=>if 0<s then some ((q.new d (.mr k K s [] [])).set (some d) (.row d)) else none
     |none=>none
    else some ((q.new d (.mp k e [] [])).set (some d) (.row d)) else none
  |_=>none
 |none, .mapUpdate t m k x=>bif qv h m then UR P q t m k x else xY P q t m k x
 |none, .insert t m k x=>bif qv h m then UR P q t m k x else xY P q t m k x
 |some d, .lookup t m k false=>bif qv h m then MH P q t m k d else none
 |some d, .range t x=>match P.underlying t,(bG P t q x).bind iU with
  |some .string,some (.str s)=>some ((q.new d (.it s 0)).set (some d) (.ptr d 0))
  |_,_=>none
 |some d, .next x true=>match bG P 0 q x with
  |some (.ptr id 0)=>match q.ob id with
   |some (.it s pos)=>if pos<s.length then
     some (St.set { q with ob:=put q.ob id (some (.it s (pos+(Utf8.decode ⟨s.toArray⟩ pos).2))) } (some d) (.pv (.gM [.bool true, .int .i64 pos, .int .i32 (Utf8.decode ⟨s.toArray⟩ pos).1])))
    else some (q.set (some d) (.pv (.gM [.bool false])))
   |_=>none
  |_=>none
 |some d, .build t F=>bif h.rows.contains d then vj P h q d t F.toList else none
 |some d, .load t x=>bif h.take.contains d then w6 P q t x d else none
 |some d, .makeFunc (.func g) first H=>bif first.isEmpty then
   match wR q H.toList with
   |some B=>(tX B H.toList).map λN=>B.set (some d) (.pv (.fn g N))
   |none=>none
  else none
 |d, .call c=>match c.callee with
  | .builtin .append=>match d,c.args.toList,c.argTypes.toList with
   |some d,[x,y],[t,Q]=>match isSlice P t,bG P t q x,bG P Q q y with
    |some (e,s),some (.row id),some y=>match q.ob id,elems q y,P.info? e with
     |some (.row K w xs),some (G,I),some i=>
      if t=Q/\e=K/\s=w/\w=G/\0<w/\(xs.length+I.length) *i.bytes<=140737488355328/\xs.length+I.length<=4611686018427387904/\i.zero.map (λz=>z.cells.size)=some w/\gE id=true then
       some ((q.new id (.row e w (xs++I))).set (some d) (.row id)) else none
     |some (.rn K w k V s2 xs zs),some (G,I),some i=>
      if t=Q/\e=K/\s=w/\w=G/\0<w/\(xs.length+I.length) *i.bytes<=140737488355328/\xs.length+I.length<=4611686018427387904/\i.zero.map (λz=>z.cells.size)=some w/\gE id=true/\I.all (qE k)=true then
       some ((q.new id (.rn e w k V s2 (xs++I.map λc=>c.set k .hole) (zs++I.map λ_=>some []))).set (some d) (.row id)) else none
     |_,_,_=>none
    |some (e,s),some (.aq id .full),some y=>match q.ob id,elems q y,P.info? e with
     |some (.row K w xs),some (G,I),some i=>
      if t=Q/\e=K/\s=w/\w=G/\0<w/\(xs.length+I.length) *i.bytes<=140737488355328/\xs.length+I.length<=4611686018427387904/\i.zero.map (λz=>z.cells.size)=some w/\gE id=true/\I.isEmpty=false then
       some ((q.new id (.row e w (xs++I))).set (some d) (.row id)) else none
     |_,_,_=>none
    |_,_,_=>none
   |_,_,_=>none
  | .builtin .delete=>match d,c.args.toList,c.argTypes.toList with
   |none,[m,k],t::_=>xX P q t m k
   |_,_,_=>none
  | .builtin .clear=>match d,c.args.toList,c.argTypes.toList with
   |none,[x],[t]=>match isSlice P t,bG P t q x with
    |some (e,s),some (.sub id w U R)=>match q.ob id,zeroCells P e with
     |some (.row K G xs),some z=>if s=w/\w=G/\z.length=w/\R<=xs.length/\e=K/\0<w then
       some { q with ob:=put q.ob id (some (.row K G (xs.take U++List.replicate (R-U) z++xs.drop R))) } else none
     |_,_=>none
    |none,_=>EH P q t x
    |_,_=>none
   |_,_,_=>none
  | .value f=>bif d.any h.owns.contains then iI P h D q c f d else bif d.any h.stay.contains&&wide q c f then none else bif wide q c f then jX P h D q c f d else bif c.args.toList.any (λx=>(pE h q x).isSome) then qa P h D q c f d else
   match jG q c.args.toList with
   |some B=>match bG P 0 B f,jM P B c.args.toList c.argTypes.toList with
    |some (.pv (.fn g H)),some N=>match D g ((N++H).map .pv) [] with
     |some (r,[])=>bif c.args.toList.any (lC B)|| !r.jF then none else some (B.set d (.pv r))
     |_=>none
    |_,_=>none
   |none=>none
  |_=>none
 |_,_=>none
where
 jG (q:St) (l:List Operand):Option St:=bif l.any (xd q) then none else iq q l
 iq (q:St):List Operand->Option St
  |[]=>some q
  | .tmp i::l=>match q.env i with
   |some (.row id)=>(q.cZ id).bind λB=>iq B l
   |_=>iq q l
  |_::l=>iq q l
def pq:List SV->St->Option St
 |[],q=>some q
 | .row id::l,q=>(q.cZ id).bind (pq l)
 |_::l,q=>pq l q
def step0 (P:Program) (h:Hint) (l:eM) (o:Oper) (q:St):Option St:=
 match dW P h l o q with
 |some v=>some (q.set o.dst v)
 |none=>mD P h l o q
def qt (l:St) (t:Nat):Option St:=
 match l.env t with
 |some (.row id)=>l.cZ id
 |some (.ag [.r id])=>l.cZ id
 |some (.ptr id _)=>match l.ob id with
  |some (.box _ cells)=>pq cells l
  |_=>none
 |_=>some l
def mX:List Nat->St->Option St
 |[],q=>some q
 |t::l,q=>(qt q t).bind (mX l)
def slotsOf (o:Oper):List Nat:=o.op.operands.toList.filterMap fun
 | .tmp t=>some t
 |_=>none
def EU (h:Hint) (o:Oper):List Nat:=bif h.use.isEmpty then[] else(slotsOf o).filter h.use.contains
def step (P:Program) (h:Hint) (l:eM) (o:Oper) (q:St):Option St:=(mX (EU h o) q).bind (step0 P h l o)
def ql (q:Array Oper) (o:Oper) (w:St):Option Bool:=
 match o.guard with
 |none=>some true
 |some (j,l)=>match(q[j]?).bind (·.dst) with
  |some d=>match w.env d with
   |some (.pv (.bool b))=>some (b==l)
   |some .undef=>some false
   |_=>none
  |none=>none
def qR (P:Program) (h:Hint) (q:eM) (w:Array Oper):List Oper->St->Option St
 |[],z=>some z
 |o::l,z=>match ql w o z with
  |some b=>bif b then(step P h q o z).bind (qR P h q w l) else qR P h q w l (z.set o.dst .undef)
  |none=>none
inductive Ex where
 |normal
 |exit (id:Nat)
 |ret
 deriving DecidableEq
def exOf:Nat->Ex
 |0=> .normal
 |_=> .ret
def iter (h:Hint) (key:Nat) (f:St->Option (Ex×St)):Nat->St->Option (Ex×St)
 |0,_=>none
 |n+1,q=>match f (h.canon key q) with
  |some (.normal,l)=>iter h key f n l
  |r=>r
def fq (l:Array Oper) (o:Oper):List Nat:=slotsOf o++match o.guard with
 |some (j,_)=>((l[j]?).bind (·.dst)).toList
 |none=>[]
def Z0 (o:Oper) (j:Nat):Bool:=o.after.toList.any λe=>Region.binds .any e&&Nat.beq e.on j
def sN:Nat->List Oper->Bool
 |_,[]=>true
 |i,o::l=>o.after.toList.all (λe=> !(Region.binds .any e)||Nat.blt e.on i)&&sN (i+1) l
def reach (l:Array Oper):Nat->Nat->Nat->Bool
 |0,_,_=>false
 |n+1,i,j=>match l[i]? with
  |some o=>Z0 o j||o.after.toList.any λe=>Region.binds .any e&&reach l n e.on j
  |none=>false
def Ob.tN:Ob->Ob
 | .row e l xs=> .row e l (xs.map λ_=>[])
 | .rn e l k w q xs _=> .rn e l k w q (xs.map λ_=>[]) []
 |_=> .it [] 0
structure gi where
 rs:List Nat:=[]
 rl:List Nat:=[]
 kp:Nat->Bool:=λ_=>false
 ws:List Nat:=[]
 ro:List Nat:=[]
 wo:List Nat:=[]
 mv:List Nat:=[]
 men:List Nat:=[]
 all:Bool:=false
 we:Nat->Bool:=λ_=>false
 oe:Nat->Bool:=λ_=>false
def meets (a b:List Nat):Bool:=a.any λx=>b.any (Nat.beq x)
def gi.conflict (a b:gi):Bool:=a.all||b.all||meets a.ws b.rs||meets a.rs b.ws||meets a.ws b.ws||meets a.wo b.ro||meets a.ro b.wo||meets a.wo b.wo||meets a.mv b.men||meets b.mv a.men||b.rs.any a.we||b.ro.any a.oe||b.rl.any (λj=>a.wo.contains j&& !(a.kp j))||a.rl.any (λj=>b.wo.contains j&& !(b.kp j))
def Mw (q:St):List Operand->List Nat
 |[]=>[]
 | .tmp t::l=>(match q.env t with
  |some s=>s.ids
  |none=>[])++Mw q l
 |_::l=>Mw q l
def CO (l:St) (o:Oper):List Nat:=Mw l o.op.operands.toList
def targetId:SV->Option Nat
 | .ptr id _=>some id
 | .rp id _ _ _=>some id
 |_=>none
def xK:List Oper->List Nat
 |[]=>[]
 |o::l=>match o.op,o.dst with
  | .alloc _,some d=>d::xK l
  |_,_=>xK l
def xw (q:Array Oper) (l:List (Nat×gi)) (i:Nat) (f:gi):Bool:=l.all λp=>reach q 12 i p.1|| !(p.2.conflict f)
def Sd:Op->Bool
 | .move _| .assign _| .pick _ _ _=>true
 |_=>false
def Kw (P:Program) (h:Hint) (o:Oper) (l:St):List Nat:=
 match o.op with
 | .call c=>match c.callee with
  | .value f=>match uj P h l c f with
   |some (_,args)=>bif o.dst.any h.stay.contains then jB l args else[]
   |none=>[]
  |_=>[]
 |_=>[]
def Ob.mentions (id:Nat):Ob->Bool
 | .box _ cells=>cells.any (SV.mentions id)
 |_=>false
def Ob.ids:Ob->List Nat
 | .box _ cells=>cells.flatMap SV.ids
 |_=>[]
def NJ (l:St) (t:Nat):List Nat:=match l.env t with
 |some s=>s.ids
 |none=>[]
def WY (l:St) (j:Nat):List Nat:=match l.ob j with
 |some o=>o.ids
 |none=>[]
def gi.fill (q l:St) (f:gi):gi:=
 {f with
  men:=f.mv++(f.ro++(f.wo++(f.rs.flatMap (NJ q)++(f.ws.flatMap (NJ l)++(f.ro.flatMap (WY q)++f.wo.flatMap (WY l))))))
  we:=λt=>match q.env t with
   |some v=>f.mv.any λid=>v.mentions id
   |none=>false
  oe:=λj=>match q.ob j with
   |some o=>f.mv.any λid=>o.mentions id
   |none=>false }
def jD:gi:={ all:=true }
def aaJ:Op->Bool
 | .indexAddr _ _ _=>true
 |_=>false
def vC (P:Program) (h:Hint) (l:Array Oper) (o:Oper) (q:St):gi:=
 {rs:=fq l o,ws:=o.dst.toList,ro:=bif Sd o.op||aaJ o.op then[] else CO q o++Kw P h o q,rl:=bif aaJ o.op then CO q o else[] }
def tD (l:Array Oper) (o:Oper):gi:={ rs:=fq l o,ws:=o.dst.toList }
def B2 (P:Program) (l:Array Oper) (o:Oper) (q:St) (a:Operand):gi:=match(bG P 0 q a).bind targetId with
 |some id=>{ rs:=fq l o,ro:=id::CO q o,wo:=[id] }
 |none=>jD
def NS (P:Program) (l:Array Oper) (o:Oper) (q:St) (c:Call):gi:=match c.args.toList,c.argTypes.toList,o.dst with
 |[x,_],[t,_],some d=>match bG P t q x with
  |some (.row id)=>{ rs:=fq l o,ws:=[d],ro:=id::CO q o,wo:=[id],mv:=[id] }
  |some (.aq id .full)=>{ rs:=fq l o,ws:=[d],ro:=id::CO q o,wo:=[id],mv:=[id] }
  |_=>jD
 |_,_,_=>jD
def Rq (P:Program) (l:Array Oper) (o:Oper) (q:St) (x:Operand) (d:Nat):gi:=match bG P 0 q x with
 |some (.rp id _ _ _)=>match q.ob id with
  |some (.rn _ _ _ _ _ _ _)=>{ rs:=fq l o,ws:=[d],ro:=[id],wo:=[id,d],mv:=[d],kp:=λj=>Nat.beq j id&& !(Nat.beq id d) }
  |_=>jD
 |_=>jD
def Et (P:Program) (l:Array Oper) (o:Oper) (w:St) (t:TypeId) (a x:Operand):gi:=match bG P 0 w a,bG P t w x with
 |some (.rp id _ _ _),some (.row j)=>{ rs:=fq l o,ro:=[id,j],wo:=[id,j,id+40000],mv:=[j,id+40000],kp:=λq=>Nat.beq q id&& !(Nat.beq id j) }
 |some (.ptr _ _),some (.sub _ _ _ _)=>jD
 |_,_=>B2 P l o w a
def vB (P:Program) (h:Hint) (q:Array Oper) (o:Oper) (l:St) (c:Call) (f:Operand):gi:=match uj P h l c f with
 |some (_,args)=>{ rs:=fq q o,ws:=o.dst.toList,ro:=jB l args,wo:=jB l args,mv:=(jB l args).filter (ij false l (pH args)) }
 |none=>jD
def og (d:Nat):List Nat:=(List.range 8).map λk=>5000+16 *d+k
def Es (P:Program) (h:Hint) (z:Array Oper) (o:Oper) (q:St) (c:Call) (f:Operand):gi:=match o.dst with
 |some d=>match find h.ua d with
  |some (_,[])=>match(bG P 0 q f).bind Ro,Cx P [] d q 0 c.args.toList c.argTypes.toList with
   |some (_,pre,l),some w=>{ rs:=fq z o,ws:=[d],ro:=jB q (pre++(w++l))++og d,wo:=jB q (pre++(w++l))++og d,mv:=(jB q (pre++(w++l))).filter (λi=> !(stays (Jz q (ij false q (vH [] 0 w))) i))++og d }
   |_,_=>jD
  |_=>jD
 |none=>jD
def A4 (P:Program) (h:Hint) (w:Array Oper) (o:Oper) (z:St) (d:Nat) (t:TypeId) (q:List (Nat×Operand)):gi:=
 match(yw P t).bind λB=>nV P ((find h.OF d).getD []) d 0 (sW P 8 t) B,partsOf P (Eo P t) z q with
 |some (_,l),some _=>{ rs:=fq w o,ws:=[d],ro:=l.map (·.1),wo:=l.map (·.1),mv:=l.map (·.1) }
 |_,_=>jD
def lI (P:Program) (h:Hint) (l:Array Oper) (o:Oper) (w:St):gi:=
 match o.op,o.dst with
 | .store t a x,none=>Et P l o w t a x
 | .alloc _,some d=>bif h.rows.contains d then jD else { rs:=fq l o,ws:=[d],wo:=[d],mv:=[d] }
 | .buildSlice _ _ _,some d=>bif h.fP.contains d then jD else bif h.rows.contains d then { rs:=fq l o,ws:=[d],wo:=[d],mv:=[d] } else jD
 | .build t q,some d=>bif h.rows.contains d then A4 P h l o w d t q.toList else jD
 | .makeSlice _ _ _,some d=>{ rs:=fq l o,ws:=[d],wo:=[d],mv:=[d] }
 | .call c,_=>match c.callee with
  | .builtin .append=>NS P l o w c
  | .value f=>bif o.dst.any h.owns.contains&& !(o.dst.any (λd=>(wO h d).isSome)) then { rs:=fq l o,ws:=o.dst.toList,wo:=o.dst.toList,mv:=o.dst.toList }
   else bif !(o.dst.any h.owns.contains)&&(!(o.dst.any h.stay.contains)&&wide w c f) then vB P h l o w c f else bif o.dst.any h.owns.contains then Es P h l o w c f else jD
  |_=>jD
 | .load _ x,some d=>bif h.take.contains d then Rq P l o w x d else jD
 |_,_=>jD
def r7:List Nat->St->St
 |[],q=>q
 |p::l,q=>r7 l (q.dA p)
def isF (h:Hint) (l:St) (o:Oper):Bool:=
 match o.op with
 | .buildSlice _ _ _=> !(o.dst.any h.rows.contains||o.dst.any h.fP.contains)
 | .call c=>match c.callee with
  | .builtin .append=>false
  | .builtin .delete=>false
  | .builtin .clear=>false
  | .value f=> !(o.dst.any h.owns.contains)&&((o.dst.any h.stay.contains&&wide l c f)|| !(wide l c f||c.args.toList.any (λx=>(pE h l x).isSome)))
  |_=>true
 | .assign x=>match o.dst,x with
  |some d, .const (.slice none 0 0)=> !(h.rows.contains d)
  |some d,x=>(!(h.mF.contains d)&& !(h.mvs.contains d))|| !(lC l x)
  |none,_=>true
 | .lookup _ x _ ok=> !(qv h x&& !ok)
 | .makeFunc _ _ _| .move _| .pick _ _ _| .binOp _ _ _ _ _| .unOp _ _ _| .convert _ _ _| .fieldAddr _ _ _| .field _ _ _| .indexAddr _ _ _| .index _ _ _| .slice _ _ _ _ _| .extract _ _| .nilCheck _=>true
 | .build _ _=> !(o.dst.any h.rows.contains)
 | .load _ _=> !(o.dst.any h.take.contains)
 |_=>false
def isW:Op->Bool
 | .buildSlice _ _ _| .build _ _| .load _ _=>true
 |_=>false
def isWc (l:St):Op->Bool
 | .call c=>match c.callee with
  | .value _=> !(c.args.toList.any (lC l))
  |_=>false
 |_=>false
def vV:List SV->List Nat
 |[]=>[]
 | .row id::l=>id::vV l
 |_::l=>vV l
def OO (l:St) (t:Nat):gi:=
 match l.env t with
 |some (.row id)=>{ rs:=[t],ro:=[id],wo:=[id],mv:=[id] }
 |some (.ag [.r id])=>{ rs:=[t],ro:=[id],wo:=[id],mv:=[id] }
 |some (.ptr id _)=>match l.ob id with
  |some (.box _ cells)=>{ rs:=[t],ro:=id::vV cells,wo:=vV cells,mv:=vV cells }
  |_=>jD
 |_=>{ rs:=[t] }
def gi.then (a b:gi):gi:={ rs:=a.rs++b.rs,ws:=b.ws++a.ws,ro:=a.ro++b.ro,wo:=b.wo++a.wo,mv:=a.mv++b.mv,all:=a.all||b.all,rl:=a.rl++b.rl,kp:=λj=>(a.kp j|| !(a.wo.contains j))&&(b.kp j|| !(b.wo.contains j)) }
def Mo (P:Program) (h:Hint) (q:Array Oper) (o:Oper):List Nat->St->gi
 |[],w=>bif isF h w o then(bif isW o.op||isWc w o.op then vC P h q o w else jD) else lI P h q o w
 |t::l,w=>match qt w t with
  |some z=>(OO w t).then (Mo P h q o l z)
  |none=>jD
def uu (P:Program) (h:Hint) (l:Array Oper) (o:Oper) (q:St):gi:=(Mo P h l o (EU h o) q).then { rs:=fq l o }
def kz (P:Program) (h:Hint) (w:eM) (q:Array Oper):Nat->List Oper->List (Nat×gi)->St->Option St
 |_,[],_,z=>some z
 |i,o::l,B,z=>match ql q o z with
  |none=>none
  |some b=>bif b then
    bif isF h z o&&(EU h o).isEmpty then
     match dW P h w o z with
     |some v=>bif xw q B i ((vC P h q o z).fill z (z.set o.dst v)) then kz P h w q (i+1) l ((i,(vC P h q o z).fill z (z.set o.dst v))::B) (z.set o.dst v) else none
     |none=>none
    else match step P h w o z with
     |some D=>bif xw q B i ((uu P h q o z).fill z D) then kz P h w q (i+1) l ((i,(uu P h q o z).fill z D)::B) D else none
     |none=>none
   else bif xw q B i ((tD q o).fill z (z.set o.dst .undef)) then kz P h w q (i+1) l ((i,(tD q o).fill z (z.set o.dst .undef))::B) (z.set o.dst .undef) else none
def St.Kk (l:St) (id:Nat):Option St:=
 match l.ob id with
 |some (.box _ _)=>l.qu id
 |none=>some l
 |_=>l.cZ id
def zn:List Nat->St->Option St
 |[],q=>some q
 |id::l,q=>(q.Kk id).bind (zn l)
def Hint.acA (h:Hint) (id:Nat) (q:St):Option St:=
 match find h.mY id with
 |some l=>zn l q
 |none=>some q
def exec (P:Program) (h:Hint) (l:eM) (n:Nat):Code->St->Option (Ex×St)
 | .skip,q=>some (.normal,q)
 | .label _,q=>some (.normal,q)
 | .region id w B,q=>(h.acA id q).bind λq=>
  bif B then
   bif sN 0 w.toList then(kz P h l w 0 w.toList [] (r7 (xK w.toList) q)).map λs=>(.normal,s) else none
  else(qR P h l w w.toList q).map λs=>(.normal,s)
 | .seq a b,q=>match find h.blk (e7 a) with
  |some x=>bif x.1 q then some (exOf (x.2 q).1,(x.2 q).2) else none
  |none=>match exec P h l n a q with
   |some (.normal,z)=>exec P h l n b z
   |r=>r
 | .cond c a b,q=>match bG P 0 q c with
  |some (.pv (.bool t))=>bif t then exec P h l n a q else exec P h l n b q
  |_=>none
 | .block id c,q=>match exec P h l n c q with
  |some (.exit j,z)=>bif Nat.beq j id then some (.normal,z) else some (.exit j,z)
  |r=>r
 | .loop c,q=>iter h (e7 c) (exec P h l n c) n q
 | .exit id,q=>some (.exit id,q)
 | .ret,q=>some (.ret,q)
 | .scope c,q=>exec P h l n c q
 |_,_=>none
def yZ:Nat->List SV->List (Nat×SV)
 |_,[]=>[]
 |i,v::l=>(i,v)::yZ (i+1) l
def St.OS (q:St) (id:Nat):Option St:=
 match q.ob id with
 |some (.box _ cells)=>(pq cells q).bind λl=>l.qu id
 |_=>none
def OT (q:St) (t:Nat):Option (St×AV):=
 match q.env t with
 |some (.pv v)=>some (q,v)
 |some (.ptr id 0)=>match q.OS id with
  |some l=>match l.env t with
   |some (.cp w)=>some (l, .ref w)
   |_=>none
  |none=>none
 |some (.row id)=>match q.cZ id with
  |some l=>match l.env t with
   |some (.pv v)=>some (l,v)
   |_=>none
  |none=>none
 |_=>none
def tf (P:Program):List ResultVar->St->Option (St×List AV)
 |[],z=>some (z,[])
 | .tmp t::l,z=>match OT z t with
  |some (w,v)=>match tf P l w with
   |some (q,B)=>some (q,v::B)
   |none=>none
  |none=>none
 | .cell D t::l,z=>match eU P ⟨none, .load t (.tmp D),t, "", #[],none⟩ z with
  |some (.pv v)=>match tf P l z with
   |some (q,B)=>some (q,v::B)
   |none=>none
  |some (.row id)=>match z.cZ id with
   |some w=>match eU P ⟨none, .load t (.tmp D),t, "", #[],none⟩ w with
    |some (.pv v)=>match tf P l w with
     |some (q,B)=>some (q,v::B)
     |none=>none
    |_=>none
   |none=>none
  |_=>none
def result:List AV->AV
 |[v]=>v
 |vs=> .gM vs
def p9 (names:List Nat) (q:St):List Nat->Option (List (Nat×Ob))
 |[]=>some []
 |id::l=>match q.ob id,p9 names q l with
  |some o,some w=>bif o.closed names then some ((id,o)::w) else none
  |_,_=>none
def qL (N:Nat):Code->Bool
 | .region _ l _=>l.toList.all λo=>match o.dst with
  |some d=>Nat.blt d N
  |none=>true
 | .seq a b=>qL N a&&qL N b
 | .cond _ a b=>qL N a&&qL N b
 | .block _ c=>qL N c
 | .loop c=>qL N c
 | .scope c=>qL N c
 |_=>true
def T8 (fn:Func):Bool:=Nat.ble fn.ntmps 10000&& !(fn.name== "runtime.NumGoroutine")&&match fn.body with
 |some c=>qL fn.ntmps c
 |none=>true
def Dx (P:Program):Bool:=P.follows .mixedOrders&&P.funcs.toList.all T8&&Nat.ble P.funcs.size 1000000
def O7 (fn:Func) (names:List Nat) (l:St):Option Nat:=
 match fn.results.toList,names with
 |[.tmp t],[10000]=>match l.env t,l.ob 10000 with
  |some (.row 10000),some (.row _ _ xs)=>some xs.length
  |some (.sub 10000 _ 0 n),some (.row _ _ _)=>some n
  |_,_=>none
 |_,_=>none
def U7 (fn:Func) (l:St):Option AV:=
 match fn.results.toList with
 |[.tmp t]=>match l.env t with
  |some (.row id)=>match iC id,l.ob id with
   |true,some (.row e q xs)=>some (.gM [.gM [.self e, .dy q xs]])
   |_,_=>none
  |_=>none
 |_=>none
def ve:Nat->List Nat->List (Nat×Nat)
 |_,[]=>[]
 |k,id::l=>(id,25000+k)::ve (k+1) l
def VN:oC->AV
 | .v a=>a
 | .r n=> .self n
 | .p n=> .self n
def VO:oC->Bool
 | .v (.self _)=>false
 |_=>true
def wY:SV->Option AV
 | .row n=>some (.self n)
 | .ptr n 0=>some (.self n)
 | .ag l=>bif l.all VO then some (.agg (l.map VN)) else none
 | .pv v=>bif v.scalar then some v else none
 |_=>none
def YX:SV->Option AV
 | .two v w=>match wY v,wY w with
  |some a,some b=>some (.gM [a,b])
  |_,_=>none
 |v=>wY v
def Xa (P:Program) (l:St):ResultVar->Option SV
 | .tmp t=>l.env t
 | .cell q t=>eU P ⟨none, .load t (.tmp q),t, "", #[],none⟩ l
def Vi (P:Program) (l:St):List ResultVar->Option SV
 |[r]=>Xa P l r
 |[r,q]=>match Xa P l r,Xa P l q with
  |some v,some w=>some (.two v w)
  |_,_=>none
 |_=>none
def NT (P:Program) (fn:Func) (names:List Nat) (q:St):Option (AV×List (Nat×Ob)):=
 match Vi P q fn.results.toList with
  |some w=>
   let ids:=(gD q 200 (w.ids++names.flatMap (B4 q)) []).filter iC;let nn:=ve 0 ids
   bif distinct ids&&names.all (λn=>Nat.blt n 25000)&&w.closed (names++ids) then
    match YX (w.pG (iD nn)),jN q (names++ids) (iD nn) (names.map (λn=>(n,n))++nn) with
    |some x,some l=>some (.gM [.gM [.self 0, .qz,x]],l)
    |_,_=>none
   else none
  |none=>none
def Z4 (P:Program) (own:Bool) (fn:Func) (names:List Nat) (e:Ex) (q:St):Option (AV×List (Nat×Ob)):=
 match e with
 | .exit _=>none
 |_=>bif own then
   match U7 fn q,p9 names q names with
   |some r,some l=>some (r,l)
   |_,_=>NT P fn names q
  else match O7 fn names q with
  |some n=>match p9 names q names with
   |some l=>some (.self n,l)
   |none=>none
  |none=>match tf P fn.results.toList q with
   |some (w,z)=>match p9 names w names with
    |some l=>some (result z,l)
    |none=>none
   |none=>none
def giv (i:Nat):Bool:=Nat.ble 9000 i&&iC i
def Z3 (P:Program) (own:Bool) (fn:Func) (cL:List (Nat×Ob)) (e:Ex) (l:St):Option (AV×List (Nat×Ob)):=Z4 P own fn ((cL.map (·.1)).filter λi=> !(iC i)) e l
def qw (P:Program) (H:Nat->Hint) (gL:eM):Nat->eM
 |0=>λ_ _ _=>none
 |n+1=>λf args cL=>match gL f args cL with
  |some r=>some r
  |none=>match P.funcs[f]? with
   |some fn=>match fn.body with
    |some c=>
     bif Nat.ble args.length fn.ntmps&&(cL.map (·.1)).all (λi=> !(iC i)||giv i) then
      match exec P (H f) (qw P H gL n) n c { env:=find (yZ 0 args),ob:=find cL } with
      |some (e,l)=>Z3 P (H f).own fn cL e l
      |none=>none
     else none
    |none=>none
   |none=>none
