/- AN ABSTRACT MACHINE over the model's code. -/
import Derived.Calls
import Derived.CallsIn
import Derived.OrdersIn
import Derived.LoopNIn
import Derived.TacticsIn
import Derived.RangeFuncIn
import Derived.Orders
import Derived.LoopN
import Derived.Scope
import Derived.Below
import Derived.Laws.OwnMore
import Derived.Maps.AppendAt
import Derived.Laws.BytesString
abbrev dw:=@Option.bind_eq_some_iff
abbrev fN:=@if_true
abbrev aG:=@Option.some.injEq
abbrev aI:=@congrArg
abbrev dz:=@List.cons.injEq
abbrev fO:=@and_true
abbrev eG:=@Array.getElem?_eq_some_iff
abbrev yt:=@List.mem_of_mem_drop
abbrev BY:=@List.mem_of_mem_take
abbrev bC:=@List.mem_append
abbrev jl:=@Nat.add_mul
abbrev aS:=@Nat.le_refl
abbrev dh:=@Nat.zero_le
abbrev bz:=@Go.run_underlying
abbrev fQ:=@Go.Sem.run_bind
abbrev gC:=@Go.Result.andThen_ok
abbrev gD:=@List.length_take
abbrev vF:=@Go.run_loadCells_list
abbrev bS:=@Option.map_eq_some_iff
abbrev kA:=@Option.isSome_iff_exists
abbrev au:=@if_pos
abbrev FH:=@List.take_length_add_append
abbrev FI:=@List.drop_length_add_append
abbrev lJ:=@List.eq_nil_of_length_eq_zero
abbrev aT:=@List.mem_of_getElem?
abbrev oB:=@List.getElem?_take
abbrev fR:=@List.foldl_cons
abbrev aP:=@List.map_cons
abbrev kB:=@Nat.add_assoc
abbrev s5:=@List.getElem?_drop
abbrev bD:=@List.getElem?_eq_some_iff
abbrev kC:=@Go.Sem.run_pure
abbrev lN:=@Nat.mul_le_mul_right
abbrev aH:=@List.getElem?_eq_getElem
abbrev gE:=@Nat.zero_add
abbrev zG:=@Go.Value.pointer.injEq
abbrev zH:=@Go.Addr.mk.injEq
abbrev FJ:=@List.drop_take
abbrev ak:=@if_neg
abbrev aD:=@List.mem_cons
abbrev bg:=@List.length_cons
abbrev fe:=@List.append_assoc
abbrev ff:=@List.cons_append
abbrev dU:=@List.nil_append
abbrev oC:=@Nat.add_zero
abbrev zI:=@Array.length_toList
abbrev Pm:=@Array.toList_zipIdx
abbrev gU:=@List.all_cons
abbrev aF:=@Bool.and_eq_true
abbrev zJ:=@List.mapM_cons
abbrev eO:=@List.map_map
abbrev kD:=@Function.comp_def
abbrev cg:=@List.all_eq_true
abbrev FK:=@List.getElem?_toArray
abbrev zK:=@Option.map_none
abbrev ai:=@cond_true
abbrev vG:=@Nat.zero_mul
abbrev dB:=@Nat.le_trans
abbrev zL:=@Nat.le_succ
abbrev br:=@Prod.mk.injEq
abbrev gF:=@Nat.eq_of_beq_eq_true
abbrev fS:=@Nat.beq_refl
abbrev oD:=@List.any_cons
abbrev mX:=@Bool.or_eq_false_iff
abbrev vH:=@Array.getElem?_setIfInBounds_ne
abbrev iL:=@List.mem_iff_getElem
abbrev FM:=@List.getElem?_eq_none_iff
abbrev vI:=@Array.getElem?_eq_getElem
abbrev eX:=@Nat.lt_of_lt_of_le
abbrev gr:=@List.getElem?_append_right
abbrev zM:=@List.replicate_succ
abbrev zN:=@Nat.succ_mul
abbrev s6:=@Nat.add_comm
abbrev kE:=@List.ext_getElem?
abbrev lP:=@Nat.mod_eq_of_lt
abbrev jm:=@List.take_of_length_le
abbrev di:=@List.getElem?_append_left
abbrev jo:=@Go.RowKit.Below.refl
abbrev s7:=@Go.heap_alloc_new
abbrev FN:=@Nat.mul_le_mul_left
abbrev aB:=@List.mem_map
abbrev cZ:=@List.getElem?_map
abbrev vJ:=@Go.run_storeCells_at
abbrev dV:=@List.map_nil
abbrev vK:=@Go.setRow_other
abbrev zO:=@Go.setRow_heap
abbrev zP:=@Nat.min_eq_left
abbrev cQ:=@List.length_append
abbrev qK:=@not_true_eq_false
abbrev ez:=@if_false
abbrev aW:=@List.length_map
abbrev FO:=@List.set_eq_take_append_cons_drop
abbrev eY:=@Bool.or_eq_true
abbrev cR:=@Ne.symm
abbrev mY:=@List.size_toArray
abbrev lQ:=@List.getElem?_set_self
abbrev bT:=@List.map_append
abbrev jq:=@List.nodup_append
abbrev gV:=@Bool.not_eq_true'
abbrev cr:=@Nat.blt_eq
abbrev oP:=@List.getElem?_set
abbrev gJ:=@List.getElem?_set_ne
abbrev nq:=@List.mem_or_eq_of_mem_set
abbrev CR:=@List.set_append_left
abbrev qY:=@List.set_append_right
abbrev jw:=@Nat.lt_of_le_of_lt
abbrev aj:=@cond_false
abbrev qZ:=@List.any_eq_false
abbrev fV:=@List.mem_filterMap
abbrev xG:=@List.filterMap_cons
abbrev bP:=@List.mem_singleton
abbrev fD:=@Option.bind_some
abbrev oQ:=@Go.callsIn_wide
abbrev cV:=@Nat.le_of_ble_eq_true
abbrev fE:=@List.nodup_cons
abbrev dW:=@List.mem_cons_of_mem
abbrev jx:=@not_or
abbrev cL:=@List.mem_filter
abbrev cW:=@Bool.false_eq_true
abbrev nt:=@false_imp_iff
abbrev fu:=@beq_iff_eq
abbrev ia:=@List.map_congr_left
abbrev j8:=@List.map_id
abbrev q7:=@Bool.and_self
abbrev cS:=@Option.map_some
abbrev ic:=@Bool.not_true
abbrev q8:=@Option.getD_some
abbrev xH:=@List.filter_eq_nil_iff
abbrev xI:=@Bool.and_eq_true_iff
abbrev eS:=@Option.some.inj
abbrev oR:=@Nat.add_sub_cancel
abbrev jy:=@Array.toList_append
abbrev j9:=@List.any_eq_true
abbrev bA:=@decide_eq_false_iff_not
abbrev eC:=@List.mem_append_left
abbrev fF:=@List.not_mem_nil
abbrev fW:=@or_false
abbrev q9:=@Bool.false_and
abbrev rf:=@List.filter_congr
abbrev xJ:=@Option.any_some
abbrev iY:=@Bool.false_or
abbrev xK:=@Bool.or_false
abbrev ud:=@List.isEmpty_iff
abbrev eT:=@List.mem_range
abbrev CS:=@Array.all_eq_true'
abbrev dA:=@Classical.byContradiction
abbrev dX:=@List.pairwise_cons
abbrev CT:=@List.append_of_mem
abbrev ri:=@List.pairwise_append
abbrev ue:=@Go.wpIn_wide
abbrev lE:=@Go.wpIn_mono
abbrev uf:=@Array.getElem?_append_left
abbrev lF:=@dif_pos
abbrev rj:=@Nat.le_max_left
abbrev rq:=@Nat.le_max_right
abbrev nv:=@List.mem_cons_self
abbrev jA:=@Nat.ble_eq_true_of_le
abbrev fG:=@Bool.true_and
abbrev ig:=@true_and
abbrev aQ:=@List.getD_eq_getElem?_getD
abbrev iZ:=@decide_eq_true_eq
abbrev CU:=@UInt8.lt_iff_toNat_lt
abbrev eE:=@List.length_nil
abbrev ry:=@List.drop_drop
abbrev aR:=@Int.toNat_natCast
abbrev ug:=@List.findIdx?_cons
abbrev xL:=@decide_false
abbrev xM:=@List.findIdx?_eq_some_iff_getElem
abbrev jB:=@List.map_set
abbrev oS:=@List.ext_getElem
abbrev lH:=@List.map_drop
abbrev rz:=@List.map_replicate
abbrev iH:=@Bool.eq_iff_iff
abbrev xN:=@Go.mapM_some_length
abbrev eU:=@List.append_nil
abbrev uh:=@List.idxOf_cons
abbrev gv:=@beq_eq_false_iff_ne
abbrev iI:=@bne_iff_ne
abbrev CV:=@List.filter_eq_self
abbrev fH:=@List.filter_cons
abbrev nw:=@List.prefix_refl
abbrev xO:=@List.IsPrefix.trans
abbrev xP:=@List.prefix_append
abbrev ij:=@List.length_singleton
abbrev iJ:=@List.pairwise_map
abbrev fc:=@List.getElem?_eq_none
abbrev oT:=@List.getElem?_cons_succ
abbrev xQ:=@List.length_pos_of_mem
abbrev oU:=@List.getElem?_range
abbrev xR:=@Int.natCast_nonneg
abbrev iq:=@List.mem_iff_getElem?
abbrev oV:=@List.mem_of_find?_eq_some
abbrev oW:=@List.find?_some
abbrev uj:=@List.find?_eq_none
abbrev CW:=@List.length_filterMap_le
abbrev xS:=@Nat.lt_irrefl
abbrev oZ:=@Nat.sub_self
abbrev kg:=@List.length_replicate
abbrev ja:=@Nat.testBit_and
abbrev rA:=@Nat.eq_of_testBit_eq
abbrev CX:=@List.findIdx?_eq_none_iff
abbrev bF:=@List.getElem_mem
abbrev rB:=@List.getElem_inj
abbrev jC:=@List.range_succ
abbrev pe:=@List.getElem_map
abbrev CY:=@List.getElem_range
abbrev uk:=@List.range'_succ
abbrev xT:=@List.range_eq_range'
abbrev rC:=@List.drop_eq_nil_of_le
abbrev um:=@List.drop_eq_getElem_cons
abbrev xU:=@BitVec.ofInt_natCast
abbrev ki:=@Nat.and_le_left
abbrev xV:=@BitVec.toNat_and
abbrev lI:=@BitVec.toNat_ofNat
abbrev xW:=@Nat.testBit_lt_two_pow
abbrev xX:=@Nat.pow_le_pow_right
abbrev CZ:=@BitVec.testBit_toNat
abbrev C0:=@BitVec.getLsbD_and
abbrev C1:=@BitVec.getLsbD_not
abbrev C6:=@BitVec.getLsbD_ofNat
abbrev uo:=@decide_true
abbrev xY:=@Nat.zero_testBit
abbrev ny:=@decide_eq_decide
abbrev jc:=@List.mem_map_of_mem
abbrev kj:=@List.take_append_drop
abbrev pg:=@Bool.not_false
abbrev uq:=@Nat.sub_zero
abbrev C7:=@List.filter_filter
abbrev c8:=@List.take_add_one
abbrev gw:=@List.take_length
abbrev ur:=@List.mem_take_iff_getElem
abbrev xZ:=@Bool.true_eq_false
abbrev x7:=@Bool.not_eq_false
abbrev uu:=@List.take_append_of_le_length
abbrev C8:=@List.getElem?_cons_zero
abbrev kn:=@List.length_filter_le
abbrev jD:=@List.getElem?_replicate
abbrev Da:=@Int.fdiv_eq_ediv_of_nonneg
abbrev bB:=@decide_eq_true_iff
abbrev x8:=@List.filter_append
abbrev lK:=@List.pairwise_iff_getElem
abbrev ya:=@List.perm_middle
abbrev nC:=@List.length_eq_zero_iff
abbrev Db:=@List.pairwise_lt_range
abbrev Dc:=@List.filter_sublist
abbrev yb:=@Nat.testBit_two_pow_mul_add
abbrev yc:=@Nat.pow_succ
abbrev pq:=@List.find?_cons
abbrev pz:=@List.flatMap_cons
abbrev yd:=@List.drop_zero
abbrev Dd:=@Option.isSome_some
abbrev ye:=@List.length_range
abbrev jd:=@List.length_set
abbrev yf:=@Int.lt_trichotomy
abbrev uv:=@List.mem_append_right
abbrev je:=@Int.eq_ofNat_of_zero_le
abbrev uw:=@List.idxOf_append
abbrev yg:=@List.set_cons_zero
abbrev yh:=@List.drop_append_of_le_length
abbrev Df:=@List.replicate_zero
abbrev pE:=@List.replicate_succ'
abbrev Dg:=@List.pairwise_singleton
abbrev Dh:=@List.getElem?_zipWith
abbrev jE:=@Int.le_refl
abbrev Di:=@Nat.add_sub_cancel_left
abbrev rD:=@bne_eq_false_iff_eq
abbrev Dj:=@List.contains_iff_mem
abbrev lM:=@of_decide_eq_true
abbrev yj:=@Array.getElem?_modify
abbrev yl:=@Nat.mul_one
abbrev ym:=@decide_eq_false
abbrev yo:=@of_decide_eq_false
abbrev rE:=@List.flatten_cons
abbrev pG:=@List.getElem!_eq_getElem?_getD
abbrev Dk:=@List.getElem!_toArray
abbrev yp:=@Go.Oper.semAt_some
abbrev ux:=@Go.callsIn_of_wp
abbrev pH:=@Array.replicate_succ
abbrev pI:=@Array.replicate_zero
abbrev pJ:=@List.push_toArray
abbrev pK:=@List.append_toArray
abbrev jF:=@Go.RowKit.Below.heap_alloc
abbrev uy:=@Array.getElem?_setIfInBounds
abbrev pN:=@Go.wp_seq
abbrev yq:=@Go.wp_region_list
abbrev ko:=@Go.wpList_plain
abbrev uz:=@Go.wpList_nil
open BitVec (ofInt)
namespace Go.AM
inductive AV where
 |bool (b:Bool)
 |int (k:IntKind) (n:Int)
 |str (s:List UInt8)
 |eH (sz:Nat) (xs:List (List AV))
 |agg (cs:List AV)
 |fn (f:Nat) (caps:List AV)
 |mu (vs:List AV)
 |ref (cs:List AV)
 |mp (ks vs:List AV)
 |self (n:Nat)
 |DZ
 |rK
 |hole
 deriving Inhabited
inductive qm where
 |v (a:AV)
 |p (id:Nat)
 |r (id:Nat)
 deriving Inhabited
inductive Ak where
 |full
 |nr (i:Nat)
 deriving Inhabited
inductive SV where
 |undef
 |any
 |pv (v:AV)
 |ptr (id off:Nat)
 |row (id:Nat)
 |rp (id sz i off:Nat)
 |sub (id sz lo hi:Nat)
 |cp (cs:List AV)
 |cl (f:Nat) (caps:List qm)
 |two (v:SV) (b:Bool)
 |ag (cs:List qm)
 |at (id:Nat) (q:Ak)
 deriving Inhabited
inductive Ob where
 |box (t:TypeId) (cells:List SV)
 |row (e:TypeId) (sz:Nat) (xs:List (List AV))
 |mp (k e:TypeId) (ks vs:List AV)
 |mr (k e:TypeId) (sz:Nat) (ks:List AV) (vs:List (Option (List (List AV))))
 |it (s:List UInt8) (pos:Nat)
  |lp (xs:List AV)
  |rn (e:TypeId) (sz k:Nat) (e':TypeId) (sz':Nat) (xs:List (List AV)) (ys:List (Option (List (List AV))))
 deriving Inhabited
structure St where
 env:Nat→Option SV
 ob:Nat→Option Ob
def AV.cells:AV→List AV
 | .agg cs=>cs
 |v=>[v]
def AV.Gd:AV→Bool
 | .mu _=>false
 |_=>true
def AV.aax:AV→Bool
 | .mu _=>true
 |_=>false
def AV.kN:AV→Bool
 | .self _=>false
 | .mu vs=>bif Nat.beq vs.length 1 then !(vs.any AV.aax) else true
 |_=>true
def AV.scalar:AV→Bool
 | .bool _| .int _ _| .str _=>true
 |_=>false
def AV.plain:AV→Bool
 | .mu vs=>vs.all AV.scalar
 |v=>v.scalar
def find {α:Type}:List (Nat×α)→Nat→Option α
 |[],_=>none
 |(j,v)::l,i=>cond (Nat.beq j i) (some v) (find l i)
def put {α:Type} (m:Nat→Option α) (d:Nat) (v:Option α):Nat→Option α:=fun i=>cond (Nat.beq d i) v (m i)
def St.set (st:St) (d:Option Nat) (v:SV):St:=
 match d with
 |some d=>{ st with env:=put st.env d (some v) }
 |none=>st
structure Hint where
 loops:List (Nat×List Nat×List Nat):=[]
 rows:List Nat:=[]
 mO:List Nat:=[]
 j5:List Nat:=[]
 ox:List (Nat×List Nat):=[]
 stay:List Nat:=[]
 keep:List Nat:=[]
 blk:List (Nat×(St→Bool)×(St→Nat×St)):=[]
 use:List Nat:=[]
 owns:List Nat:=[]
 own:Bool:=false
 rK:List (Nat×List (Nat×TypeId×Nat)):=[]
 take:List Nat:=[]
 nilz:List (Nat×List Nat):=[]
 nest:List (Nat×Nat×TypeId×Nat):=[]
 mvs:List Nat:=[]
 bx:List Nat:=[]
def sV {α:Type} (m:Nat→Option α):List Nat→List (Nat×α)
 |[]=>[]
 |i::l=>match m i with
  |some v=>(i,v)::sV m l
  |none=>sV m l
def Hint.canon (h:Hint) (key:Nat) (st:St):St:=
 match find h.loops key with
 |some (vars,obs)=>{ env:=find (sV st.env vars),ob:=find (sV st.ob obs) }
 |none=>st
def dN:Code→Nat
 | .region id _ _=>id
 | .seq a _=>dN a
 | .cond _ a _=>dN a
 | .block _ c=>dN c
 | .loop c=>dN c
 | .scope c=>dN c
 |_=>0
def isSlice (P:Program) (t:TypeId):Option (TypeId×Nat):=
 match P.underlying t with
 |some (.slice e)=>(P.info? e).map fun i=>(e,i.size)
 |_=>none
def CP (P:Program) (t:TypeId):Option Bool:=
 match P.underlying t with
 |some (.struct _)|some (.array _ _)=>some true
 |some _=>some false
 |none=>none
def lq (P:Program) (t:TypeId):Option Nat:=(P.info? t).map (·.size)
def ofConst (P:Program) (t:TypeId):Value→Option AV
 | .bool b=>some (.bool b)
 | .int k n=>some (.int k n)
 | .string s=>some (.str s.data.toList)
 | .slice none 0 0=>(isSlice P t).map fun x=> .eH x.2 []
 | .pointer none=>some .DZ
 | .nilFunc=>some .hole
 | .map none=>match P.underlying t with
  |some (.map _ _)=>some (.mp [] [])
  |_=>none
 |_=>none
def bq (P:Program) (t:TypeId) (st:St):Operand→Option SV
 | .tmp i=>st.env i
 | .const v=>(ofConst P t v).map .pv
 | .func f=>some (.pv (.fn f []))
 | .global _=>none
def vN (P:Program):Nat→TypeId→List TypeId
 |0,_=>[]
 |n+1,t=>match P.underlying t with
  |some (.struct fs)=>fs.toList.flatMap fun f=>vN P n f.type
  |some (.array m e)=>(List.replicate m (vN P n e)).flatten
  |_=>[t]
def nN (P:Program):List TypeId→List Value→Option (List AV)
 |[],[]=>some []
 |t::ts,v::vs=>match ofConst P t v,nN P ts vs with
  |some a,some as=>some (a::as)
  |_,_=>none
 |_,_=>none
def zeroCells (P:Program) (t:TypeId):Option (List AV):=
 match P.info? t with
 |some i=>match i.zero with
  |some z=>nN P (vN P 8 t) z.cells.toList
  |none=>none
 |none=>none
def Em:List Nat→List AV→Option (List AV)
 |[],cs=>some cs
 |k::ks,cs=>match cs[k]? with
  |some (.eH _ [])=>(Em ks cs).map fun z=>z.set k .rK
  |_=>none
def L7 (P:Program) (h:Hint) (d:Option Nat) (t:TypeId):Option (List AV):=
 match d.bind (find h.nilz) with
 |some ks=>(zeroCells P t).bind (Em ks)
 |none=>zeroCells P t
def E5 (op:BinOp) (k:IntKind) (a b:Int):Option AV:=
 match op with
 | .add=>some (.int k (k.wrap (a+b)))
 | .sub=>some (.int k (k.wrap (a-b)))
 | .mul=>some (.int k (k.wrap (a *b)))
 | .quo=>if b=0 then none else some (.int k (k.wrap (a.tdiv b)))
 | .rem=>if b=0 then none else some (.int k (a.tmod b))
 | .and=>some (.int k (k.wrap (ofInt k.bits a&&&ofInt k.bits b).toNat))
 | .or=>some (.int k (k.wrap (ofInt k.bits a|||ofInt k.bits b).toNat))
 | .xor=>some (.int k (k.wrap (ofInt k.bits a^^^ ofInt k.bits b).toNat))
 | .andNot=>some (.int k (k.wrap (ofInt k.bits a&&& ~~~ofInt k.bits b).toNat))
 | .eql=>some (.bool (a==b))
 | .neq=>some (.bool (a !=b))
 | .lss=>some (.bool (a<b))
 | .leq=>some (.bool (a≤b))
 | .gtr=>some (.bool (a>b))
 | .geq=>some (.bool (a≥b))
 | .shl| .shr=>none
def AI (op:BinOp) (k:IntKind) (a b:Int):Option AV:=
 if b<0 then none else
 match op with
 | .shl=>some (.int k (k.wrap (a *2^ min b.toNat k.bits)))
 | .shr=>some (.int k (a.fdiv (2^ min b.toNat k.bits)))
 |_=>none
def UE (op:BinOp) (a b:List UInt8):Option AV:=
 match op with
 | .add=>if a.length+b.length≤9223372036854775807 then some (.str (a++b)) else none
 | .eql=>some (.bool (a==b))
 | .neq=>some (.bool !(a==b))
 | .lss=>some (.bool (Op.bytesLess a b))
 | .leq=>some (.bool (Op.bytesLess a b||a==b))
 | .gtr=>some (.bool !(Op.bytesLess a b||a==b))
 | .geq=>some (.bool !(Op.bytesLess a b))
 |_=>none
def vR:AV→AV→Option Bool
 | .str a, .str b=>some (a==b)
 | .int k a, .int k' b=>if k=k' then some (a==b) else none
 | .bool a, .bool b=>some (a==b)
 |_,_=>none
def jO (P:Program) (k:TypeId) (key:AV):Bool:=
 match P.underlying k,key with
 |some .string, .str _=>true
 |some (.int q), .int q' _=>q==q'
 |some .bool, .bool _=>true
 |_,_=>false
def Li (P:Program) (xs ys:List AV):List Field→Option Bool
 |[]=>some true
 |f::fs=>match xs[f.offset]?,ys[f.offset]? with
  |some a,some b=>bif !(f.name== "_")&&jO P f.type a&&jO P f.type b&&(lq P f.type).isSome then
    match vR a b,Li P xs ys fs with
    |some r,some q=>some (r&&q)
    |_,_=>none
   else none
  |_,_=>none
def Sr (P:Program) (op:BinOp) (t:TypeId) (xs ys:List AV):Option AV:=
 match P.underlying t with
 |some (.struct fs)=>bif !(P.stoodInHeld t)&& !(P.eqGuardType P.depth t) then
   match op,Li P xs ys fs.toList with
   | .eql,some b=>some (.bool b)
   | .neq,some b=>some (.bool !b)
   |_,_=>none
  else none
 |_=>none
def bin (P:Program) (op:BinOp) (t:TypeId) (x y:AV):Option AV:=
 match x,y with
 | .agg xs, .agg ys=>Sr P op t xs ys
 | .int k a, .int k' b=>match op with
  | .shl| .shr=>AI op k a b
  |_=>if k=k' then E5 op k a b else none
 | .str a, .str b=>UE op a b
 | .bool a, .bool b=>match P.underlying t,op with
  |some .bool, .eql=>some (.bool (a==b))
  |some .bool, .neq=>some (.bool !(a==b))
  |_,_=>none
 |_,_=>none
def un (op:UnOp) (x:AV):Option AV:=
 match op,x with
 | .neg, .int k n=>some (.int k (k.wrap (0-n)))
 | .not, .bool b=>some (.bool !b)
 |_,_=>none
def iW :SV→Option AV
 | .pv v=>some v
 |_=>none
def om:List SV→Option (List AV)
 |[]=>some []
 | .pv v::l=>(om l).map (v:: ·)
 |_::_=>none
def vL:List SV→Option (List qm)
 |[]=>some []
 | .pv v::l=>(vL l).map (.v v:: ·)
 | .row id::l=>(vL l).map (.r id:: ·)
 |_::_=>none
def iS (P:Program) (t:TypeId) (cs:List AV):Option AV:=
 match CP P t,lq P t with
 |some true,some n=>if n≤cs.length then some (.agg (cs.take n)) else none
 |some false,some _=>cs[0]?
 |_,_=>none
def vQ (P:Program) (t:TypeId) (f:Nat):Option Field:=
 match P.underlying t with
 |some (.struct fs)=>fs[f]?
 |_=>none
def wS (place:Nat→Option (Nat×Nat)) (cells:List AV):List (Nat×AV)→Option (List AV)
 |[]=>some cells
 |(i,v)::rest=>
  match place i with
  |none=>none
  |some (off,size)=>
   if v.cells.length=size∧off+size≤cells.length then wS place (cells.take off++v.cells++cells.drop (off+size)) rest else none
def oL (P:Program) (t:TypeId) (f:Nat):Option (Nat×Nat):=
 match vQ P t f with
 |some fd=>(lq P fd.type).map fun n=>(fd.offset,n)
 |none=>none
def partsOf (P:Program) (ty:Nat→TypeId) (st:St):List (Nat×Operand)→Option (List (Nat×AV))
 |[]=>some []
 |(i,x)::l=>match (bq P (ty i) st x).bind iW,partsOf P ty st l with
  |some v,some vs=>some ((i,v)::vs)
  |_,_=>none
def Vo (P:Program) (t:TypeId) (i:Nat):TypeId:=((vQ P t i).map (·.type)).getD 0
def chunks (sz:Nat):Nat→List AV→List (List AV)
 |0,_=>[]
 |n+1,l=>l.take sz::chunks sz n (l.drop sz)
def tC (z:List AV):Nat→List AV
 |0=>[]
 |n+1=>z++tC z n
def elems (st:St):SV→Option (Nat×List (List AV))
 | .pv (.eH sz xs)=>some (sz,xs)
 | .row id=>match st.ob id with
  |some (.row _ sz xs)=>some (sz,xs)
  |_=>none
 | .sub id s lo hi=>match st.ob id with
  |some (.row _ sz xs)=>bif Nat.beq s sz then some (sz,(xs.take hi).drop lo) else none
  |_=>none
 |_=>none
def lenOf (st:St):SV→Option Nat
 | .pv (.eH _ xs)=>some xs.length
 | .row id=>match st.ob id with
  |some (.row _ _ xs)=>some xs.length
  |some (.rn _ _ _ _ _ xs _)=>some xs.length
  |_=>none
 |_=>none
def qb (key:AV):List AV→Option (Option Nat)
 |[]=>some none
 |x::l=>match vR key x with
  |some true=>some (some 0)
  |some false=>(qb key l).map fun r=>r.map (· +1)
  |none=>none
def Ua {α:Type} (key:AV) (ks:List AV) (vs:List α):Option (Option α):=
 match qb key ks with
 |some (some i)=>(vs[i]?).map some
 |some none=>some none
 |none=>none
def Cr {α:Type} (key:AV) (v:α) (ks:List AV) (vs:List α):Option (List AV×List α):=
 match qb key ks with
 |some (some i)=>some (ks,vs.set i v)
 |some none=>some (ks++[key],vs++[v])
 |none=>none
def mdel {α:Type} (key:AV) (ks:List AV) (vs:List α):Option (List AV×List α):=
 match qb key ks with
 |some (some i)=>some (ks.eraseIdx i,vs.eraseIdx i)
 |some none=>some (ks,vs)
 |none=>none
def maps (st:St):SV→Option (List AV×List AV)
 | .pv (.mp ks vs)=>some (ks,vs)
 | .row id=>match st.ob id with
  |some (.mp _ _ ks vs)=>some (ks,vs)
  |_=>none
 |_=>none
def F7 (st:St):SV→Option (List AV)
 | .row id=>match st.ob id with
  |some (.mr _ _ _ ks _)=>some ks
  |_=>none
 |_=>none
def qa (P:Program) (t:TypeId):Option AV:=
 match P.info? t with
 |some i=>match i.zero with
  |some (.agg cs)=>(nN P (vN P 8 t) cs.toList).map .agg
  |some v=>ofConst P t v
  |none=>none
 |none=>none
def found (ok:Bool) (v:AV) (b:Bool):AV:=bif ok then .mu [v, .bool b] else v
def bytesOf:List (List AV)→Option (List UInt8)
 |[]=>some []
 |[.int .u8 n]::l=>(bytesOf l).map (UInt8.ofNat n.toNat:: ·)
 |_=>none
def iz (lo:Option SV) (dflt:Nat) (hi:Nat):Option Nat:=
 match lo with
 |none=>some dflt
 |some (.pv (.int _ i))=>if 0≤i∧i≤hi then some i.toNat else none
 |some _=>none
def nG (P:Program) (st:St):Option Operand→Option (Option SV)
 |none=>some none
 |some x=>(bq P 0 st x).map some
def abX (isMax:Bool):AV→AV→Option AV
 | .int k a, .int k' b=>if k=k' then some (.int k (if isMax then (if b>a then b else a) else (if b<a then b else a))) else none
 | .str a, .str b=>some (.str (bif isMax then (bif !(Op.bytesLess a b) then a else b) else (bif Op.bytesLess a b||a==b then a else b)))
 |_,_=>none
def mL (P:Program) (st:St) (isMax:Bool) (acc:AV):List Operand→Option AV
 |[]=>some acc
 |x::l=>match (bq P 0 st x).bind iW with
  |some v=>match abX isMax acc v with
   |some r=>mL P st isMax r l
   |none=>none
  |none=>none
def xm (P:Program) (c:Call) (st:St):Option SV:=
 match c.callee,c.args.toList with
 | .builtin .len,[x]=>match c.argTypes.toList with
  |[t]=>match P.underlying t,bq P t st x with
   |some .string,some (.pv (.str s))=>some (.pv (.int .i64 s.length))
   |some (.slice _),some (.pv .rK)=>some (.pv (.int .i64 0))
   |some (.slice _),some (.sub _ _ lo hi)=>some (.pv (.int .i64 ((hi-lo:Nat):Int)))
   |some (.slice _),some v=>(lenOf st v).map fun (n:Nat)=>SV.pv (.int .i64 (n:Int))
   |some (.map _ _),some v=>(maps st v).map fun e=> .pv (.int .i64 e.1.length)
   |_,_=>none
  |_=>none
 | .builtin .max,x::l=>match (bq P 0 st x).bind iW with
  |some v=>(mL P st true v l).map .pv
  |none=>none
 | .builtin .min,x::l=>match (bq P 0 st x).bind iW with
  |some v=>(mL P st false v l).map .pv
  |none=>none
 |_,_=>none
def Cm (P:Program) (st:St) (n:Nat) (e:TypeId) (x ix:Operand):Option SV:=
 match lq P e,bq P 0 st x,bq P 0 st ix with
 |some s,some (.ptr id off),some (.pv (.int _ i))=>if 0≤i∧i<n∧0<s then some (.ptr id (off+i.toNat *s)) else none
 |some s,some (.rp id sz j off),some (.pv (.int _ i))=>if 0≤i∧i<n∧0<s then some (.rp id sz j (off+i.toNat *s)) else none
 |some s,some (.cp cs),some (.pv (.int _ i))=>if 0≤i∧i<n∧0<s then some (.cp (cs.drop (i.toNat *s))) else none
 |_,_,_=>none
def wV (P:Program) (st:St) (t:TypeId) (x ix:Operand):Option SV:=
 match isSlice P t,bq P t st x,bq P 0 st ix with
 |some (_,s),some (.pv (.eH sz xs)),some (.pv (.int _ i))=>
  if s=sz∧0≤i then (xs[i.toNat]?).map .cp else none
 |some (_,s),some (.row id),some (.pv (.int _ i))=>match st.ob id with
  |some (.row _ sz xs)=>if s=sz∧0≤i∧i.toNat<xs.length then some (.rp id sz i.toNat 0) else none
  |some (.rn _ sz _ _ _ xs _)=>if s=sz∧0≤i∧i.toNat<xs.length then some (.rp id sz i.toNat 0) else none
  |_=>none
 |some (_,s),some (.sub id sz lo hi),some (.pv (.int _ i))=>if s=sz∧0≤i∧i.toNat<hi-lo then some (.rp id sz (lo+i.toNat) 0) else none
 |_,_,_=>none
def yx (P:Program) (z:Option (List AV)) (t:TypeId) (parts:Array (Nat×Operand)) (st:St):Option SV:=
 match P.underlying t with
 |some (.struct fs)=>match z,partsOf P (Vo P t) st parts.toList with
  |some z,some ps=>if ps.all (fun p=>p.2.Gd)=true∧fs.toList.all (fun f=>(lq P f.type).isSome)=true then (wS (oL P t) z ps).map fun cs=> .pv (.agg cs) else none
  |_,_=>none
 |some (.array _ e)=>match z,partsOf P (fun _=>e) st parts.toList,lq P e with
  |some z,some ps,some s=>if ps.all (fun p=>p.2.Gd)=true then (wS (fun i=>some (i *s,s)) z ps).map fun cs=> .pv (.agg cs) else none
  |_,_,_=>none
 |_=>none
def Vr (P:Program) (st:St) (t:TypeId) (x:Operand) (lo hi:Option Operand) (mx:Operand):Option SV:=
 match lo,hi with
 |none,some hi=>match bq P t st x with
  |some (.row id)=>match st.ob id,isSlice P t,bq P 0 st hi,bq P 0 st mx with
   |some (.row _ sz xs),some (_,s),some (.pv (.int _ a)),some (.pv (.int _ b))=>if s=sz∧a=(xs.length:Int)∧b=(xs.length:Int) then some (.at id .full) else none
   |_,_,_,_=>none
  |_=>none
 |_,_=>none
def e9 (P:Program) (o:Oper) (st:St):Option SV:=
 match o.op with
 | .move x| .assign x=>bq P o.type st x
 | .pick c a b=>match bq P 0 st c with
  |some (.pv (.bool t))=>bif t then bq P o.type st a else bq P o.type st b
  |_=>none
 | .binOp op t x y _=>match (bq P t st x).bind iW,(bq P t st y).bind iW with
  |some a,some b=>(bin P op t a b).map .pv
  |_,_=>none
 | .unOp op _ x=>match (bq P 0 st x).bind iW with
  |some a=>(un op a).map .pv
  |none=>none
 | .convert src dst x=>match P.underlying src,P.underlying dst with
  |some (.slice e),some .string=>match P.underlying e,lq P e,(bq P src st x).bind (elems st) with
   |some (.int .u8),some 1,some (1,xs)=>(bytesOf xs).map fun b=> .pv (.str b)
   |_,_,_=>none
  |some _,some (.int k)=>match (bq P 0 st x).bind iW with
   |some (.int _ n)=>some (.pv (.int k (k.wrap n)))
   |_=>none
  |some _,some .string=>match (bq P 0 st x).bind iW with
   |some (.str s)=>some (.pv (.str s))
   |_=>none
  |_,_=>none
 | .call c=>xm P c st
 | .nilCheck x=>match bq P 0 st x with
  |some (.ptr id off)=>some (.ptr id off)
  |some (.cp cs)=>some (.cp cs)
  |some (.pv (.ref cs))=>some (.pv (.ref cs))
  |some (.rp id sz i off)=>some (.rp id sz i off)
  |_=>none
 | .fieldAddr t x f=>match vQ P t f with
  |some fd=>match lq P fd.type with
   |some 0=>none
   |some _=>match bq P 0 st x with
    |some (.ptr id off)=>some (.ptr id (off+fd.offset))
    |some (.cp cs)=>some (.cp (cs.drop fd.offset))
    |some (.pv (.ref cs))=>some (.cp (cs.drop fd.offset))
    |some (.rp id sz i off)=>some (.rp id sz i (off+fd.offset))
    |_=>none
   |none=>none
  |none=>none
 | .field t x f=>match vQ P t f,(bq P 0 st x).bind iW with
  |some fd,some (.agg cs)=>(iS P fd.type (cs.drop fd.offset)).map .pv
  |_,_=>none
 | .indexAddr t x ix=>match P.underlying t with
  |some (.array n e)=>Cm P st n e x ix
  |_=>wV P st t x ix
 | .index t x ix=>match P.underlying t,bq P t st x,bq P 0 st ix with
  |some .string,some (.pv (.str s)),some (.pv (.int _ i))=>
   if 0≤i then (s[i.toNat]?).map fun b=> .pv (.int .u8 b.toNat) else none
  |_,_,_=>none
 | .load t x=>match bq P 0 st x with
  |some (.cp cs)=>(iS P t cs).map .pv
  |some (.pv (.ref cs))=>(iS P t cs).map .pv
  |some (.rp id sz i off)=>match st.ob id with
   |some (.row _ sz' xs)=>if sz=sz' then (xs[i]?).bind fun c=>(iS P t (c.drop off)).map .pv else none
   |some (.rn _ sz' k _ _ xs _)=>if sz=sz'∧off=k∧i<xs.length∧CP P t=some false then some (.at id (.nr i)) else none
   |_=>none
  |some (.ptr id off)=>match st.ob id with
   |some (.box _ cells)=>match CP P t with
    |some false=>if (lq P t).isSome then cells[off]? else none
    |some true=>match lq P t with
     |some n=>if off+n≤cells.length then match om ((cells.drop off).take n) with
       |some cs=>some (.pv (.agg cs))
       |none=>(vL ((cells.drop off).take n)).map .ag
      else none
     |none=>none
    |none=>none
   |_=>none
  |_=>none
 | .slice t x lo hi none=>match P.underlying t,bq P t st x,nG P st lo,nG P st hi with
  |some .string,some (.pv (.str s)),some lo,some hi=>match iz hi s.length s.length with
   |some h=>(iz lo 0 h).map fun l=> .pv (.str ((s.take h).drop l))
   |none=>none
  |some (.slice _),some (.pv (.eH sz xs)),some lo,some hi=>match isSlice P t,iz hi xs.length xs.length with
   |some (_,s),some h=>if s=sz then (iz lo 0 h).map fun l=> .pv (.eH sz ((xs.take h).drop l)) else none
   |_,_=>none
  |some (.slice _),some (.row id),some lo,some hi=>match isSlice P t,st.ob id with
   |some (_,s),some (.row _ sz xs)=>match iz hi xs.length xs.length with
    |some h=>if s=sz then (iz lo 0 h).map fun l=> .sub id sz l h else none
    |none=>none
   |_,_=>none
  |some (.slice _),some (.sub id sz a b),some lo,some hi=>match isSlice P t,iz hi (b-a) (b-a) with
   |some (_,s),some h=>if s=sz then (iz lo 0 h).map fun l=> .sub id sz (a+l) (a+h) else none
   |_,_=>none
  |_,_,_,_=>none
 | .slice t x lo hi (some mx)=>Vr P st t x lo hi mx
 | .extract x i=>match bq P 0 st x with
  |some (.pv (.mu vs))=>(vs[i]?).map .pv
  |some (.two v b)=>match i with
   |0=>some v
   |1=>some (.pv (.bool b))
   |_=>none
  |_=>none
 | .lookup t x k ok=>match P.underlying t with
  |some (.map kt et)=>match (bq P t st x).bind (F7 st),(bq P kt st k).bind iW with
   |some ks,some key=>bif ok&&jO P kt key&&(qa P et).isSome then (qb key ks).map fun r=> .two .any r.isSome else none
   |_,_=>match (bq P t st x).bind (maps st),(bq P kt st k).bind iW with
   |some (ks,vs),some key=>bif jO P kt key then
     match Ua key ks vs with
     |some (some v)=>some (.pv (found ok v true))
     |some none=>(qa P et).map fun z=> .pv (found ok z false)
     |none=>none
    else none
   |_,_=>none
  |_=>none
 | .build t parts=>yx P (zeroCells P t) t parts st
 |_=>none
def qm.mentions (id:Nat):qm→Bool
 | .p j| .r j=>Nat.beq j id
 | .v _=>false
def SV.mentions (id:Nat):SV→Bool
 | .ptr j _| .row j| .rp j _ _ _| .sub j _ _ _=>Nat.beq j id
 | .cl _ caps=>caps.any (qm.mentions id)
 | .ag caps=>caps.any (qm.mentions id)
 | .two v _=>v.mentions id
 | .at j _=>Nat.beq j id||Nat.beq (j+40000) id
 |_=>false
def SV.dm (id:Nat) (v:SV):SV:=bif v.mentions id then .any else v
def Ob.dm (id:Nat):Ob→Ob
 | .box t cells=> .box t (cells.map (SV.dm id))
 |o=>o
def St.dm (st:St) (id:Nat):St:=
 {env:=fun i=>(st.env i).map (SV.dm id),ob:=put (fun i=>(st.ob i).map (Ob.dm id)) id none }
def St.new (st:St) (id:Nat) (o:Ob):St:=
 let s:=st.dm id
 {s with ob:=put s.ob id (some o) }
def SV.dD (id:Nat) (v:AV):SV→SV
 | .row j=>bif Nat.beq j id then .pv v else .row j
 |s=>s.dm id
def pO {α:Type}:List (Option α)→Option (List α)
 |[]=>some []
 |some x::l=>(pO l).map (x:: ·)
 |none::_=>none
def wL (k sz':Nat):List (List AV)→List (List (List AV))→List (List AV)
 |x::xs,y::ys=>x.set k (.eH sz' y)::wL k sz' xs ys
 |_,_=>[]
def Ob.val:Ob→Option AV
 | .row _ sz xs=>some (.eH sz xs)
 | .mp _ _ ks vs=>some (.mp ks vs)
 | .mr _ _ sz ks vs=>(pO vs).map fun l=> .mp ks (l.map (.eH sz))
 | .box _ _=>none
 | .it _ _=>none
 | .lp _=>none
 | .rn _ sz k _ sz' xs ys=>(pO ys).map fun l=> .eH sz (wL k sz' xs l)
def Ob.dD (id:Nat) (v:AV):Ob→Ob
 | .box t cells=> .box t (cells.map (SV.dD id v))
 |o=>o
def xk (id:Nat):Bool:=Nat.blt id 10000
def St.dD (st:St) (id:Nat):Option St:=
 match xk id,(st.ob id).bind Ob.val with
 |true,some v=>some { env:=fun i=>(st.env i).map (SV.dD id v),ob:=put (fun i=>(st.ob i).map (Ob.dD id v)) id none }
 |_,_=>none
def SV.qh (id:Nat) (cs:List AV):SV→SV
 | .ptr j off=>bif Nat.beq j id then .cp (cs.drop off) else .ptr j off
 |s=>s.dm id
def Ob.qh (id:Nat) (cs:List AV):Ob→Ob
 | .box t cells=> .box t (cells.map (SV.qh id cs))
 |o=>o
def St.qh (st:St) (id:Nat):Option St:=
 match xk id,st.ob id with
 |true,some (.box _ cells)=>match om cells with
  |some cs=>some { env:=fun i=>(st.env i).map (SV.qh id cs),ob:=put (fun i=>(st.ob i).map (Ob.qh id cs)) id none }
  |none=>none
 |_,_=>none
def vZ (st:St):List Operand→Option St
 |[]=>some st
 | .tmp i::l=>match st.env i with
  |some (.ptr id _)=>(st.qh id).bind fun st'=>vZ st' l
  |_=>vZ st l
 |_::l=>vZ st l
def j6 (st:St):List qm→Option (List AV)
 |[]=>some []
 | .v a::l=>(j6 st l).map (a:: ·)
 | .r id::l=>match (st.ob id).bind Ob.val,j6 st l with
  |some v,some vs=>some (v::vs)
  |_,_=>none
 | .p _::_=>none
def mK (st:St):SV→Option AV
 | .pv v=>some v
 | .row id=>(st.ob id).bind Ob.val
 | .ag cs=>(j6 st cs).map .agg
 | .at id (.nr i)=>match st.ob id with
  |some (.rn _ _ _ _ s' _ ys)=>match ys[i]? with
   |some (some zs)=>some (.eH s' zs)
   |_=>none
  |_=>none
 |_=>none
def jI (P:Program) (st:St):List Operand→List TypeId→Option (List AV)
 |[],_=>some []
 |x::xs,ts=>match (bq P (ts.headD 0) st x).bind (mK st),jI P st xs ts.tail with
  |some v,some vs=>some (v::vs)
  |_,_=>none
def kT (st:St):Operand→Bool
 | .tmp i=>match st.env i with
  |some (.row _)=>true
  |some (.ag _)=>true
  |some (.at _ _)=>true
  |_=>false
 |_=>false
def vC (st:St):Operand→Bool
 | .tmp i=>match st.env i with
  |some (.ag _)=>true
  |some (.at _ _)=>true
  |_=>false
 |_=>false
def tN (st:St):List Operand→Option (List AV)
 |[]=>some []
 | .tmp i::l=>match st.env i,tN st l with
  |some (.pv v),some vs=>some (v::vs)
  |some (.cp cs),some vs=>some (.ref cs::vs)
  |_,_=>none
 |_::_=>none
def qE (st:St):List Operand→Option (List qm)
 |[]=>some []
 | .tmp i::l=>match st.env i,qE st l with
  |some (.pv v),some cs=>some (.v v::cs)
  |some (.cp cs'),some cs=>some (.v (.ref cs')::cs)
  |some (.ptr id 0),some cs=>some (.p id::cs)
  |_,_=>none
 |_::_=>none
def kM (P:Program) (t:TypeId) (len:Nat) (parts:List (Nat×Operand)) (st:St):Option (TypeId×Nat×List (List AV)):=
 match isSlice P t with
 |some (e,s)=>match zeroCells P e,partsOf P (fun _=>e) st parts with
  |some z,some ps=>
   if len *s≤16777216∧0<s∧z.length=s∧ps.all (fun p=>p.2.Gd)=true then
    (wS (fun i=>some (i *s,s)) (tC z len) ps).map fun cs=>(e,s,chunks s len cs)
   else none
  |_,_=>none
 |none=>none
abbrev dQ:=Nat→List SV→List (Nat×Ob)→Option (AV×List (Nat×Ob))
def oK (h:Hint) (st:St):Operand→Option Nat
 | .tmp t=>bif h.j5.contains t then
   match st.env t with
   |some (.row id)=>some id
   |_=>none
  else none
 |_=>none
def qj (h:Hint):Operand→Bool
 | .tmp t=>h.rows.contains t
 |_=>false
def iT (id:Nat):Bool:=Nat.blt id 10000||(Nat.ble 20000 id&&Nat.blt id 30000)
def SV.ids:SV→List Nat
 | .ptr j _| .row j| .rp j _ _ _| .sub j _ _ _=>[j]
 | .cl _ caps=>caps.filterMap fun
  | .p j| .r j=>some j
  | .v _=>none
 | .ag caps=>caps.filterMap fun
  | .p j| .r j=>some j
  | .v _=>none
 | .two v _=>v.ids
 | .at j _=>[j,j+40000]
 |_=>[]
def SV.NQ:SV→List Nat
 | .at j _=>[j]
 |v=>v.ids
def SV.closed (names:List Nat):SV→Bool
 | .ptr j _| .row j| .rp j _ _ _| .sub j _ _ _=>names.contains j
 | .cl _ caps=>caps.all fun
  | .p j| .r j=>names.contains j
  | .v _=>true
 | .ag caps=>caps.all fun
  | .p j| .r j=>names.contains j
  | .v _=>true
 | .two v _=>v.closed names
 | .at _ _=>false
 |_=>true
def Ob.closed (names:List Nat):Ob→Bool
 | .box _ cells=>cells.all (SV.closed names)
 | .row _ _ _=>true
 | .mp _ _ _ _=>true
 | .mr _ _ _ _ _=>false
 | .it _ _=>true
 | .lp _=>true
 | .rn _ _ _ _ _ _ _=>false
def DS (st:St):Operand→Bool
 | .tmp t=>match st.env t with
  |some (.ptr _ _)=>true
  |some (.cl _ _)=>true
  |_=>false
 |_=>false
def Ty (st:St):Operand→Bool
 | .tmp t=>match st.env t with
  |some (.cl _ _)=>true
  |_=>false
 |_=>false
def wide (st:St) (c:Call) (f:Operand):Bool:=Ty st f||c.args.toList.any (DS st)
def isRef (h:Hint):Operand→Bool
 | .tmp t=>h.j5.contains t
 |_=>false
def Zf (P:Program) (h:Hint) (st:St) (t:TypeId) (x:Operand):Option SV:=
 match bq P t st x with
 |some (.pv v)=>some (.pv v)
 |some (.ptr id off)=>some (.ptr id off)
 |some (.row id)=>bif isRef h x then some (.row id) else none
 |some (.cl f caps)=>some (.cl f caps)
 |some (.cp cs)=>some (.cp cs)
 |_=>none
def tM (P:Program) (h:Hint) (st:St):List Operand→List TypeId→Option (List SV)
 |[],_=>some []
 |x::xs,ts=>match Zf P h st (ts.headD 0) x,tM P h st xs ts.tail with
  |some v,some vs=>some (v::vs)
  |_,_=>none
def IC:qm→SV
 | .v a=> .pv a
 | .p id=> .ptr id 0
 | .r id=> .row id
def fnSV:SV→Option (Nat×List SV×List SV)
 | .pv (.fn g caps)=>bif Nat.blt g 1000000 then some (g,[],caps.map .pv) else none
 | .cl g caps=>bif Nat.blt g 1000000 then some (g,[],caps.map IC) else bif Nat.blt g 2000000 then some (g-1000000,caps.map IC,[]) else match caps with
  |[c]=>some (g,[],[IC c])
  |_=>none
 |_=>none
def Ho (st:St) (id:Nat):List Nat:=
 match st.ob id with
 |some (.box _ cells)=>cells.flatMap SV.ids
 |_=>[]
def kL (st:St):Nat→List Nat→List Nat→List Nat
 |0,_,done=>done
 |_+1,[],done=>done
 |n+1,id::todo,done=>bif done.contains id then kL st n todo done else kL st n (todo++Ho st id) (done++[id])
def qi:List SV→List Nat
 |[]=>[]
 | .row id::l=>id::qi l
 |_::l=>qi l
def VG (st:St) (id:Nat):Bool:=
 match st.ob id with
 |some (.row _ _ _)=>true
 |_=>false
def lV (stay:Bool) (st:St) (roots:List Nat) (id:Nat):Bool:=VG st id&&iT id&& !(roots.contains id)&& !stay
def jW (mv:Nat→Bool):Nat→List Nat→List (Nat×Nat)
 |_,[]=>[]
 |k,id::l=>(id,bif mv id then 20000+k else 10000+k)::jW mv (k+1) l
def swap:List (Nat×Nat)→List (Nat×Nat)
 |[]=>[]
 |(a,b)::l=>(b,a)::swap l
def qS (m:List (Nat×Nat)) (id:Nat):Nat:=(find m id).getD id
def qm.tL (ρ:Nat→Nat):qm→qm
 | .p id=> .p (ρ id)
 | .r id=> .r (ρ id)
 |c=>c
def SV.tL (ρ:Nat→Nat):SV→SV
 | .ptr j off=> .ptr (ρ j) off
 | .row j=> .row (ρ j)
 | .rp j sz i off=> .rp (ρ j) sz i off
 | .sub j sz lo hi=> .sub (ρ j) sz lo hi
 | .cl f caps=> .cl f (caps.map (qm.tL ρ))
 | .ag caps=> .ag (caps.map (qm.tL ρ))
 | .two v b=> .two (v.tL ρ) b
 |s=>s
def Ob.tL (ρ:Nat→Nat):Ob→Ob
 | .box t cells=> .box t (cells.map (SV.tL ρ))
 |o=>o
def lU (st:St) (ids:List Nat) (ρ:Nat→Nat):List (Nat×Nat)→Option (List (Nat×Ob))
 |[]=>some []
 |(id,nm)::l=>match st.ob id,lU st ids ρ l with
  |some o,some os=>bif o.closed ids then some ((nm,o.tL ρ)::os) else none
  |_,_=>none
def oq (names:List Nat) (ρ:Nat→Nat):List (Nat×Nat)→List (Nat×Ob)→Option (List (Nat×Ob))
 |[],[]=>some []
 |(id,nm)::l,(V7,o)::os=>bif Nat.beq nm V7&&o.closed names then (oq names ρ l os).map fun r=>(id,o.tL ρ)::r else none
 |_,_=>none
def distinct:List Nat→Bool
 |[]=>true
 |x::l=> !(l.contains x)&&distinct l
def kQ:List Nat→St→St
 |[],st=>st
 |id::l,st=>kQ l (st.dm id)
mutual
def AV.same:AV→AV→Bool
 | .bool a, .bool b=>a==b
 | .int k a, .int k' b=>decide (k=k')&&decide (a=b)
 | .str a, .str b=>decide (a=b)
 | .eH s xs, .eH s' ys=>Nat.beq s s'&&AF xs ys
 | .agg a, .agg b=>rV a b
 | .fn f a, .fn g b=>Nat.beq f g&&rV a b
 | .mu a, .mu b=>rV a b
 | .ref a, .ref b=>rV a b
 | .mp a b, .mp c d=>rV a c&&rV b d
 | .self a, .self b=>Nat.beq a b
 | .DZ, .DZ=>true
 | .rK, .rK=>true
 | .hole, .hole=>true
 |_,_=>false
def rV:List AV→List AV→Bool
 |[],[]=>true
 |a::l,b::m=>AV.same a b&&rV l m
 |_,_=>false
def AF:List (List AV)→List (List AV)→Bool
 |[],[]=>true
 |a::l,b::m=>rV a b&&AF l m
 |_,_=>false
end
def qm.same:qm→qm→Bool
 | .v a, .v b=>AV.same a b
 | .p a, .p b=>Nat.beq a b
 | .r a, .r b=>Nat.beq a b
 |_,_=>false
def rW:List qm→List qm→Bool
 |[],[]=>true
 |a::l,b::m=>qm.same a b&&rW l m
 |_,_=>false
def Ak.same:Ak→Ak→Bool
 | .full, .full=>true
 | .nr i, .nr j=>Nat.beq i j
 |_,_=>false
def SV.same:SV→SV→Bool
 | .undef, .undef=>true
 | .any, .any=>true
 | .pv a, .pv b=>AV.same a b
 | .ptr a b, .ptr c d=>Nat.beq a c&&Nat.beq b d
 | .row a, .row b=>Nat.beq a b
 | .rp a b c d, .rp a' b' c' d'=>Nat.beq a a'&&Nat.beq b b'&&Nat.beq c c'&&Nat.beq d d'
 | .sub a b c d, .sub a' b' c' d'=>Nat.beq a a'&&Nat.beq b b'&&Nat.beq c c'&&Nat.beq d d'
 | .cp a, .cp b=>rV a b
 | .cl f a, .cl g b=>Nat.beq f g&&rW a b
 | .two s a, .two t b=>SV.same s t&&(a==b)
 | .ag a, .ag b=>rW a b
 | .at a q, .at b r=>Nat.beq a b&&Ak.same q r
 |_,_=>false
def wg:List SV→List SV→Bool
 |[],[]=>true
 |a::l,b::m=>SV.same a b&&wg l m
 |_,_=>false
def qJ:List (Option (List (List AV)))→List (Option (List (List AV)))→Bool
 |[],[]=>true
 |some a::l,some b::m=>AF a b&&qJ l m
 |none::l,none::m=>qJ l m
 |_,_=>false
def Ob.same:Ob→Ob→Bool
 | .box t a, .box u b=>Nat.beq t u&&wg a b
 | .row e s xs, .row e' s' ys=>Nat.beq e e'&&Nat.beq s s'&&AF xs ys
 | .mp k e a b, .mp k' e' c d=>Nat.beq k k'&&Nat.beq e e'&&rV a c&&rV b d
 | .mr k e s a b, .mr k' e' s' c d=>Nat.beq k k'&&Nat.beq e e'&&Nat.beq s s'&&rV a c&&qJ b d
 | .it s p, .it s' p'=>decide (s=s')&&Nat.beq p p'
 | .lp a, .lp b=>rV a b
 | .rn e s k e2 s2 x y, .rn e' s' k' e3 s3 x' y'=>Nat.beq e e'&&Nat.beq s s'&&Nat.beq k k'&&Nat.beq e2 e3&&Nat.beq s2 s3&&AF x x'&&qJ y y'
 |_,_=>false
def uJ:List (Nat×Ob)→List (Nat×Ob)→Bool
 |[],[]=>true
 |(i,a)::l,(j,b)::m=>Nat.beq i j&&Ob.same a b&&uJ l m
 |_,_=>false
def tW (P:Program) (h:Hint) (st:St) (c:Call) (f:Operand):Option (Nat×List SV):=
 match (bq P 0 st f).bind fnSV,tM P h st c.args.toList c.argTypes.toList with
 |some (g,pre,caps),some vs=>some (g,pre++(vs++caps))
 |_,_=>none
def lg (st:St) (args:List SV):List Nat:=kL st 200 (args.flatMap SV.ids) []
def jK (ids:List Nat):List (Nat×Nat):=jW (fun _=>false) 0 ids
def sw (P:Program) (h:Hint) (bM:dQ) (st:St) (c:Call) (f:Operand):Option AV:=
 match tW P h st c f with
 |some (g,args)=>
  bif distinct (lg st args)&&Nat.blt (lg st args).length 10000&&args.all (SV.closed (lg st args)) then
   match lU st (lg st args) (qS (jK (lg st args))) (jK (lg st args)) with
   |some cD=>match bM g (args.map (SV.tL (qS (jK (lg st args))))) cD with
    |some (r,gm)=>bif uJ gm cD&&r.kN then some r else none
    |none=>none
   |none=>none
  else none
 |none=>none
def ec (P:Program) (h:Hint) (bM:dQ) (o:Oper) (st:St):Option SV:=
 match o.op with
 | .buildSlice t len parts=>
  bif (o.dst.any h.rows.contains) then none else (kM P t len parts.toList st).map fun x=> .pv (.eH x.2.1 x.2.2)
 | .call c=>match c.callee with
  | .value f=>bif o.dst.any h.owns.contains then none else bif o.dst.any h.stay.contains&&wide st c f then (sw P h bM st c f).map .pv else
   bif wide st c f||c.args.toList.any (fun x=>(oK h st x).isSome) then none else
   match bq P 0 st f,jI P st c.args.toList c.argTypes.toList with
   |some (.pv (.fn g caps)),some vs=>match bM g ((vs++caps).map .pv) [] with
    |some (r,[])=>bif (!(c.args.toList.any (kT st))||r.plain)&&r.kN then some (.pv r) else none
    |_=>none
   |_,_=>none
  |_=>xm P c st
 | .lookup _ x _ ok=>bif qj h x&& !ok then none else e9 P o st
 | .build t parts=>bif o.dst.any h.rows.contains then none else yx P (L7 P h o.dst t) t parts st
 | .load _ _=>bif o.dst.any h.take.contains then none else e9 P o st
 | .makeFunc (.func g) first caps=>bif first.isEmpty then
   bif o.dst.any h.j5.contains then bif Nat.blt g 1000000 then (qE st caps.toList).map fun cs=> .cl g cs else none
   else (tN st caps.toList).map fun vs=> .pv (.fn g vs)
  else bif caps.isEmpty&&o.dst.any h.j5.contains&&Nat.blt g 1000000 then (qE st first.toList).map fun cs=> .cl (g+1000000) cs else none
 | .assign x=>match o.dst,x,e9 P o st with
  |some d, .const _,some (.pv (.eH sz xs))=>bif h.rows.contains d then none else some (.pv (.eH sz xs))
  |some d,_,some (.row id)=>bif h.mO.contains d||h.mvs.contains d then none else some (.row id)
  |_,_,r=>r
 |_=>e9 P o st
def rN (st:St):SV→Bool
 | .pv (.agg _)| .pv (.mu _)=>false
 | .pv _=>true
 | .ptr _ _| .rp _ _ _ _| .cp _| .cl _ _=>true
 | .row id=>match st.ob id with
  |some (.row _ _ _)=>true
  |some (.mp _ _ _ _)=>true
  |some (.rn _ _ _ _ _ _ _)=>true
  |_=>false
 |_=>false
def storeAt (P:Program) (t:TypeId) (st:St) (a:SV) (v:SV):Option St:=
 match a with
 | .ptr id off=>match st.ob id,lq P t with
  |some (.box bt cells),some n=>match v with
   | .ag cs=>if cs.length=n∧off+n≤cells.length then
     some { st with ob:=put st.ob id (some (.box bt (cells.take off++cs.map IC++cells.drop (off+n)))) } else none
   | .pv (.agg cs)=>if cs.length=n∧off+n≤cells.length then
     some { st with ob:=put st.ob id (some (.box bt (cells.take off++cs.map .pv++cells.drop (off+n)))) } else none
   |v=>if n=1∧off<cells.length∧rN st v=true then some { st with ob:=put st.ob id (some (.box bt (cells.set off v))) } else none
  |_,_=>none
 | .rp id sz i off=>match st.ob id,lq P t,v with
  |some (.row e sz' xs),some n, .pv v=>match xs[i]? with
   |some c=>if sz=sz'∧v.cells.length=n∧off+n≤c.length∧v.Gd=true then
     some { st with ob:=put st.ob id (some (.row e sz' (xs.set i (c.take off++v.cells++c.drop (off+n))))) } else none
   |none=>none
  |_,_,_=>none
 |_=>none
def Ba (P:Program) (h:Hint) (st:St):List Operand→List TypeId→Option (List SV×List Nat)
 |[],_=>some ([],[])
 |x::xs,ts=>match oK h st x,Ba P h st xs ts.tail with
  |some id,some (vs,ids)=>some (.row 10000::vs,id::ids)
  |none,some (vs,ids)=>match (bq P (ts.headD 0) st x).bind iW with
   |some v=>some (.pv v::vs,ids)
   |none=>none
  |_,none=>none
def pR (P:Program) (h:Hint) (bM:dQ) (st:St) (c:Call) (f:Operand) (d:Option Nat):Option St:=
 match bq P 0 st f,Ba P h st c.args.toList c.argTypes.toList with
 |some (.pv (.fn g caps)),some (vs,[id])=>match st.ob id with
  |some (.row e sz xs)=>match bM g (vs++caps.map .pv) [(10000, .row e sz xs)] with
   |some (r,[(nm, .row e' sz' xs')])=>bif Nat.beq e e'&&Nat.beq sz sz'&&Nat.beq nm 10000 then
     match r with
     | .self n=>bif Nat.ble n xs'.length&&iT id then some ((st.new id (.row e' sz' (xs'.take n))).set d (.row id)) else none
     |r=>bif r.plain then some (St.set { st with ob:=put st.ob id (some (.row e' sz' xs')) } d (.pv r)) else none
    else none
   |_=>none
  |_=>none
 |_,_=>none
def jL (P:Program) (h:Hint) (bM:dQ) (st:St) (c:Call) (f:Operand) (d:Option Nat):Option St:=
 match (bq P 0 st f).bind fnSV,tM P h st c.args.toList c.argTypes.toList with
 |some (g,pre,caps),some vs=>
  let args:=pre++(vs++caps)
  let ids:=kL st 200 (args.flatMap SV.ids) []
  let mv:=lV (d.any h.stay.contains) st (qi args)
  let m:=jW mv 0 ids
  let names:=m.map (·.2)
  let ρ:=qS m
  bif distinct ids&&Nat.blt ids.length 10000&&args.all (SV.closed ids) then
   match lU st ids ρ m with
   |some cD=>match bM g (args.map (SV.tL ρ)) cD with
    |some (r,gm)=>match oq names (qS (swap m)) m gm with
     |some back=>bif r.kN then
       let st1:=kQ (ids.filter mv) st
       some (St.set { env:=st1.env,ob:=fun i=>(find back i).orElse fun _=>st1.ob i } d (.pv r)) else none
     |none=>none
    |none=>none
   |none=>none
  else none
 |_,_=>none
def AT (P:Program) (t:TypeId):Option (List Value):=
 match P.info? t with
 |some i=>i.zero.map fun z=>z.cells.toList
 |none=>none
def uA (P:Program) (d:Nat):Nat→List TypeId→List Value→Option (List SV×List (Nat×TypeId×Nat))
 |_,[],[]=>some ([],[])
 |j,t::ts,v::vs=>match uA P d (j+1) ts vs with
  |some (Pc,l)=>match isSlice P t,v with
   |some (e,s), .slice none 0 0=>bif Nat.blt 0 s&&Nat.blt (5000+16 *d+j) 10000 then some (.row (5000+16 *d+j)::Pc,(5000+16 *d+j,e,s)::l) else none
   |_,v=>(ofConst P t v).map fun a=>(.pv a::Pc,l)
  |none=>none
 |_,_,_=>none
def DN (nst:List (Nat×Nat×TypeId×Nat)) (id:Nat) (e:TypeId) (s:Nat):Ob:=
 match find nst id with
 |some (k,e',s')=>bif Nat.blt k s then .rn e s k e' s' [] [] else .row e s []
 |none=> .row e s []
def uF (nst:List (Nat×Nat×TypeId×Nat)):List (Nat×TypeId×Nat)→St→St
 |[],st=>st
 |(id,e,s)::l,st=>uF nst l (st.new id (DN nst id e s))
def w8 (h:Hint) (d:Nat):Option (List (Nat×TypeId×Nat)):=find h.rK d
def TA:Operand→Bool
 | .const (.slice none 0 0)=>true
 |_=>false
def NH (P:Program) (b:Bool) (st:St) (t:TypeId) (x:Operand):Option AV:=bif b&&TA x then some .rK else (bq P t st x).bind iW
def rQ (P:Program) (b:Bool) (st:St):List Operand→List TypeId→Option (List AV)
 |[],_=>some []
 |x::xs,ts=>match NH P b st (ts.headD 0) x,rQ P b st xs ts.tail with
  |some v,some vs=>some (v::vs)
  |_,_=>none
def sQ:List AV→List (Nat×TypeId×Nat)→Option (List qm)
 |[],_=>some []
 | .rK::cs,x::l=>(sQ cs l).map (.r x.1:: ·)
 | .rK::_,[]=>none
 |a::cs,l=>(sQ cs l).map (.v a:: ·)
def kW (P:Program) (h:Hint) (bM:dQ) (st:St) (c:Call) (f:Operand) (d:Option Nat):Option St:=
 match d with
 |some d=>match bq P 0 st f,rQ P (w8 h d).isSome st c.args.toList c.argTypes.toList with
  |some (.pv (.fn g caps)),some vs=>match bM g ((vs++caps).map .pv) [] with
   |some (.mu [.mu [.self e, .eH sz xs]],[])=>bif (w8 h d).isSome then none else some ((st.new d (.row e sz xs)).set (some d) (.row d))
   |some (.agg cs,[])=>match w8 h d with
    |some []=>some (st.set (some d) (.pv (.agg cs)))
    |some l=>match sQ cs l with
     |some ks=>bif l.all (fun x=>Nat.blt x.1 10000) then some ((uF h.nest l st).set (some d) (.ag ks)) else none
     |none=>none
    |none=>none
   |_=>none
  |_,_=>none
 |none=>none
def capOf (st:St) (s:SV):Option qm:=
 bif rN st s then
  match s with
  | .pv a=>some (.v a)
  | .row id=>some (.r id)
  |_=>none
 else none
def Du (st:St):List SV→Option (List qm)
 |[]=>some []
 |s::l=>match capOf st s,Du st l with
  |some c,some cs=>some (c::cs)
  |_,_=>none
def Uo (st:St):SV→Option (List SV)
 | .pv (.agg cs)=>some (cs.map .pv)
 |s=>bif rN st s then some [s] else none
def D6 (P:Program) (ty:Nat→TypeId) (st:St):List (Nat×Operand)→Option (List (Nat×List SV))
 |[]=>some []
 |(i,x)::l=>match (bq P (ty i) st x).bind (Uo st),D6 P ty st l with
  |some v,some vs=>some ((i,v)::vs)
  |_,_=>none
def P6 (place:Nat→Option (Nat×Nat)) (cells:List SV):List (Nat×List SV)→Option (List SV)
 |[]=>some cells
 |(i,v)::rest=>
  match place i with
  |none=>none
  |some (off,size)=>
   if v.length=size∧off+size≤cells.length then P6 place (cells.take off++v++cells.drop (off+size)) rest else none
def ES (P:Program) (h:Hint) (st:St) (d:Nat) (t:TypeId) (parts:List (Nat×Operand)):Option St:=
 match P.underlying t,(AT P t).bind fun vs=>uA P d 0 (vN P 8 t) vs with
 |some (.struct fs),some (Pc,l)=>bif fs.toList.all (fun f=>(lq P f.type).isSome) then
   match D6 P (Vo P t) (uF h.nest l st) parts with
   |some ps=>match (P6 (oL P t) Pc ps).bind (Du (uF h.nest l st)) with
    |some cs=>some ((uF h.nest l st).set (some d) (.ag cs))
    |none=>none
   |none=>none
  else none
 |_,_=>none
def wZ (P:Program) (st:St) (t:TypeId) (m k:Operand):Option St:=
 match P.underlying t with
 |some (.map kt _)=>match bq P t st m,(bq P kt st k).bind iW with
  |some (.row id),some key=>match st.ob id with
   |some (.mp k' e' ks vs)=>bif jO P kt key then
     match mdel key ks vs with
     |some (ks',vs')=>some { st with ob:=put st.ob id (some (.mp k' e' ks' vs')) }
     |none=>none
    else none
   |_=>none
  |_,_=>none
 |_=>none
def uR (P:Program) (st:St):Option Operand→Bool
 |none=>true
 |some x=>match (bq P 0 st x).bind iW with
  |some (.int _ _)=>true
  |_=>false
def TV (P:Program) (st:St) (et:TypeId) (x:Operand):Option St:=
 match bq P et st x with
 |some (.pv _)=>some st
 |some (.row j)=>st.dD j
 |_=>none
def w5 (P:Program) (st:St) (t:TypeId) (m k x:Operand):Option St:=
 match P.underlying t with
 |some (.map kt et)=>match TV P st et x with
  |some st'=>match bq P t st' m,(bq P kt st' k).bind iW,(bq P et st' x).bind iW with
   |some (.row id),some key,some v=>match st'.ob id with
    |some (.mp k' e' ks vs)=>bif jO P kt key&&v.Gd then
      match Cr key v ks vs with
      |some (ks',vs')=>some { st' with ob:=put st'.ob id (some (.mp k' e' ks' vs')) }
      |none=>none
     else none
    |_=>none
   |_,_,_=>none
  |none=>none
 |_=>none
def LH (P:Program) (st:St) (t:TypeId) (m k:Operand):Option (TypeId×Nat×AV×TypeId×TypeId×Nat×List AV×List (Option (List (List AV)))):=
 match P.underlying t with
 |some (.map kt et)=>match bq P t st m,(bq P kt st k).bind iW with
  |some (.row id),some key=>match st.ob id with
   |some (.mr k' e sz ks vs)=>bif jO P kt key&&Nat.blt id 10000 then some (et,id,key,k',e,sz,ks,vs) else none
   |_=>none
  |_,_=>none
 |_=>none
def LI (P:Program) (st:St) (t:TypeId) (m k:Operand) (d:Nat):Option St:=
 match LH P st t m k with
 |some (et,id,key,k',e,sz,ks,vs)=>bif Nat.beq id d then none else match qb key ks with
  |some (some i)=>match vs[i]? with
   |some (some xs)=>some ((St.new { st with ob:=put st.ob id (some (.mr k' e sz ks (vs.set i none))) } d (.row e sz xs)).set (some d) (.row d))
   |_=>none
  |some none=>match qa P et,isSlice P et with
   |some (.eH _ []),some (e',s)=>if e=e'∧s=sz∧0<s then some ((st.new d (.row e sz [])).set (some d) (.row d)) else none
   |_,_=>none
  |none=>none
 |none=>none
def Ud (P:Program) (st:St) (t:TypeId) (m k x:Operand):Option St:=
 match LH P st t m k with
 |some (et,id,key,k',e,sz,ks,vs)=>match x with
  | .const (.slice none 0 0)=>match isSlice P et with
   |some (e',s)=>if e=e'∧s=sz∧0<s then
     match Cr key (some []) ks vs with
     |some (ks',vs')=>some { st with ob:=put st.ob id (some (.mr k' e sz ks' vs')) }
     |none=>none
    else none
   |none=>none
  |x=>match bq P et st x with
   |some (.row j)=>match st.ob j with
    |some (.row e' s xs)=>if e=e'∧s=sz∧j<10000 then
      match Cr key (some xs) ks vs with
      |some (ks',vs')=>let s1:=st.dm j;some { s1 with ob:=put s1.ob id (some (.mr k' e sz ks' vs')) }
      |none=>none
     else none
    |_=>none
   |_=>none
 |none=>none
def wj (P:Program) (st:St) (t:TypeId) (x:Operand) (d:Nat):Option St:=
 match bq P 0 st x,CP P t with
 |some (.rp id sz i off),some false=>match st.ob id with
  |some (.rn e sz' k e' s' xs ys)=>match ys[i]? with
   |some (some zs)=>bif Nat.beq sz sz'&&Nat.beq off k&& !(Nat.beq id d)&&Nat.blt id 10000 then some ((St.new { st with ob:=put st.ob id (some (.rn e sz' k e' s' xs (ys.set i none))) } d (.row e' s' zs)).set (some d) (.row d)) else none
   |_=>none
  |_=>none
 |_,_=>none
def Gn (P:Program) (st:St) (t:TypeId) (id sz i off j:Nat):Option St:=
 match CP P t,lq P t,st.ob id,st.ob j with
 |some false,some 1,some (.rn e sz' k e' s' xs ys),some (.row e2 s2 zs)=>
  bif Nat.beq sz sz'&&Nat.beq off k&&Nat.blt id 10000&&Nat.blt j 10000&&Nat.beq e' e2&&Nat.beq s' s2&&Nat.blt i ys.length&& !(Nat.beq id j) then
   some { (st.dm j).dm (id+40000) with ob:=put ((st.dm j).dm (id+40000)).ob id (some (.rn e sz' k e' s' xs (ys.set i (some zs)))) } else none
 |_,_,_,_=>none
def Vh (P:Program) (st:St) (t:TypeId) (id off j sz n:Nat):Option St:=
 match st.ob j with
 |some (.row e sz' xs)=>bif Nat.beq sz sz'&&iT j&& !(Nat.beq id j) then storeAt P t (st.new j (.row e sz' (xs.take n))) (.ptr id off) (.row j) else none
 |_=>none
def Uc (st:St) (id d:Nat):Option St:=
 match st.ob id with
 |some (.row e sz xs)=>bif Nat.beq id d then some (st.set (some d) (.row d)) else bif Nat.blt id 10000 then some (((st.dm id).new d (.row e sz xs)).set (some d) (.row d)) else none
 |_=>none
def qz (k:Nat) (c:List AV):Bool:=match c[k]? with
 |some .rK=>true
 |_=>false
def mS (P:Program) (h:Hint) (bM:dQ) (o:Oper) (st:St):Option St:=
 match o.dst,o.op with
 |some d, .assign (.const (.slice none 0 0))=>match isSlice P o.type with
  |some (e,s)=>if 0<s then some ((st.new d (.row e s [])).set (some d) (.row d)) else none
  |none=>none
 |some d, .assign x=>match bq P o.type st x with
  |some (.row id)=>bif h.mvs.contains d then Uc st id d else match st.dD id with
   |some st'=>match bq P o.type st' x with
    |some v=>some (st'.set (some d) v)
    |none=>none
   |none=>none
  |_=>none
 |some d, .box t x=>match bq P t st x,CP P t with
  |some (.pv (.agg cs)),some true=>some ((st.new d (.box t (cs.map .pv))).set (some d) (.ptr d 0))
  |some (.ag cs),some true=>bif (SV.ag cs).mentions d then none else some ((st.new d (.box t (cs.map IC))).set (some d) (.ptr d 0))
  |some v,some false=>if rN st v=true then some ((st.new d (.box t [v.dm d])).set (some d) (.ptr d 0)) else none
  |_,_=>none
 |some d, .alloc t=>bif h.rows.contains d then
   match (AT P t).bind fun vs=>uA P d 0 (vN P 8 t) vs with
   |some (Pc,l)=>some (((uF h.nest l st).new d (.box t (Pc.map (SV.dm d)))).set (some d) (.ptr d 0))
   |none=>none
  else match L7 P h (some d) t with
  |some z=>some ((st.new d (.box t (z.map .pv))).set (some d) (.ptr d 0))
  |none=>none
 |some d, .makeSlice t l c=>match isSlice P t,(bq P 0 st l).bind iW,(bq P 0 st c).bind iW with
  |some (e,s),some (.int _ l),some (.int _ c)=>match zeroCells P e,P.info? e with
   |some z,some i=>if 0<s∧z.length=s∧0≤l∧l≤c∧i.bytes *c.toNat≤281474976710656∧c≤9223372036854775807 then
     some ((st.new d (.row e s (List.replicate l.toNat z))).set (some d) (.row d)) else none
   |_,_=>none
  |_,_,_=>none
 |some d, .buildSlice t len parts=>match kM P t len parts.toList st with
  |some (e,s,xs)=>match find h.nest d with
   |none=>some ((st.new d (.row e s xs)).set (some d) (.row d))
   |some (k,e',s')=>bif Nat.blt k s&&xs.all (qz k) then some ((st.new d (.rn e s k e' s' (xs.map fun c=>c.set k .hole) (xs.map fun _=>some []))).set (some d) (.row d)) else none
  |none=>none
 |none, .store t a x=>match bq P 0 st a,bq P t st x with
  |some (.rp id sz i off),some (.row j)=>Gn P st t id sz i off j
  |some (.ptr id off),some (.sub j sz 0 n)=>Vh P st t id off j sz n
  |some a,some v=>storeAt P t st a v
  |_,_=>none
 |some d, .makeMap t r=>match P.underlying t with
  |some (.map k e)=>bif uR P st r then
    bif h.rows.contains d then
     match isSlice P e with
     |some (e',s)=>if 0<s then some ((st.new d (.mr k e' s [] [])).set (some d) (.row d)) else none
     |none=>none
    else some ((st.new d (.mp k e [] [])).set (some d) (.row d)) else none
  |_=>none
 |none, .mapUpdate t m k x=>bif qj h m then Ud P st t m k x else w5 P st t m k x
 |none, .insert t m k x=>bif qj h m then Ud P st t m k x else w5 P st t m k x
 |some d, .lookup t m k false=>bif qj h m then LI P st t m k d else none
 |some d, .range t x=>match P.underlying t,(bq P t st x).bind iW with
  |some .string,some (.str s)=>some ((st.new d (.it s 0)).set (some d) (.ptr d 0))
  |_,_=>none
 |some d, .next x true=>match bq P 0 st x with
  |some (.ptr id 0)=>match st.ob id with
   |some (.it s pos)=>if pos<s.length then
     some (St.set { st with ob:=put st.ob id (some (.it s (pos+(Utf8.decode ⟨s.toArray⟩ pos).2))) } (some d) (.pv (.mu [.bool true, .int .i64 pos, .int .i32 (Utf8.decode ⟨s.toArray⟩ pos).1])))
    else some (st.set (some d) (.pv (.mu [.bool false])))
   |_=>none
  |_=>none
 |some d, .build t parts=>bif h.rows.contains d then ES P h st d t parts.toList else none
 |some d, .load t x=>bif h.take.contains d then wj P st t x d else none
 |some d, .makeFunc (.func g) first caps=>bif first.isEmpty then
   match vZ st caps.toList with
   |some st'=>(tN st' caps.toList).map fun vs=>st'.set (some d) (.pv (.fn g vs))
   |none=>none
  else none
 |d, .call c=>match c.callee with
  | .builtin .append=>match d,c.args.toList,c.argTypes.toList with
   |some d,[x,y],[t,t']=>match isSlice P t,bq P t st x,bq P t' st y with
    |some (e,s),some (.row id),some y=>match st.ob id,elems st y,P.info? e with
     |some (.row e' sz xs),some (sz',ys),some i=>
      if t=t'∧e=e'∧s=sz∧sz=sz'∧0<sz∧(xs.length+ys.length) *i.bytes≤140737488355328∧xs.length+ys.length≤4611686018427387904∧i.zero.map (fun z=>z.cells.size)=some sz∧iT id=true then
       some ((st.new id (.row e sz (xs++ys))).set (some d) (.row id)) else none
     |some (.rn e' sz k e2 s2 xs zs),some (sz',ys),some i=>
      if t=t'∧e=e'∧s=sz∧sz=sz'∧0<sz∧(xs.length+ys.length) *i.bytes≤140737488355328∧xs.length+ys.length≤4611686018427387904∧i.zero.map (fun z=>z.cells.size)=some sz∧iT id=true∧ys.all (qz k)=true then
       some ((st.new id (.rn e sz k e2 s2 (xs++ys.map fun c=>c.set k .hole) (zs++ys.map fun _=>some []))).set (some d) (.row id)) else none
     |_,_,_=>none
    |some (e,s),some (.at id .full),some y=>match st.ob id,elems st y,P.info? e with
     |some (.row e' sz xs),some (sz',ys),some i=>
      if t=t'∧e=e'∧s=sz∧sz=sz'∧0<sz∧(xs.length+ys.length) *i.bytes≤140737488355328∧xs.length+ys.length≤4611686018427387904∧i.zero.map (fun z=>z.cells.size)=some sz∧iT id=true∧ys.isEmpty=false then
       some ((st.new id (.row e sz (xs++ys))).set (some d) (.row id)) else none
     |_,_,_=>none
    |_,_,_=>none
   |_,_,_=>none
  | .builtin .delete=>match d,c.args.toList,c.argTypes.toList with
   |none,[m,k],t::_=>wZ P st t m k
   |_,_,_=>none
  | .builtin .clear=>match d,c.args.toList,c.argTypes.toList with
   |none,[x],[t]=>match isSlice P t,bq P t st x with
    |some (e,s),some (.sub id sz lo hi)=>match st.ob id,zeroCells P e with
     |some (.row e' sz' xs),some z=>if s=sz∧sz=sz'∧z.length=sz∧hi≤xs.length∧e=e'∧0<sz then
       some { st with ob:=put st.ob id (some (.row e' sz' (xs.take lo++List.replicate (hi-lo) z++xs.drop hi))) } else none
     |_,_=>none
    |_,_=>none
   |_,_,_=>none
  | .value f=>bif d.any h.owns.contains then kW P h bM st c f d else bif d.any h.stay.contains&&wide st c f then none else bif wide st c f then jL P h bM st c f d else bif c.args.toList.any (fun x=>(oK h st x).isSome) then pR P h bM st c f d else
   match jv st c.args.toList with
   |some st'=>match bq P 0 st' f,jI P st' c.args.toList c.argTypes.toList with
    |some (.pv (.fn g caps)),some vs=>match bM g ((vs++caps).map .pv) [] with
     |some (r,[])=>bif c.args.toList.any (kT st')|| !r.kN then none else some (st'.set d (.pv r))
     |_=>none
    |_,_=>none
   |none=>none
  |_=>none
 |_,_=>none
where
 jv (st:St) (l:List Operand):Option St:=bif l.any (vC st) then none else iA st l
 iA (st:St):List Operand→Option St
  |[]=>some st
  | .tmp i::l=>match st.env i with
   |some (.row id)=>(st.dD id).bind fun st'=>iA st' l
   |_=>iA st l
  |_::l=>iA st l
def oJ:List SV→St→Option St
 |[],st=>some st
 | .row id::l,st=>(st.dD id).bind (oJ l)
 |_::l,st=>oJ l st
def step0 (P:Program) (h:Hint) (bM:dQ) (o:Oper) (st:St):Option St:=
 match ec P h bM o st with
 |some v=>some (st.set o.dst v)
 |none=>mS P h bM o st
def vo (st:St) (t:Nat):Option St:=
 match st.env t with
 |some (.row id)=>st.dD id
 |some (.ptr id _)=>match st.ob id with
  |some (.box _ cells)=>oJ cells st
  |_=>none
 |_=>some st
def nT:List Nat→St→Option St
 |[],st=>some st
 |t::l,st=>(vo st t).bind (nT l)
def slotsOf (o:Oper):List Nat:=o.op.operands.toList.filterMap fun
 | .tmp t=>some t
 |_=>none
def D9 (h:Hint) (o:Oper):List Nat:=bif h.use.isEmpty then [] else (slotsOf o).filter h.use.contains
def step (P:Program) (h:Hint) (bM:dQ) (o:Oper) (st:St):Option St:=(nT (D9 h o) st).bind (step0 P h bM o)
def p8 (ops:Array Oper) (o:Oper) (st:St):Option Bool:=
 match o.guard with
 |none=>some true
 |some (j,want)=>match (ops[j]?).bind (·.dst) with
  |some d=>match st.env d with
   |some (.pv (.bool b))=>some (b==want)
   |some .undef=>some false
   |_=>none
  |none=>none
def qk (P:Program) (h:Hint) (bM:dQ) (ops:Array Oper):List Oper→St→Option St
 |[],st=>some st
 |o::l,st=>match p8 ops o st with
  |some b=>bif b then (step P h bM o st).bind (qk P h bM ops l) else qk P h bM ops l (st.set o.dst .undef)
  |none=>none
inductive Ex where
 |normal
 |exit (id:Nat)
 |ret
 deriving DecidableEq
def exOf:Nat→Ex
 |0=> .normal
 |_=> .ret
def iter (h:Hint) (key:Nat) (f:St→Option (Ex×St)):Nat→St→Option (Ex×St)
 |0,_=>none
 |n+1,st=>match f (h.canon key st) with
  |some (.normal,st')=>iter h key f n st'
  |r=>r
def gM (ops:Array Oper) (o:Oper):List Nat:=slotsOf o++match o.guard with
 |some (j,_)=>((ops[j]?).bind (·.dst)).toList
 |none=>[]
def ZJ (o:Oper) (j:Nat):Bool:=o.after.toList.any fun e=>Region.binds .any e&&Nat.beq e.on j
def sC:Nat→List Oper→Bool
 |_,[]=>true
 |i,o::l=>o.after.toList.all (fun e=> !(Region.binds .any e)||Nat.blt e.on i)&&sC (i+1) l
def reach (ops:Array Oper):Nat→Nat→Nat→Bool
 |0,_,_=>false
 |n+1,i,j=>match ops[i]? with
  |some o=>ZJ o j||o.after.toList.any fun e=>Region.binds .any e&&reach ops n e.on j
  |none=>false
def Ob.tF:Ob→Ob
 | .row e sz xs=> .row e sz (xs.map fun _=>[])
 | .rn e sz k e' sz' xs _=> .rn e sz k e' sz' (xs.map fun _=>[]) []
 |_=> .it [] 0
structure gu where
 rs:List Nat:=[]
 rl:List Nat:=[]
 kp:Nat→Bool:=fun _=>false
 ws:List Nat:=[]
 ro:List Nat:=[]
 wo:List Nat:=[]
 mv:List Nat:=[]
 men:List Nat:=[]
 all:Bool:=false
 we:Nat→Bool:=fun _=>false
 oe:Nat→Bool:=fun _=>false
def meets (a b:List Nat):Bool:=a.any fun x=>b.any (Nat.beq x)
def gu.conflict (a b:gu):Bool:=a.all||b.all||meets a.ws b.rs||meets a.rs b.ws||meets a.ws b.ws||meets a.wo b.ro||meets a.ro b.wo||meets a.wo b.wo||meets a.mv b.men||meets b.mv a.men||b.rs.any a.we||b.ro.any a.oe||b.rl.any (fun j=>a.wo.contains j&& !(a.kp j))||a.rl.any (fun j=>b.wo.contains j&& !(b.kp j))
def Lz (st:St):List Operand→List Nat
 |[]=>[]
 | .tmp t::l=>(match st.env t with
  |some s=>s.ids
  |none=>[])++Lz st l
 |_::l=>Lz st l
def BM (st:St) (o:Oper):List Nat:=Lz st o.op.operands.toList
def targetId:SV→Option Nat
 | .ptr id _=>some id
 | .rp id _ _ _=>some id
 |_=>none
def wN:List Oper→List Nat
 |[]=>[]
 |o::l=>match o.op,o.dst with
  | .alloc _,some d=>d::wN l
  |_,_=>wN l
def wB (ops:Array Oper) (prev:List (Nat×gu)) (i:Nat) (f:gu):Bool:=prev.all fun p=>reach ops 12 i p.1|| !(p.2.conflict f)
def Ra:Op→Bool
 | .move _| .assign _| .pick _ _ _=>true
 |_=>false
def JL (P:Program) (h:Hint) (o:Oper) (st:St):List Nat:=
 match o.op with
 | .call c=>match c.callee with
  | .value f=>match tW P h st c f with
   |some (_,args)=>bif o.dst.any h.stay.contains then lg st args else []
   |none=>[]
  |_=>[]
 |_=>[]
def Ob.mentions (id:Nat):Ob→Bool
 | .box _ cells=>cells.any (SV.mentions id)
 |_=>false
def Ob.ids:Ob→List Nat
 | .box _ cells=>cells.flatMap SV.ids
 |_=>[]
def Mw (st:St) (t:Nat):List Nat:=match st.env t with
 |some s=>s.ids
 |none=>[]
def Wj (st:St) (j:Nat):List Nat:=match st.ob j with
 |some o=>o.ids
 |none=>[]
def gu.fill (st st':St) (f:gu):gu:=
 {f with
  men:=f.mv++(f.ro++(f.wo++(f.rs.flatMap (Mw st)++(f.ws.flatMap (Mw st')++(f.ro.flatMap (Wj st)++f.wo.flatMap (Wj st'))))))
  we:=fun t=>match st.env t with
   |some v=>f.mv.any fun id=>v.mentions id
   |none=>false
  oe:=fun j=>match st.ob j with
   |some o=>f.mv.any fun id=>o.mentions id
   |none=>false }
def mF:gu:={ all:=true }
def aaw:Op→Bool
 | .indexAddr _ _ _=>true
 |_=>false
def u6 (P:Program) (h:Hint) (ops:Array Oper) (o:Oper) (st:St):gu:=
 {rs:=gM ops o,ws:=o.dst.toList,ro:=bif Ra o.op||aaw o.op then [] else BM st o++JL P h o st,rl:=bif aaw o.op then BM st o else [] }
def tq (ops:Array Oper) (o:Oper):gu:={ rs:=gM ops o,ws:=o.dst.toList }
def A6 (P:Program) (ops:Array Oper) (o:Oper) (st:St) (a:Operand):gu:=match (bq P 0 st a).bind targetId with
 |some id=>{ rs:=gM ops o,ro:=id::BM st o,wo:=[id] }
 |none=>mF
def MF (P:Program) (ops:Array Oper) (o:Oper) (st:St) (c:Call):gu:=match c.args.toList,c.argTypes.toList,o.dst with
 |[x,_],[t,_],some d=>match bq P t st x with
  |some (.row id)=>{ rs:=gM ops o,ws:=[d],ro:=id::BM st o,wo:=[id],mv:=[id] }
  |some (.at id .full)=>{ rs:=gM ops o,ws:=[d],ro:=id::BM st o,wo:=[id],mv:=[id] }
  |_=>mF
 |_,_,_=>mF
def Qc (P:Program) (ops:Array Oper) (o:Oper) (st:St) (x:Operand) (d:Nat):gu:=match bq P 0 st x with
 |some (.rp id _ _ _)=>match st.ob id with
  |some (.rn _ _ _ _ _ _ _)=>{ rs:=gM ops o,ws:=[d],ro:=[id],wo:=[id,d],mv:=[d],kp:=fun j=>Nat.beq j id&& !(Nat.beq id d) }
  |_=>mF
 |_=>mF
def DM (P:Program) (ops:Array Oper) (o:Oper) (st:St) (t:TypeId) (a x:Operand):gu:=match bq P 0 st a,bq P t st x with
 |some (.rp id _ _ _),some (.row j)=>{ rs:=gM ops o,ro:=[id,j],wo:=[id,j,id+40000],mv:=[j,id+40000],kp:=fun q=>Nat.beq q id&& !(Nat.beq id j) }
 |some (.ptr _ _),some (.sub _ _ _ _)=>mF
 |_,_=>A6 P ops o st a
def u5 (P:Program) (h:Hint) (ops:Array Oper) (o:Oper) (st:St) (c:Call) (f:Operand):gu:=match tW P h st c f with
 |some (_,args)=>{ rs:=gM ops o,ws:=o.dst.toList,ro:=lg st args,wo:=lg st args,mv:=(lg st args).filter (lV false st (qi args)) }
 |none=>mF
def lu (P:Program) (h:Hint) (ops:Array Oper) (o:Oper) (st:St):gu:=
 match o.op,o.dst with
 | .store t a x,none=>DM P ops o st t a x
 | .alloc _,some d=>bif h.rows.contains d then mF else { rs:=gM ops o,ws:=[d],wo:=[d],mv:=[d] }
 | .buildSlice _ _ _,some d=>bif h.rows.contains d then { rs:=gM ops o,ws:=[d],wo:=[d],mv:=[d] } else mF
 | .call c,_=>match c.callee with
  | .builtin .append=>MF P ops o st c
  | .value f=>bif o.dst.any h.owns.contains&& !(o.dst.any (fun d=>(w8 h d).isSome)) then { rs:=gM ops o,ws:=o.dst.toList,wo:=o.dst.toList,mv:=o.dst.toList }
   else bif !(o.dst.any h.owns.contains)&&(!(o.dst.any h.stay.contains)&&wide st c f) then u5 P h ops o st c f else mF
  |_=>mF
 | .load _ x,some d=>bif h.take.contains d then Qc P ops o st x d else mF
 |_,_=>mF
def rR:List Nat→St→St
 |[],st=>st
 |p::l,st=>rR l (st.dm p)
def isF (h:Hint) (st:St) (o:Oper):Bool:=
 match o.op with
 | .buildSlice _ _ _=> !(o.dst.any h.rows.contains)
 | .call c=>match c.callee with
  | .builtin .append=>false
  | .builtin .delete=>false
  | .builtin .clear=>false
  | .value f=> !(o.dst.any h.owns.contains)&&((o.dst.any h.stay.contains&&wide st c f)|| !(wide st c f||c.args.toList.any (fun x=>(oK h st x).isSome)))
  |_=>true
 | .assign x=>match o.dst,x with
  |some d, .const (.slice none 0 0)=> !(h.rows.contains d)
  |some d,x=>(!(h.mO.contains d)&& !(h.mvs.contains d))|| !(kT st x)
  |none,_=>true
 | .lookup _ x _ ok=> !(qj h x&& !ok)
 | .makeFunc _ _ _| .move _| .pick _ _ _| .binOp _ _ _ _ _| .unOp _ _ _| .convert _ _ _| .fieldAddr _ _ _| .field _ _ _| .indexAddr _ _ _| .index _ _ _| .slice _ _ _ _ _| .extract _ _| .nilCheck _=>true
 | .build _ _=> !(o.dst.any h.rows.contains)
 | .load _ _=> !(o.dst.any h.take.contains)
 |_=>false
def isW:Op→Bool
 | .buildSlice _ _ _| .build _ _| .load _ _=>true
 |_=>false
def isWc (st:St):Op→Bool
 | .call c=>match c.callee with
  | .value _=> !(c.args.toList.any (kT st))
  |_=>false
 |_=>false
def vz:List SV→List Nat
 |[]=>[]
 | .row id::l=>id::vz l
 |_::l=>vz l
def NA (st:St) (t:Nat):gu:=
 match st.env t with
 |some (.row id)=>{ rs:=[t],ro:=[id],wo:=[id],mv:=[id] }
 |some (.ptr id _)=>match st.ob id with
  |some (.box _ cells)=>{ rs:=[t],ro:=id::vz cells,wo:=vz cells,mv:=vz cells }
  |_=>mF
 |_=>{ rs:=[t] }
def gu.then (a b:gu):gu:={ rs:=a.rs++b.rs,ws:=b.ws++a.ws,ro:=a.ro++b.ro,wo:=b.wo++a.wo,mv:=a.mv++b.mv,all:=a.all||b.all,rl:=a.rl++b.rl,kp:=fun j=>(a.kp j|| !(a.wo.contains j))&&(b.kp j|| !(b.wo.contains j)) }
def Lu (P:Program) (h:Hint) (ops:Array Oper) (o:Oper):List Nat→St→gu
 |[],st=>bif isF h st o then (bif isW o.op||isWc st o.op then u6 P h ops o st else mF) else lu P h ops o st
 |t::l,st=>match vo st t with
  |some st1=>(NA st t).then (Lu P h ops o l st1)
  |none=>mF
def uc (P:Program) (h:Hint) (ops:Array Oper) (o:Oper) (st:St):gu:=(Lu P h ops o (D9 h o) st).then { rs:=gM ops o }
def jX (P:Program) (h:Hint) (bM:dQ) (ops:Array Oper):Nat→List Oper→List (Nat×gu)→St→Option St
 |_,[],_,st=>some st
 |i,o::l,prev,st=>match p8 ops o st with
  |none=>none
  |some b=>bif b then
    bif isF h st o&&(D9 h o).isEmpty then
     match ec P h bM o st with
     |some v=>bif wB ops prev i ((u6 P h ops o st).fill st (st.set o.dst v)) then jX P h bM ops (i+1) l ((i,(u6 P h ops o st).fill st (st.set o.dst v))::prev) (st.set o.dst v) else none
     |none=>none
    else match step P h bM o st with
     |some st'=>bif wB ops prev i ((uc P h ops o st).fill st st') then jX P h bM ops (i+1) l ((i,(uc P h ops o st).fill st st')::prev) st' else none
     |none=>none
   else bif wB ops prev i ((tq ops o).fill st (st.set o.dst .undef)) then jX P h bM ops (i+1) l ((i,(tq ops o).fill st (st.set o.dst .undef))::prev) (st.set o.dst .undef) else none
def St.JA (st:St) (id:Nat):Option St:=
 match st.ob id with
 |some (.box _ _)=>st.qh id
 |none=>some st
 |_=>st.dD id
def yQ:List Nat→St→Option St
 |[],st=>some st
 |id::l,st=>(st.JA id).bind (yQ l)
def Hint.acs (h:Hint) (id:Nat) (st:St):Option St:=
 match find h.ox id with
 |some l=>yQ l st
 |none=>some st
def exec (P:Program) (h:Hint) (bM:dQ) (n:Nat):Code→St→Option (Ex×St)
 | .skip,st=>some (.normal,st)
 | .label _,st=>some (.normal,st)
 | .region id ops draw,st=>(h.acs id st).bind fun st=>
  bif draw then
   bif sC 0 ops.toList then (jX P h bM ops 0 ops.toList [] (rR (wN ops.toList) st)).map fun s=>(.normal,s) else none
  else (qk P h bM ops ops.toList st).map fun s=>(.normal,s)
 | .seq a b,st=>match find h.blk (dN a) with
  |some x=>bif x.1 st then some (exOf (x.2 st).1,(x.2 st).2) else none
  |none=>match exec P h bM n a st with
   |some (.normal,st')=>exec P h bM n b st'
   |r=>r
 | .cond c a b,st=>match bq P 0 st c with
  |some (.pv (.bool t))=>bif t then exec P h bM n a st else exec P h bM n b st
  |_=>none
 | .block id c,st=>match exec P h bM n c st with
  |some (.exit j,st')=>bif Nat.beq j id then some (.normal,st') else some (.exit j,st')
  |r=>r
 | .loop c,st=>iter h (dN c) (exec P h bM n c) n st
 | .exit id,st=>some (.exit id,st)
 | .ret,st=>some (.ret,st)
 | .scope c,st=>exec P h bM n c st
 |_,_=>none
def yu:Nat→List SV→List (Nat×SV)
 |_,[]=>[]
 |i,v::l=>(i,v)::yu (i+1) l
def St.ND (st:St) (id:Nat):Option St:=
 match st.ob id with
 |some (.box _ cells)=>(oJ cells st).bind fun st'=>st'.qh id
 |_=>none
def NF (st:St) (t:Nat):Option (St×AV):=
 match st.env t with
 |some (.pv v)=>some (st,v)
 |some (.ptr id 0)=>match st.ND id with
  |some st'=>match st'.env t with
   |some (.cp cs)=>some (st', .ref cs)
   |_=>none
  |none=>none
 |some (.row id)=>match st.dD id with
  |some st'=>match st'.env t with
   |some (.pv v)=>some (st',v)
   |_=>none
  |none=>none
 |_=>none
def sZ (P:Program):List ResultVar→St→Option (St×List AV)
 |[],st=>some (st,[])
 | .tmp t::l,st=>match NF st t with
  |some (st',v)=>match sZ P l st' with
   |some (st2,vs)=>some (st2,v::vs)
   |none=>none
  |none=>none
 | .cell ad t::l,st=>match e9 P ⟨none, .load t (.tmp ad),t, "", #[],none⟩ st with
  |some (.pv v)=>match sZ P l st with
   |some (st2,vs)=>some (st2,v::vs)
   |none=>none
  |some (.row id)=>match st.dD id with
   |some st'=>match e9 P ⟨none, .load t (.tmp ad),t, "", #[],none⟩ st' with
    |some (.pv v)=>match sZ P l st' with
     |some (st2,vs)=>some (st2,v::vs)
     |none=>none
    |_=>none
   |none=>none
  |_=>none
def result:List AV→AV
 |[v]=>v
 |vs=> .mu vs
def pQ (names:List Nat) (st:St):List Nat→Option (List (Nat×Ob))
 |[]=>some []
 |id::l=>match st.ob id,pQ names st l with
  |some o,some os=>bif o.closed names then some ((id,o)::os) else none
  |_,_=>none
def od (N:Nat):Code→Bool
 | .region _ ops _=>ops.toList.all fun o=>match o.dst with
  |some d=>Nat.blt d N
  |none=>true
 | .seq a b=>od N a&&od N b
 | .cond _ a b=>od N a&&od N b
 | .block _ c=>od N c
 | .loop c=>od N c
 | .scope c=>od N c
 |_=>true
def Ti (fn:Func):Bool:=Nat.ble fn.ntmps 10000&& !(fn.name== "runtime.NumGoroutine")&&match fn.body with
 |some c=>od fn.ntmps c
 |none=>true
def Cw (P:Program):Bool:=P.follows .mixedOrders&&P.funcs.toList.all Ti&&Nat.ble P.funcs.size 1000000
def NW (fn:Func) (names:List Nat) (st:St):Option Nat:=
 match fn.results.toList,names with
 |[.tmp t],[10000]=>match st.env t,st.ob 10000 with
  |some (.row 10000),some (.row _ _ xs)=>some xs.length
  |some (.sub 10000 _ 0 n),some (.row _ _ _)=>some n
  |_,_=>none
 |_,_=>none
def Un (fn:Func) (st:St):Option AV:=
 match fn.results.toList with
 |[.tmp t]=>match st.env t with
  |some (.row id)=>match xk id,st.ob id with
   |true,some (.row e sz xs)=>some (.mu [.mu [.self e, .eH sz xs]])
   |_,_=>none
  |_=>none
 |_=>none
def ZO (P:Program) (own:Bool) (fn:Func) (names:List Nat) (e:Ex) (st:St):Option (AV×List (Nat×Ob)):=
 match e with
 | .exit _=>none
 |_=>bif own then
   match Un fn st,pQ names st names with
   |some r,some l=>some (r,l)
   |_,_=>none
  else match NW fn names st with
  |some n=>match pQ names st names with
   |some l=>some (.self n,l)
   |none=>none
  |none=>match sZ P fn.results.toList st with
   |some (st',vs)=>match pQ names st' names with
    |some l=>some (result vs,l)
    |none=>none
   |none=>none
def ZN (P:Program) (own:Bool) (fn:Func) (cD:List (Nat×Ob)) (e:Ex) (st:St):Option (AV×List (Nat×Ob)):=ZO P own fn (cD.map (·.1)) e st
def ot (P:Program) (H:Nat→Hint) (fk:dQ):Nat→dQ
 |0=>fun _ _ _=>none
 |n+1=>fun f args cD=>
  match fk f args cD with
  |some r=>some r
  |none=>match P.funcs[f]? with
   |some fn=>match fn.body with
    |some c=>
     bif Nat.ble args.length fn.ntmps&&(cD.map (·.1)).all (fun i=> !(xk i)) then
      match exec P (H f) (ot P H fk n) n c { env:=find (yu 0 args),ob:=find cD } with
      |some (e,st)=>ZN P (H f).own fn cD e st
      |none=>none
     else none
    |none=>none
   |none=>none
end Go.AM
