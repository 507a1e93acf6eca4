/- AN ABSTRACT MACHINE over the model's code. -/
import Derived.Calls
import Derived.CallsIn
import Derived.OrdersIn
import Derived.LoopNIn
import Derived.TacticsIn
import Derived.RangeFuncIn
import Derived.Orders
import Derived.LoopN
import Derived.Scope
import Derived.Below
import Derived.Laws.OwnMore
import Derived.Maps.AppendAt
import Derived.Laws.BytesString
set_option linter.all false
def af {p:Prop} (h:p:=by omega):p:=h
def ai {p:Prop} (h:p:=by simp):p:=h
def aH {p:Prop} (h:p:=by simp;omega):p:=h
abbrev dm:=@Option.bind_eq_some_iff
abbrev fW:=@if_true
abbrev aW:=@Option.some.injEq
abbrev aP:=@congrArg
abbrev cS:=@List.cons.injEq
abbrev eH:=@and_true
abbrev gx:=@Array.getElem?_eq_some_iff
abbrev ji:=@List.mem_of_mem_drop
abbrev vG:=@List.mem_of_mem_take
abbrev bu:=@List.mem_append
abbrev jA:=@Nat.add_mul
abbrev G6:=@List.drop_succ_cons
abbrev G7:=@List.take_succ_cons
abbrev aU:=@Nat.le_refl
abbrev cW:=@Nat.zero_le
abbrev bM:=@Go.run_underlying
abbrev jB:=@Go.Sem.run_bind
abbrev kV:=@Go.Result.andThen_ok
abbrev fJ:=@List.length_take
abbrev A5:=@Go.run_loadCells_list
abbrev cB:=@Option.map_eq_some_iff
abbrev oQ:=@Option.isSome_iff_exists
abbrev aB:=@if_pos
abbrev A6:=@List.drop_length_add_append
abbrev kW:=@List.eq_nil_of_length_eq_zero
abbrev aZ:=@List.mem_of_getElem?
abbrev oR:=@List.getElem?_take
abbrev gJ:=@List.foldl_cons
abbrev bw:=@List.map_cons
abbrev kX:=@Nat.add_assoc
abbrev bQ:=@List.getElem?_eq_some_iff
abbrev wJ:=@List.getElem?_drop
abbrev jV:=@Nat.mul_le_mul_right
abbrev aK:=@List.getElem?_eq_getElem
abbrev eO:=@Nat.zero_add
abbrev A7:=@Go.Value.pointer.injEq
abbrev A8:=@Go.Addr.mk.injEq
abbrev G8:=@List.drop_take
abbrev au:=@if_neg
abbrev aJ:=@List.mem_cons
abbrev bp:=@List.length_cons
abbrev G9:=@List.take_set_of_le
abbrev He:=@List.drop_set_of_lt
abbrev eo:=@List.append_assoc
abbrev gi:=@List.cons_append
abbrev dK:=@List.nil_append
abbrev mb:=@Nat.add_zero
abbrev tG:=@Array.length_toList
abbrev Rr:=@Array.toList_zipIdx
abbrev jC:=@List.all_cons
abbrev aS:=@Bool.and_eq_true
abbrev tH:=@List.mapM_cons
abbrev fo:=@List.map_map
abbrev nx:=@Function.comp_def
abbrev cH:=@List.all_eq_true
abbrev Hf:=@List.getElem?_toArray
abbrev A9:=@Option.map_none
abbrev ak:=@cond_true
abbrev e7:=@Nat.le_trans
abbrev ck:=@Prod.mk.injEq
abbrev tI:=@Nat.eq_of_beq_eq_true
abbrev jW:=@Nat.beq_refl
abbrev qZ:=@List.any_cons
abbrev jX:=@Bool.or_eq_false_iff
abbrev wK:=@Array.getElem?_setIfInBounds_ne
abbrev iV:=@List.mem_iff_getElem
abbrev Hg:=@List.getElem?_eq_none_iff
abbrev Ba:=@Array.getElem?_eq_getElem
abbrev e8:=@Nat.lt_of_lt_of_le
abbrev fK:=@List.getElem?_append_right
abbrev q7:=@List.replicate_succ
abbrev az:=@cond_false
abbrev ny:=@Nat.succ_mul
abbrev kY:=@Nat.add_comm
abbrev wL:=@List.range_add
abbrev kZ:=@List.ext_getElem?
abbrev jY:=@List.take_of_length_le
abbrev wM:=@Nat.zero_mul
abbrev fL:=@List.getElem?_append_left
abbrev ij:=@Go.RowKit.Below.refl
abbrev q8:=@Go.heap_alloc_new
abbrev Bb:=@Nat.mul_le_mul_left
abbrev aD:=@List.mem_map
abbrev dN:=@List.getElem?_map
abbrev q9:=@List.range'_succ
abbrev cN:=@Nat.blt_eq
abbrev wN:=@Go.run_storeCells_at
abbrev tJ:=@Go.Sem.run_pure
abbrev di:=@List.map_nil
abbrev wO:=@Go.setRow_other
abbrev Bc:=@Go.setRow_heap
abbrev wP:=@Nat.min_eq_left
abbrev cF:=@List.length_append
abbrev rf:=@not_true_eq_false
abbrev eP:=@if_false
abbrev bz:=@List.length_map
abbrev Hh:=@List.set_eq_take_append_cons_drop
abbrev Hi:=@List.take_length_add_append
abbrev gK:=@Bool.or_eq_true
abbrev c9:=@Ne.symm
abbrev pR:=@List.size_toArray
abbrev kJ:=@List.getElem?_set_self
abbrev cn:=@List.map_append
abbrev iI:=@List.nodup_append
abbrev gW:=@Bool.not_eq_true'
abbrev nE:=@List.getElem?_set
abbrev gX:=@List.getElem?_set_ne
abbrev pS:=@List.mem_or_eq_of_mem_set
abbrev yU:=@List.set_append_left
abbrev pV:=@List.set_append_right
abbrev nF:=@Nat.lt_of_le_of_lt
abbrev uG:=@List.any_eq_false
abbrev fk:=@List.mem_filterMap
abbrev uH:=@Go.callsIn_wide
abbrev fI:=@Nat.le_of_ble_eq_true
abbrev yV:=@List.nodup_nil
abbrev gC:=@List.nodup_cons
abbrev dz:=@List.mem_cons_of_mem
abbrev pX:=@Bool.and_eq_true_iff
abbrev dx:=@Bool.not_true
abbrev kK:=@Bool.false_or
abbrev c4:=@List.mem_filter
abbrev cR:=@List.mem_append_left
abbrev gD:=@List.mem_append_right
abbrev yW:=@List.filter_eq_self
abbrev lU:=@List.filter_congr
abbrev uI:=@Bool.true_or
abbrev rH:=@Bool.and_true
abbrev rI:=@List.drop_length
abbrev dP:=@List.append_nil
abbrev ey:=@Bool.false_eq_true
abbrev nG:=@false_imp_iff
abbrev gY:=@List.map_congr_left
abbrev nH:=@List.map_id
abbrev rJ:=@Bool.and_self
abbrev dX:=@Option.map_some
abbrev yX:=@List.filter_eq_nil_iff
abbrev eT:=@Option.some.inj
abbrev lV:=@Nat.add_sub_cancel
abbrev jd:=@Array.toList_append
abbrev cv:=@List.mem_singleton
abbrev rK:=@Bool.or_false
abbrev aT:=@decide_eq_false_iff_not
abbrev gZ:=@Option.bind_some
abbrev lW:=@List.not_mem_nil
abbrev nJ:=@or_false
abbrev pY:=@Bool.false_and
abbrev gL:=@List.mem_range
abbrev gE:=@List.mem_cons_self
abbrev je:=@Bool.eq_iff_iff
abbrev rL:=@Option.getD_some
abbrev rM:=@Option.any_some
abbrev yY:=@List.isEmpty_iff
abbrev Ed:=@Array.all_eq_true'
abbrev eB:=@Classical.byContradiction
abbrev dG:=@List.pairwise_cons
abbrev Ee:=@List.append_of_mem
abbrev rN:=@List.pairwise_append
abbrev nK:=@Go.wpIn_mono
abbrev uJ:=@Array.getElem?_append_left
abbrev kL:=@dif_pos
abbrev uK:=@Nat.le_max_left
abbrev yZ:=@Nat.le_max_right
abbrev kM:=@List.any_eq_true
abbrev uL:=@Nat.ble_eq_true_of_le
abbrev gF:=@Bool.true_and
abbrev eE:=@true_and
abbrev bC:=@List.getD_eq_getElem?_getD
abbrev gm:=@Int.eq_ofNat_of_zero_le
abbrev nM:=@decide_eq_true_eq
abbrev jf:=@beq_iff_eq
abbrev Ef:=@UInt8.lt_iff_toNat_lt
abbrev uM:=@List.findIdx?_cons
abbrev y6:=@List.findIdx?_eq_some_iff_getElem
abbrev nN:=@List.ext_getElem
abbrev uN:=@List.map_set
abbrev pZ:=@List.map_drop
abbrev uO:=@List.map_replicate
abbrev p5:=@Prod.ext
abbrev rO:=@and_assoc
abbrev y7:=@Go.mapM_some_length
abbrev uP:=@List.idxOf_cons
abbrev kN:=@beq_eq_false_iff_ne
abbrev nP:=@bne_iff_ne
abbrev nQ:=@List.filter_cons
abbrev rP:=@List.prefix_refl
abbrev y8:=@List.IsPrefix.trans
abbrev c7:=@List.length_singleton
abbrev kO:=@List.pairwise_map
abbrev gM:=@List.getElem?_eq_none
abbrev rQ:=@List.getElem?_cons_succ
abbrev y9:=@List.length_pos_of_mem
abbrev uQ:=@List.getElem?_range
abbrev nR:=@List.mem_of_find?_eq_some
abbrev p6:=@List.find?_some
abbrev za:=@List.find?_eq_none
abbrev Eg:=@List.length_filterMap_le
abbrev rR:=@Nat.lt_irrefl
abbrev nS:=@Nat.sub_self
abbrev dH:=@List.length_nil
abbrev rS:=@List.length_replicate
abbrev lX:=@Nat.testBit_and
abbrev uR:=@Nat.eq_of_testBit_eq
abbrev Eh:=@List.findIdx?_eq_none_iff
abbrev cG:=@List.getElem_mem
abbrev rT:=@List.getElem_inj
abbrev kP:=@List.range_succ
abbrev kQ:=@List.getElem_map
abbrev Ei:=@List.getElem_range
abbrev bg:=@Int.toNat_natCast
abbrev zb:=@List.range_eq_range'
abbrev rU:=@List.drop_eq_nil_of_le
abbrev iJ:=@List.drop_eq_getElem_cons
abbrev zc:=@decide_false
abbrev rV:=@Nat.and_le_left
abbrev ze:=@Nat.testBit_lt_two_pow
abbrev uS:=@Nat.pow_le_pow_right
abbrev p7:=@decide_eq_decide
abbrev iK:=@List.mem_map_of_mem
abbrev lY:=@List.take_append_drop
abbrev eM:=@Bool.not_false
abbrev uT:=@Nat.sub_zero
abbrev Ej:=@List.filter_filter
abbrev de:=@List.take_add_one
abbrev gp:=@List.take_length
abbrev zf:=@decide_true
abbrev uU:=@List.mem_take_iff_getElem
abbrev zg:=@Bool.true_eq_false
abbrev zh:=@List.getElem?_cons_zero
abbrev uV:=@List.take_left'
abbrev Ek:=@List.length_eq_one_iff
abbrev uW:=@List.length_filter_le
abbrev El:=@List.filter_append
abbrev nT:=@List.pairwise_iff_getElem
abbrev nU:=@List.length_eq_zero_iff
abbrev zi:=@List.filter_sublist
abbrev zj:=@Nat.lt_trichotomy
abbrev lZ:=@List.find?_cons
abbrev p8:=@List.flatMap_cons
abbrev p9:=@List.drop_zero
abbrev Em:=@Option.isSome_some
abbrev bB:=@decide_eq_true_iff
abbrev jg:=@List.length_set
abbrev zk:=@Int.lt_trichotomy
abbrev rW:=@List.idxOf_append
abbrev rX:=@List.set_cons_zero
abbrev uX:=@List.drop_append_of_le_length
abbrev zm:=@List.replicate_zero
abbrev uY:=@List.replicate_succ'
abbrev qa:=@List.getElem?_replicate
abbrev jO:=@List.mem_iff_getElem?
abbrev nV:=@Nat.mul_le_mul
abbrev uZ:=@List.pairwise_singleton
abbrev rY:=@List.sum_cons
abbrev Eo:=@List.getElem_cons_succ
abbrev rZ:=@dif_neg
abbrev Ep:=@List.contains_iff_mem
abbrev iN:=@List.length_drop
abbrev jP:=@of_decide_eq_true
abbrev qb:=@decide_eq_true
abbrev Er:=@List.singleton_append
abbrev jQ:=@Int.le_refl
abbrev r5:=@decide_eq_false
abbrev zn:=@Array.getElem?_modify
abbrev zo:=@Nat.mul_one
abbrev zq:=@of_decide_eq_false
abbrev u6:=@List.flatten_cons
abbrev qc:=@List.getElem!_eq_getElem?_getD
abbrev Es:=@List.getElem!_toArray
abbrev zx:=@Go.Addr.add_lit
abbrev u7:=@Go.wpList_append_own
abbrev u9:=@Go.World.ownsRow_made
abbrev zy:=@Go.callsIn_of_wp
abbrev vc:=@Array.replicate_succ
abbrev ve:=@Array.replicate_zero
abbrev vf:=@List.push_toArray
abbrev vg:=@List.append_toArray
abbrev Et:=@Array.mem_of_getElem?
open BitVec (ofInt)
namespace Go.AM
inductive AV where
 |bool (b:Bool)
 |int (k:IntKind) (n:Int)
 |str (s:List UInt8)
 |dD (sz:Nat) (xs:List (List AV))
 |agg (cs:List AV)
 |fn (f:Nat) (caps:List AV)
 |iQ (vs:List AV)
 |ref (cs:List AV)
 |mp (ks vs:List AV)
 |self (n:Nat)
 |rD
 |tR
 |hole
 deriving Inhabited
inductive oE where
 |v (a:AV)
 |p (id:Nat)
 |r (id:Nat)
 deriving Inhabited
inductive Ak where
 |full
 |nr (i:Nat)
 |bs (n:Nat)
 deriving Inhabited
inductive SV where
 |undef
 |any
 |pv (v:AV)
 |ptr (id off:Nat)
 |row (id:Nat)
 |rp (id sz i off:Nat)
 |sub (id sz lo hi:Nat)
 |cp (cs:List AV)
 |cl (f:Nat) (caps:List oE)
 |two (v w:SV)
 |ag (cs:List oE)
 |aq (id:Nat) (q:Ak)
 deriving Inhabited
inductive Ob where
 |box (t:TypeId) (cells:List SV)
 |row (e:TypeId) (sz:Nat) (xs:List (List AV))
 |mp (k e:TypeId) (ks vs:List AV)
 |mr (k e:TypeId) (sz:Nat) (ks:List AV) (vs:List (Option (List (List AV))))
 |it (s:List UInt8) (pos:Nat)
  |lp (xs:List AV)
  |rn (e:TypeId) (sz k:Nat) (e':TypeId) (sz':Nat) (xs:List (List AV)) (ys:List (Option (List (List AV))))
 deriving Inhabited
structure St where
 env:Nat->Option SV
 ob:Nat->Option Ob
def AV.cells:AV->List AV
 | .agg l=>l
 |v=>[v]
def AV.HQ:AV->Bool
 | .iQ _=>false
 |_=>true
def AV.Xz:AV->Bool
 | .iQ _=>true
 |_=>false
def AV.jM:AV->Bool
 | .self _=>false
 | .iQ l=>bif Nat.beq l.length 1 then !(l.any AV.Xz) else true
 |_=>true
def AV.scalar:AV->Bool
 | .bool _| .int _ _| .str _=>true
 |_=>false
def AV.plain:AV->Bool
 | .iQ l=>l.all AV.scalar
 |v=>v.scalar
def find {q:Type}:List (Nat×q)->Nat->Option q
 |[],_=>none
 |(j,v)::l,i=>cond (Nat.beq j i) (some v) (find l i)
def put {l:Type} (m:Nat->Option l) (d:Nat) (v:Option l):Nat->Option l:=λi=>cond (Nat.beq d i) v (m i)
def St.set (l:St) (d:Option Nat) (v:SV):St:=
 match d with
 |some d=>{ l with env:=put l.env d (some v) }
 |none=>l
structure Hint where
 loops:List (Nat×List Nat×List Nat):=[]
 rows:List Nat:=[]
 mK:List Nat:=[]
 fT:List Nat:=[]
 mw:List (Nat×List Nat):=[]
 stay:List Nat:=[]
 keep:List Nat:=[]
 blk:List (Nat×(St->Bool)×(St->Nat×St)):=[]
 use:List Nat:=[]
 owns:List Nat:=[]
 own:Bool:=false
 tR:List (Nat×List (Nat×TypeId×Nat)):=[]
 take:List Nat:=[]
 Pn:List (Nat×List Nat):=[]
 nest:List (Nat×Nat×TypeId×Nat):=[]
 mvs:List Nat:=[]
 bx:List Nat:=[]
 vj:List (Nat×Nat×List Nat):=[]
def vp {q:Type} (m:Nat->Option q):List Nat->List (Nat×q)
 |[]=>[]
 |i::l=>match m i with
  |some v=>(i,v)::vp m l
  |none=>vp m l
def Hint.canon (h:Hint) (key:Nat) (w:St):St:=
 match find h.loops key with
 |some (l,q)=>{ env:=find (vp w.env l),ob:=find (vp w.ob q) }
 |none=>w
def fq:Code->Nat
 | .region id _ _=>id
 | .seq a _=>fq a
 | .cond _ a _=>fq a
 | .block _ c=>fq c
 | .loop c=>fq c
 | .scope c=>fq c
 |_=>0
def isSlice (P:Program) (t:TypeId):Option (TypeId×Nat):=
 match P.underlying t with
 |some (.slice e)=>(P.info? e).map λi=>(e,i.size)
 |_=>none
def Eb (P:Program) (t:TypeId):Option Bool:=
 match P.underlying t with
 |some (.struct _)|some (.array _ _)=>some true
 |some _=>some false
 |none=>none
def lJ (P:Program) (t:TypeId):Option Nat:=(P.info? t).map (·.size)
def ofConst (P:Program) (t:TypeId):Value->Option AV
 | .bool b=>some (.bool b)
 | .int k n=>some (.int k n)
 | .string s=>some (.str s.data.toList)
 | .slice none 0 0=>(isSlice P t).map λx=> .dD x.2 []
 | .pointer none=>some .rD
 | .nilFunc=>some .hole
 | .map none=>match P.underlying t with
  |some (.map _ _)=>some (.mp [] [])
  |_=>none
 |_=>none
def bD (P:Program) (t:TypeId) (st:St):Operand->Option SV
 | .tmp i=>st.env i
 | .const v=>(ofConst P t v).map .pv
 | .func f=>some (.pv (.fn f []))
 | .global _=>none
def td (P:Program):Nat->TypeId->List TypeId
 |0,_=>[]
 |n+1,t=>match P.underlying t with
  |some (.struct l)=>l.toList.flatMap λf=>td P n f.type
  |some (.array m e)=>(List.replicate m (td P n e)).flatten
  |_=>[t]
def oc (P:Program):List TypeId->List Value->Option (List AV)
 |[],[]=>some []
 |t::l,v::q=>match ofConst P t v,oc P l q with
  |some a,some as=>some (a::as)
  |_,_=>none
 |_,_=>none
def zeroCells (P:Program) (t:TypeId):Option (List AV):=
 match P.info? t with
 |some i=>match i.zero with
  |some z=>oc P (td P 8 t) z.cells.toList
  |none=>none
 |none=>none
def FD:List Nat->List AV->Option (List AV)
 |[],l=>some l
 |k::q,l=>match l[k]? with
  |some (.dD _ [])=>(FD q l).map λz=>z.set k .tR
  |_=>none
def N0 (P:Program) (h:Hint) (d:Option Nat) (t:TypeId):Option (List AV):=
 match d.bind (find h.Pn) with
 |some l=>(zeroCells P t).bind (FD l)
 |none=>zeroCells P t
def Gm (op:BinOp) (k:IntKind) (a b:Int):Option AV:=
 match op with
 | .add=>some (.int k (k.wrap (a+b)))
 | .sub=>some (.int k (k.wrap (a-b)))
 | .mul=>some (.int k (k.wrap (a *b)))
 | .quo=>if b=0 then none else some (.int k (k.wrap (a.tdiv b)))
 | .rem=>if b=0 then none else some (.int k (a.tmod b))
 | .and=>some (.int k (k.wrap (ofInt k.bits a&&&ofInt k.bits b).toNat))
 | .or=>some (.int k (k.wrap (ofInt k.bits a|||ofInt k.bits b).toNat))
 | .xor=>some (.int k (k.wrap (ofInt k.bits a^^^ ofInt k.bits b).toNat))
 | .andNot=>some (.int k (k.wrap (ofInt k.bits a&&& ~~~ofInt k.bits b).toNat))
 | .eql=>some (.bool (a==b))
 | .neq=>some (.bool (a !=b))
 | .lss=>some (.bool (a<b))
 | .leq=>some (.bool (a<=b))
 | .gtr=>some (.bool (a>b))
 | .geq=>some (.bool (a>=b))
 | .shl| .shr=>none
def B4 (op:BinOp) (k:IntKind) (a b:Int):Option AV:=
 if b<0 then none else
 match op with
 | .shl=>some (.int k (k.wrap (a *2^ min b.toNat k.bits)))
 | .shr=>some (.int k (a.fdiv (2^ min b.toNat k.bits)))
 |_=>none
def WA (op:BinOp) (a b:List UInt8):Option AV:=
 match op with
 | .add=>if a.length+b.length<=9223372036854775807 then some (.str (a++b)) else none
 | .eql=>some (.bool (a==b))
 | .neq=>some (.bool !(a==b))
 | .lss=>some (.bool (Op.bytesLess a b))
 | .leq=>some (.bool (Op.bytesLess a b||a==b))
 | .gtr=>some (.bool !(Op.bytesLess a b||a==b))
 | .geq=>some (.bool !(Op.bytesLess a b))
 |_=>none
def w5:AV->AV->Option Bool
 | .str a, .str b=>some (a==b)
 | .int k a, .int k' b=>if k=k' then some (a==b) else none
 | .bool a, .bool b=>some (a==b)
 |_,_=>none
def kg (P:Program) (k:TypeId) (key:AV):Bool:=
 match P.underlying k,key with
 |some .string, .str _=>true
 |some (.int q), .int l _=>q==l
 |some .bool, .bool _=>true
 |_,_=>false
def MO (P:Program) (xs l:List AV):List Field->Option Bool
 |[]=>some true
 |f::w=>match xs[f.offset]?,l[f.offset]? with
  |some a,some b=>bif !(f.name== "_")&&kg P f.type a&&kg P f.type b&&(lJ P f.type).isSome then
    match w5 a b,MO P xs l w with
    |some r,some q=>some (r&&q)
    |_,_=>none
   else none
  |_,_=>none
def Uy (P:Program) (op:BinOp) (t:TypeId) (xs q:List AV):Option AV:=
 match P.underlying t with
 |some (.struct l)=>bif !(P.stoodInHeld t)&& !(P.eqGuardType P.depth t) then
   match op,MO P xs q l.toList with
   | .eql,some b=>some (.bool b)
   | .neq,some b=>some (.bool !b)
   |_,_=>none
  else none
 |_=>none
def bin (P:Program) (op:BinOp) (t:TypeId) (x y:AV):Option AV:=
 match x,y with
 | .agg xs, .agg l=>Uy P op t xs l
 | .int k a, .int k' b=>match op with
  | .shl| .shr=>B4 op k a b
  |_=>if k=k' then Gm op k a b else none
 | .str a, .str b=>WA op a b
 | .bool a, .bool b=>match P.underlying t,op with
  |some .bool, .eql=>some (.bool (a==b))
  |some .bool, .neq=>some (.bool !(a==b))
  |_,_=>none
 |_,_=>none
def un (op:UnOp) (x:AV):Option AV:=
 match op,x with
 | .neg, .int k n=>some (.int k (k.wrap (0-n)))
 | .not, .bool b=>some (.bool !b)
 |_,_=>none
def iY :SV->Option AV
 | .pv v=>some v
 |_=>none
def mR:List SV->Option (List AV)
 |[]=>some []
 | .pv v::l=>(mR l).map (v:: ·)
 |_::_=>none
def wQ:List SV->Option (List oE)
 |[]=>some []
 | .pv v::l=>(wQ l).map (.v v:: ·)
 | .row id::l=>(wQ l).map (.r id:: ·)
 |_::_=>none
def iZ (P:Program) (t:TypeId) (l:List AV):Option AV:=
 match Eb P t,lJ P t with
 |some true,some n=>if n<=l.length then some (.agg (l.take n)) else none
 |some false,some _=>l[0]?
 |_,_=>none
def wU (P:Program) (t:TypeId) (f:Nat):Option Field:=
 match P.underlying t with
 |some (.struct l)=>l[f]?
 |_=>none
def yd (place:Nat->Option (Nat×Nat)) (cells:List AV):List (Nat×AV)->Option (List AV)
 |[]=>some cells
 |(i,v)::q=>match place i with
  |none=>none
  |some (l,size)=>if v.cells.length=size/\l+size<=cells.length then yd place (cells.take l++v.cells++cells.drop (l+size)) q else none
def pN (P:Program) (t:TypeId) (f:Nat):Option (Nat×Nat):=
 match wU P t f with
 |some fd=>(lJ P fd.type).map λn=>(fd.offset,n)
 |none=>none
def partsOf (P:Program) (ty:Nat->TypeId) (st:St):List (Nat×Operand)->Option (List (Nat×AV))
 |[]=>some []
 |(i,x)::l=>match(bD P (ty i) st x).bind iY,partsOf P ty st l with
  |some v,some q=>some ((i,v)::q)
  |_,_=>none
def ER (P:Program) (t:TypeId) (i:Nat):TypeId:=((wU P t i).map (·.type)).getD 0
def chunks (q:Nat):Nat->List AV->List (List AV)
 |0,_=>[]
 |n+1,l=>l.take q::chunks q n (l.drop q)
def tU (z:List AV):Nat->List AV
 |0=>[]
 |n+1=>z++tU z n
def elems (q:St):SV->Option (Nat×List (List AV))
 | .pv (.dD l xs)=>some (l,xs)
 | .row id=>match q.ob id with
  |some (.row _ l xs)=>some (l,xs)
  |_=>none
 | .sub id s z w=>match q.ob id with
  |some (.row _ l xs)=>bif Nat.beq s l then some (l,(xs.take w).drop z) else none
  |_=>none
 |_=>none
def lenOf (l:St):SV->Option Nat
 | .pv (.dD _ xs)=>some xs.length
 | .row id=>match l.ob id with
  |some (.row _ _ xs)=>some xs.length
  |some (.rn _ _ _ _ _ xs _)=>some xs.length
  |_=>none
 | .aq _ (.bs n)=>some n
 |_=>none
def qD (key:AV):List AV->Option (Option Nat)
 |[]=>some none
 |x::l=>match w5 key x with
  |some true=>some (some 0)
  |some false=>(qD key l).map λr=>r.map (· +1)
  |none=>none
def VX {l:Type} (key:AV) (ks:List AV) (q:List l):Option (Option l):=
 match qD key ks with
 |some (some i)=>(q[i]?).map some
 |some none=>some none
 |none=>none
def DQ {q:Type} (key:AV) (v:q) (l:List AV) (w:List q):Option (List AV×List q):=
 match qD key l with
 |some (some i)=>some (l,w.set i v)
 |some none=>some (l++[key],w++[v])
 |none=>none
def mdel {w:Type} (key:AV) (l:List AV) (q:List w):Option (List AV×List w):=
 match qD key l with
 |some (some i)=>some (l.eraseIdx i,q.eraseIdx i)
 |some none=>some (l,q)
 |none=>none
def maps (w:St):SV->Option (List AV×List AV)
 | .pv (.mp l q)=>some (l,q)
 | .row id=>match w.ob id with
  |some (.mp _ _ l q)=>some (l,q)
  |_=>none
 |_=>none
def HG (q:St):SV->Option (List AV)
 | .row id=>match q.ob id with
  |some (.mr _ _ _ l _)=>some l
  |_=>none
 |_=>none
def qq (P:Program) (t:TypeId):Option AV:=
 match P.info? t with
 |some i=>match i.zero with
  |some (.agg l)=>(oc P (td P 8 t) l.toList).map .agg
  |some v=>ofConst P t v
  |none=>none
 |none=>none
def found (ok:Bool) (v:AV) (b:Bool):AV:=bif ok then .iQ [v, .bool b] else v
def bytesOf:List (List AV)->Option (List UInt8)
 |[]=>some []
 |[.int .u8 n]::l=>(bytesOf l).map (UInt8.ofNat n.toNat:: ·)
 |_=>none
def iq (w:Option SV) (l:Nat) (q:Nat):Option Nat:=
 match w with
 |none=>some l
 |some (.pv (.int _ i))=>if 0<=i/\i<=q then some i.toNat else none
 |some _=>none
def nX (P:Program) (l:St):Option Operand->Option (Option SV)
 |none=>some none
 |some x=>(bD P 0 l x).map some
def adw (l:Bool):AV->AV->Option AV
 | .int k a, .int k' b=>if k=k' then some (.int k (if l then(if b>a then b else a) else(if b<a then b else a))) else none
 | .str a, .str b=>some (.str (bif l then(bif !(Op.bytesLess a b) then a else b) else(bif Op.bytesLess a b||a==b then a else b)))
 |_,_=>none
def ng (P:Program) (z:St) (q:Bool) (w:AV):List Operand->Option AV
 |[]=>some w
 |x::l=>match(bD P 0 z x).bind iY with
  |some v=>match adw q w v with
   |some r=>ng P z q r l
   |none=>none
  |none=>none
def yz (P:Program) (c:Call) (q:St):Option SV:=
 match c.callee,c.args.toList with
 | .builtin .len,[x]=>match c.argTypes.toList with
  |[t]=>match P.underlying t,bD P t q x with
   |some .string,some (.pv (.str s))=>some (.pv (.int .i64 s.length))
   |some (.slice _),some (.pv .tR)=>some (.pv (.int .i64 0))
   |some (.slice _),some (.sub _ _ z w)=>some (.pv (.int .i64 ((w-z:Nat):Int)))
   |some (.slice _),some v=>(lenOf q v).map λ(n:Nat)=>SV.pv (.int .i64 (n:Int))
   |some (.map _ _),some v=>(maps q v).map λe=> .pv (.int .i64 e.1.length)
   |_,_=>none
  |_=>none
 | .builtin .max,x::l=>match(bD P 0 q x).bind iY with
  |some v=>(ng P q true v l).map .pv
  |none=>none
 | .builtin .min,x::l=>match(bD P 0 q x).bind iY with
  |some v=>(ng P q false v l).map .pv
  |none=>none
 |_,_=>none
def DL (P:Program) (q:St) (n:Nat) (e:TypeId) (x z:Operand):Option SV:=
 match lJ P e,bD P 0 q x,bD P 0 q z with
 |some s,some (.ptr id l),some (.pv (.int _ i))=>if 0<=i/\i<n/\0<s then some (.ptr id (l+i.toNat *s)) else none
 |some s,some (.rp id B j l),some (.pv (.int _ i))=>if 0<=i/\i<n/\0<s then some (.rp id B j (l+i.toNat *s)) else none
 |some s,some (.cp w),some (.pv (.int _ i))=>if 0<=i/\i<n/\0<s then some (.cp (w.drop (i.toNat *s))) else none
 |_,_,_=>none
def wY (P:Program) (q:St) (t:TypeId) (x B:Operand):Option SV:=
 match isSlice P t,bD P t q x,bD P 0 q B with
 |some (_,s),some (.pv (.dD l xs)),some (.pv (.int _ i))=>if s=l/\0<=i then(xs[i.toNat]?).map .cp else none
 |some (_,s),some (.row id),some (.pv (.int _ i))=>match q.ob id with
  |some (.row _ l xs)=>if s=l/\0<=i/\i.toNat<xs.length then some (.rp id l i.toNat 0) else none
  |some (.rn _ l _ _ _ xs _)=>if s=l/\0<=i/\i.toNat<xs.length then some (.rp id l i.toNat 0) else none
  |_=>none
 |some (_,s),some (.sub id l w z),some (.pv (.int _ i))=>if s=l/\0<=i/\i.toNat<z-w then some (.rp id l (w+i.toNat) 0) else none
 |some (_,s),some (.aq id (.bs n)),some (.pv (.int _ i))=>if s=1/\0<=i/\i.toNat<n then some (.ptr id i.toNat) else none
 |_,_,_=>none
def zD (P:Program) (z:Option (List AV)) (t:TypeId) (l:Array (Nat×Operand)) (B:St):Option SV:=
 match P.underlying t with
 |some (.struct D)=>match z,partsOf P (ER P t) B l.toList with
  |some z,some q=>if q.all (λp=>p.2.HQ)=true/\D.toList.all (λf=>(lJ P f.type).isSome)=true then(yd (pN P t) z q).map λw=> .pv (.agg w) else none
  |_,_=>none
 |some (.array _ e)=>match z,partsOf P (λ_=>e) B l.toList,lJ P e with
  |some z,some q,some s=>if q.all (λp=>p.2.HQ)=true then(yd (λi=>some (i *s,s)) z q).map λw=> .pv (.agg w) else none
  |_,_,_=>none
 |_=>none
def Xl (P:Program) (l:St) (t:TypeId) (x:Operand) (w q:Option Operand) (z:Operand):Option SV:=
 match w,q with
 |none,some q=>match bD P t l x with
  |some (.row id)=>match l.ob id,isSlice P t,bD P 0 l q,bD P 0 l z with
   |some (.row _ B xs),some (_,s),some (.pv (.int _ a)),some (.pv (.int _ b))=>if s=B/\a=(xs.length:Int)/\b=(xs.length:Int) then some (.aq id .full) else none
   |_,_,_,_=>none
  |_=>none
 |_,_=>none
def eW (P:Program) (o:Oper) (q:St):Option SV:=
 match o.op with
 | .move x| .assign x=>bD P o.type q x
 | .pick c a b=>match bD P 0 q c with
  |some (.pv (.bool t))=>bif t then bD P o.type q a else bD P o.type q b
  |_=>none
 | .binOp op t x y _=>match(bD P t q x).bind iY,(bD P t q y).bind iY with
  |some a,some b=>(bin P op t a b).map .pv
  |_,_=>none
 | .unOp op _ x=>match(bD P 0 q x).bind iY with
  |some a=>(un op a).map .pv
  |none=>none
 | .convert src N x=>match P.underlying src,P.underlying N with
  |some (.slice e),some .string=>match P.underlying e,lJ P e,(bD P src q x).bind (elems q) with
   |some (.int .u8),some 1,some (1,xs)=>(bytesOf xs).map λb=> .pv (.str b)
   |_,_,_=>none
  |some _,some (.int k)=>match(bD P 0 q x).bind iY with
   |some (.int _ n)=>some (.pv (.int k (k.wrap n)))
   |_=>none
  |some _,some .string=>match(bD P 0 q x).bind iY with
   |some (.str s)=>some (.pv (.str s))
   |_=>none
  |_,_=>none
 | .call c=>yz P c q
 | .nilCheck x=>match bD P 0 q x with
  |some (.ptr id w)=>some (.ptr id w)
  |some (.cp B)=>some (.cp B)
  |some (.pv (.ref B))=>some (.pv (.ref B))
  |some (.rp id D i w)=>some (.rp id D i w)
  |_=>none
 | .fieldAddr t x f=>match wU P t f with
  |some fd=>match lJ P fd.type with
   |some 0=>none
   |some _=>match bD P 0 q x with
    |some (.ptr id w)=>some (.ptr id (w+fd.offset))
    |some (.cp B)=>some (.cp (B.drop fd.offset))
    |some (.pv (.ref B))=>some (.cp (B.drop fd.offset))
    |some (.rp id D i w)=>some (.rp id D i (w+fd.offset))
    |_=>none
   |none=>none
  |none=>none
 | .field t x f=>match wU P t f,(bD P 0 q x).bind iY with
  |some fd,some (.agg B)=>(iZ P fd.type (B.drop fd.offset)).map .pv
  |_,_=>none
 | .indexAddr t x K=>match P.underlying t with
  |some (.array n e)=>DL P q n e x K
  |_=>wY P q t x K
 | .index t x K=>match P.underlying t,bD P t q x,bD P 0 q K with
  |some .string,some (.pv (.str s)),some (.pv (.int _ i))=>if 0<=i then(s[i.toNat]?).map λb=> .pv (.int .u8 b.toNat) else none
  |_,_,_=>none
 | .load t x=>match bD P 0 q x with
  |some (.cp B)=>(iZ P t B).map .pv
  |some (.pv (.ref B))=>(iZ P t B).map .pv
  |some (.rp id D i w)=>match q.ob id with
   |some (.row _ I xs)=>if D=I then(xs[i]?).bind λc=>(iZ P t (c.drop w)).map .pv else none
   |some (.rn _ I k _ _ xs _)=>if D=I/\w=k/\i<xs.length/\Eb P t=some false then some (.aq id (.nr i)) else none
   |_=>none
  |some (.ptr id w)=>match q.ob id with
   |some (.box _ cells)=>match Eb P t with
    |some false=>if(lJ P t).isSome then cells[w]? else none
    |some true=>match lJ P t with
     |some n=>if w+n<=cells.length then match mR ((cells.drop w).take n) with
       |some B=>some (.pv (.agg B))
       |none=>(wQ ((cells.drop w).take n)).map .ag
      else none
     |none=>none
    |none=>none
   |_=>none
  |_=>none
 | .slice t x G F none=>match P.underlying t,bD P t q x,nX P q G,nX P q F with
  |some .string,some (.pv (.str s)),some G,some F=>match iq F s.length s.length with
   |some h=>(iq G 0 h).map λl=> .pv (.str ((s.take h).drop l))
   |none=>none
  |some (.slice _),some (.pv (.dD D xs)),some G,some F=>match isSlice P t,iq F xs.length xs.length with
   |some (_,s),some h=>if s=D then(iq G 0 h).map λl=> .pv (.dD D ((xs.take h).drop l)) else none
   |_,_=>none
  |some (.slice _),some (.row id),some G,some F=>match isSlice P t,q.ob id with
   |some (_,s),some (.row _ D xs)=>match iq F xs.length xs.length with
    |some h=>if s=D then(iq G 0 h).map λl=> .sub id D l h else none
    |none=>none
   |_,_=>none
  |some (.slice _),some (.sub id D a b),some G,some F=>match isSlice P t,iq F (b-a) (b-a) with
   |some (_,s),some h=>if s=D then(iq G 0 h).map λl=> .sub id D (a+l) (a+h) else none
   |_,_=>none
  |_,_,_,_=>none
 | .slice t x G F (some S)=>Xl P q t x G F S
 | .extract x i=>match bD P 0 q x with
  |some (.pv (.iQ Q))=>(Q[i]?).map .pv
  |some (.two v b)=>match i with
   |0=>some v
   |1=>some b
   |_=>none
  |_=>none
 | .lookup t x k ok=>match P.underlying t with
  |some (.map L R)=>match(bD P t q x).bind (HG q),(bD P L q k).bind iY with
   |some O,some key=>bif ok&&kg P L key&&(qq P R).isSome then(qD key O).map λr=> .two .any (.pv (.bool r.isSome)) else none
   |_,_=>match(bD P t q x).bind (maps q),(bD P L q k).bind iY with
   |some (O,Q),some key=>bif kg P L key then
     match VX key O Q with
     |some (some v)=>some (.pv (found ok v true))
     |some none=>(qq P R).map λz=> .pv (found ok z false)
     |none=>none
    else none
   |_,_=>none
  |_=>none
 | .build t H=>zD P (zeroCells P t) t H q
 |_=>none
def oE.mentions (id:Nat):oE->Bool
 | .p j| .r j=>Nat.beq j id
 | .v _=>false
def SV.mentions (id:Nat):SV->Bool
 | .ptr j _| .row j| .rp j _ _ _| .sub j _ _ _=>Nat.beq j id
 | .cl _ l=>l.any (oE.mentions id)
 | .ag l=>l.any (oE.mentions id)
 | .two v w=>v.mentions id||w.mentions id
 | .aq j _=>Nat.beq j id||Nat.beq (j+40000) id
 |_=>false
def SV.dw (id:Nat) (v:SV):SV:=bif v.mentions id then .any else v
def Ob.dw (id:Nat):Ob->Ob
 | .box t cells=> .box t (cells.map (SV.dw id))
 |o=>o
def St.dw (l:St) (id:Nat):St:=
 {env:=λi=>(l.env i).map (SV.dw id),ob:=put (λi=>(l.ob i).map (Ob.dw id)) id none }
def St.new (l:St) (id:Nat) (o:Ob):St:=
 let s:=l.dw id
 {s with ob:=put s.ob id (some o) }
def SV.cV (id:Nat) (v:AV):SV->SV
 | .row j=>bif Nat.beq j id then .pv v else .row j
 | .ag [.r j]=>bif Nat.beq j id then .pv (.agg [v]) else .ag [.r j]
 |s=>s.dw id
def oG {q:Type}:List (Option q)->Option (List q)
 |[]=>some []
 |some x::l=>(oG l).map (x:: ·)
 |none::_=>none
def wG (k l:Nat):List (List AV)->List (List (List AV))->List (List AV)
 |x::xs,y::q=>x.set k (.dD l y)::wG k l xs q
 |_,_=>[]
def Ob.val:Ob->Option AV
 | .row _ q xs=>some (.dD q xs)
 | .mp _ _ w B=>some (.mp w B)
 | .mr _ _ q w B=>(oG B).map λl=> .mp w (l.map (.dD q))
 | .box _ _=>none
 | .it _ _=>none
 | .lp _=>none
 | .rn _ q k _ z xs D=>(oG D).map λl=> .dD q (wG k z xs l)
def Ob.cV (id:Nat) (v:AV):Ob->Ob
 | .box t cells=> .box t (cells.map (SV.cV id v))
 |o=>o
def iG (id:Nat):Bool:=Nat.blt id 10000
def St.cV (l:St) (id:Nat):Option St:=
 match iG id,(l.ob id).bind Ob.val with
 |true,some v=>some { env:=λi=>(l.env i).map (SV.cV id v),ob:=put (λi=>(l.ob i).map (Ob.cV id v)) id none }
 |_,_=>none
def SV.qy (id:Nat) (q:List AV):SV->SV
 | .ptr j l=>bif Nat.beq j id then .cp (q.drop l) else .ptr j l
 |s=>s.dw id
def Ob.qy (id:Nat) (l:List AV):Ob->Ob
 | .box t cells=> .box t (cells.map (SV.qy id l))
 |o=>o
def St.qy (l:St) (id:Nat):Option St:=
 match iG id,l.ob id with
 |true,some (.box _ cells)=>match mR cells with
  |some q=>some { env:=λi=>(l.env i).map (SV.qy id q),ob:=put (λi=>(l.ob i).map (Ob.qy id q)) id none }
  |none=>none
 |_,_=>none
def xk (q:St):List Operand->Option St
 |[]=>some q
 | .tmp i::l=>match q.env i with
  |some (.ptr id _)=>(q.qy id).bind λw=>xk w l
  |_=>xk q l
 |_::l=>xk q l
def kG (q:St):List oE->Option (List AV)
 |[]=>some []
 | .v a::l=>(kG q l).map (a:: ·)
 | .r id::l=>match(q.ob id).bind Ob.val,kG q l with
  |some v,some w=>some (v::w)
  |_,_=>none
 | .p _::_=>none
def mJ (l:St):SV->Option AV
 | .pv v=>some v
 | .row id=>(l.ob id).bind Ob.val
 | .ag q=>(kG l q).map .agg
 | .aq id (.nr i)=>match l.ob id with
  |some (.rn _ _ _ _ w _ z)=>match z[i]? with
   |some (some B)=>some (.dD w B)
   |_=>none
  |_=>none
 |_=>none
def jS (P:Program) (l:St):List Operand->List TypeId->Option (List AV)
 |[],_=>some []
 |x::xs,q=>match(bD P (q.headD 0) l x).bind (mJ l),jS P l xs q.tail with
  |some v,some w=>some (v::w)
  |_,_=>none
def lF (l:St):Operand->Bool
 | .tmp i=>match l.env i with
  |some (.row _)=>true
  |some (.ag _)=>true
  |some (.aq _ _)=>true
  |_=>false
 |_=>false
def xF (l:St):Operand->Bool
 | .tmp i=>match l.env i with
  |some (.ag _)=>true
  |some (.aq _ _)=>true
  |_=>false
 |_=>false
def um (w:St):List Operand->Option (List AV)
 |[]=>some []
 | .tmp i::l=>match w.env i,um w l with
  |some (.pv v),some q=>some (v::q)
  |some (.cp z),some q=>some (.ref z::q)
  |_,_=>none
 |_::_=>none
def qM (z:St):List Operand->Option (List oE)
 |[]=>some []
 | .tmp i::l=>match z.env i,qM z l with
  |some (.pv v),some q=>some (.v v::q)
  |some (.cp w),some q=>some (.v (.ref w)::q)
  |some (.ptr id 0),some q=>some (.p id::q)
  |_,_=>none
 |_::_=>none
def lC (P:Program) (t:TypeId) (len:Nat) (l:List (Nat×Operand)) (st:St):Option (TypeId×Nat×List (List AV)):=
 match isSlice P t with
 |some (e,s)=>match zeroCells P e,partsOf P (λ_=>e) st l with
  |some z,some q=>
   if len *s<=16777216/\0<s/\z.length=s/\q.all (λp=>p.2.HQ)=true then
    (yd (λi=>some (i *s,s)) (tU z len) q).map λw=>(e,s,chunks s len w)
   else none
  |_,_=>none
 |none=>none
abbrev eN:=Nat->List SV->List (Nat×Ob)->Option (AV×List (Nat×Ob))
def pH (h:Hint) (l:St):Operand->Option Nat
 | .tmp t=>bif h.fT.contains t then
   match l.env t with
   |some (.row id)=>some id
   |_=>none
  else none
 |_=>none
def qA (h:Hint):Operand->Bool
 | .tmp t=>h.rows.contains t
 |_=>false
def gO (id:Nat):Bool:=Nat.blt id 10000||(Nat.ble 20000 id&&Nat.blt id 30000)
def SV.ids:SV->List Nat
 | .ptr j _| .row j| .rp j _ _ _| .sub j _ _ _=>[j]
 | .cl _ l=>l.filterMap fun
  | .p j| .r j=>some j
  | .v _=>none
 | .ag l=>l.filterMap fun
  | .p j| .r j=>some j
  | .v _=>none
 | .two v w=>v.ids++w.ids
 | .aq j _=>[j,j+40000]
 |_=>[]
def SV.PR:SV->List Nat
 | .aq j _=>[j]
 |v=>v.ids
def SV.closed (names:List Nat):SV->Bool
 | .ptr j _| .row j| .rp j _ _ _| .sub j _ _ _=>names.contains j
 | .cl _ l=>l.all fun
  | .p j| .r j=>names.contains j
  | .v _=>true
 | .ag l=>l.all fun
  | .p j| .r j=>names.contains j
  | .v _=>true
 | .two v w=>v.closed names&&w.closed names
 | .aq _ _=>false
 |_=>true
def Ob.closed (names:List Nat):Ob->Bool
 | .box _ cells=>cells.all (SV.closed names)
 | .row _ _ _=>true
 | .mp _ _ _ _=>true
 | .mr _ _ _ _ _=>false
 | .it _ _=>true
 | .lp _=>true
 | .rn _ _ _ _ _ _ _=>true
def EZ (st:St):Operand->Bool
 | .tmp t=>match st.env t with
  |some (.ptr _ _)=>true
  |some (.cl _ _)=>true
  |_=>false
 |_=>false
def Vs (l:St):Operand->Bool
 | .tmp t=>match l.env t with
  |some (.cl _ _)=>true
  |_=>false
 |_=>false
def wide (st:St) (c:Call) (f:Operand):Bool:=Vs st f||c.args.toList.any (EZ st)
def isRef (h:Hint):Operand->Bool
 | .tmp t=>h.fT.contains t
 |_=>false
def aaR (P:Program) (h:Hint) (z:St) (t:TypeId) (x:Operand):Option SV:=
 match bD P t z x with
 |some (.pv v)=>some (.pv v)
 |some (.ptr id q)=>some (.ptr id q)
 |some (.row id)=>bif isRef h x then some (.row id) else none
 |some (.cl f l)=>some (.cl f l)
 |some (.cp w)=>some (.cp w)
 |_=>none
def uk (P:Program) (h:Hint) (l:St):List Operand->List TypeId->Option (List SV)
 |[],_=>some []
 |x::xs,q=>match aaR P h l (q.headD 0) x,uk P h l xs q.tail with
  |some v,some w=>some (v::w)
  |_,_=>none
def JT:oE->SV
 | .v a=> .pv a
 | .p id=> .ptr id 0
 | .r id=> .row id
def Se:SV->Option (Nat×List SV×List SV)
 | .pv (.fn g l)=>bif Nat.blt g 1000000 then some (g,[],l.map .pv) else none
 | .cl g l=>bif Nat.blt g 1000000 then some (g,[],l.map JT) else bif Nat.blt g 2000000 then some (g-1000000,l.map JT,[]) else match l with
  |[c]=>some (g,[],[JT c])
  |_=>none
 |_=>none
def Cy (l:St) (id:Nat):List Nat:=
 match l.ob id with
 |some (.box _ cells)=>cells.flatMap SV.ids
 |_=>[]
def gN (q:St):Nat->List Nat->List Nat->List Nat
 |0,_,done=>done
 |_+1,[],done=>done
 |n+1,id::l,done=>bif done.contains id then gN q n l done else gN q n (l++Cy q id) (done++[id])
def qz:List SV->List Nat
 |[]=>[]
 | .row id::l=>id::qz l
 |_::l=>qz l
def OS (l:St) (id:Nat):Bool:=
 match l.ob id with
 |some (.row _ _ _)=>true
 |_=>false
def iz (q:Bool) (w:St) (l:List Nat) (id:Nat):Bool:=OS w id&&gO id&& !(l.contains id)&& !q
def ja (q:Nat->Bool):Nat->List Nat->List (Nat×Nat)
 |_,[]=>[]
 |k,id::l=>(id,bif q id then 20000+k else 10000+k)::ja q (k+1) l
def swap:List (Nat×Nat)->List (Nat×Nat)
 |[]=>[]
 |(a,b)::l=>(b,a)::swap l
def iS (m:List (Nat×Nat)) (id:Nat):Nat:=(find m id).getD id
def oE.kD (l:Nat->Nat):oE->oE
 | .p id=> .p (l id)
 | .r id=> .r (l id)
 |c=>c
def SV.kD (q:Nat->Nat):SV->SV
 | .ptr j z=> .ptr (q j) z
 | .row j=> .row (q j)
 | .rp j B i z=> .rp (q j) B i z
 | .sub j B F D=> .sub (q j) B F D
 | .cl f l=> .cl f (l.map (oE.kD q))
 | .ag l=> .ag (l.map (oE.kD q))
 | .two v w=> .two (v.kD q) (w.kD q)
 |s=>s
def Ob.kD (l:Nat->Nat):Ob->Ob
 | .box t cells=> .box t (cells.map (SV.kD l))
 |o=>o
def jT (q:St) (ids:List Nat) (w:Nat->Nat):List (Nat×Nat)->Option (List (Nat×Ob))
 |[]=>some []
 |(id,z)::l=>match q.ob id,jT q ids w l with
  |some o,some B=>bif o.closed ids then some ((z,o.kD w)::B) else none
  |_,_=>none
def mS (names:List Nat) (w:Nat->Nat):List (Nat×Nat)->List (Nat×Ob)->Option (List (Nat×Ob))
 |[],[]=>some []
 |(id,z)::l,(q,o)::B=>bif Nat.beq z q&&o.closed names then(mS names w l B).map λr=>(id,o.kD w)::r else none
 |_,_=>none
def distinct:List Nat->Bool
 |[]=>true
 |x::l=> !(l.contains x)&&distinct l
def fG:List Nat->St->St
 |[],q=>q
 |id::l,q=>fG l (q.dw id)
mutual
def AV.same:AV->AV->Bool
 | .bool a, .bool b=>a==b
 | .int k a, .int k' b=>decide (k=k')&&decide (a=b)
 | .str a, .str b=>decide (a=b)
 | .dD s xs, .dD s' ys=>Nat.beq s s'&&B2 xs ys
 | .agg a, .agg b=>sC a b
 | .fn f a, .fn g b=>Nat.beq f g&&sC a b
 | .iQ a, .iQ b=>sC a b
 | .ref a, .ref b=>sC a b
 | .mp a b, .mp c d=>sC a c&&sC b d
 | .self a, .self b=>Nat.beq a b
 | .rD, .rD=>true
 | .tR, .tR=>true
 | .hole, .hole=>true
 |_,_=>false
def sC:List AV->List AV->Bool
 |[],[]=>true
 |a::l,b::m=>AV.same a b&&sC l m
 |_,_=>false
def B2:List (List AV)->List (List AV)->Bool
 |[],[]=>true
 |a::l,b::m=>sC a b&&B2 l m
 |_,_=>false
end
def oE.same:oE->oE->Bool
 | .v a, .v b=>AV.same a b
 | .p a, .p b=>Nat.beq a b
 | .r a, .r b=>Nat.beq a b
 |_,_=>false
def sD:List oE->List oE->Bool
 |[],[]=>true
 |a::l,b::m=>oE.same a b&&sD l m
 |_,_=>false
def Ak.same:Ak->Ak->Bool
 | .full, .full=>true
 | .nr i, .nr j=>Nat.beq i j
 | .bs i, .bs j=>Nat.beq i j
 |_,_=>false
def SV.same:SV->SV->Bool
 | .undef, .undef=>true
 | .any, .any=>true
 | .pv a, .pv b=>AV.same a b
 | .ptr a b, .ptr c d=>Nat.beq a c&&Nat.beq b d
 | .row a, .row b=>Nat.beq a b
 | .rp a b c d, .rp l w c' z=>Nat.beq a l&&Nat.beq b w&&Nat.beq c c'&&Nat.beq d z
 | .sub a b c d, .sub l w c' z=>Nat.beq a l&&Nat.beq b w&&Nat.beq c c'&&Nat.beq d z
 | .cp a, .cp b=>sC a b
 | .cl f a, .cl g b=>Nat.beq f g&&sD a b
 | .two s a, .two t b=>SV.same s t&&SV.same a b
 | .ag a, .ag b=>sD a b
 | .aq a q, .aq b r=>Nat.beq a b&&Ak.same q r
 |_,_=>false
def xu:List SV->List SV->Bool
 |[],[]=>true
 |a::l,b::m=>SV.same a b&&xu l m
 |_,_=>false
def qV:List (Option (List (List AV)))->List (Option (List (List AV)))->Bool
 |[],[]=>true
 |some a::l,some b::m=>B2 a b&&qV l m
 |none::l,none::m=>qV l m
 |_,_=>false
def Ob.same:Ob->Ob->Bool
 | .box t a, .box u b=>Nat.beq t u&&xu a b
 | .row e s xs, .row l q I=>Nat.beq e l&&Nat.beq s q&&B2 xs I
 | .mp k e a b, .mp k' l c d=>Nat.beq k k'&&Nat.beq e l&&sC a c&&sC b d
 | .mr k e s a b, .mr k' l q c d=>Nat.beq k k'&&Nat.beq e l&&Nat.beq s q&&sC a c&&qV b d
 | .it s p, .it q B=>decide (s=q)&&Nat.beq p B
 | .lp a, .lp b=>sC a b
 | .rn e s k w D x y, .rn l q k' z F G H=>Nat.beq e l&&Nat.beq s q&&Nat.beq k k'&&Nat.beq w z&&Nat.beq D F&&B2 x G&&qV y H
 |_,_=>false
def vr:List (Nat×Ob)->List (Nat×Ob)->Bool
 |[],[]=>true
 |(i,a)::l,(j,b)::m=>Nat.beq i j&&Ob.same a b&&vr l m
 |_,_=>false
def ux (P:Program) (h:Hint) (q:St) (c:Call) (f:Operand):Option (Nat×List SV):=
 match(bD P 0 q f).bind Se,uk P h q c.args.toList c.argTypes.toList with
 |some (g,pre,l),some w=>some (g,pre++(w++l))
 |_,_=>none
def jG (l:St) (args:List SV):List Nat:=gN l 200 (args.flatMap SV.ids) []
def mA (ids:List Nat):List (Nat×Nat):=ja (λ_=>false) 0 ids
def sS (P:Program) (h:Hint) (q:eN) (l:St) (c:Call) (f:Operand):Option AV:=
 match ux P h l c f with
 |some (g,args)=>
  bif distinct (jG l args)&&Nat.blt (jG l args).length 10000&&args.all (SV.closed (jG l args)) then
   match jT l (jG l args) (iS (mA (jG l args))) (mA (jG l args)) with
   |some cL=>match q g (args.map (SV.kD (iS (mA (jG l args))))) cL with
    |some (r,w)=>bif vr w cL&&r.jM then some r else none
    |none=>none
   |none=>none
  else none
 |none=>none
def dQ (P:Program) (h:Hint) (cz:eN) (o:Oper) (st:St):Option SV:=
 match o.op with
 | .buildSlice t len q=>bif(o.dst.any h.rows.contains||o.dst.any h.fT.contains) then none else(lC P t len q.toList st).map λx=> .pv (.dD x.2.1 x.2.2)
 | .call c=>match c.callee with
  | .value f=>bif o.dst.any h.owns.contains then none else bif o.dst.any h.stay.contains&&wide st c f then(sS P h cz st c f).map .pv else
   bif wide st c f||c.args.toList.any (λx=>(pH h st x).isSome) then none else
   match bD P 0 st f,jS P st c.args.toList c.argTypes.toList with
   |some (.pv (.fn g l)),some z=>match cz g ((z++l).map .pv) [] with
    |some (r,[])=>bif(!(c.args.toList.any (lF st))||r.plain)&&r.jM then some (.pv r) else none
    |_=>none
   |_,_=>none
  |_=>yz P c st
 | .lookup _ x _ ok=>bif qA h x&& !ok then none else eW P o st
 | .build t q=>bif o.dst.any h.rows.contains then none else zD P (N0 P h o.dst t) t q st
 | .load _ _=>bif o.dst.any h.take.contains then none else eW P o st
 | .makeFunc (.func g) first l=>bif first.isEmpty then
   bif o.dst.any h.fT.contains then bif Nat.blt g 1000000 then(qM st l.toList).map λw=> .cl g w else none
   else(um st l.toList).map λz=> .pv (.fn g z)
  else bif l.isEmpty&&o.dst.any h.fT.contains&&Nat.blt g 1000000 then(qM st first.toList).map λw=> .cl (g+1000000) w else none
 | .assign x=>match o.dst,x,eW P o st with
  |some d, .const _,some (.pv (.dD B xs))=>bif h.rows.contains d then none else some (.pv (.dD B xs))
  |some d,_,some (.row id)=>bif h.mK.contains d||h.mvs.contains d then none else some (.row id)
  |_,_,r=>r
 |_=>eW P o st
def oI (l:St):SV->Bool
 | .pv (.agg _)| .pv (.iQ _)=>false
 | .pv _=>true
 | .ptr _ _| .rp _ _ _ _| .cp _| .cl _ _=>true
 | .row id=>match l.ob id with
  |some (.row _ _ _)=>true
  |some (.mp _ _ _ _)=>true
  |some (.rn _ _ _ _ _ _ _)=>true
  |_=>false
 |_=>false
def storeAt (P:Program) (t:TypeId) (q:St) (a:SV) (v:SV):Option St:=
 match a with
 | .ptr id l=>match q.ob id,lJ P t with
  |some (.box B cells),some n=>match v with
   | .ag w=>if w.length=n/\l+n<=cells.length then
     some { q with ob:=put q.ob id (some (.box B (cells.take l++w.map JT++cells.drop (l+n)))) } else none
   | .pv (.agg w)=>if w.length=n/\l+n<=cells.length then
     some { q with ob:=put q.ob id (some (.box B (cells.take l++w.map .pv++cells.drop (l+n)))) } else none
   |v=>if n=1/\l<cells.length/\oI q v=true then some { q with ob:=put q.ob id (some (.box B (cells.set l v))) } else none
  |_,_=>none
 | .rp id D i l=>match q.ob id,lJ P t,v with
  |some (.row e z xs),some n, .pv v=>match xs[i]? with
   |some c=>if D=z/\v.cells.length=n/\l+n<=c.length/\v.HQ=true then
     some { q with ob:=put q.ob id (some (.row e z (xs.set i (c.take l++v.cells++c.drop (l+n))))) } else none
   |none=>none
  |_,_,_=>none
 |_=>none
def E6 (P:Program) (h:Hint) (l:St):List Operand->List TypeId->Option (List SV×List Nat)
 |[],_=>some ([],[])
 |x::xs,w=>match pH h l x,E6 P h l xs w.tail with
  |some id,some (q,ids)=>some (.row 10000::q,id::ids)
  |none,some (q,ids)=>match(bD P (w.headD 0) l x).bind iY with
   |some v=>some (.pv v::q,ids)
   |none=>none
  |_,none=>none
def qf (P:Program) (h:Hint) (l:eN) (z:St) (c:Call) (f:Operand) (d:Option Nat):Option St:=
 match bD P 0 z f,E6 P h z c.args.toList c.argTypes.toList with
 |some (.pv (.fn g B)),some (H,[id])=>match z.ob id with
  |some (.row e F xs)=>match l g (H++B.map .pv) [(10000, .row e F xs)] with
   |some (r,[(G, .row D q w)])=>bif Nat.beq e D&&Nat.beq F q&&Nat.beq G 10000 then
     match r with
     | .self n=>bif Nat.ble n w.length&&gO id then some ((z.new id (.row D q (w.take n))).set d (.row id)) else none
     |r=>bif r.plain then some (St.set { z with ob:=put z.ob id (some (.row D q w)) } d (.pv r)) else none
    else none
   |_=>none
  |_=>none
 |_,_=>none
def j0 (P:Program) (h:Hint) (l:eN) (w:St) (c:Call) (f:Operand) (d:Option Nat):Option St:=
 match(bD P 0 w f).bind Se,uk P h w c.args.toList c.argTypes.toList with
 |some (g,pre,B),some H=>
  let args:=pre++(H++B)
  let ids:=gN w 200 (args.flatMap SV.ids) [];let F:=iz (d.any h.stay.contains) w (qz args);let m:=ja F 0 ids;let names:=m.map (·.2);let G:=iS m
  bif distinct ids&&Nat.blt ids.length 10000&&args.all (SV.closed ids) then
   match jT w ids G m with
   |some cL=>match l g (args.map (SV.kD G)) cL with
    |some (r,q)=>match mS names (iS (swap m)) m q with
     |some z=>bif r.jM then
       let D:=fG (ids.filter F) w
       some (St.set { env:=D.env,ob:=λi=>(find z i).orElse λ_=>D.ob i } d (.pv r)) else none
     |none=>none
    |none=>none
   |none=>none
  else none
 |_,_=>none
def yP (P:Program) (t:TypeId):Option (List Value):=
 match P.info? t with
 |some i=>i.zero.map λz=>z.cells.toList
 |none=>none
def nW (P:Program) (w:List Nat) (d:Nat):Nat->List TypeId->List Value->Option (List SV×List (Nat×TypeId×Nat))
 |_,[],[]=>some ([],[])
 |j,t::z,v::B=>match nW P w d (j+1) z B with
  |some (q,l)=>match(bif w.contains j then none else isSlice P t),v with
   |some (e,s), .slice none 0 0=>bif Nat.blt 0 s&&Nat.blt (5000+16 *d+j) 10000 then some (.row (5000+16 *d+j)::q,(5000+16 *d+j,e,s)::l) else none
   |_,v=>(ofConst P t v).map λa=>(.pv a::q,l)
  |none=>none
 |_,_,_=>none
def Kc (l:List (Nat×Nat×TypeId×Nat)) (id:Nat) (e:TypeId) (s:Nat):Ob:=
 match find l id with
 |some (k,q,w)=>bif Nat.blt k s then .rn e s k q w [] [] else .row e s []
 |none=> .row e s []
def iP (q:List (Nat×Nat×TypeId×Nat)):List (Nat×TypeId×Nat)->St->St
 |[],w=>w
 |(id,e,s)::l,w=>iP q l (w.new id (Kc q id e s))
def DM:Operand->Bool
 | .const (.slice none 0 0)=>true
 |_=>false
def mZ (P:Program) (l:List Nat) (d:Nat):Nat->List Operand->List TypeId->List (Nat×TypeId×Nat)
 |_,[],_=>[]
 |j,x::xs,q=>bif DM x&&l.contains j then match isSlice P (q.headD 0) with
   |some (e,s)=>(5008+16 *d+j,e,s)::mZ P l d (j+1) xs q.tail
   |none=>mZ P l d (j+1) xs q.tail
  else mZ P l d (j+1) xs q.tail
def argG (P:Program) (z:List Nat) (d j:Nat) (B:St) (t:TypeId) (x:Operand):Option SV:=
 bif DM x&&z.contains j then(isSlice P t).bind λ_=>some (.row (5008+16 *d+j)) else match bD P t B x with
 |some (.pv v)=>some (.pv v)
 |some (.ptr id w)=>some (.ptr id w)
 |some (.row id)=>some (.row id)
 |some (.cl f l)=>some (.cl f l)
 |some (.cp q)=>some (.cp q)
 |some (.ag q)=>some (.ag q)
 |_=>none
def CV (P:Program) (l:List Nat) (d:Nat) (q:St):Nat->List Operand->List TypeId->Option (List SV)
 |_,[],_=>some []
 |j,x::xs,w=>match argG P l d j q (w.headD 0) x,CV P l d q (j+1) xs w.tail with
  |some v,some z=>some (v::z)
  |_,_=>none
def vX (q:List Nat):Nat->List SV->List Nat
 |_,[]=>[]
 |j, .row id::l=>bif q.contains j then vX q (j+1) l else id::vX q (j+1) l
 |j,_::l=>vX q (j+1) l
def newNames (d:Nat):Nat->List (Nat×Ob)->List (Nat×Nat)
 |_,[]=>[]
 |k,(q,_)::l=>(5000+16 *d+k,q)::newNames d (k+1) l
def I5:AV->oE
 | .self n=> .r n
 |a=> .v a
def zN:AV->SV
 | .self n=> .row n
 | .agg l=> .ag (l.map I5)
 |a=> .pv a
def wV:AV->SV
 | .iQ [a,b]=> .two (zN a) (zN b)
 |a=>zN a
def K1 (l:Nat->Option Ob):SV->SV
 | .row id=>match l id with
  |some (.box _ _)=> .ptr id 0
  |_=> .row id
 |s=>s
def qu (q:Nat->Nat):Nat->List Nat->List (Nat×Nat)
 |_,[]=>[]
 |k,id::l=>(id,q id+k)::qu q (k+1) l
def stays (l:Nat->Nat) (i:Nat):Bool:=Nat.beq (l i) 10000
def given (l:Nat->Nat) (i:Nat):Bool:=Nat.beq (l i) 9000
def E9 (l:Nat->Bool) (i:Nat):Nat:=bif l i then 20000 else 10000
def Vv (l:St) (id:Nat):Bool:=
 match l.ob id with
 |some (.rn _ _ _ _ _ _ _)=>iG id
 |_=>false
def Ki (q:St) (l:Nat->Bool) (i:Nat):Nat:=bif Vv q i then 9000 else E9 l i
def jZ (z:eN) (F:St) (g:Nat) (args:List SV) (B:Nat->Nat) (d:Option Nat):Option St:=
 let ids:=gN F 200 (args.flatMap SV.ids) [];let m:=qu B 0 ids;let G:=m.filter λp=> !(given B p.1)
 bif distinct ids&&Nat.blt ids.length 10000&&args.all (SV.closed ids)&&(ids.all (λi=> !(given B i))||(Nat.blt ids.length 1000&&ids.all λi=> !(given B i)||iG i)) then
  match jT F ids (iS m) m with
  |some cL=>match z g (args.map (SV.kD (iS m))) cL with
   |some (r,q)=>
    let D:=newNames (d.getD 0) 0 (q.drop G.length);let mm:=G++D
    bif Nat.ble D.length 8&&distinct (mm.map (·.1))&&distinct (mm.map (·.2))&&D.all (λx=>Nat.blt x.1 10000)&&D.all (λx=>Nat.ble 25000 x.2) then
     match mS (mm.map (·.2)) (iS (swap mm)) mm q with
     |some l=>match r with
      | .iQ [.iQ [.self 0, .rD,x]]=>bif(wV x).closed (mm.map (·.2)) then
        let w:=fG (ids.filter (λi=> !(stays B i))++D.map (·.1)) F
        some (St.set { env:=w.env,ob:=λi=>(find l i).orElse λ_=>w.ob i } d (K1 (find l) ((wV x).kD (iS (swap mm)))))
       else none
      |r=>bif r.jM then
        let w:=fG (ids.filter (λi=> !(stays B i))++D.map (·.1)) F
        some (St.set { env:=w.env,ob:=λi=>(find l i).orElse λ_=>w.ob i } d (.pv r))
       else none
     |none=>none
    else none
   |none=>none
  |none=>none
 else none
def CY (P:Program) (h:Hint) (q:eN) (D:St) (c:Call) (f:Operand) (d:Nat) (z:List Nat):Option St:=
 let l:=iP h.nest (mZ P z d 0 c.args.toList c.argTypes.toList) D;match(bD P 0 l f).bind Se,CV P z d l 0 c.args.toList c.argTypes.toList with
 |some (g,pre,w),some B=>bif(mZ P z d 0 c.args.toList c.argTypes.toList).all (λx=>Nat.blt x.1 10000) then
   jZ q l g (pre++(B++w)) (Ki l (iz false l (vX z 0 B))) (some d) else none
 |_,_=>none
def xb (h:Hint) (d:Nat):Option (List (Nat×TypeId×Nat)):=match find h.vj d with
 |some _=>some []
 |none=>find h.tR d
def PE (P:Program) (b:Bool) (l:St) (t:TypeId) (x:Operand):Option AV:=bif b&&DM x then some .tR else(bD P t l x).bind iY
def sq (P:Program) (b:Bool) (l:St):List Operand->List TypeId->Option (List AV)
 |[],_=>some []
 |x::xs,q=>match PE P b l (q.headD 0) x,sq P b l xs q.tail with
  |some v,some w=>some (v::w)
  |_,_=>none
def tq:List AV->List (Nat×TypeId×Nat)->Option (List oE)
 |[],_=>some []
 | .tR::q,x::l=>(tq q l).map (.r x.1:: ·)
 | .tR::_,[]=>none
 |a::q,l=>(tq q l).map (.v a:: ·)
def iO (P:Program) (h:Hint) (q:eN) (w:St) (c:Call) (f:Operand) (d:Option Nat):Option St:=
 match d with
 |some d=>match find h.vj d with
  |some D=>CY P h q w c f d D.2
  |none=>match bD P 0 w f,sq P (xb h d).isSome w c.args.toList c.argTypes.toList with
  |some (.pv (.fn g z)),some H=>match q g ((H++z).map .pv) [] with
   |some (.iQ [.iQ [.self e, .dD G xs]],[])=>bif(xb h d).isSome then none else some ((w.new d (.row e G xs)).set (some d) (.row d))
   |some (.agg B,[])=>match xb h d with
    |some []=>some (w.set (some d) (.pv (.agg B)))
    |some l=>match tq B l with
     |some F=>bif l.all (λx=>Nat.blt x.1 10000) then some ((iP h.nest l w).set (some d) (.ag F)) else none
     |none=>none
    |none=>none
   |_=>none
  |_,_=>none
 |none=>none
def aa2 (l:St) (s:SV):Option oE:=
 bif oI l s then
  match s with
  | .pv a=>some (.v a)
  | .row id=>some (.r id)
  |_=>none
 else none
def wS (q:St):List SV->Option (List oE)
 |[]=>some []
 |s::l=>match aa2 q s,wS q l with
  |some c,some w=>some (c::w)
  |_,_=>none
def GA (q:St):SV->Option (List SV)
 | .pv (.agg l)=>some (l.map .pv)
 |s=>bif oI q s then some [s] else none
def qJ (P:Program) (ty:Nat->TypeId) (st:St):List (Nat×Operand)->Option (List (Nat×List SV))
 |[]=>some []
 |(i,x)::l=>match(bD P (ty i) st x).bind (GA st),qJ P ty st l with
  |some v,some q=>some ((i,v)::q)
  |_,_=>none
def Hw (place:Nat->Option (Nat×Nat)) (cells:List SV):List (Nat×List SV)->Option (List SV)
 |[]=>some cells
 |(i,v)::q=>match place i with
  |none=>none
  |some (l,size)=>if v.length=size/\l+size<=cells.length then Hw place (cells.take l++v++cells.drop (l+size)) q else none
def vw (P:Program) (h:Hint) (w:St) (d:Nat) (t:TypeId) (q:List (Nat×Operand)):Option St:=
 match P.underlying t,(yP P t).bind λG=>nW P ((find h.Pn d).getD []) d 0 (td P 8 t) G with
 |some (.struct D),some (z,l)=>bif D.toList.all (λf=>(lJ P f.type).isSome) then
   match qJ P (ER P t) (iP h.nest l w) q with
   |some F=>match(Hw (pN P t) z F).bind (wS (iP h.nest l w)) with
    |some B=>some ((iP h.nest l w).set (some d) (.ag B))
    |none=>none
   |none=>none
  else none
 |_,_=>none
def ym (P:Program) (l:St) (t:TypeId) (m k:Operand):Option St:=
 match P.underlying t with
 |some (.map z _)=>match bD P t l m,(bD P z l k).bind iY with
  |some (.row id),some key=>match l.ob id with
   |some (.mp k' B D F)=>bif kg P z key then
     match mdel key D F with
     |some (q,w)=>some { l with ob:=put l.ob id (some (.mp k' B q w)) }
     |none=>none
    else none
   |_=>none
  |_,_=>none
 |_=>none
def E8 (P:Program) (l:St) (t:TypeId) (m:Operand):Option St:=
 match P.underlying t with
 |some (.map _ _)=>match bD P t l m with
  |some (.row id)=>match l.ob id with
   |some (.mp k' q _ _)=>some { l with ob:=put l.ob id (some (.mp k' q [] [])) }
   |_=>none
  |_=>none
 |_=>none
def vD (P:Program) (l:St):Option Operand->Bool
 |none=>true
 |some x=>match(bD P 0 l x).bind iY with
  |some (.int _ _)=>true
  |_=>false
def VO (P:Program) (l:St) (q:TypeId) (x:Operand):Option St:=
 match bD P q l x with
 |some (.pv _)=>some l
 |some (.row j)=>l.cV j
 |_=>none
def yo (P:Program) (G:St) (t:TypeId) (m k x:Operand):Option St:=
 match P.underlying t with
 |some (.map B z)=>match VO P G z x with
  |some l=>match bD P t l m,(bD P B l k).bind iY,(bD P z l x).bind iY with
   |some (.row id),some key,some v=>match l.ob id with
    |some (.mp k' D F H)=>bif kg P B key&&v.HQ then
      match DQ key v F H with
      |some (q,w)=>some { l with ob:=put l.ob id (some (.mp k' D q w)) }
      |none=>none
     else none
    |_=>none
   |_,_,_=>none
  |none=>none
 |_=>none
def Nr (P:Program) (l:St) (t:TypeId) (m k:Operand):Option (TypeId×Nat×AV×TypeId×TypeId×Nat×List AV×List (Option (List (List AV)))):=
 match P.underlying t with
 |some (.map q w)=>match bD P t l m,(bD P q l k).bind iY with
  |some (.row id),some key=>match l.ob id with
   |some (.mr k' e B z D)=>bif kg P q key&&Nat.blt id 10000 then some (w,id,key,k',e,B,z,D) else none
   |_=>none
  |_,_=>none
 |_=>none
def Ns (P:Program) (l:St) (t:TypeId) (m k:Operand) (d:Nat):Option St:=
 match Nr P l t m k with
 |some (w,id,key,k',e,q,z,B)=>bif Nat.beq id d then none else match qD key z with
  |some (some i)=>match B[i]? with
   |some (some xs)=>some ((St.new { l with ob:=put l.ob id (some (.mr k' e q z (B.set i none))) } d (.row e q xs)).set (some d) (.row d))
   |_=>none
  |some none=>match qq P w,isSlice P w with
   |some (.dD _ []),some (D,s)=>if e=D/\s=q/\0<s then some ((l.new d (.row e q [])).set (some d) (.row d)) else none
   |_,_=>none
  |none=>none
 |none=>none
def VZ (P:Program) (w:St) (t:TypeId) (m k x:Operand):Option St:=
 match Nr P w t m k with
 |some (D,id,key,k',e,z,F,H)=>match x with
  | .const (.slice none 0 0)=>match isSlice P D with
   |some (B,s)=>if e=B/\s=z/\0<s then
     match DQ key (some []) F H with
     |some (l,q)=>some { w with ob:=put w.ob id (some (.mr k' e z l q)) }
     |none=>none
    else none
   |none=>none
  |x=>match bD P D w x with
   |some (.row j)=>match w.ob j with
    |some (.row B s xs)=>if e=B/\s=z/\j<10000 then
      match DQ key (some xs) F H with
      |some (l,q)=>let G:=w.dw j;some { G with ob:=put G.ob id (some (.mr k' e z l q)) }
      |none=>none
     else none
    |_=>none
   |_=>none
 |none=>none
def xB (P:Program) (q:St) (t:TypeId) (x:Operand) (d:Nat):Option St:=
 match bD P 0 q x,Eb P t with
 |some (.rp id F i w),some false=>match q.ob id with
  |some (.rn e l k z B xs D)=>match D[i]? with
   |some (some G)=>bif Nat.beq F l&&Nat.beq w k&& !(Nat.beq id d)&&Nat.blt id 10000 then some ((St.new { q with ob:=put q.ob id (some (.rn e l k z B xs (D.set i none))) } d (.row z B G)).set (some d) (.row d)) else none
   |_=>none
  |_=>none
 |_,_=>none
def HW (P:Program) (q:St) (t:TypeId) (id H i w j:Nat):Option St:=
 match Eb P t,lJ P t,q.ob id,q.ob j with
 |some false,some 1,some (.rn e l k z B xs D),some (.row F G I)=>
  bif Nat.beq H l&&Nat.beq w k&&Nat.blt id 10000&&Nat.blt j 10000&&Nat.beq z F&&Nat.beq B G&&Nat.blt i D.length&& !(Nat.beq id j) then
   some { (q.dw j).dw (id+40000) with ob:=put ((q.dw j).dw (id+40000)).ob id (some (.rn e l k z B xs (D.set i (some I)))) } else none
 |_,_,_,_=>none
def BP (P:Program) (w:St):Nat->List (Nat×Operand)->Option (List SV)
 |_,[]=>some []
 |i,(j,x)::l=>match bD P 0 w x,BP P w (i+1) l with
  |some (.ptr id q),some z=>bif Nat.beq i j then some (.ptr id q::z) else none
  |_,_=>none
def Pb (P:Program) (q:St) (d:Nat) (t:TypeId) (len:Nat) (l:List (Nat×Operand)):Option St:=
 match isSlice P t,BP P q 0 l with
 |some (e,1),some w=>match zeroCells P e with
  |some [_]=>bif Nat.beq w.length len&&Nat.blt 0 len&&Nat.blt len 100 then some ((q.new d (.box e (w.map (SV.dw d)))).set (some d) (.aq d (.bs len))) else none
  |_=>none
 |_,_=>none
def Xa (P:Program) (w:St) (t:TypeId) (id q j z n:Nat):Option St:=
 match w.ob j with
 |some (.row e l xs)=>bif Nat.beq z l&&gO j&& !(Nat.beq id j) then storeAt P t (w.new j (.row e l (xs.take n))) (.ptr id q) (.row j) else none
 |_=>none
def VY (l:St) (id d:Nat):Option St:=
 match l.ob id with
 |some (.row e q xs)=>bif Nat.beq id d then some (l.set (some d) (.row d)) else bif Nat.blt id 10000 then some (((l.dw id).new d (.row e q xs)).set (some d) (.row d)) else none
 |_=>none
def qI (k:Nat) (c:List AV):Bool:=match c[k]? with
 |some .tR=>true
 |_=>false
def mI (P:Program) (h:Hint) (D:eN) (o:Oper) (q:St):Option St:=
 match o.dst,o.op with
 |some d, .assign (.const (.slice none 0 0))=>match isSlice P o.type with
  |some (e,s)=>if 0<s then some ((q.new d (.row e s [])).set (some d) (.row d)) else none
  |none=>none
 |some d, .assign x=>match bD P o.type q x with
  |some (.row id)=>bif h.mvs.contains d then VY q id d else match q.cV id with
   |some B=>match bD P o.type B x with
    |some v=>some (B.set (some d) v)
    |none=>none
   |none=>none
  |_=>none
 |some d, .box t x=>match bD P t q x,Eb P t with
  |some (.pv (.agg O)),some true=>some ((q.new d (.box t (O.map .pv))).set (some d) (.ptr d 0))
  |some (.ag O),some true=>bif(SV.ag O).mentions d then none else some ((q.new d (.box t (O.map JT))).set (some d) (.ptr d 0))
  |some v,some false=>if oI q v=true then some ((q.new d (.box t [v.dw d])).set (some d) (.ptr d 0)) else none
  |_,_=>none
 |some d, .alloc t=>bif h.rows.contains d then
   match(yP P t).bind λN=>nW P ((find h.Pn d).getD []) d 0 (td P 8 t) N with
   |some (S,l)=>some (((iP h.nest l q).new d (.box t (S.map (SV.dw d)))).set (some d) (.ptr d 0))
   |none=>none
  else match N0 P h (some d) t with
  |some z=>some ((q.new d (.box t (z.map .pv))).set (some d) (.ptr d 0))
  |none=>none
 |some d, .makeSlice t l c=>match isSlice P t,(bD P 0 q l).bind iY,(bD P 0 q c).bind iY with
  |some (e,s),some (.int _ l),some (.int _ c)=>match zeroCells P e,P.info? e with
   |some z,some i=>if 0<s/\z.length=s/\0<=l/\l<=c/\i.bytes *c.toNat<=281474976710656/\c<=9223372036854775807 then
     some ((q.new d (.row e s (List.replicate l.toNat z))).set (some d) (.row d)) else none
   |_,_=>none
  |_,_,_=>none
 |some d, .buildSlice t len F=>bif h.fT.contains d then Pb P q d t len F.toList else match lC P t len F.toList q with
  |some (e,s,xs)=>match find h.nest d with
   |none=>some ((q.new d (.row e s xs)).set (some d) (.row d))
   |some (k,K,s')=>bif Nat.blt k s&&xs.all (qI k) then some ((q.new d (.rn e s k K s' (xs.map λc=>c.set k .hole) (xs.map λ_=>some []))).set (some d) (.row d)) else none
  |none=>none
 |none, .store t a x=>match bD P 0 q a,bD P t q x with
  |some (.rp id w i L),some (.row j)=>HW P q t id w i L j
  |some (.ptr id L),some (.sub j w 0 n)=>Xa P q t id L j w n
  |some a,some v=>storeAt P t q a v
  |_,_=>none
 |some d, .makeMap t r=>match P.underlying t with
  |some (.map k e)=>bif vD P q r then
    bif h.rows.contains d then
     match isSlice P e with
     |some (K,s)=>if 0<s then some ((q.new d (.mr k K s [] [])).set (some d) (.row d)) else none
     |none=>none
    else some ((q.new d (.mp k e [] [])).set (some d) (.row d)) else none
  |_=>none
 |none, .mapUpdate t m k x=>bif qA h m then VZ P q t m k x else yo P q t m k x
 |none, .insert t m k x=>bif qA h m then VZ P q t m k x else yo P q t m k x
 |some d, .lookup t m k false=>bif qA h m then Ns P q t m k d else none
 |some d, .range t x=>match P.underlying t,(bD P t q x).bind iY with
  |some .string,some (.str s)=>some ((q.new d (.it s 0)).set (some d) (.ptr d 0))
  |_,_=>none
 |some d, .next x true=>match bD P 0 q x with
  |some (.ptr id 0)=>match q.ob id with
   |some (.it s pos)=>if pos<s.length then
     some (St.set { q with ob:=put q.ob id (some (.it s (pos+(Utf8.decode ⟨s.toArray⟩ pos).2))) } (some d) (.pv (.iQ [.bool true, .int .i64 pos, .int .i32 (Utf8.decode ⟨s.toArray⟩ pos).1])))
    else some (q.set (some d) (.pv (.iQ [.bool false])))
   |_=>none
  |_=>none
 |some d, .build t F=>bif h.rows.contains d then vw P h q d t F.toList else none
 |some d, .load t x=>bif h.take.contains d then xB P q t x d else none
 |some d, .makeFunc (.func g) first H=>bif first.isEmpty then
   match xk q H.toList with
   |some B=>(um B H.toList).map λN=>B.set (some d) (.pv (.fn g N))
   |none=>none
  else none
 |d, .call c=>match c.callee with
  | .builtin .append=>match d,c.args.toList,c.argTypes.toList with
   |some d,[x,y],[t,Q]=>match isSlice P t,bD P t q x,bD P Q q y with
    |some (e,s),some (.row id),some y=>match q.ob id,elems q y,P.info? e with
     |some (.row K w xs),some (G,I),some i=>
      if t=Q/\e=K/\s=w/\w=G/\0<w/\(xs.length+I.length) *i.bytes<=140737488355328/\xs.length+I.length<=4611686018427387904/\i.zero.map (λz=>z.cells.size)=some w/\gO id=true then
       some ((q.new id (.row e w (xs++I))).set (some d) (.row id)) else none
     |some (.rn K w k V s2 xs zs),some (G,I),some i=>
      if t=Q/\e=K/\s=w/\w=G/\0<w/\(xs.length+I.length) *i.bytes<=140737488355328/\xs.length+I.length<=4611686018427387904/\i.zero.map (λz=>z.cells.size)=some w/\gO id=true/\I.all (qI k)=true then
       some ((q.new id (.rn e w k V s2 (xs++I.map λc=>c.set k .hole) (zs++I.map λ_=>some []))).set (some d) (.row id)) else none
     |_,_,_=>none
    |some (e,s),some (.aq id .full),some y=>match q.ob id,elems q y,P.info? e with
     |some (.row K w xs),some (G,I),some i=>
      if t=Q/\e=K/\s=w/\w=G/\0<w/\(xs.length+I.length) *i.bytes<=140737488355328/\xs.length+I.length<=4611686018427387904/\i.zero.map (λz=>z.cells.size)=some w/\gO id=true/\I.isEmpty=false then
       some ((q.new id (.row e w (xs++I))).set (some d) (.row id)) else none
     |_,_,_=>none
    |_,_,_=>none
   |_,_,_=>none
  | .builtin .delete=>match d,c.args.toList,c.argTypes.toList with
   |none,[m,k],t::_=>ym P q t m k
   |_,_,_=>none
  | .builtin .clear=>match d,c.args.toList,c.argTypes.toList with
   |none,[x],[t]=>match isSlice P t,bD P t q x with
    |some (e,s),some (.sub id w U R)=>match q.ob id,zeroCells P e with
     |some (.row K G xs),some z=>if s=w/\w=G/\z.length=w/\R<=xs.length/\e=K/\0<w then
       some { q with ob:=put q.ob id (some (.row K G (xs.take U++List.replicate (R-U) z++xs.drop R))) } else none
     |_,_=>none
    |none,_=>E8 P q t x
    |_,_=>none
   |_,_,_=>none
  | .value f=>bif d.any h.owns.contains then iO P h D q c f d else bif d.any h.stay.contains&&wide q c f then none else bif wide q c f then j0 P h D q c f d else bif c.args.toList.any (λx=>(pH h q x).isSome) then qf P h D q c f d else
   match jN q c.args.toList with
   |some B=>match bD P 0 B f,jS P B c.args.toList c.argTypes.toList with
    |some (.pv (.fn g H)),some N=>match D g ((N++H).map .pv) [] with
     |some (r,[])=>bif c.args.toList.any (lF B)|| !r.jM then none else some (B.set d (.pv r))
     |_=>none
    |_,_=>none
   |none=>none
  |_=>none
 |_,_=>none
where
 jN (q:St) (l:List Operand):Option St:=bif l.any (xF q) then none else iA q l
 iA (q:St):List Operand->Option St
  |[]=>some q
  | .tmp i::l=>match q.env i with
   |some (.row id)=>(q.cV id).bind λB=>iA B l
   |_=>iA q l
  |_::l=>iA q l
def pG:List SV->St->Option St
 |[],q=>some q
 | .row id::l,q=>(q.cV id).bind (pG l)
 |_::l,q=>pG l q
def step0 (P:Program) (h:Hint) (l:eN) (o:Oper) (q:St):Option St:=
 match dQ P h l o q with
 |some v=>some (q.set o.dst v)
 |none=>mI P h l o q
def qx (l:St) (t:Nat):Option St:=
 match l.env t with
 |some (.row id)=>l.cV id
 |some (.ag [.r id])=>l.cV id
 |some (.ptr id _)=>match l.ob id with
  |some (.box _ cells)=>pG cells l
  |_=>none
 |_=>some l
def nj:List Nat->St->Option St
 |[],q=>some q
 |t::l,q=>(qx q t).bind (nj l)
def slotsOf (o:Oper):List Nat:=o.op.operands.toList.filterMap fun
 | .tmp t=>some t
 |_=>none
def Fl (h:Hint) (o:Oper):List Nat:=bif h.use.isEmpty then[] else(slotsOf o).filter h.use.contains
def step (P:Program) (h:Hint) (l:eN) (o:Oper) (q:St):Option St:=(nj (Fl h o) q).bind (step0 P h l o)
def qp (q:Array Oper) (o:Oper) (w:St):Option Bool:=
 match o.guard with
 |none=>some true
 |some (j,l)=>match(q[j]?).bind (·.dst) with
  |some d=>match w.env d with
   |some (.pv (.bool b))=>some (b==l)
   |some .undef=>some false
   |_=>none
  |none=>none
def qU (P:Program) (h:Hint) (q:eN) (w:Array Oper):List Oper->St->Option St
 |[],z=>some z
 |o::l,z=>match qp w o z with
  |some b=>bif b then(step P h q o z).bind (qU P h q w l) else qU P h q w l (z.set o.dst .undef)
  |none=>none
inductive Ex where
 |normal
 |exit (id:Nat)
 |ret
 deriving DecidableEq
def exOf:Nat->Ex
 |0=> .normal
 |_=> .ret
def iter (h:Hint) (key:Nat) (f:St->Option (Ex×St)):Nat->St->Option (Ex×St)
 |0,_=>none
 |n+1,q=>match f (h.canon key q) with
  |some (.normal,l)=>iter h key f n l
  |r=>r
def fD (l:Array Oper) (o:Oper):List Nat:=slotsOf o++match o.guard with
 |some (j,_)=>((l[j]?).bind (·.dst)).toList
 |none=>[]
def abj (o:Oper) (j:Nat):Bool:=o.after.toList.any λe=>Region.binds .any e&&Nat.beq e.on j
def sW:Nat->List Oper->Bool
 |_,[]=>true
 |i,o::l=>o.after.toList.all (λe=> !(Region.binds .any e)||Nat.blt e.on i)&&sW (i+1) l
def reach (l:Array Oper):Nat->Nat->Nat->Bool
 |0,_,_=>false
 |n+1,i,j=>match l[i]? with
  |some o=>abj o j||o.after.toList.any λe=>Region.binds .any e&&reach l n e.on j
  |none=>false
def Ob.tZ:Ob->Ob
 | .row e l xs=> .row e l (xs.map λ_=>[])
 | .rn e l k w q xs _=> .rn e l k w q (xs.map λ_=>[]) []
 |_=> .it [] 0
structure gA where
 rs:List Nat:=[]
 rl:List Nat:=[]
 kp:Nat->Bool:=λ_=>false
 ws:List Nat:=[]
 ro:List Nat:=[]
 wo:List Nat:=[]
 mv:List Nat:=[]
 men:List Nat:=[]
 all:Bool:=false
 we:Nat->Bool:=λ_=>false
 oe:Nat->Bool:=λ_=>false
def meets (a b:List Nat):Bool:=a.any λx=>b.any (Nat.beq x)
def gA.conflict (a b:gA):Bool:=a.all||b.all||meets a.ws b.rs||meets a.rs b.ws||meets a.ws b.ws||meets a.wo b.ro||meets a.ro b.wo||meets a.wo b.wo||meets a.mv b.men||meets b.mv a.men||b.rs.any a.we||b.ro.any a.oe||b.rl.any (λj=>a.wo.contains j&& !(a.kp j))||a.rl.any (λj=>b.wo.contains j&& !(b.kp j))
def Nf (q:St):List Operand->List Nat
 |[]=>[]
 | .tmp t::l=>(match q.env t with
  |some s=>s.ids
  |none=>[])++Nf q l
 |_::l=>Nf q l
def Dj (l:St) (o:Oper):List Nat:=Nf l o.op.operands.toList
def targetId:SV->Option Nat
 | .ptr id _=>some id
 | .rp id _ _ _=>some id
 |_=>none
def x8:List Oper->List Nat
 |[]=>[]
 |o::l=>match o.op,o.dst with
  | .alloc _,some d=>d::x8 l
  |_,_=>x8 l
def xN (q:Array Oper) (l:List (Nat×gA)) (i:Nat) (f:gA):Bool:=l.all λp=>reach q 12 i p.1|| !(p.2.conflict f)
def Tf:Op->Bool
 | .move _| .assign _| .pick _ _ _=>true
 |_=>false
def Ld (P:Program) (h:Hint) (o:Oper) (l:St):List Nat:=
 match o.op with
 | .call c=>match c.callee with
  | .value f=>match ux P h l c f with
   |some (_,args)=>bif o.dst.any h.stay.contains then jG l args else[]
   |none=>[]
  |_=>[]
 |_=>[]
def Ob.mentions (id:Nat):Ob->Bool
 | .box _ cells=>cells.any (SV.mentions id)
 |_=>false
def Ob.ids:Ob->List Nat
 | .box _ cells=>cells.flatMap SV.ids
 |_=>[]
def Oz (l:St) (t:Nat):List Nat:=match l.env t with
 |some s=>s.ids
 |none=>[]
def Yb (l:St) (j:Nat):List Nat:=match l.ob j with
 |some o=>o.ids
 |none=>[]
def gA.fill (q l:St) (f:gA):gA:=
 {f with
  men:=f.mv++(f.ro++(f.wo++(f.rs.flatMap (Oz q)++(f.ws.flatMap (Oz l)++(f.ro.flatMap (Yb q)++f.wo.flatMap (Yb l))))))
  we:=λt=>match q.env t with
   |some v=>f.mv.any λid=>v.mentions id
   |none=>false
  oe:=λj=>match q.ob j with
   |some o=>f.mv.any λid=>o.mentions id
   |none=>false }
def jI:gA:={ all:=true }
def ab3:Op->Bool
 | .indexAddr _ _ _=>true
 |_=>false
def vS (P:Program) (h:Hint) (l:Array Oper) (o:Oper) (q:St):gA:=
 {rs:=fD l o,ws:=o.dst.toList,ro:=bif Tf o.op||ab3 o.op then[] else Dj q o++Ld P h o q,rl:=bif ab3 o.op then Dj q o else[] }
def tN (l:Array Oper) (o:Oper):gA:={ rs:=fD l o,ws:=o.dst.toList }
def Cw (P:Program) (l:Array Oper) (o:Oper) (q:St) (a:Operand):gA:=match(bD P 0 q a).bind targetId with
 |some id=>{ rs:=fD l o,ro:=id::Dj q o,wo:=[id] }
 |none=>jI
def OG (P:Program) (l:Array Oper) (o:Oper) (q:St) (c:Call):gA:=match c.args.toList,c.argTypes.toList,o.dst with
 |[x,_],[t,_],some d=>match bD P t q x with
  |some (.row id)=>{ rs:=fD l o,ws:=[d],ro:=id::Dj q o,wo:=[id],mv:=[id] }
  |some (.aq id .full)=>{ rs:=fD l o,ws:=[d],ro:=id::Dj q o,wo:=[id],mv:=[id] }
  |_=>jI
 |_,_,_=>jI
def Sg (P:Program) (l:Array Oper) (o:Oper) (q:St) (x:Operand) (d:Nat):gA:=match bD P 0 q x with
 |some (.rp id _ _ _)=>match q.ob id with
  |some (.rn _ _ _ _ _ _ _)=>{ rs:=fD l o,ws:=[d],ro:=[id],wo:=[id,d],mv:=[d],kp:=λj=>Nat.beq j id&& !(Nat.beq id d) }
  |_=>jI
 |_=>jI
def EV (P:Program) (l:Array Oper) (o:Oper) (w:St) (t:TypeId) (a x:Operand):gA:=match bD P 0 w a,bD P t w x with
 |some (.rp id _ _ _),some (.row j)=>{ rs:=fD l o,ro:=[id,j],wo:=[id,j,id+40000],mv:=[j,id+40000],kp:=λq=>Nat.beq q id&& !(Nat.beq id j) }
 |some (.ptr _ _),some (.sub _ _ _ _)=>jI
 |_,_=>Cw P l o w a
def vR (P:Program) (h:Hint) (q:Array Oper) (o:Oper) (l:St) (c:Call) (f:Operand):gA:=match ux P h l c f with
 |some (_,args)=>{ rs:=fD q o,ws:=o.dst.toList,ro:=jG l args,wo:=jG l args,mv:=(jG l args).filter (iz false l (qz args)) }
 |none=>jI
def og (d:Nat):List Nat:=(List.range 8).map λk=>5000+16 *d+k
def EU (P:Program) (h:Hint) (z:Array Oper) (o:Oper) (q:St) (c:Call) (f:Operand):gA:=match o.dst with
 |some d=>match find h.vj d with
  |some (_,[])=>match(bD P 0 q f).bind Se,CV P [] d q 0 c.args.toList c.argTypes.toList with
   |some (_,pre,l),some w=>{ rs:=fD z o,ws:=[d],ro:=jG q (pre++(w++l))++og d,wo:=jG q (pre++(w++l))++og d,mv:=(jG q (pre++(w++l))).filter (λi=> !(stays (Ki q (iz false q (vX [] 0 w))) i))++og d }
   |_,_=>jI
  |_=>jI
 |none=>jI
def Bz (P:Program) (h:Hint) (w:Array Oper) (o:Oper) (z:St) (d:Nat) (t:TypeId) (q:List (Nat×Operand)):gA:=
 match(yP P t).bind λB=>nW P ((find h.Pn d).getD []) d 0 (td P 8 t) B,partsOf P (ER P t) z q with
 |some (_,l),some _=>{ rs:=fD w o,ws:=[d],ro:=l.map (·.1),wo:=l.map (·.1),mv:=l.map (·.1) }
 |_,_=>jI
def lM (P:Program) (h:Hint) (l:Array Oper) (o:Oper) (w:St):gA:=
 match o.op,o.dst with
 | .store t a x,none=>EV P l o w t a x
 | .alloc _,some d=>bif h.rows.contains d then jI else { rs:=fD l o,ws:=[d],wo:=[d],mv:=[d] }
 | .buildSlice _ _ _,some d=>bif h.fT.contains d then jI else bif h.rows.contains d then { rs:=fD l o,ws:=[d],wo:=[d],mv:=[d] } else jI
 | .build t q,some d=>bif h.rows.contains d then Bz P h l o w d t q.toList else jI
 | .makeSlice _ _ _,some d=>{ rs:=fD l o,ws:=[d],wo:=[d],mv:=[d] }
 | .call c,_=>match c.callee with
  | .builtin .append=>OG P l o w c
  | .value f=>bif o.dst.any h.owns.contains&& !(o.dst.any (λd=>(xb h d).isSome)) then { rs:=fD l o,ws:=o.dst.toList,wo:=o.dst.toList,mv:=o.dst.toList }
   else bif !(o.dst.any h.owns.contains)&&(!(o.dst.any h.stay.contains)&&wide w c f) then vR P h l o w c f else bif o.dst.any h.owns.contains then EU P h l o w c f else jI
  |_=>jI
 | .load _ x,some d=>bif h.take.contains d then Sg P l o w x d else jI
 |_,_=>jI
def sr:List Nat->St->St
 |[],q=>q
 |p::l,q=>sr l (q.dw p)
def isF (h:Hint) (l:St) (o:Oper):Bool:=
 match o.op with
 | .buildSlice _ _ _=> !(o.dst.any h.rows.contains||o.dst.any h.fT.contains)
 | .call c=>match c.callee with
  | .builtin .append=>false
  | .builtin .delete=>false
  | .builtin .clear=>false
  | .value f=> !(o.dst.any h.owns.contains)&&((o.dst.any h.stay.contains&&wide l c f)|| !(wide l c f||c.args.toList.any (λx=>(pH h l x).isSome)))
  |_=>true
 | .assign x=>match o.dst,x with
  |some d, .const (.slice none 0 0)=> !(h.rows.contains d)
  |some d,x=>(!(h.mK.contains d)&& !(h.mvs.contains d))|| !(lF l x)
  |none,_=>true
 | .lookup _ x _ ok=> !(qA h x&& !ok)
 | .makeFunc _ _ _| .move _| .pick _ _ _| .binOp _ _ _ _ _| .unOp _ _ _| .convert _ _ _| .fieldAddr _ _ _| .field _ _ _| .indexAddr _ _ _| .index _ _ _| .slice _ _ _ _ _| .extract _ _| .nilCheck _=>true
 | .build _ _=> !(o.dst.any h.rows.contains)
 | .load _ _=> !(o.dst.any h.take.contains)
 |_=>false
def isW:Op->Bool
 | .buildSlice _ _ _| .build _ _| .load _ _=>true
 |_=>false
def isWc (l:St):Op->Bool
 | .call c=>match c.callee with
  | .value _=> !(c.args.toList.any (lF l))
  |_=>false
 |_=>false
def wB:List SV->List Nat
 |[]=>[]
 | .row id::l=>id::wB l
 |_::l=>wB l
def Px (l:St) (t:Nat):gA:=
 match l.env t with
 |some (.row id)=>{ rs:=[t],ro:=[id],wo:=[id],mv:=[id] }
 |some (.ag [.r id])=>{ rs:=[t],ro:=[id],wo:=[id],mv:=[id] }
 |some (.ptr id _)=>match l.ob id with
  |some (.box _ cells)=>{ rs:=[t],ro:=id::wB cells,wo:=wB cells,mv:=wB cells }
  |_=>jI
 |_=>{ rs:=[t] }
def gA.then (a b:gA):gA:={ rs:=a.rs++b.rs,ws:=b.ws++a.ws,ro:=a.ro++b.ro,wo:=b.wo++a.wo,mv:=a.mv++b.mv,all:=a.all||b.all,rl:=a.rl++b.rl,kp:=λj=>(a.kp j|| !(a.wo.contains j))&&(b.kp j|| !(b.wo.contains j)) }
def M8 (P:Program) (h:Hint) (q:Array Oper) (o:Oper):List Nat->St->gA
 |[],w=>bif isF h w o then(bif isW o.op||isWc w o.op then vS P h q o w else jI) else lM P h q o w
 |t::l,w=>match qx w t with
  |some z=>(Px w t).then (M8 P h q o l z)
  |none=>jI
def uC (P:Program) (h:Hint) (l:Array Oper) (o:Oper) (q:St):gA:=(M8 P h l o (Fl h o) q).then { rs:=fD l o }
def ku (P:Program) (h:Hint) (w:eN) (q:Array Oper):Nat->List Oper->List (Nat×gA)->St->Option St
 |_,[],_,z=>some z
 |i,o::l,B,z=>match qp q o z with
  |none=>none
  |some b=>bif b then
    bif isF h z o&&(Fl h o).isEmpty then
     match dQ P h w o z with
     |some v=>bif xN q B i ((vS P h q o z).fill z (z.set o.dst v)) then ku P h w q (i+1) l ((i,(vS P h q o z).fill z (z.set o.dst v))::B) (z.set o.dst v) else none
     |none=>none
    else match step P h w o z with
     |some D=>bif xN q B i ((uC P h q o z).fill z D) then ku P h w q (i+1) l ((i,(uC P h q o z).fill z D)::B) D else none
     |none=>none
   else bif xN q B i ((tN q o).fill z (z.set o.dst .undef)) then ku P h w q (i+1) l ((i,(tN q o).fill z (z.set o.dst .undef))::B) (z.set o.dst .undef) else none
def St.K2 (l:St) (id:Nat):Option St:=
 match l.ob id with
 |some (.box _ _)=>l.qy id
 |none=>some l
 |_=>l.cV id
def zX:List Nat->St->Option St
 |[],q=>some q
 |id::l,q=>(q.K2 id).bind (zX l)
def Hint.adW (h:Hint) (id:Nat) (q:St):Option St:=
 match find h.mw id with
 |some l=>zX l q
 |none=>some q
def exec (P:Program) (h:Hint) (l:eN) (n:Nat):Code->St->Option (Ex×St)
 | .skip,q=>some (.normal,q)
 | .label _,q=>some (.normal,q)
 | .region id w B,q=>(h.adW id q).bind λq=>
  bif B then
   bif sW 0 w.toList then(ku P h l w 0 w.toList [] (sr (x8 w.toList) q)).map λs=>(.normal,s) else none
  else(qU P h l w w.toList q).map λs=>(.normal,s)
 | .seq a b,q=>match find h.blk (fq a) with
  |some x=>bif x.1 q then some (exOf (x.2 q).1,(x.2 q).2) else none
  |none=>match exec P h l n a q with
   |some (.normal,z)=>exec P h l n b z
   |r=>r
 | .cond c a b,q=>match bD P 0 q c with
  |some (.pv (.bool t))=>bif t then exec P h l n a q else exec P h l n b q
  |_=>none
 | .block id c,q=>match exec P h l n c q with
  |some (.exit j,z)=>bif Nat.beq j id then some (.normal,z) else some (.exit j,z)
  |r=>r
 | .loop c,q=>iter h (fq c) (exec P h l n c) n q
 | .exit id,q=>some (.exit id,q)
 | .ret,q=>some (.ret,q)
 | .scope c,q=>exec P h l n c q
 |_,_=>none
def zz:Nat->List SV->List (Nat×SV)
 |_,[]=>[]
 |i,v::l=>(i,v)::zz (i+1) l
def St.PB (q:St) (id:Nat):Option St:=
 match q.ob id with
 |some (.box _ cells)=>(pG cells q).bind λl=>l.qy id
 |_=>none
def PC (q:St) (t:Nat):Option (St×AV):=
 match q.env t with
 |some (.pv v)=>some (q,v)
 |some (.ptr id 0)=>match q.PB id with
  |some l=>match l.env t with
   |some (.cp w)=>some (l, .ref w)
   |_=>none
  |none=>none
 |some (.row id)=>match q.cV id with
  |some l=>match l.env t with
   |some (.pv v)=>some (l,v)
   |_=>none
  |none=>none
 |_=>none
def tE (P:Program):List ResultVar->St->Option (St×List AV)
 |[],z=>some (z,[])
 | .tmp t::l,z=>match PC z t with
  |some (w,v)=>match tE P l w with
   |some (q,B)=>some (q,v::B)
   |none=>none
  |none=>none
 | .cell D t::l,z=>match eW P ⟨none, .load t (.tmp D),t, "", #[],none⟩ z with
  |some (.pv v)=>match tE P l z with
   |some (q,B)=>some (q,v::B)
   |none=>none
  |some (.row id)=>match z.cV id with
   |some w=>match eW P ⟨none, .load t (.tmp D),t, "", #[],none⟩ w with
    |some (.pv v)=>match tE P l w with
     |some (q,B)=>some (q,v::B)
     |none=>none
    |_=>none
   |none=>none
  |_=>none
def result:List AV->AV
 |[v]=>v
 |vs=> .iQ vs
def qe (names:List Nat) (q:St):List Nat->Option (List (Nat×Ob))
 |[]=>some []
 |id::l=>match q.ob id,qe names q l with
  |some o,some w=>bif o.closed names then some ((id,o)::w) else none
  |_,_=>none
def qN (N:Nat):Code->Bool
 | .region _ l _=>l.toList.all λo=>match o.dst with
  |some d=>Nat.blt d N
  |none=>true
 | .seq a b=>qN N a&&qN N b
 | .cond _ a b=>qN N a&&qN N b
 | .block _ c=>qN N c
 | .loop c=>qN N c
 | .scope c=>qN N c
 |_=>true
def Va (fn:Func):Bool:=Nat.ble fn.ntmps 10000&& !(fn.name== "runtime.NumGoroutine")&&match fn.body with
 |some c=>qN fn.ntmps c
 |none=>true
def DV (P:Program):Bool:=P.follows .mixedOrders&&P.funcs.toList.all Va&&Nat.ble P.funcs.size 1000000
def PW (fn:Func) (names:List Nat) (l:St):Option Nat:=
 match fn.results.toList,names with
 |[.tmp t],[10000]=>match l.env t,l.ob 10000 with
  |some (.row 10000),some (.row _ _ xs)=>some xs.length
  |some (.sub 10000 _ 0 n),some (.row _ _ _)=>some n
  |_,_=>none
 |_,_=>none
def Wi (fn:Func) (l:St):Option AV:=
 match fn.results.toList with
 |[.tmp t]=>match l.env t with
  |some (.row id)=>match iG id,l.ob id with
   |true,some (.row e q xs)=>some (.iQ [.iQ [.self e, .dD q xs]])
   |_,_=>none
  |_=>none
 |_=>none
def vn:Nat->List Nat->List (Nat×Nat)
 |_,[]=>[]
 |k,id::l=>(id,25000+k)::vn (k+1) l
def W6:oE->AV
 | .v a=>a
 | .r n=> .self n
 | .p n=> .self n
def aa3:oE->Bool
 | .v (.self _)=>false
 |_=>true
def xy:SV->Option AV
 | .row n=>some (.self n)
 | .ptr n 0=>some (.self n)
 | .ag l=>bif l.all aa3 then some (.agg (l.map W6)) else none
 | .pv v=>bif v.scalar then some v else none
 |_=>none
def aab:SV->Option AV
 | .two v w=>match xy v,xy w with
  |some a,some b=>some (.iQ [a,b])
  |_,_=>none
 |v=>xy v
def Yj (P:Program) (l:St):ResultVar->Option SV
 | .tmp t=>l.env t
 | .cell q t=>eW P ⟨none, .load t (.tmp q),t, "", #[],none⟩ l
def Ws (P:Program) (l:St):List ResultVar->Option SV
 |[r]=>Yj P l r
 |[r,q]=>match Yj P l r,Yj P l q with
  |some v,some w=>some (.two v w)
  |_,_=>none
 |_=>none
def OH (P:Program) (fn:Func) (names:List Nat) (q:St):Option (AV×List (Nat×Ob)):=
 match Ws P q fn.results.toList with
  |some w=>
   let ids:=(gN q 200 (w.ids++names.flatMap (Cy q)) []).filter iG;let nn:=vn 0 ids
   bif distinct ids&&names.all (λn=>Nat.blt n 25000)&&w.closed (names++ids) then
    match aab (w.kD (iS nn)),jT q (names++ids) (iS nn) (names.map (λn=>(n,n))++nn) with
    |some x,some l=>some (.iQ [.iQ [.self 0, .rD,x]],l)
    |_,_=>none
   else none
  |none=>none
def abn (P:Program) (own:Bool) (fn:Func) (names:List Nat) (e:Ex) (q:St):Option (AV×List (Nat×Ob)):=
 match e with
 | .exit _=>none
 |_=>bif own then
   match Wi fn q,qe names q names with
   |some r,some l=>some (r,l)
   |_,_=>OH P fn names q
  else match PW fn names q with
  |some n=>match qe names q names with
   |some l=>some (.self n,l)
   |none=>none
  |none=>match tE P fn.results.toList q with
   |some (w,z)=>match qe names w names with
    |some l=>some (result z,l)
    |none=>none
   |none=>none
def giv (i:Nat):Bool:=Nat.ble 9000 i&&iG i
def abm (P:Program) (own:Bool) (fn:Func) (cL:List (Nat×Ob)) (e:Ex) (l:St):Option (AV×List (Nat×Ob)):=abn P own fn ((cL.map (·.1)).filter λi=> !(iG i)) e l
def qC (P:Program) (H:Nat->Hint) (gI:eN):Nat->eN
 |0=>λ_ _ _=>none
 |n+1=>λf args cL=>match gI f args cL with
  |some r=>some r
  |none=>match P.funcs[f]? with
   |some fn=>match fn.body with
    |some c=>
     bif Nat.ble args.length fn.ntmps&&(cL.map (·.1)).all (λi=> !(iG i)||giv i) then
      match exec P (H f) (qC P H gI n) n c { env:=find (zz 0 args),ob:=find cL } with
      |some (e,l)=>abm P (H f).own fn cL e l
      |none=>none
     else none
    |none=>none
   |none=>none
