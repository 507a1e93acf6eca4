/- AN ABSTRACT MACHINE over the model's code. -/
import Derived.Calls
import Derived.CallsIn
import Derived.OrdersIn
import Derived.LoopNIn
import Derived.TacticsIn
import Derived.RangeFuncIn
import Derived.Orders
import Derived.LoopN
import Derived.Scope
import Derived.Below
import Derived.Laws.OwnMore
import Derived.Maps.AppendAt
import Derived.Laws.BytesString
set_option linter.all false
def af {p:Prop} (h:p:=by omega):p:=h
def ai {p:Prop} (h:p:=by simp):p:=h
def aI {p:Prop} (h:p:=by simp;omega):p:=h
abbrev dA:=@Option.bind_eq_some_iff
abbrev ia:=@if_true
abbrev bq:=@Option.some.injEq
abbrev aU:=@congrArg
abbrev cV:=@List.cons.injEq
abbrev eP:=@and_true
abbrev mE:=@Array.getElem?_eq_some_iff
abbrev je:=@List.mem_of_mem_drop
abbrev s9:=@List.mem_of_mem_take
abbrev bu:=@List.mem_append
abbrev jR:=@Nat.add_mul
abbrev GN:=@List.drop_succ_cons
abbrev GQ:=@List.take_succ_cons
abbrev aZ:=@Nat.le_refl
abbrev cZ:=@Nat.zero_le
abbrev bW:=@Go.run_underlying
abbrev jq:=@Go.Sem.run_bind
abbrev kM:=@Go.Result.andThen_ok
abbrev e7:=@List.length_take
abbrev A8:=@Go.run_loadCells_list
abbrev cH:=@Option.map_eq_some_iff
abbrev q8:=@Option.isSome_iff_exists
abbrev aB:=@if_pos
abbrev A9:=@List.drop_length_add_append
abbrev lV:=@List.eq_nil_of_length_eq_zero
abbrev aR:=@List.mem_of_getElem?
abbrev oU:=@List.getElem?_take
abbrev gx:=@List.foldl_cons
abbrev bS:=@List.map_cons
abbrev nj:=@Nat.add_assoc
abbrev bR:=@List.getElem?_eq_some_iff
abbrev wK:=@List.getElem?_drop
abbrev jS:=@Nat.mul_le_mul_right
abbrev aM:=@List.getElem?_eq_getElem
abbrev eO:=@Nat.zero_add
abbrev GR:=@List.drop_take
abbrev az:=@if_neg
abbrev aS:=@List.mem_cons
abbrev bD:=@List.length_cons
abbrev GU:=@List.take_set_of_le
abbrev GV:=@List.drop_set_of_lt
abbrev ef:=@List.append_assoc
abbrev gC:=@List.cons_append
abbrev dQ:=@List.nil_append
abbrev lY:=@Nat.add_zero
abbrev Ba:=@Array.length_toList
abbrev RH:=@Array.toList_zipIdx
abbrev lZ:=@List.all_cons
abbrev aV:=@Bool.and_eq_true
abbrev q9:=@List.mapM_cons
abbrev e8:=@List.map_map
abbrev nq:=@Function.comp_def
abbrev cI:=@List.all_eq_true
abbrev GX:=@List.getElem?_toArray
abbrev ak:=@cond_true
abbrev wL:=@List.any_cons
abbrev gi:=@Bool.or_eq_false_iff
abbrev jw:=@List.mem_iff_getElem
abbrev fU:=@Nat.le_trans
abbrev fH:=@Nat.lt_of_lt_of_le
abbrev gD:=@List.getElem?_append_right
abbrev mb:=@List.replicate_succ
abbrev aA:=@cond_false
abbrev nt:=@Nat.succ_mul
abbrev kN:=@Nat.add_comm
abbrev wM:=@List.range_add
abbrev kO:=@List.ext_getElem?
abbrev gK:=@List.take_of_length_le
abbrev Bb:=@Nat.zero_mul
abbrev fV:=@List.getElem?_append_left
abbrev ic:=@Go.RowKit.Below.refl
abbrev rf:=@Go.heap_alloc_new
abbrev Bc:=@Nat.mul_le_mul_left
abbrev aG:=@List.mem_map
abbrev dK:=@List.getElem?_map
abbrev wN:=@Nat.eq_of_beq_eq_true
abbrev ri:=@List.range'_succ
abbrev cK:=@Nat.blt_eq
abbrev wO:=@Go.run_storeCells_at
abbrev tO:=@Go.Sem.run_pure
abbrev fI:=@List.map_nil
abbrev wP:=@Go.setRow_other
abbrev Be:=@Go.setRow_heap
abbrev wQ:=@Nat.min_eq_left
abbrev cE:=@List.length_append
abbrev Bf:=@not_true_eq_false
abbrev gL:=@if_false
abbrev bz:=@List.length_map
abbrev GY:=@List.set_eq_take_append_cons_drop
abbrev GZ:=@List.take_length_add_append
abbrev gE:=@Bool.or_eq_true
abbrev eL:=@Ne.symm
abbrev rj:=@List.size_toArray
abbrev nv:=@List.getElem?_set_self
abbrev cL:=@List.map_append
abbrev ig:=@List.nodup_append
abbrev jx:=@Bool.not_eq_true'
abbrev wR:=@List.getElem?_set
abbrev nx:=@List.getElem?_set_ne
abbrev wS:=@List.mem_or_eq_of_mem_set
abbrev yY:=@List.set_append_left
abbrev lJ:=@List.set_append_right
abbrev nE:=@Nat.lt_of_le_of_lt
abbrev yZ:=@List.any_eq_false
abbrev fe:=@List.mem_filterMap
abbrev uI:=@Go.callsIn_wide
abbrev pV:=@Nat.beq_refl
abbrev fF:=@Nat.le_of_ble_eq_true
abbrev cD:=@Prod.mk.injEq
abbrev y3:=@List.nodup_nil
abbrev gy:=@List.nodup_cons
abbrev dB:=@List.mem_cons_of_mem
abbrev lK:=@Bool.and_eq_true_iff
abbrev dS:=@Bool.not_true
abbrev pX:=@Bool.false_or
abbrev c7:=@List.mem_filter
abbrev cO:=@List.mem_append_left
abbrev gG:=@List.mem_append_right
abbrev y4:=@List.filter_eq_self
abbrev lM:=@List.filter_congr
abbrev uJ:=@Bool.true_or
abbrev y5:=@Bool.and_true
abbrev rL:=@List.drop_length
abbrev dF:=@List.append_nil
abbrev eG:=@Bool.false_eq_true
abbrev nF:=@false_imp_iff
abbrev iE:=@List.map_congr_left
abbrev pY:=@List.map_id
abbrev rM:=@Bool.and_self
abbrev ff:=@Option.map_some
abbrev y6:=@List.filter_eq_nil_iff
abbrev fR:=@Option.some.inj
abbrev lN:=@Nat.add_sub_cancel
abbrev iY:=@Array.toList_append
abbrev cQ:=@List.mem_singleton
abbrev rN:=@Bool.or_false
abbrev aQ:=@decide_eq_false_iff_not
abbrev kA:=@Option.bind_some
abbrev nG:=@List.not_mem_nil
abbrev pZ:=@or_false
abbrev p5:=@Bool.false_and
abbrev gU:=@List.mem_range
abbrev gz:=@List.mem_cons_self
abbrev iZ:=@Bool.eq_iff_iff
abbrev rO:=@Option.getD_some
abbrev uK:=@Option.any_some
abbrev y7:=@List.isEmpty_iff
abbrev D0:=@Array.getElem?_eq_getElem
abbrev D1:=@Array.all_eq_true'
abbrev fh:=@Classical.byContradiction
abbrev dU:=@List.pairwise_cons
abbrev D2:=@List.append_of_mem
abbrev rP:=@List.pairwise_append
abbrev nH:=@Go.wpIn_mono
abbrev uL:=@Array.getElem?_append_left
abbrev kB:=@dif_pos
abbrev uM:=@Nat.le_max_left
abbrev y8:=@Nat.le_max_right
abbrev nJ:=@List.any_eq_true
abbrev uN:=@Nat.ble_eq_true_of_le
abbrev iF:=@Bool.true_and
abbrev eH:=@true_and
abbrev bA:=@List.getD_eq_getElem?_getD
abbrev dM:=@Int.eq_ofNat_of_zero_le
abbrev p6:=@decide_eq_true_eq
abbrev ja:=@beq_iff_eq
abbrev D3:=@UInt8.lt_iff_toNat_lt
abbrev uO:=@List.findIdx?_cons
abbrev y9:=@List.findIdx?_eq_some_iff_getElem
abbrev nK:=@List.ext_getElem
abbrev uP:=@List.map_set
abbrev p7:=@List.map_drop
abbrev uQ:=@List.map_replicate
abbrev p8:=@Prod.ext
abbrev rQ:=@and_assoc
abbrev za:=@Go.mapM_some_length
abbrev uR:=@List.idxOf_cons
abbrev lP:=@beq_eq_false_iff_ne
abbrev lQ:=@bne_iff_ne
abbrev nM:=@List.filter_cons
abbrev rR:=@List.prefix_refl
abbrev zb:=@List.IsPrefix.trans
abbrev dV:=@List.length_singleton
abbrev zc:=@Prod.mk.inj
abbrev jd:=@List.pairwise_map
abbrev gH:=@List.getElem?_eq_none
abbrev rS:=@List.getElem?_cons_succ
abbrev ze:=@List.length_pos_of_mem
abbrev p9:=@List.getElem?_range
abbrev iG:=@List.mem_iff_getElem?
abbrev lR:=@List.mem_of_find?_eq_some
abbrev nN:=@List.find?_some
abbrev uS:=@List.find?_eq_none
abbrev D4:=@List.length_filterMap_le
abbrev rT:=@Nat.lt_irrefl
abbrev kC:=@Nat.sub_self
abbrev fG:=@List.length_nil
abbrev kD:=@List.length_replicate
abbrev lS:=@Nat.testBit_and
abbrev uT:=@Nat.eq_of_testBit_eq
abbrev D5:=@List.findIdx?_eq_none_iff
abbrev bB:=@List.getElem_mem
abbrev rU:=@List.getElem_inj
abbrev kE:=@List.range_succ
abbrev kF:=@List.getElem_map
abbrev D6:=@List.getElem_range
abbrev aT:=@Int.toNat_natCast
abbrev zf:=@List.range_eq_range'
abbrev rV:=@List.drop_eq_nil_of_le
abbrev iH:=@List.drop_eq_getElem_cons
abbrev zg:=@decide_false
abbrev rW:=@Nat.and_le_left
abbrev zh:=@Nat.testBit_lt_two_pow
abbrev uU:=@Nat.pow_le_pow_right
abbrev uV:=@decide_eq_decide
abbrev nP:=@List.mem_map_of_mem
abbrev lT:=@List.take_append_drop
abbrev fS:=@Bool.not_false
abbrev uW:=@Nat.sub_zero
abbrev D7:=@List.filter_filter
abbrev cM:=@List.take_add_one
abbrev uX:=@List.mem_take_iff_getElem
abbrev zi:=@List.length_eq_one_iff
abbrev uY:=@List.length_filter_le
abbrev D8:=@List.filter_append
abbrev fT:=@List.take_length
abbrev nQ:=@List.pairwise_iff_getElem
abbrev kG:=@List.length_eq_zero_iff
abbrev zj:=@List.filter_sublist
abbrev zk:=@Nat.lt_trichotomy
abbrev kH:=@List.find?_cons
abbrev rX:=@List.flatMap_cons
abbrev nR:=@List.drop_zero
abbrev D9:=@Option.isSome_some
abbrev bg:=@decide_eq_true_iff
abbrev gV:=@List.length_set
abbrev zl:=@Int.lt_trichotomy
abbrev zm:=@List.take_left'
abbrev zn:=@List.idxOf_append
abbrev lU:=@List.set_cons_zero
abbrev uZ:=@List.drop_append_of_le_length
abbrev zo:=@List.take_zero
abbrev nS:=@List.replicate_zero
abbrev qa:=@List.replicate_succ'
abbrev nT:=@List.getElem?_replicate
abbrev nU:=@Nat.mul_le_mul
abbrev rY:=@List.pairwise_singleton
abbrev rZ:=@List.sum_cons
abbrev Ea:=@List.getElem_cons_succ
abbrev r5:=@dif_neg
abbrev Eb:=@List.contains_iff_mem
abbrev lW:=@List.length_drop
abbrev lX:=@of_decide_eq_true
abbrev qb:=@decide_eq_true
abbrev u6:=@Nat.add_sub_cancel_left
abbrev jL:=@Int.le_refl
abbrev u7:=@decide_eq_false
abbrev zq:=@Array.getElem?_modify
abbrev r6:=@Iff.rfl
abbrev zu:=@Nat.mul_one
abbrev zw:=@of_decide_eq_false
abbrev u9:=@List.flatten_cons
abbrev qc:=@List.getElem!_eq_getElem?_getD
abbrev Ec:=@List.getElem!_toArray
abbrev zx:=@Go.Addr.add_lit
abbrev vc:=@Go.wpList_append_own
abbrev ve:=@Go.World.ownsRow_made
abbrev zy:=@Go.callsIn_of_wp
abbrev vf:=@Array.replicate_succ
abbrev vg:=@Array.replicate_zero
abbrev vh:=@List.push_toArray
abbrev vi:=@List.append_toArray
open BitVec (ofInt)
namespace Go.AM
inductive AV where
 |bool (b:Bool)
 |int (k:IntKind) (n:Int)
 |str (s:List UInt8)
 |dG (sz:Nat) (xs:List (List AV))
 |agg (cs:List AV)
 |fn (f:Nat) (caps:List AV)
 |gX (vs:List AV)
 |ref (cs:List AV)
 |mp (ks vs:List AV)
 |self (n:Nat)
 |pG
 |tU
 |hole
 deriving Inhabited
inductive oJ where
 |v (a:AV)
 |p (id:Nat)
 |r (id:Nat)
 deriving Inhabited
inductive Ak where
 |full
 |nr (i:Nat)
 |bs (n:Nat)
 deriving Inhabited
inductive SV where
 |undef
 |any
 |pv (v:AV)
 |ptr (id off:Nat)
 |row (id:Nat)
 |rp (id sz i off:Nat)
 |sub (id sz lo hi:Nat)
 |cp (cs:List AV)
 |cl (f:Nat) (caps:List oJ)
 |two (v w:SV)
 |three (u v w:SV)
 |ag (cs:List oJ)
 |aq (id:Nat) (q:Ak)
 deriving Inhabited
inductive Ob where
 |box (t:TypeId) (cells:List SV)
 |row (e:TypeId) (sz:Nat) (xs:List (List AV))
 |mp (k e:TypeId) (ks vs:List AV)
  |lp (xs:List AV)
  |rn (e:TypeId) (sz k:Nat) (e':TypeId) (sz':Nat) (xs:List (List AV)) (ys:List (Option (List (List AV))))
 deriving Inhabited
structure St where
 env:Nat->Option SV
 ob:Nat->Option Ob
def AV.cells:AV->List AV
 | .agg l=>l
 |v=>[v]
def AV.Hv:AV->Bool
 | .gX _=>false
 |_=>true
def AV.XF:AV->Bool
 | .gX _=>true
 |_=>false
def AV.jJ:AV->Bool
 | .self _=>false
 | .gX l=>bif Nat.beq l.length 1 then !(l.any AV.XF) else true
 |_=>true
def AV.scalar:AV->Bool
 | .bool _| .int _ _| .str _=>true
 |_=>false
def AV.plain:AV->Bool
 | .gX l=>l.all AV.scalar
 |v=>v.scalar
def find {q:Type}:List (Nat×q)->Nat->Option q
 |[],_=>none
 |(j,v)::l,i=>cond (Nat.beq j i) (some v) (find l i)
def put {l:Type} (m:Nat->Option l) (d:Nat) (v:Option l):Nat->Option l:=λi=>cond (Nat.beq d i) v (m i)
def St.set (l:St) (d:Option Nat) (v:SV):St:=
 match d with
 |some d=>{ l with env:=put l.env d (some v) }
 |none=>l
structure Hint where
 loops:List (Nat×List Nat×List Nat):=[]
 rows:List Nat:=[]
 lz:List Nat:=[]
 fu:List Nat:=[]
 mX:List (Nat×List Nat):=[]
 stay:List Nat:=[]
 keep:List Nat:=[]
 blk:List (Nat×(St->Bool)×(St->Nat×St)):=[]
 use:List Nat:=[]
 owns:List Nat:=[]
 own:Bool:=false
 tU:List (Nat×List (Nat×TypeId×Nat)):=[]
 take:List Nat:=[]
 Pn:List (Nat×List Nat):=[]
 nest:List (Nat×Nat×TypeId×Nat):=[]
 mvs:List Nat:=[]
 bx:List Nat:=[]
 rI:List (Nat×Nat×List Nat):=[]
def vo {q:Type} (m:Nat->Option q):List Nat->List (Nat×q)
 |[]=>[]
 |i::l=>match m i with
  |some v=>(i,v)::vo m l
  |none=>vo m l
def Hint.canon (h:Hint) (key:Nat) (w:St):St:=
 match find h.loops key with
 |some (l,q)=>{ env:=find (vo w.env l),ob:=find (vo w.ob q) }
 |none=>w
def fk:Code->Nat
 | .region id _ _=>id
 | .seq a _=>fk a
 | .cond _ a _=>fk a
 | .block _ c=>fk c
 | .loop c=>fk c
 | .scope c=>fk c
 |_=>0
def isSlice (P:Program) (t:TypeId):Option (TypeId×Nat):=
 match P.underlying t with
 |some (.slice e)=>(P.info? e).map λi=>(e,i.size)
 |_=>none
def DZ (P:Program) (t:TypeId):Option Bool:=
 match P.underlying t with
 |some (.struct _)|some (.array _ _)=>some true
 |some _=>some false
 |none=>none
def lB (P:Program) (t:TypeId):Option Nat:=(P.info? t).map (·.size)
def ofConst (P:Program) (t:TypeId):Value->Option AV
 | .bool b=>some (.bool b)
 | .int k n=>some (.int k n)
 | .string s=>some (.str s.data.toList)
 | .slice none 0 0=>(isSlice P t).map λx=> .dG x.2 []
 | .pointer none=>some .pG
 | .nilFunc=>some .hole
 | .map none=>match P.underlying t with
  |some (.map _ _)=>some (.mp [] [])
  |_=>none
 |_=>none
def bP (P:Program) (t:TypeId) (st:St):Operand->Option SV
 | .tmp i=>st.env i
 | .const v=>(ofConst P t v).map .pv
 | .func f=>some (.pv (.fn f []))
 | .global _=>none
def tD (P:Program):Nat->TypeId->List TypeId
 |0,_=>[]
 |n+1,t=>match P.underlying t with
  |some (.struct l)=>l.toList.flatMap λf=>tD P n f.type
  |some (.array m e)=>(List.replicate m (tD P n e)).flatten
  |_=>[t]
def oh (P:Program):List TypeId->List Value->Option (List AV)
 |[],[]=>some []
 |t::l,v::q=>match ofConst P t v,oh P l q with
  |some a,some as=>some (a::as)
  |_,_=>none
 |_,_=>none
def zeroCells (P:Program) (t:TypeId):Option (List AV):=
 match P.info? t with
 |some i=>match i.zero with
  |some z=>oh P (tD P 8 t) z.cells.toList
  |none=>none
 |none=>none
def Fl:List Nat->List AV->Option (List AV)
 |[],l=>some l
 |k::q,l=>match l[k]? with
  |some (.dG _ [])=>(Fl q l).map λz=>z.set k .tU
  |_=>none
def NP (P:Program) (h:Hint) (d:Option Nat) (t:TypeId):Option (List AV):=
 match d.bind (find h.Pn) with
 |some l=>(zeroCells P t).bind (Fl l)
 |none=>zeroCells P t
def Ga (op:BinOp) (k:IntKind) (a b:Int):Option AV:=
 match op with
 | .add=>some (.int k (k.wrap (a+b)))
 | .sub=>some (.int k (k.wrap (a-b)))
 | .mul=>some (.int k (k.wrap (a *b)))
 | .quo=>if b=0 then none else some (.int k (k.wrap (a.tdiv b)))
 | .rem=>if b=0 then none else some (.int k (a.tmod b))
 | .and=>some (.int k (k.wrap (ofInt k.bits a&&&ofInt k.bits b).toNat))
 | .or=>some (.int k (k.wrap (ofInt k.bits a|||ofInt k.bits b).toNat))
 | .xor=>some (.int k (k.wrap (ofInt k.bits a^^^ ofInt k.bits b).toNat))
 | .andNot=>some (.int k (k.wrap (ofInt k.bits a&&& ~~~ofInt k.bits b).toNat))
 | .eql=>some (.bool (a==b))
 | .neq=>some (.bool (a !=b))
 | .lss=>some (.bool (a<b))
 | .leq=>some (.bool (a<=b))
 | .gtr=>some (.bool (a>b))
 | .geq=>some (.bool (a>=b))
 | .shl| .shr=>none
def B6 (op:BinOp) (k:IntKind) (a b:Int):Option AV:=
 if b<0 then none else
 match op with
 | .shl=>some (.int k (k.wrap (a *2^ min b.toNat k.bits)))
 | .shr=>some (.int k (a.fdiv (2^ min b.toNat k.bits)))
 |_=>none
def WM (op:BinOp) (a b:List UInt8):Option AV:=
 match op with
 | .add=>if a.length+b.length<=9223372036854775807 then some (.str (a++b)) else none
 | .eql=>some (.bool (a==b))
 | .neq=>some (.bool !(a==b))
 | .lss=>some (.bool (Op.bytesLess a b))
 | .leq=>some (.bool (Op.bytesLess a b||a==b))
 | .gtr=>some (.bool !(Op.bytesLess a b||a==b))
 | .geq=>some (.bool !(Op.bytesLess a b))
 |_=>none
def xb:AV->AV->Option Bool
 | .str a, .str b=>some (a==b)
 | .int k a, .int k' b=>if k=k' then some (a==b) else none
 | .bool a, .bool b=>some (a==b)
 |_,_=>none
def oq (P:Program) (k:TypeId) (key:AV):Bool:=
 match P.underlying k,key with
 |some .string, .str _=>true
 |some (.int q), .int l _=>q==l
 |some .bool, .bool _=>true
 |_,_=>false
def ME (P:Program) (xs l:List AV):List Field->Option Bool
 |[]=>some true
 |f::w=>match xs[f.offset]?,l[f.offset]? with
  |some a,some b=>bif !(f.name== "_")&&oq P f.type a&&oq P f.type b&&(lB P f.type).isSome then
    match xb a b,ME P xs l w with
    |some r,some q=>some (r&&q)
    |_,_=>none
   else none
  |_,_=>none
def UK (P:Program) (op:BinOp) (t:TypeId) (xs q:List AV):Option AV:=
 match P.underlying t with
 |some (.struct l)=>bif !(P.stoodInHeld t)&& !(P.eqGuardType P.depth t) then
   match op,ME P xs q l.toList with
   | .eql,some b=>some (.bool b)
   | .neq,some b=>some (.bool !b)
   |_,_=>none
  else none
 |_=>none
def bin (P:Program) (op:BinOp) (t:TypeId) (x y:AV):Option AV:=
 match x,y with
 | .agg xs, .agg l=>UK P op t xs l
 | .int k a, .int k' b=>match op with
  | .shl| .shr=>B6 op k a b
  |_=>if k=k' then Ga op k a b else none
 | .str a, .str b=>WM op a b
 | .bool a, .bool b=>match P.underlying t,op with
  |some .bool, .eql=>some (.bool (a==b))
  |some .bool, .neq=>some (.bool !(a==b))
  |_,_=>none
 |_,_=>none
def un (op:UnOp) (x:AV):Option AV:=
 match op,x with
 | .neg, .int k n=>some (.int k (k.wrap (0-n)))
 | .not, .bool b=>some (.bool !b)
 |_,_=>none
def kR :SV->Option AV
 | .pv v=>some v
 |_=>none
def mM:List SV->Option (List AV)
 |[]=>some []
 | .pv v::l=>(mM l).map (v:: ·)
 |_::_=>none
def wW:List SV->Option (List oJ)
 |[]=>some []
 | .pv v::l=>(wW l).map (.v v:: ·)
 | .row id::l=>(wW l).map (.r id:: ·)
 |_::_=>none
def iU (P:Program) (t:TypeId) (l:List AV):Option AV:=
 match DZ P t,lB P t with
 |some true,some n=>if n<=l.length then some (.agg (l.take n)) else none
 |some false,some _=>l[0]?
 |_,_=>none
def w5 (P:Program) (t:TypeId) (f:Nat):Option Field:=
 match P.underlying t with
 |some (.struct l)=>l[f]?
 |_=>none
def yo (place:Nat->Option (Nat×Nat)) (cells:List AV):List (Nat×AV)->Option (List AV)
 |[]=>some cells
 |(i,v)::q=>match place i with
  |none=>none
  |some (l,size)=>if v.cells.length=size/\l+size<=cells.length then yo place (cells.take l++v.cells++cells.drop (l+size)) q else none
def pR (P:Program) (t:TypeId) (f:Nat):Option (Nat×Nat):=
 match w5 P t f with
 |some fd=>(lB P fd.type).map λn=>(fd.offset,n)
 |none=>none
def partsOf (P:Program) (ty:Nat->TypeId) (q:St):List (Nat×Operand)->Option (List (Nat×AV))
 |[]=>some []
 |(i,x)::l=>match(bP P (ty i) q x).bind kR,partsOf P ty q l with
  |some v,some w=>some ((i,v)::w)
  |_,_=>none
def Iw (P:Program) (t:TypeId) (i:Nat):TypeId:=((w5 P t i).map (·.type)).getD 0
def chunks (q:Nat):Nat->List AV->List (List AV)
 |0,_=>[]
 |n+1,l=>l.take q::chunks q n (l.drop q)
def tW (z:List AV):Nat->List AV
 |0=>[]
 |n+1=>z++tW z n
def elems (q:St):SV->Option (Nat×List (List AV))
 | .pv (.dG l xs)=>some (l,xs)
 | .row id=>match q.ob id with
  |some (.row _ l xs)=>some (l,xs)
  |_=>none
 | .sub id s z w=>match q.ob id with
  |some (.row _ l xs)=>bif Nat.beq s l then some (l,(xs.take w).drop z) else none
  |_=>none
 |_=>none
def lenOf (l:St):SV->Option Nat
 | .pv (.dG _ xs)=>some xs.length
 | .row id=>match l.ob id with
  |some (.row _ _ xs)=>some xs.length
  |some (.rn _ _ _ _ _ xs _)=>some xs.length
  |_=>none
 | .aq _ (.bs n)=>some n
 |_=>none
def xe (key:AV):List AV->Option (Option Nat)
 |[]=>some none
 |x::l=>match xb key x with
  |some true=>some (some 0)
  |some false=>(xe key l).map λr=>r.map (· +1)
  |none=>none
def Wa {l:Type} (key:AV) (ks:List AV) (q:List l):Option (Option l):=
 match xe key ks with
 |some (some i)=>(q[i]?).map some
 |some none=>some none
 |none=>none
def Wf {q:Type} (key:AV) (v:q) (l:List AV) (w:List q):Option (List AV×List q):=
 match xe key l with
 |some (some i)=>some (l,w.set i v)
 |some none=>some (l++[key],w++[v])
 |none=>none
def maps (w:St):SV->Option (List AV×List AV)
 | .pv (.mp l q)=>some (l,q)
 | .row id=>match w.ob id with
  |some (.mp _ _ l q)=>some (l,q)
  |_=>none
 |_=>none
def CH (P:Program) (t:TypeId):Option AV:=
 match P.info? t with
 |some i=>match i.zero with
  |some (.agg l)=>(oh P (tD P 8 t) l.toList).map .agg
  |some v=>ofConst P t v
  |none=>none
 |none=>none
def found (ok:Bool) (v:AV) (b:Bool):AV:=bif ok then .gX [v, .bool b] else v
def bytesOf:List (List AV)->Option (List UInt8)
 |[]=>some []
 |[.int .u8 n]::l=>(bytesOf l).map (UInt8.ofNat n.toNat:: ·)
 |_=>none
def ij (w:Option SV) (l:Nat) (q:Nat):Option Nat:=
 match w with
 |none=>some l
 |some (.pv (.int _ i))=>if 0<=i/\i<=q then some i.toNat else none
 |some _=>none
def nZ (P:Program) (l:St):Option Operand->Option (Option SV)
 |none=>some none
 |some x=>(bP P 0 l x).map some
def ady (l:Bool):AV->AV->Option AV
 | .int k a, .int k' b=>if k=k' then some (.int k (if l then(if b>a then b else a) else(if b<a then b else a))) else none
 | .str a, .str b=>some (.str (bif l then(bif !(Op.bytesLess a b) then a else b) else(bif Op.bytesLess a b||a==b then a else b)))
 |_,_=>none
def mT (P:Program) (z:St) (q:Bool) (w:AV):List Operand->Option AV
 |[]=>some w
 |x::l=>match(bP P 0 z x).bind kR with
  |some v=>match ady q w v with
   |some r=>mT P z q r l
   |none=>none
  |none=>none
def AH (P:Program) (c:Call) (q:St):Option SV:=
 match c.callee,c.args.toList with
 | .builtin .len,[x]=>match c.argTypes.toList with
  |[t]=>match P.underlying t,bP P t q x with
   |some .string,some (.pv (.str s))=>some (.pv (.int .i64 s.length))
   |some (.slice _),some (.pv .tU)=>some (.pv (.int .i64 0))
   |some (.slice _),some (.sub _ _ z w)=>some (.pv (.int .i64 ((w-z:Nat):Int)))
   |some (.slice _),some v=>(lenOf q v).map λ(n:Nat)=>SV.pv (.int .i64 (n:Int))
   |some (.map _ _),some v=>(maps q v).map λe=> .pv (.int .i64 e.1.length)
   |_,_=>none
  |_=>none
 | .builtin .max,x::l=>match(bP P 0 q x).bind kR with
  |some v=>(mT P q true v l).map .pv
  |none=>none
 | .builtin .min,x::l=>match(bP P 0 q x).bind kR with
  |some v=>(mT P q false v l).map .pv
  |none=>none
 |_,_=>none
def Dz (P:Program) (q:St) (n:Nat) (e:TypeId) (x z:Operand):Option SV:=
 match lB P e,bP P 0 q x,bP P 0 q z with
 |some s,some (.ptr id l),some (.pv (.int _ i))=>if 0<=i/\i<n/\0<s then some (.ptr id (l+i.toNat *s)) else none
 |some s,some (.rp id B j l),some (.pv (.int _ i))=>if 0<=i/\i<n/\0<s then some (.rp id B j (l+i.toNat *s)) else none
 |some s,some (.cp w),some (.pv (.int _ i))=>if 0<=i/\i<n/\0<s then some (.cp (w.drop (i.toNat *s))) else none
 |_,_,_=>none
def w8 (P:Program) (q:St) (t:TypeId) (x B:Operand):Option SV:=
 match isSlice P t,bP P t q x,bP P 0 q B with
 |some (_,s),some (.pv (.dG l xs)),some (.pv (.int _ i))=>if s=l/\0<=i then(xs[i.toNat]?).map .cp else none
 |some (_,s),some (.row id),some (.pv (.int _ i))=>match q.ob id with
  |some (.row _ l xs)=>if s=l/\0<=i/\i.toNat<xs.length then some (.rp id l i.toNat 0) else none
  |some (.rn _ l _ _ _ xs _)=>if s=l/\0<=i/\i.toNat<xs.length then some (.rp id l i.toNat 0) else none
  |_=>none
 |some (_,s),some (.sub id l w z),some (.pv (.int _ i))=>if s=l/\0<=i/\i.toNat<z-w then some (.rp id l (w+i.toNat) 0) else none
 |some (_,s),some (.aq id (.bs n)),some (.pv (.int _ i))=>if s=1/\0<=i/\i.toNat<n then some (.ptr id i.toNat) else none
 |_,_,_=>none
def zD (P:Program) (z:Option (List AV)) (t:TypeId) (l:Array (Nat×Operand)) (B:St):Option SV:=
 match P.underlying t with
 |some (.struct D)=>match z,partsOf P (Iw P t) B l.toList with
  |some z,some q=>if q.all (λp=>p.2.Hv)=true/\D.toList.all (λf=>(lB P f.type).isSome)=true then(yo (pR P t) z q).map λw=> .pv (.agg w) else none
  |_,_=>none
 |some (.array _ e)=>match z,partsOf P (λ_=>e) B l.toList,lB P e with
  |some z,some q,some s=>if q.all (λp=>p.2.Hv)=true then(yo (λi=>some (i *s,s)) z q).map λw=> .pv (.agg w) else none
  |_,_,_=>none
 |_=>none
def Xr (P:Program) (l:St) (t:TypeId) (x:Operand) (w q:Option Operand) (z:Operand):Option SV:=
 match w,q with
 |none,some q=>match bP P t l x with
  |some (.row id)=>match l.ob id,isSlice P t,bP P 0 l q,bP P 0 l z with
   |some (.row _ B xs),some (_,s),some (.pv (.int _ a)),some (.pv (.int _ b))=>if s=B/\a=(xs.length:Int)/\b=(xs.length:Int) then some (.aq id .full) else none
   |_,_,_,_=>none
  |_=>none
 |_,_=>none
def fB (P:Program) (o:Oper) (q:St):Option SV:=
 match o.op with
 | .move x| .assign x=>bP P o.type q x
 | .pick c a b=>match bP P 0 q c with
  |some (.pv (.bool t))=>bif t then bP P o.type q a else bP P o.type q b
  |_=>none
 | .binOp op t x y _=>match(bP P t q x).bind kR,(bP P t q y).bind kR with
  |some a,some b=>(bin P op t a b).map .pv
  |_,_=>none
 | .unOp op _ x=>match(bP P 0 q x).bind kR with
  |some a=>(un op a).map .pv
  |none=>none
 | .convert src L x=>match P.underlying src,P.underlying L with
  |some (.slice e),some .string=>match P.underlying e,lB P e,(bP P src q x).bind (elems q) with
   |some (.int .u8),some 1,some (1,xs)=>(bytesOf xs).map λb=> .pv (.str b)
   |_,_,_=>none
  |some _,some (.int k)=>match(bP P 0 q x).bind kR with
   |some (.int _ n)=>some (.pv (.int k (k.wrap n)))
   |_=>none
  |some _,some .string=>match(bP P 0 q x).bind kR with
   |some (.str s)=>some (.pv (.str s))
   |_=>none
  |_,_=>none
 | .call c=>AH P c q
 | .nilCheck x=>match bP P 0 q x with
  |some (.ptr id w)=>some (.ptr id w)
  |some (.cp B)=>some (.cp B)
  |some (.pv (.ref B))=>some (.pv (.ref B))
  |some (.rp id D i w)=>some (.rp id D i w)
  |_=>none
 | .fieldAddr t x f=>match w5 P t f with
  |some fd=>match lB P fd.type with
   |some 0=>none
   |some _=>match bP P 0 q x with
    |some (.ptr id w)=>some (.ptr id (w+fd.offset))
    |some (.cp B)=>some (.cp (B.drop fd.offset))
    |some (.pv (.ref B))=>some (.cp (B.drop fd.offset))
    |some (.rp id D i w)=>some (.rp id D i (w+fd.offset))
    |_=>none
   |none=>none
  |none=>none
 | .field t x f=>match w5 P t f,(bP P 0 q x).bind kR with
  |some fd,some (.agg B)=>(iU P fd.type (B.drop fd.offset)).map .pv
  |_,_=>none
 | .indexAddr t x K=>match P.underlying t with
  |some (.array n e)=>Dz P q n e x K
  |_=>w8 P q t x K
 | .index t x K=>match P.underlying t,bP P t q x,bP P 0 q K with
  |some .string,some (.pv (.str s)),some (.pv (.int _ i))=>if 0<=i then(s[i.toNat]?).map λb=> .pv (.int .u8 b.toNat) else none
  |_,_,_=>none
 | .load t x=>match bP P 0 q x with
  |some (.cp B)=>(iU P t B).map .pv
  |some (.pv (.ref B))=>(iU P t B).map .pv
  |some (.rp id D i w)=>match q.ob id with
   |some (.row _ I xs)=>if D=I then(xs[i]?).bind λc=>(iU P t (c.drop w)).map .pv else none
   |some (.rn _ I k _ _ xs _)=>if D=I/\w=k/\i<xs.length/\DZ P t=some false then some (.aq id (.nr i)) else none
   |_=>none
  |some (.ptr id w)=>match q.ob id with
   |some (.box _ cells)=>match DZ P t with
    |some false=>if(lB P t).isSome then cells[w]? else none
    |some true=>match lB P t with
     |some n=>if w+n<=cells.length then match mM ((cells.drop w).take n) with
       |some B=>some (.pv (.agg B))
       |none=>(wW ((cells.drop w).take n)).map .ag
      else none
     |none=>none
    |none=>none
   |_=>none
  |_=>none
 | .slice t x G F none=>match P.underlying t,bP P t q x,nZ P q G,nZ P q F with
  |some .string,some (.pv (.str s)),some G,some F=>match ij F s.length s.length with
   |some h=>(ij G 0 h).map λl=> .pv (.str ((s.take h).drop l))
   |none=>none
  |some (.slice _),some (.pv (.dG D xs)),some G,some F=>match isSlice P t,ij F xs.length xs.length with
   |some (_,s),some h=>if s=D then(ij G 0 h).map λl=> .pv (.dG D ((xs.take h).drop l)) else none
   |_,_=>none
  |some (.slice _),some (.row id),some G,some F=>match isSlice P t,q.ob id with
   |some (_,s),some (.row _ D xs)=>match ij F xs.length xs.length with
    |some h=>if s=D then(ij G 0 h).map λl=> .sub id D l h else none
    |none=>none
   |_,_=>none
  |some (.slice _),some (.sub id D a b),some G,some F=>match isSlice P t,ij F (b-a) (b-a) with
   |some (_,s),some h=>if s=D then(ij G 0 h).map λl=> .sub id D (a+l) (a+h) else none
   |_,_=>none
  |_,_,_,_=>none
 | .slice t x G F (some S)=>Xr P q t x G F S
 | .extract x i=>match bP P 0 q x with
  |some (.pv (.gX N))=>(N[i]?).map .pv
  |some (.two v b)=>match i with
   |0=>some v
   |1=>some b
   |_=>none
  |some (.three u v b)=>match i with
   |0=>some u
   |1=>some v
   |2=>some b
   |_=>none
  |_=>none
 | .lookup t x k ok=>match P.underlying t with
  |some (.map O Q)=>match(bP P t q x).bind (maps q),(bP P O q k).bind kR with
   |some (R,N),some key=>bif oq P O key then
     match Wa key R N with
     |some (some v)=>some (.pv (found ok v true))
     |some none=>(CH P Q).map λz=> .pv (found ok z false)
     |none=>none
    else none
   |_,_=>none
  |_=>none
 | .build t H=>zD P (zeroCells P t) t H q
 |_=>none
def oJ.mentions (id:Nat):oJ->Bool
 | .p j| .r j=>Nat.beq j id
 | .v _=>false
def SV.mentions (id:Nat):SV->Bool
 | .ptr j _| .row j| .rp j _ _ _| .sub j _ _ _=>Nat.beq j id
 | .cl _ l=>l.any (oJ.mentions id)
 | .ag l=>l.any (oJ.mentions id)
 | .two v w=>v.mentions id||w.mentions id
 | .three u v w=>u.mentions id||v.mentions id||w.mentions id
 | .aq j _=>Nat.beq j id||Nat.beq (j+40000) id
 |_=>false
def SV.dH (id:Nat) (v:SV):SV:=bif v.mentions id then .any else v
def Ob.dH (id:Nat):Ob->Ob
 | .box t cells=> .box t (cells.map (SV.dH id))
 |o=>o
def St.dH (l:St) (id:Nat):St:=
 {env:=λi=>(l.env i).map (SV.dH id),ob:=put (λi=>(l.ob i).map (Ob.dH id)) id none }
def St.new (l:St) (id:Nat) (o:Ob):St:=
 let s:=l.dH id
 {s with ob:=put s.ob id (some o) }
def SV.dy (id:Nat) (v:AV):SV->SV
 | .row j=>bif Nat.beq j id then .pv v else .row j
 | .ag [.r j]=>bif Nat.beq j id then .pv (.agg [v]) else .ag [.r j]
 |s=>s.dH id
def qH {q:Type}:List (Option q)->Option (List q)
 |[]=>some []
 |some x::l=>(qH l).map (x:: ·)
 |none::_=>none
def wG (k l:Nat):List (List AV)->List (List (List AV))->List (List AV)
 |x::xs,y::q=>x.set k (.dG l y)::wG k l xs q
 |_,_=>[]
def Ob.val:Ob->Option AV
 | .row _ q xs=>some (.dG q xs)
 | .mp _ _ z B=>some (.mp z B)
 | .box _ _=>none
 | .lp _=>none
 | .rn _ q k _ w xs D=>(qH D).map λl=> .dG q (wG k w xs l)
def Ob.dy (id:Nat) (v:AV):Ob->Ob
 | .box t cells=> .box t (cells.map (SV.dy id v))
 |o=>o
def iK (id:Nat):Bool:=Nat.blt id 10000
def St.dy (l:St) (id:Nat):Option St:=
 match iK id,(l.ob id).bind Ob.val with
 |true,some v=>some { env:=λi=>(l.env i).map (SV.dy id v),ob:=put (λi=>(l.ob i).map (Ob.dy id v)) id none }
 |_,_=>none
def SV.qy (id:Nat) (q:List AV):SV->SV
 | .ptr j l=>bif Nat.beq j id then .cp (q.drop l) else .ptr j l
 |s=>s.dH id
def Ob.qy (id:Nat) (l:List AV):Ob->Ob
 | .box t cells=> .box t (cells.map (SV.qy id l))
 |o=>o
def St.qy (l:St) (id:Nat):Option St:=
 match iK id,l.ob id with
 |true,some (.box _ cells)=>match mM cells with
  |some q=>some { env:=λi=>(l.env i).map (SV.qy id q),ob:=put (λi=>(l.ob i).map (Ob.qy id q)) id none }
  |none=>none
 |_,_=>none
def xq (q:St):List Operand->Option St
 |[]=>some q
 | .tmp i::l=>match q.env i with
  |some (.ptr id _)=>(q.qy id).bind λw=>xq w l
  |_=>xq q l
 |_::l=>xq q l
def kq (q:St):List oJ->Option (List AV)
 |[]=>some []
 | .v a::l=>(kq q l).map (a:: ·)
 | .r id::l=>match(q.ob id).bind Ob.val,kq q l with
  |some v,some w=>some (v::w)
  |_,_=>none
 | .p _::_=>none
def nX (l:St):SV->Option AV
 | .pv v=>some v
 | .row id=>(l.ob id).bind Ob.val
 | .ag q=>(kq l q).map .agg
 | .aq id (.nr i)=>match l.ob id with
  |some (.rn _ _ _ _ w _ z)=>match z[i]? with
   |some (some B)=>some (.dG w B)
   |_=>none
  |_=>none
 |_=>none
def jO (P:Program) (l:St):List Operand->List TypeId->Option (List AV)
 |[],_=>some []
 |x::xs,q=>match(bP P (q.headD 0) l x).bind (nX l),jO P l xs q.tail with
  |some v,some w=>some (v::w)
  |_,_=>none
def lu (l:St):Operand->Bool
 | .tmp i=>match l.env i with
  |some (.row _)=>true
  |some (.ag _)=>true
  |some (.aq _ _)=>true
  |_=>false
 |_=>false
def yX (l:St):Operand->Bool
 | .tmp i=>match l.env i with
  |some (.ag _)=>true
  |some (.aq _ _)=>true
  |_=>false
 |_=>false
def uu (w:St):List Operand->Option (List AV)
 |[]=>some []
 | .tmp i::l=>match w.env i,uu w l with
  |some (.pv v),some q=>some (v::q)
  |some (.cp z),some q=>some (.ref z::q)
  |_,_=>none
 |_::_=>none
def qP (z:St):List Operand->Option (List oJ)
 |[]=>some []
 | .tmp i::l=>match z.env i,qP z l with
  |some (.pv v),some q=>some (.v v::q)
  |some (.cp w),some q=>some (.v (.ref w)::q)
  |some (.ptr id 0),some q=>some (.p id::q)
  |_,_=>none
 |_::_=>none
def kY (P:Program) (t:TypeId) (len:Nat) (l:List (Nat×Operand)) (st:St):Option (TypeId×Nat×List (List AV)):=
 match isSlice P t with
 |some (e,s)=>match zeroCells P e,partsOf P (λ_=>e) st l with
  |some z,some q=>
   if len *s<=16777216/\0<s/\z.length=s/\q.all (λp=>p.2.Hv)=true then
    (yo (λi=>some (i *s,s)) (tW z len) q).map λw=>(e,s,chunks s len w)
   else none
  |_,_=>none
 |none=>none
abbrev eN:=Nat->List SV->List (Nat×Ob)->Option (AV×List (Nat×Ob))
def pK (h:Hint) (l:St):Operand->Option Nat
 | .tmp t=>bif h.fu.contains t then
   match l.env t with
   |some (.row id)=>some id
   |_=>none
  else none
 |_=>none
def gJ (id:Nat):Bool:=Nat.blt id 10000||(Nat.ble 20000 id&&Nat.blt id 30000)
def SV.ids:SV->List Nat
 | .ptr j _| .row j| .rp j _ _ _| .sub j _ _ _=>[j]
 | .cl _ l=>l.filterMap fun
  | .p j| .r j=>some j
  | .v _=>none
 | .ag l=>l.filterMap fun
  | .p j| .r j=>some j
  | .v _=>none
 | .two v w=>v.ids++w.ids
 | .three u v w=>u.ids++v.ids++w.ids
 | .aq j _=>[j,j+40000]
 |_=>[]
def SV.PR:SV->List Nat
 | .aq j _=>[j]
 |v=>v.ids
def SV.closed (names:List Nat):SV->Bool
 | .ptr j _| .row j| .rp j _ _ _| .sub j _ _ _=>names.contains j
 | .cl _ l=>l.all fun
  | .p j| .r j=>names.contains j
  | .v _=>true
 | .ag l=>l.all fun
  | .p j| .r j=>names.contains j
  | .v _=>true
 | .two v w=>v.closed names&&w.closed names
 | .three u v w=>u.closed names&&v.closed names&&w.closed names
 | .aq _ _=>false
 |_=>true
def Ob.closed (names:List Nat):Ob->Bool
 | .box _ cells=>cells.all (SV.closed names)
 | .row _ _ _=>true
 | .mp _ _ _ _=>true
 | .lp _=>true
 | .rn _ _ _ _ _ _ _=>true
def EK (st:St):Operand->Bool
 | .tmp t=>match st.env t with
  |some (.ptr _ _)=>true
  |some (.cl _ _)=>true
  |_=>false
 |_=>false
def VA (l:St):Operand->Bool
 | .tmp t=>match l.env t with
  |some (.cl _ _)=>true
  |_=>false
 |_=>false
def wide (st:St) (c:Call) (f:Operand):Bool:=VA st f||c.args.toList.any (EK st)
def isRef (h:Hint):Operand->Bool
 | .tmp t=>h.fu.contains t
 |_=>false
def aaG (P:Program) (h:Hint) (z:St) (t:TypeId) (x:Operand):Option SV:=
 match bP P t z x with
 |some (.pv v)=>some (.pv v)
 |some (.ptr id q)=>some (.ptr id q)
 |some (.row id)=>bif isRef h x then some (.row id) else none
 |some (.cl f l)=>some (.cl f l)
 |some (.cp w)=>some (.cp w)
 |_=>none
def ur (P:Program) (h:Hint) (l:St):List Operand->List TypeId->Option (List SV)
 |[],_=>some []
 |x::xs,q=>match aaG P h l (q.headD 0) x,ur P h l xs q.tail with
  |some v,some w=>some (v::w)
  |_,_=>none
def JC:oJ->SV
 | .v a=> .pv a
 | .p id=> .ptr id 0
 | .r id=> .row id
def Sw:SV->Option (Nat×List SV×List SV)
 | .pv (.fn g l)=>bif Nat.blt g 1000000 then some (g,[],l.map .pv) else none
 | .cl g l=>bif Nat.blt g 1000000 then some (g,[],l.map JC) else bif Nat.blt g 2000000 then some (g-1000000,l.map JC,[]) else match l with
  |[c]=>some (g,[],[JC c])
  |_=>none
 |_=>none
def Cv (l:St) (id:Nat):List Nat:=
 match l.ob id with
 |some (.box _ cells)=>cells.flatMap SV.ids
 |_=>[]
def gI (q:St):Nat->List Nat->List Nat->List Nat
 |0,_,done=>done
 |_+1,[],done=>done
 |n+1,id::l,done=>bif done.contains id then gI q n l done else gI q n (l++Cv q id) (done++[id])
def qz:List SV->List Nat
 |[]=>[]
 | .row id::l=>id::qz l
 |_::l=>qz l
def ON (l:St) (id:Nat):Bool:=
 match l.ob id with
 |some (.row _ _ _)=>true
 |_=>false
def iw (q:Bool) (w:St) (l:List Nat) (id:Nat):Bool:=ON w id&&gJ id&& !(l.contains id)&& !q
def iV (q:Nat->Bool):Nat->List Nat->List (Nat×Nat)
 |_,[]=>[]
 |k,id::l=>(id,bif q id then 20000+k else 10000+k)::iV q (k+1) l
def swap:List (Nat×Nat)->List (Nat×Nat)
 |[]=>[]
 |(a,b)::l=>(b,a)::swap l
def iN (m:List (Nat×Nat)) (id:Nat):Nat:=(find m id).getD id
def oJ.oN (l:Nat->Nat):oJ->oJ
 | .p id=> .p (l id)
 | .r id=> .r (l id)
 |c=>c
def SV.oN (q:Nat->Nat):SV->SV
 | .ptr j z=> .ptr (q j) z
 | .row j=> .row (q j)
 | .rp j B i z=> .rp (q j) B i z
 | .sub j B F D=> .sub (q j) B F D
 | .cl f l=> .cl f (l.map (oJ.oN q))
 | .ag l=> .ag (l.map (oJ.oN q))
 | .two v w=> .two (v.oN q) (w.oN q)
 | .three u v w=> .three (u.oN q) (v.oN q) (w.oN q)
 |s=>s
def Ob.oN (l:Nat->Nat):Ob->Ob
 | .box t cells=> .box t (cells.map (SV.oN l))
 |o=>o
def jP (q:St) (ids:List Nat) (w:Nat->Nat):List (Nat×Nat)->Option (List (Nat×Ob))
 |[]=>some []
 |(id,z)::l=>match q.ob id,jP q ids w l with
  |some o,some B=>bif o.closed ids then some ((z,o.oN w)::B) else none
  |_,_=>none
def mN (names:List Nat) (w:Nat->Nat):List (Nat×Nat)->List (Nat×Ob)->Option (List (Nat×Ob))
 |[],[]=>some []
 |(id,z)::l,(q,o)::B=>bif Nat.beq z q&&o.closed names then(mN names w l B).map λr=>(id,o.oN w)::r else none
 |_,_=>none
def distinct:List Nat->Bool
 |[]=>true
 |x::l=> !(l.contains x)&&distinct l
def fD:List Nat->St->St
 |[],q=>q
 |id::l,q=>fD l (q.dH id)
mutual
def AV.same:AV->AV->Bool
 | .bool a, .bool b=>a==b
 | .int k a, .int k' b=>decide (k=k')&&decide (a=b)
 | .str a, .str b=>decide (a=b)
 | .dG s xs, .dG s' ys=>Nat.beq s s'&&B4 xs ys
 | .agg a, .agg b=>s7 a b
 | .fn f a, .fn g b=>Nat.beq f g&&s7 a b
 | .gX a, .gX b=>s7 a b
 | .ref a, .ref b=>s7 a b
 | .mp a b, .mp c d=>s7 a c&&s7 b d
 | .self a, .self b=>Nat.beq a b
 | .pG, .pG=>true
 | .tU, .tU=>true
 | .hole, .hole=>true
 |_,_=>false
def s7:List AV->List AV->Bool
 |[],[]=>true
 |a::l,b::m=>AV.same a b&&s7 l m
 |_,_=>false
def B4:List (List AV)->List (List AV)->Bool
 |[],[]=>true
 |a::l,b::m=>s7 a b&&B4 l m
 |_,_=>false
end
def oJ.same:oJ->oJ->Bool
 | .v a, .v b=>AV.same a b
 | .p a, .p b=>Nat.beq a b
 | .r a, .r b=>Nat.beq a b
 |_,_=>false
def sK:List oJ->List oJ->Bool
 |[],[]=>true
 |a::l,b::m=>oJ.same a b&&sK l m
 |_,_=>false
def Ak.same:Ak->Ak->Bool
 | .full, .full=>true
 | .nr i, .nr j=>Nat.beq i j
 | .bs i, .bs j=>Nat.beq i j
 |_,_=>false
def SV.same:SV->SV->Bool
 | .undef, .undef=>true
 | .any, .any=>true
 | .pv a, .pv b=>AV.same a b
 | .ptr a b, .ptr c d=>Nat.beq a c&&Nat.beq b d
 | .row a, .row b=>Nat.beq a b
 | .rp a b c d, .rp l w c' z=>Nat.beq a l&&Nat.beq b w&&Nat.beq c c'&&Nat.beq d z
 | .sub a b c d, .sub l w c' z=>Nat.beq a l&&Nat.beq b w&&Nat.beq c c'&&Nat.beq d z
 | .cp a, .cp b=>s7 a b
 | .cl f a, .cl g b=>Nat.beq f g&&sK a b
 | .two s a, .two t b=>SV.same s t&&SV.same a b
 | .three s a p, .three t b q=>SV.same s t&&SV.same a b&&SV.same p q
 | .ag a, .ag b=>sK a b
 | .aq a q, .aq b r=>Nat.beq a b&&Ak.same q r
 |_,_=>false
def xy:List SV->List SV->Bool
 |[],[]=>true
 |a::l,b::m=>SV.same a b&&xy l m
 |_,_=>false
def sL:List (Option (List (List AV)))->List (Option (List (List AV)))->Bool
 |[],[]=>true
 |some a::l,some b::m=>B4 a b&&sL l m
 |none::l,none::m=>sL l m
 |_,_=>false
def Ob.same:Ob->Ob->Bool
 | .box t a, .box u b=>Nat.beq t u&&xy a b
 | .row e s xs, .row l q H=>Nat.beq e l&&Nat.beq s q&&B4 xs H
 | .mp k e a b, .mp k' l c d=>Nat.beq k k'&&Nat.beq e l&&s7 a c&&s7 b d
 | .lp a, .lp b=>s7 a b
 | .rn e s k w B x y, .rn l q k' z D F G=>Nat.beq e l&&Nat.beq s q&&Nat.beq k k'&&Nat.beq w z&&Nat.beq B D&&B4 x F&&sL y G
 |_,_=>false
def vq:List (Nat×Ob)->List (Nat×Ob)->Bool
 |[],[]=>true
 |(i,a)::l,(j,b)::m=>Nat.beq i j&&Ob.same a b&&vq l m
 |_,_=>false
def uA (P:Program) (h:Hint) (q:St) (c:Call) (f:Operand):Option (Nat×List SV):=
 match(bP P 0 q f).bind Sw,ur P h q c.args.toList c.argTypes.toList with
 |some (g,pre,l),some w=>some (g,pre++(w++l))
 |_,_=>none
def jB (l:St) (args:List SV):List Nat:=gI l 200 (args.flatMap SV.ids) []
def mw (ids:List Nat):List (Nat×Nat):=iV (λ_=>false) 0 ids
def tf (P:Program) (h:Hint) (q:eN) (l:St) (c:Call) (f:Operand):Option AV:=
 match uA P h l c f with
 |some (g,args)=>
  bif distinct (jB l args)&&Nat.blt (jB l args).length 10000&&args.all (SV.closed (jB l args)) then
   match jP l (jB l args) (iN (mw (jB l args))) (mw (jB l args)) with
   |some cG=>match q g (args.map (SV.oN (iN (mw (jB l args))))) cG with
    |some (r,w)=>bif vq w cG&&r.jJ then some r else none
    |none=>none
   |none=>none
  else none
 |none=>none
def ey (P:Program) (h:Hint) (cB:eN) (o:Oper) (st:St):Option SV:=
 match o.op with
 | .buildSlice t len q=>bif(o.dst.any h.rows.contains||o.dst.any h.fu.contains) then none else(kY P t len q.toList st).map λx=> .pv (.dG x.2.1 x.2.2)
 | .call c=>match c.callee with
  | .value f=>bif o.dst.any h.owns.contains then none else bif o.dst.any h.stay.contains&&wide st c f then(tf P h cB st c f).map .pv else
   bif wide st c f||c.args.toList.any (λx=>(pK h st x).isSome) then none else
   match bP P 0 st f,jO P st c.args.toList c.argTypes.toList with
   |some (.pv (.fn g l)),some z=>match cB g ((z++l).map .pv) [] with
    |some (r,[])=>bif(!(c.args.toList.any (lu st))||r.plain)&&r.jJ then some (.pv r) else none
    |_=>none
   |_,_=>none
  |_=>AH P c st
 | .build t q=>bif o.dst.any h.rows.contains then none else zD P (NP P h o.dst t) t q st
 | .load _ _=>bif o.dst.any h.take.contains then none else fB P o st
 | .makeFunc (.func g) first l=>bif first.isEmpty then
   bif o.dst.any h.fu.contains then bif Nat.blt g 1000000 then(qP st l.toList).map λw=> .cl g w else none
   else(uu st l.toList).map λz=> .pv (.fn g z)
  else bif l.isEmpty&&o.dst.any h.fu.contains&&Nat.blt g 1000000 then(qP st first.toList).map λw=> .cl (g+1000000) w else none
 | .assign x=>match o.dst,x,fB P o st with
  |some d, .const _,some (.pv (.dG B xs))=>bif h.rows.contains d then none else some (.pv (.dG B xs))
  |some d,_,some (.row id)=>bif h.lz.contains d||h.mvs.contains d then none else some (.row id)
  |_,_,r=>r
 |_=>fB P o st
def ow (l:St):SV->Bool
 | .pv (.agg _)| .pv (.gX _)=>false
 | .pv _=>true
 | .ptr _ _| .rp _ _ _ _| .cp _| .cl _ _=>true
 | .row id=>match l.ob id with
  |some (.row _ _ _)=>true
  |some (.mp _ _ _ _)=>true
  |some (.rn _ _ _ _ _ _ _)=>true
  |_=>false
 |_=>false
def storeAt (P:Program) (t:TypeId) (q:St) (a:SV) (v:SV):Option St:=
 match a with
 | .ptr id l=>match q.ob id,lB P t with
  |some (.box B cells),some n=>match v with
   | .ag w=>if w.length=n/\l+n<=cells.length then
     some { q with ob:=put q.ob id (some (.box B (cells.take l++w.map JC++cells.drop (l+n)))) } else none
   | .pv (.agg w)=>if w.length=n/\l+n<=cells.length then
     some { q with ob:=put q.ob id (some (.box B (cells.take l++w.map .pv++cells.drop (l+n)))) } else none
   |v=>if n=1/\l<cells.length/\ow q v=true then some { q with ob:=put q.ob id (some (.box B (cells.set l v))) } else none
  |_,_=>none
 | .rp id D i l=>match q.ob id,lB P t,v with
  |some (.row e z xs),some n, .pv v=>match xs[i]? with
   |some c=>if D=z/\v.cells.length=n/\l+n<=c.length/\v.Hv=true then
     some { q with ob:=put q.ob id (some (.row e z (xs.set i (c.take l++v.cells++c.drop (l+n))))) } else none
   |none=>none
  |_,_,_=>none
 |_=>none
def ES (P:Program) (h:Hint) (l:St):List Operand->List TypeId->Option (List SV×List Nat)
 |[],_=>some ([],[])
 |x::xs,w=>match pK h l x,ES P h l xs w.tail with
  |some id,some (q,ids)=>some (.row 10000::q,id::ids)
  |none,some (q,ids)=>match(bP P (w.headD 0) l x).bind kR with
   |some v=>some (.pv v::q,ids)
   |none=>none
  |_,none=>none
def qg (P:Program) (h:Hint) (l:eN) (z:St) (c:Call) (f:Operand) (d:Option Nat):Option St:=
 match bP P 0 z f,ES P h z c.args.toList c.argTypes.toList with
 |some (.pv (.fn g B)),some (H,[id])=>match z.ob id with
  |some (.row e F xs)=>match l g (H++B.map .pv) [(10000, .row e F xs)] with
   |some (r,[(G, .row D q w)])=>bif Nat.beq e D&&Nat.beq F q&&Nat.beq G 10000 then
     match r with
     | .self n=>bif Nat.ble n w.length&&gJ id then some ((z.new id (.row D q (w.take n))).set d (.row id)) else none
     |r=>bif r.plain then some (St.set { z with ob:=put z.ob id (some (.row D q w)) } d (.pv r)) else none
    else none
   |_=>none
  |_=>none
 |_,_=>none
def jT (P:Program) (h:Hint) (l:eN) (w:St) (c:Call) (f:Operand) (d:Option Nat):Option St:=
 match(bP P 0 w f).bind Sw,ur P h w c.args.toList c.argTypes.toList with
 |some (g,pre,B),some H=>
  let args:=pre++(H++B)
  let ids:=gI w 200 (args.flatMap SV.ids) [];let F:=iw (d.any h.stay.contains) w (qz args);let m:=iV F 0 ids;let names:=m.map (·.2);let G:=iN m
  bif distinct ids&&Nat.blt ids.length 10000&&args.all (SV.closed ids) then
   match jP w ids G m with
   |some cG=>match l g (args.map (SV.oN G)) cG with
    |some (r,q)=>match mN names (iN (swap m)) m q with
     |some z=>bif r.jJ then
       let D:=fD (ids.filter F) w
       some (St.set { env:=D.env,ob:=λi=>(find z i).orElse λ_=>D.ob i } d (.pv r)) else none
     |none=>none
    |none=>none
   |none=>none
  else none
 |_,_=>none
def yR (P:Program) (t:TypeId):Option (List Value):=
 match P.info? t with
 |some i=>i.zero.map λz=>z.cells.toList
 |none=>none
def nV (P:Program) (w:List Nat) (d:Nat):Nat->List TypeId->List Value->Option (List SV×List (Nat×TypeId×Nat))
 |_,[],[]=>some ([],[])
 |j,t::z,v::B=>match nV P w d (j+1) z B with
  |some (q,l)=>match(bif w.contains j then none else isSlice P t),v with
   |some (e,s), .slice none 0 0=>bif Nat.blt 0 s&&Nat.blt (5000+16 *d+j) 10000 then some (.row (5000+16 *d+j)::q,(5000+16 *d+j,e,s)::l) else none
   |_,v=>(ofConst P t v).map λa=>(.pv a::q,l)
  |none=>none
 |_,_,_=>none
def JS (l:List (Nat×Nat×TypeId×Nat)) (id:Nat) (e:TypeId) (s:Nat):Ob:=
 match find l id with
 |some (k,q,w)=>bif Nat.blt k s then .rn e s k q w [] [] else .row e s []
 |none=> .row e s []
def iJ (q:List (Nat×Nat×TypeId×Nat)):List (Nat×TypeId×Nat)->St->St
 |[],w=>w
 |(id,e,s)::l,w=>iJ q l (w.new id (JS q id e s))
def DA:Operand->Bool
 | .const (.slice none 0 0)=>true
 |_=>false
def mS (P:Program) (l:List Nat) (d:Nat):Nat->List Operand->List TypeId->List (Nat×TypeId×Nat)
 |_,[],_=>[]
 |j,x::xs,q=>bif DA x&&l.contains j then match isSlice P (q.headD 0) with
   |some (e,s)=>(5008+16 *d+j,e,s)::mS P l d (j+1) xs q.tail
   |none=>mS P l d (j+1) xs q.tail
  else mS P l d (j+1) xs q.tail
def argG (P:Program) (z:List Nat) (d j:Nat) (B:St) (t:TypeId) (x:Operand):Option SV:=
 bif DA x&&z.contains j then(isSlice P t).bind λ_=>some (.row (5008+16 *d+j)) else match bP P t B x with
 |some (.pv v)=>some (.pv v)
 |some (.ptr id w)=>some (.ptr id w)
 |some (.row id)=>some (.row id)
 |some (.cl f l)=>some (.cl f l)
 |some (.cp q)=>some (.cp q)
 |some (.ag q)=>some (.ag q)
 |_=>none
def CN (P:Program) (l:List Nat) (d:Nat) (q:St):Nat->List Operand->List TypeId->Option (List SV)
 |_,[],_=>some []
 |j,x::xs,w=>match argG P l d j q (w.headD 0) x,CN P l d q (j+1) xs w.tail with
  |some v,some z=>some (v::z)
  |_,_=>none
def vY (q:List Nat):Nat->List SV->List Nat
 |_,[]=>[]
 |j, .row id::l=>bif q.contains j then vY q (j+1) l else id::vY q (j+1) l
 |j,_::l=>vY q (j+1) l
def newNames (d:Nat):Nat->List (Nat×Ob)->List (Nat×Nat)
 |_,[]=>[]
 |k,(q,_)::l=>(5000+16 *d+k,q)::newNames d (k+1) l
def IS:AV->oJ
 | .self n=> .r n
 |a=> .v a
def uw:AV->SV
 | .self n=> .row n
 | .agg l=> .ag (l.map IS)
 |a=> .pv a
def vV:AV->SV
 | .gX [a,b]=> .two (uw a) (uw b)
 | .gX [a,b,c]=> .three (uw a) (uw b) (uw c)
 |a=>uw a
def KL (l:Nat->Option Ob):SV->SV
 | .row id=>match l id with
  |some (.box _ _)=> .ptr id 0
  |_=> .row id
 |s=>s
def qu (q:Nat->Nat):Nat->List Nat->List (Nat×Nat)
 |_,[]=>[]
 |k,id::l=>(id,q id+k)::qu q (k+1) l
def stays (l:Nat->Nat) (i:Nat):Bool:=Nat.beq (l i) 10000
def given (l:Nat->Nat) (i:Nat):Bool:=Nat.beq (l i) 9000
def EV (l:Nat->Bool) (i:Nat):Nat:=bif l i then 20000 else 10000
def VC (l:St) (id:Nat):Bool:=
 match l.ob id with
 |some (.rn _ _ _ _ _ _ _)=>iK id
 |_=>false
def JW (q:St) (l:Nat->Bool) (i:Nat):Nat:=bif VC q i then 9000 else EV l i
def kj (z:eN) (F:St) (g:Nat) (args:List SV) (B:Nat->Nat) (d:Option Nat):Option St:=
 let ids:=gI F 200 (args.flatMap SV.ids) [];let m:=qu B 0 ids;let G:=m.filter λp=> !(given B p.1)
 bif distinct ids&&Nat.blt ids.length 10000&&args.all (SV.closed ids)&&(ids.all (λi=> !(given B i))||(Nat.blt ids.length 1000&&ids.all λi=> !(given B i)||iK i)) then
  match jP F ids (iN m) m with
  |some cG=>match z g (args.map (SV.oN (iN m))) cG with
   |some (r,q)=>
    let D:=newNames (d.getD 0) 0 (q.drop G.length);let mm:=G++D
    bif Nat.ble D.length 8&&distinct (mm.map (·.1))&&distinct (mm.map (·.2))&&D.all (λx=>Nat.blt x.1 10000)&&D.all (λx=>Nat.ble 25000 x.2) then
     match mN (mm.map (·.2)) (iN (swap mm)) mm q with
     |some l=>match r with
      | .gX [.gX [.self 0, .pG,x]]=>bif(vV x).closed (mm.map (·.2)) then
        let w:=fD (ids.filter (λi=> !(stays B i))++D.map (·.1)) F
        some (St.set { env:=w.env,ob:=λi=>(find l i).orElse λ_=>w.ob i } d (KL (find l) ((vV x).oN (iN (swap mm)))))
       else none
      |r=>bif r.jJ then
        let w:=fD (ids.filter (λi=> !(stays B i))++D.map (·.1)) F
        some (St.set { env:=w.env,ob:=λi=>(find l i).orElse λ_=>w.ob i } d (.pv r))
       else none
     |none=>none
    else none
   |none=>none
  |none=>none
 else none
def CP (P:Program) (h:Hint) (q:eN) (D:St) (c:Call) (f:Operand) (d:Nat) (z:List Nat):Option St:=
 let l:=iJ h.nest (mS P z d 0 c.args.toList c.argTypes.toList) D;match(bP P 0 l f).bind Sw,CN P z d l 0 c.args.toList c.argTypes.toList with
 |some (g,pre,w),some B=>bif(mS P z d 0 c.args.toList c.argTypes.toList).all (λx=>Nat.blt x.1 10000) then
   kj q l g (pre++(B++w)) (JW l (iw false l (vY z 0 B))) (some d) else none
 |_,_=>none
def xk (h:Hint) (d:Nat):Option (List (Nat×TypeId×Nat)):=match find h.rI d with
 |some _=>some []
 |none=>find h.tU d
def PE (P:Program) (b:Bool) (l:St) (t:TypeId) (x:Operand):Option AV:=bif b&&DA x then some .tU else(bP P t l x).bind kR
def sD (P:Program) (b:Bool) (l:St):List Operand->List TypeId->Option (List AV)
 |[],_=>some []
 |x::xs,q=>match PE P b l (q.headD 0) x,sD P b l xs q.tail with
  |some v,some w=>some (v::w)
  |_,_=>none
def tF:List AV->List (Nat×TypeId×Nat)->Option (List oJ)
 |[],_=>some []
 | .tU::q,x::l=>(tF q l).map (.r x.1:: ·)
 | .tU::_,[]=>none
 |a::q,l=>(tF q l).map (.v a:: ·)
def iI (P:Program) (h:Hint) (q:eN) (w:St) (c:Call) (f:Operand) (d:Option Nat):Option St:=
 match d with
 |some d=>match find h.rI d with
  |some D=>CP P h q w c f d D.2
  |none=>match bP P 0 w f,sD P (xk h d).isSome w c.args.toList c.argTypes.toList with
  |some (.pv (.fn g z)),some H=>match q g ((H++z).map .pv) [] with
   |some (.gX [.gX [.self e, .dG G xs]],[])=>bif(xk h d).isSome then none else some ((w.new d (.row e G xs)).set (some d) (.row d))
   |some (.agg B,[])=>match xk h d with
    |some []=>some (w.set (some d) (.pv (.agg B)))
    |some l=>match tF B l with
     |some F=>bif l.all (λx=>Nat.blt x.1 10000) then some ((iJ h.nest l w).set (some d) (.ag F)) else none
     |none=>none
    |none=>none
   |_=>none
  |_,_=>none
 |none=>none
def aaV (l:St) (s:SV):Option oJ:=
 bif ow l s then
  match s with
  | .pv a=>some (.v a)
  | .row id=>some (.r id)
  |_=>none
 else none
def wY (q:St):List SV->Option (List oJ)
 |[]=>some []
 |s::l=>match aaV q s,wY q l with
  |some c,some w=>some (c::w)
  |_,_=>none
def Gj (q:St):SV->Option (List SV)
 | .pv (.agg l)=>some (l.map .pv)
 |s=>bif ow q s then some [s] else none
def qK (P:Program) (ty:Nat->TypeId) (q:St):List (Nat×Operand)->Option (List (Nat×List SV))
 |[]=>some []
 |(i,x)::l=>match(bP P (ty i) q x).bind (Gj q),qK P ty q l with
  |some v,some w=>some ((i,v)::w)
  |_,_=>none
def G9 (place:Nat->Option (Nat×Nat)) (cells:List SV):List (Nat×List SV)->Option (List SV)
 |[]=>some cells
 |(i,v)::q=>match place i with
  |none=>none
  |some (l,size)=>if v.length=size/\l+size<=cells.length then G9 place (cells.take l++v++cells.drop (l+size)) q else none
def vC (P:Program) (h:Hint) (w:St) (d:Nat) (t:TypeId) (q:List (Nat×Operand)):Option St:=
 match P.underlying t,(yR P t).bind λG=>nV P ((find h.Pn d).getD []) d 0 (tD P 8 t) G with
 |some (.struct D),some (z,l)=>bif D.toList.all (λf=>(lB P f.type).isSome) then
   match qK P (Iw P t) (iJ h.nest l w) q with
   |some F=>match(G9 (pR P t) z F).bind (wY (iJ h.nest l w)) with
    |some B=>some ((iJ h.nest l w).set (some d) (.ag B))
    |none=>none
   |none=>none
  else none
 |_,_=>none
def EU (P:Program) (l:St) (t:TypeId) (m:Operand):Option St:=
 match P.underlying t with
 |some (.map _ _)=>match bP P t l m with
  |some (.row id)=>match l.ob id with
   |some (.mp k' q _ _)=>some { l with ob:=put l.ob id (some (.mp k' q [] [])) }
   |_=>none
  |_=>none
 |_=>none
def yH (P:Program) (l:St):Option Operand->Bool
 |none=>true
 |some x=>match(bP P 0 l x).bind kR with
  |some (.int _ _)=>true
  |_=>false
def VZ (P:Program) (l:St) (q:TypeId) (x:Operand):Option St:=
 match bP P q l x with
 |some (.pv _)=>some l
 |some (.row j)=>l.dy j
 |_=>none
def yy (P:Program) (G:St) (t:TypeId) (m k x:Operand):Option St:=
 match P.underlying t with
 |some (.map B z)=>match VZ P G z x with
  |some l=>match bP P t l m,(bP P B l k).bind kR,(bP P z l x).bind kR with
   |some (.row id),some key,some v=>match l.ob id with
    |some (.mp k' D F H)=>bif oq P B key&&v.Hv then
      match Wf key v F H with
      |some (q,w)=>some { l with ob:=put l.ob id (some (.mp k' D q w)) }
      |none=>none
     else none
    |_=>none
   |_,_,_=>none
  |none=>none
 |_=>none
def xD (P:Program) (q:St) (t:TypeId) (x:Operand) (d:Nat):Option St:=
 match bP P 0 q x,DZ P t with
 |some (.rp id F i w),some false=>match q.ob id with
  |some (.rn e l k z B xs D)=>match D[i]? with
   |some (some G)=>bif Nat.beq F l&&Nat.beq w k&& !(Nat.beq id d)&&Nat.blt id 10000 then some ((St.new { q with ob:=put q.ob id (some (.rn e l k z B xs (D.set i none))) } d (.row z B G)).set (some d) (.row d)) else none
   |_=>none
  |_=>none
 |_,_=>none
def HA (P:Program) (q:St) (t:TypeId) (id H i w j:Nat):Option St:=
 match DZ P t,lB P t,q.ob id,q.ob j with
 |some false,some 1,some (.rn e l k z B xs D),some (.row F G I)=>
  bif Nat.beq H l&&Nat.beq w k&&Nat.blt id 10000&&Nat.blt j 10000&&Nat.beq z F&&Nat.beq B G&&Nat.blt i D.length&& !(Nat.beq id j) then
   some { (q.dH j).dH (id+40000) with ob:=put ((q.dH j).dH (id+40000)).ob id (some (.rn e l k z B xs (D.set i (some I)))) } else none
 |_,_,_,_=>none
def BP (P:Program) (w:St):Nat->List (Nat×Operand)->Option (List SV)
 |_,[]=>some []
 |i,(j,x)::l=>match bP P 0 w x,BP P w (i+1) l with
  |some (.ptr id q),some z=>bif Nat.beq i j then some (.ptr id q::z) else none
  |_,_=>none
def Pd (P:Program) (q:St) (d:Nat) (t:TypeId) (len:Nat) (l:List (Nat×Operand)):Option St:=
 match isSlice P t,BP P q 0 l with
 |some (e,1),some w=>match zeroCells P e with
  |some [_]=>bif Nat.beq w.length len&&Nat.blt 0 len&&Nat.blt len 100 then some ((q.new d (.box e (w.map (SV.dH d)))).set (some d) (.aq d (.bs len))) else none
  |_=>none
 |_,_=>none
def Xi (P:Program) (w:St) (t:TypeId) (id q j z n:Nat):Option St:=
 match w.ob j with
 |some (.row e l xs)=>bif Nat.beq z l&&gJ j&& !(Nat.beq id j) then storeAt P t (w.new j (.row e l (xs.take n))) (.ptr id q) (.row j) else none
 |_=>none
def Wc (l:St) (id d:Nat):Option St:=
 match l.ob id with
 |some (.row e q xs)=>bif Nat.beq id d then some (l.set (some d) (.row d)) else bif Nat.blt id 10000 then some (((l.dH id).new d (.row e q xs)).set (some d) (.row d)) else none
 |_=>none
def qJ (k:Nat) (c:List AV):Bool:=match c[k]? with
 |some .tU=>true
 |_=>false
def nC (P:Program) (h:Hint) (D:eN) (o:Oper) (q:St):Option St:=
 match o.dst,o.op with
 |some d, .assign (.const (.slice none 0 0))=>match isSlice P o.type with
  |some (e,s)=>if 0<s then some ((q.new d (.row e s [])).set (some d) (.row d)) else none
  |none=>none
 |some d, .assign x=>match bP P o.type q x with
  |some (.row id)=>bif h.mvs.contains d then Wc q id d else match q.dy id with
   |some B=>match bP P o.type B x with
    |some v=>some (B.set (some d) v)
    |none=>none
   |none=>none
  |_=>none
 |some d, .box t x=>match bP P t q x,DZ P t with
  |some (.pv (.agg O)),some true=>some ((q.new d (.box t (O.map .pv))).set (some d) (.ptr d 0))
  |some (.ag O),some true=>bif(SV.ag O).mentions d then none else some ((q.new d (.box t (O.map JC))).set (some d) (.ptr d 0))
  |some v,some false=>if ow q v=true then some ((q.new d (.box t [v.dH d])).set (some d) (.ptr d 0)) else none
  |_,_=>none
 |some d, .alloc t=>bif h.rows.contains d then
   match(yR P t).bind λN=>nV P ((find h.Pn d).getD []) d 0 (tD P 8 t) N with
   |some (S,l)=>some (((iJ h.nest l q).new d (.box t (S.map (SV.dH d)))).set (some d) (.ptr d 0))
   |none=>none
  else match NP P h (some d) t with
  |some z=>some ((q.new d (.box t (z.map .pv))).set (some d) (.ptr d 0))
  |none=>none
 |some d, .makeSlice t l c=>match isSlice P t,(bP P 0 q l).bind kR,(bP P 0 q c).bind kR with
  |some (e,s),some (.int _ l),some (.int _ c)=>match zeroCells P e,P.info? e with
   |some z,some i=>if 0<s/\z.length=s/\0<=l/\l<=c/\i.bytes *c.toNat<=281474976710656/\c<=9223372036854775807 then
     some ((q.new d (.row e s (List.replicate l.toNat z))).set (some d) (.row d)) else none
   |_,_=>none
  |_,_,_=>none
 |some d, .buildSlice t len F=>bif h.fu.contains d&& !h.rows.contains d then Pd P q d t len F.toList else match kY P t len F.toList q with
  |some (e,s,xs)=>match find h.nest d with
   |none=>some ((q.new d (.row e s xs)).set (some d) (.row d))
   |some (k,K,s')=>bif Nat.blt k s&&xs.all (qJ k) then some ((q.new d (.rn e s k K s' (xs.map λc=>c.set k .hole) (xs.map λ_=>some []))).set (some d) (.row d)) else none
  |none=>none
 |none, .store t a x=>match bP P 0 q a,bP P t q x with
  |some (.rp id w i L),some (.row j)=>HA P q t id w i L j
  |some (.ptr id L),some (.sub j w 0 n)=>Xi P q t id L j w n
  |some a,some v=>storeAt P t q a v
  |_,_=>none
 |some d, .makeMap t r=>match P.underlying t with
  |some (.map k e)=>bif yH P q r then
    some ((q.new d (.mp k e [] [])).set (some d) (.row d)) else none
  |_=>none
 |none, .mapUpdate t m k x=>yy P q t m k x
 |none, .insert t m k x=>yy P q t m k x
 |some d, .build t F=>bif h.rows.contains d then vC P h q d t F.toList else none
 |some d, .load t x=>bif h.take.contains d then xD P q t x d else none
 |some d, .makeFunc (.func g) first H=>bif first.isEmpty then
   match xq q H.toList with
   |some B=>(uu B H.toList).map λN=>B.set (some d) (.pv (.fn g N))
   |none=>none
  else none
 |d, .call c=>match c.callee with
  | .builtin .append=>match d,c.args.toList,c.argTypes.toList with
   |some d,[x,y],[t,Q]=>match isSlice P t,bP P t q x,bP P Q q y with
    |some (e,s),some (.row id),some y=>match q.ob id,elems q y,P.info? e with
     |some (.row K w xs),some (G,I),some i=>
      if t=Q/\e=K/\s=w/\w=G/\0<w/\(xs.length+I.length) *i.bytes<=140737488355328/\xs.length+I.length<=4611686018427387904/\i.zero.map (λz=>z.cells.size)=some w/\gJ id=true then
       some ((q.new id (.row e w (xs++I))).set (some d) (.row id)) else none
     |some (.rn K w k V s2 xs zs),some (G,I),some i=>
      if t=Q/\e=K/\s=w/\w=G/\0<w/\(xs.length+I.length) *i.bytes<=140737488355328/\xs.length+I.length<=4611686018427387904/\i.zero.map (λz=>z.cells.size)=some w/\gJ id=true/\I.all (qJ k)=true then
       some ((q.new id (.rn e w k V s2 (xs++I.map λc=>c.set k .hole) (zs++I.map λ_=>some []))).set (some d) (.row id)) else none
     |_,_,_=>none
    |some (e,s),some (.aq id .full),some y=>match q.ob id,elems q y,P.info? e with
     |some (.row K w xs),some (G,I),some i=>
      if t=Q/\e=K/\s=w/\w=G/\0<w/\(xs.length+I.length) *i.bytes<=140737488355328/\xs.length+I.length<=4611686018427387904/\i.zero.map (λz=>z.cells.size)=some w/\gJ id=true/\I.isEmpty=false then
       some ((q.new id (.row e w (xs++I))).set (some d) (.row id)) else none
     |_,_,_=>none
    |_,_,_=>none
   |_,_,_=>none
  | .builtin .clear=>match d,c.args.toList,c.argTypes.toList with
   |none,[x],[t]=>match isSlice P t,bP P t q x with
    |some (e,s),some (.sub id w U R)=>match q.ob id,zeroCells P e with
     |some (.row K G xs),some z=>if s=w/\w=G/\z.length=w/\R<=xs.length/\e=K/\0<w then
       some { q with ob:=put q.ob id (some (.row K G (xs.take U++List.replicate (R-U) z++xs.drop R))) } else none
     |_,_=>none
    |none,_=>EU P q t x
    |_,_=>none
   |_,_,_=>none
  | .value f=>bif d.any h.owns.contains then iI P h D q c f d else bif d.any h.stay.contains&&wide q c f then none else bif wide q c f then jT P h D q c f d else bif c.args.toList.any (λx=>(pK h q x).isSome) then qg P h D q c f d else
   match jK q c.args.toList with
   |some B=>match bP P 0 B f,jO P B c.args.toList c.argTypes.toList with
    |some (.pv (.fn g H)),some N=>match D g ((N++H).map .pv) [] with
     |some (r,[])=>bif c.args.toList.any (lu B)|| !r.jJ then none else some (B.set d (.pv r))
     |_=>none
    |_,_=>none
   |none=>none
  |_=>none
 |_,_=>none
where
 jK (q:St) (l:List Operand):Option St:=bif l.any (yX q) then none else iy q l
 iy (q:St):List Operand->Option St
  |[]=>some q
  | .tmp i::l=>match q.env i with
   |some (.row id)=>(q.dy id).bind λB=>iy B l
   |_=>iy q l
  |_::l=>iy q l
def pJ:List SV->St->Option St
 |[],q=>some q
 | .row id::l,q=>(q.dy id).bind (pJ l)
 |_::l,q=>pJ l q
def step0 (P:Program) (h:Hint) (l:eN) (o:Oper) (q:St):Option St:=
 match ey P h l o q with
 |some v=>some (q.set o.dst v)
 |none=>nC P h l o q
def qx (l:St) (t:Nat):Option St:=
 match l.env t with
 |some (.row id)=>l.dy id
 |some (.ag [.r id])=>l.dy id
 |some (.ptr id _)=>match l.ob id with
  |some (.box _ cells)=>pJ cells l
  |_=>none
 |_=>some l
def mW:List Nat->St->Option St
 |[],q=>some q
 |t::l,q=>(qx q t).bind (mW l)
def slotsOf (o:Oper):List Nat:=o.op.operands.toList.filterMap fun
 | .tmp t=>some t
 |_=>none
def E7 (h:Hint) (o:Oper):List Nat:=bif h.use.isEmpty then[] else(slotsOf o).filter h.use.contains
def step (P:Program) (h:Hint) (l:eN) (o:Oper) (q:St):Option St:=(mW (E7 h o) q).bind (step0 P h l o)
def qq (q:Array Oper) (o:Oper) (w:St):Option Bool:=
 match o.guard with
 |none=>some true
 |some (j,l)=>match(q[j]?).bind (·.dst) with
  |some d=>match w.env d with
   |some (.pv (.bool b))=>some (b==l)
   |some .undef=>some false
   |_=>none
  |none=>none
def qW (P:Program) (h:Hint) (q:eN) (w:Array Oper):List Oper->St->Option St
 |[],z=>some z
 |o::l,z=>match qq w o z with
  |some b=>bif b then(step P h q o z).bind (qW P h q w l) else qW P h q w l (z.set o.dst .undef)
  |none=>none
inductive Ex where
 |normal
 |exit (id:Nat)
 |ret
 deriving DecidableEq
def exOf:Nat->Ex
 |0=> .normal
 |_=> .ret
def iter (h:Hint) (key:Nat) (f:St->Option (Ex×St)):Nat->St->Option (Ex×St)
 |0,_=>none
 |n+1,q=>match f (h.canon key q) with
  |some (.normal,l)=>iter h key f n l
  |r=>r
def fA (l:Array Oper) (o:Oper):List Nat:=slotsOf o++match o.guard with
 |some (j,_)=>((l[j]?).bind (·.dst)).toList
 |none=>[]
def abc (o:Oper) (j:Nat):Bool:=o.after.toList.any λe=>Region.binds .any e&&Nat.beq e.on j
def tn:Nat->List Oper->Bool
 |_,[]=>true
 |i,o::l=>o.after.toList.all (λe=> !(Region.binds .any e)||Nat.blt e.on i)&&tn (i+1) l
def reach (l:Array Oper):Nat->Nat->Nat->Bool
 |0,_,_=>false
 |n+1,i,j=>match l[i]? with
  |some o=>abc o j||o.after.toList.any λe=>Region.binds .any e&&reach l n e.on j
  |none=>false
def Ob.uc:Ob->Ob
 | .row e l xs=> .row e l (xs.map λ_=>[])
 | .rn e l k w q xs _=> .rn e l k w q (xs.map λ_=>[]) []
 |_=> .lp []
structure gw where
 rs:List Nat:=[]
 rl:List Nat:=[]
 kp:Nat->Bool:=λ_=>false
 ws:List Nat:=[]
 ro:List Nat:=[]
 wo:List Nat:=[]
 mv:List Nat:=[]
 men:List Nat:=[]
 all:Bool:=false
 we:Nat->Bool:=λ_=>false
 oe:Nat->Bool:=λ_=>false
def meets (a b:List Nat):Bool:=a.any λx=>b.any (Nat.beq x)
def gw.conflict (a b:gw):Bool:=a.all||b.all||meets a.ws b.rs||meets a.rs b.ws||meets a.ws b.ws||meets a.wo b.ro||meets a.ro b.wo||meets a.wo b.wo||meets a.mv b.men||meets b.mv a.men||b.rs.any a.we||b.ro.any a.oe||b.rl.any (λj=>a.wo.contains j&& !(a.kp j))||a.rl.any (λj=>b.wo.contains j&& !(b.kp j))
def M8 (q:St):List Operand->List Nat
 |[]=>[]
 | .tmp t::l=>(match q.env t with
  |some s=>s.ids
  |none=>[])++M8 q l
 |_::l=>M8 q l
def C7 (l:St) (o:Oper):List Nat:=M8 l o.op.operands.toList
def targetId:SV->Option Nat
 | .ptr id _=>some id
 | .rp id _ _ _=>some id
 |_=>none
def yg:List Oper->List Nat
 |[]=>[]
 |o::l=>match o.op,o.dst with
  | .alloc _,some d=>d::yg l
  |_,_=>yg l
def xQ (q:Array Oper) (l:List (Nat×gw)) (i:Nat) (f:gw):Bool:=l.all λp=>reach q 12 i p.1|| !(p.2.conflict f)
def Tu:Op->Bool
 | .move _| .assign _| .pick _ _ _=>true
 |_=>false
def KX (P:Program) (h:Hint) (o:Oper) (l:St):List Nat:=
 match o.op with
 | .call c=>match c.callee with
  | .value f=>match uA P h l c f with
   |some (_,args)=>bif o.dst.any h.stay.contains then jB l args else[]
   |none=>[]
  |_=>[]
 |_=>[]
def Ob.mentions (id:Nat):Ob->Bool
 | .box _ cells=>cells.any (SV.mentions id)
 |_=>false
def Ob.ids:Ob->List Nat
 | .box _ cells=>cells.flatMap SV.ids
 |_=>[]
def Ot (l:St) (t:Nat):List Nat:=match l.env t with
 |some s=>s.ids
 |none=>[]
def Yg (l:St) (j:Nat):List Nat:=match l.ob j with
 |some o=>o.ids
 |none=>[]
def gw.fill (q l:St) (f:gw):gw:=
 {f with
  men:=f.mv++(f.ro++(f.wo++(f.rs.flatMap (Ot q)++(f.ws.flatMap (Ot l)++(f.ro.flatMap (Yg q)++f.wo.flatMap (Yg l))))))
  we:=λt=>match q.env t with
   |some v=>f.mv.any λid=>v.mentions id
   |none=>false
  oe:=λj=>match q.ob j with
   |some o=>f.mv.any λid=>o.mentions id
   |none=>false }
def jE:gw:={ all:=true }
def abW:Op->Bool
 | .indexAddr _ _ _=>true
 |_=>false
def vU (P:Program) (h:Hint) (l:Array Oper) (o:Oper) (q:St):gw:=
 {rs:=fA l o,ws:=o.dst.toList,ro:=bif Tu o.op||abW o.op then[] else C7 q o++KX P h o q,rl:=bif abW o.op then C7 q o else[] }
def tQ (l:Array Oper) (o:Oper):gw:={ rs:=fA l o,ws:=o.dst.toList }
def Ct (P:Program) (l:Array Oper) (o:Oper) (q:St) (a:Operand):gw:=match(bP P 0 q a).bind targetId with
 |some id=>{ rs:=fA l o,ro:=id::C7 q o,wo:=[id] }
 |none=>jE
def OA (P:Program) (l:Array Oper) (o:Oper) (q:St) (c:Call):gw:=match c.args.toList,c.argTypes.toList,o.dst with
 |[x,_],[t,_],some d=>match bP P t q x with
  |some (.row id)=>{ rs:=fA l o,ws:=[d],ro:=id::C7 q o,wo:=[id],mv:=[id] }
  |some (.aq id .full)=>{ rs:=fA l o,ws:=[d],ro:=id::C7 q o,wo:=[id],mv:=[id] }
  |_=>jE
 |_,_,_=>jE
def Sy (P:Program) (l:Array Oper) (o:Oper) (q:St) (x:Operand) (d:Nat):gw:=match bP P 0 q x with
 |some (.rp id _ _ _)=>match q.ob id with
  |some (.rn _ _ _ _ _ _ _)=>{ rs:=fA l o,ws:=[d],ro:=[id],wo:=[id,d],mv:=[d],kp:=λj=>Nat.beq j id&& !(Nat.beq id d) }
  |_=>jE
 |_=>jE
def EE (P:Program) (l:Array Oper) (o:Oper) (w:St) (t:TypeId) (a x:Operand):gw:=match bP P 0 w a,bP P t w x with
 |some (.rp id _ _ _),some (.row j)=>{ rs:=fA l o,ro:=[id,j],wo:=[id,j,id+40000],mv:=[j,id+40000],kp:=λq=>Nat.beq q id&& !(Nat.beq id j) }
 |some (.ptr _ _),some (.sub _ _ _ _)=>jE
 |_,_=>Ct P l o w a
def vT (P:Program) (h:Hint) (q:Array Oper) (o:Oper) (l:St) (c:Call) (f:Operand):gw:=match uA P h l c f with
 |some (_,args)=>{ rs:=fA q o,ws:=o.dst.toList,ro:=jB l args,wo:=jB l args,mv:=(jB l args).filter (iw false l (qz args)) }
 |none=>jE
def oo (d:Nat):List Nat:=(List.range 8).map λk=>5000+16 *d+k
def ED (P:Program) (h:Hint) (z:Array Oper) (o:Oper) (q:St) (c:Call) (f:Operand):gw:=match o.dst with
 |some d=>match find h.rI d with
  |some (_,[])=>match(bP P 0 q f).bind Sw,CN P [] d q 0 c.args.toList c.argTypes.toList with
   |some (_,pre,l),some w=>{ rs:=fA z o,ws:=[d],ro:=jB q (pre++(w++l))++oo d,wo:=jB q (pre++(w++l))++oo d,mv:=(jB q (pre++(w++l))).filter (λi=> !(stays (JW q (iw false q (vY [] 0 w))) i))++oo d }
   |_,_=>jE
  |_=>jE
 |none=>jE
def BC (P:Program) (h:Hint) (w:Array Oper) (o:Oper) (z:St) (d:Nat) (t:TypeId) (q:List (Nat×Operand)):gw:=
 match(yR P t).bind λB=>nV P ((find h.Pn d).getD []) d 0 (tD P 8 t) B,partsOf P (Iw P t) z q with
 |some (_,l),some _=>{ rs:=fA w o,ws:=[d],ro:=l.map (·.1),wo:=l.map (·.1),mv:=l.map (·.1) }
 |_,_=>jE
def lC (P:Program) (h:Hint) (l:Array Oper) (o:Oper) (w:St):gw:=
 match o.op,o.dst with
 | .store t a x,none=>EE P l o w t a x
 | .alloc _,some d=>bif h.rows.contains d then jE else { rs:=fA l o,ws:=[d],wo:=[d],mv:=[d] }
 | .buildSlice _ _ _,some d=>bif h.fu.contains d&& !h.rows.contains d then jE else bif h.rows.contains d then { rs:=fA l o,ws:=[d],wo:=[d],mv:=[d] } else jE
 | .build t q,some d=>bif h.rows.contains d then BC P h l o w d t q.toList else jE
 | .makeSlice _ _ _,some d=>{ rs:=fA l o,ws:=[d],wo:=[d],mv:=[d] }
 | .call c,_=>match c.callee with
  | .builtin .append=>OA P l o w c
  | .value f=>bif o.dst.any h.owns.contains&& !(o.dst.any (λd=>(xk h d).isSome)) then { rs:=fA l o,ws:=o.dst.toList,wo:=o.dst.toList,mv:=o.dst.toList }
   else bif !(o.dst.any h.owns.contains)&&(!(o.dst.any h.stay.contains)&&wide w c f) then vT P h l o w c f else bif o.dst.any h.owns.contains then ED P h l o w c f else jE
  |_=>jE
 | .load _ x,some d=>bif h.take.contains d then Sy P l o w x d else jE
 |_,_=>jE
def sE:List Nat->St->St
 |[],q=>q
 |p::l,q=>sE l (q.dH p)
def isF (h:Hint) (l:St) (o:Oper):Bool:=
 match o.op with
 | .buildSlice _ _ _=> !(o.dst.any h.rows.contains||o.dst.any h.fu.contains)
 | .call c=>match c.callee with
  | .builtin .append=>false
  | .builtin .delete=>false
  | .builtin .clear=>false
  | .value f=> !(o.dst.any h.owns.contains)&&((o.dst.any h.stay.contains&&wide l c f)|| !(wide l c f||c.args.toList.any (λx=>(pK h l x).isSome)))
  |_=>true
 | .assign x=>match o.dst,x with
  |some d, .const (.slice none 0 0)=> !(h.rows.contains d)
  |some d,x=>(!(h.lz.contains d)&& !(h.mvs.contains d))|| !(lu l x)
  |none,_=>true
 | .lookup _ _ _ _=>true
 | .makeFunc _ _ _| .move _| .pick _ _ _| .binOp _ _ _ _ _| .unOp _ _ _| .convert _ _ _| .fieldAddr _ _ _| .field _ _ _| .indexAddr _ _ _| .index _ _ _| .slice _ _ _ _ _| .extract _ _| .nilCheck _=>true
 | .build _ _=> !(o.dst.any h.rows.contains)
 | .load _ _=> !(o.dst.any h.take.contains)
 |_=>false
def isW:Op->Bool
 | .buildSlice _ _ _| .build _ _| .load _ _=>true
 |_=>false
def isWc (l:St):Op->Bool
 | .call c=>match c.callee with
  | .value _=> !(c.args.toList.any (lu l))
  |_=>false
 |_=>false
def wC:List SV->List Nat
 |[]=>[]
 | .row id::l=>id::wC l
 |_::l=>wC l
def Pw (l:St) (t:Nat):gw:=
 match l.env t with
 |some (.row id)=>{ rs:=[t],ro:=[id],wo:=[id],mv:=[id] }
 |some (.ag [.r id])=>{ rs:=[t],ro:=[id],wo:=[id],mv:=[id] }
 |some (.ptr id _)=>match l.ob id with
  |some (.box _ cells)=>{ rs:=[t],ro:=id::wC cells,wo:=wC cells,mv:=wC cells }
  |_=>jE
 |_=>{ rs:=[t] }
def gw.then (a b:gw):gw:={ rs:=a.rs++b.rs,ws:=b.ws++a.ws,ro:=a.ro++b.ro,wo:=b.wo++a.wo,mv:=a.mv++b.mv,all:=a.all||b.all,rl:=a.rl++b.rl,kp:=λj=>(a.kp j|| !(a.wo.contains j))&&(b.kp j|| !(b.wo.contains j)) }
def M1 (P:Program) (h:Hint) (q:Array Oper) (o:Oper):List Nat->St->gw
 |[],w=>bif isF h w o then(bif isW o.op||isWc w o.op then vU P h q o w else jE) else lC P h q o w
 |t::l,w=>match qx w t with
  |some z=>(Pw w t).then (M1 P h q o l z)
  |none=>jE
def uF (P:Program) (h:Hint) (l:Array Oper) (o:Oper) (q:St):gw:=(M1 P h l o (E7 h o) q).then { rs:=fA l o }
def j0 (P:Program) (h:Hint) (w:eN) (q:Array Oper):Nat->List Oper->List (Nat×gw)->St->Option St
 |_,[],_,z=>some z
 |i,o::l,B,z=>match qq q o z with
  |none=>none
  |some b=>bif b then
    bif isF h z o&&(E7 h o).isEmpty then
     match ey P h w o z with
     |some v=>bif xQ q B i ((vU P h q o z).fill z (z.set o.dst v)) then j0 P h w q (i+1) l ((i,(vU P h q o z).fill z (z.set o.dst v))::B) (z.set o.dst v) else none
     |none=>none
    else match step P h w o z with
     |some D=>bif xQ q B i ((uF P h q o z).fill z D) then j0 P h w q (i+1) l ((i,(uF P h q o z).fill z D)::B) D else none
     |none=>none
   else bif xQ q B i ((tQ q o).fill z (z.set o.dst .undef)) then j0 P h w q (i+1) l ((i,(tQ q o).fill z (z.set o.dst .undef))::B) (z.set o.dst .undef) else none
def St.PA (l:St) (id:Nat):Option St:=
 match l.ob id with
 |some (.box _ _)=>l.qy id
 |none=>some l
 |_=>l.dy id
def BS:List Nat->St->Option St
 |[],q=>some q
 |id::l,q=>(q.PA id).bind (BS l)
def Hint.adW (h:Hint) (id:Nat) (q:St):Option St:=
 match find h.mX id with
 |some l=>BS l q
 |none=>some q
def exec (P:Program) (h:Hint) (l:eN) (n:Nat):Code->St->Option (Ex×St)
 | .skip,q=>some (.normal,q)
 | .label _,q=>some (.normal,q)
 | .region id w B,q=>(h.adW id q).bind λq=>
  bif B then
   bif tn 0 w.toList then(j0 P h l w 0 w.toList [] (sE (yg w.toList) q)).map λs=>(.normal,s) else none
  else(qW P h l w w.toList q).map λs=>(.normal,s)
 | .seq a b,q=>match find h.blk (fk a) with
  |some x=>bif x.1 q then some (exOf (x.2 q).1,(x.2 q).2) else none
  |none=>match exec P h l n a q with
   |some (.normal,z)=>exec P h l n b z
   |r=>r
 | .cond c a b,q=>match bP P 0 q c with
  |some (.pv (.bool t))=>bif t then exec P h l n a q else exec P h l n b q
  |_=>none
 | .block id c,q=>match exec P h l n c q with
  |some (.exit j,z)=>bif Nat.beq j id then some (.normal,z) else some (.exit j,z)
  |r=>r
 | .loop c,q=>iter h (fk c) (exec P h l n c) n q
 | .exit id,q=>some (.exit id,q)
 | .ret,q=>some (.ret,q)
 | .scope c,q=>exec P h l n c q
 |_,_=>none
def zz:Nat->List SV->List (Nat×SV)
 |_,[]=>[]
 |i,v::l=>(i,v)::zz (i+1) l
def St.PB (q:St) (id:Nat):Option St:=
 match q.ob id with
 |some (.box _ cells)=>(pJ cells q).bind λl=>l.qy id
 |_=>none
def PC (q:St) (t:Nat):Option (St×AV):=
 match q.env t with
 |some (.pv v)=>some (q,v)
 |some (.ptr id 0)=>match q.PB id with
  |some l=>match l.env t with
   |some (.cp w)=>some (l, .ref w)
   |_=>none
  |none=>none
 |some (.row id)=>match q.dy id with
  |some l=>match l.env t with
   |some (.pv v)=>some (l,v)
   |_=>none
  |none=>none
 |_=>none
def tM (P:Program):List ResultVar->St->Option (St×List AV)
 |[],z=>some (z,[])
 | .tmp t::l,z=>match PC z t with
  |some (w,v)=>match tM P l w with
   |some (q,B)=>some (q,v::B)
   |none=>none
  |none=>none
 | .cell D t::l,z=>match fB P ⟨none, .load t (.tmp D),t, "", #[],none⟩ z with
  |some (.pv v)=>match tM P l z with
   |some (q,B)=>some (q,v::B)
   |none=>none
  |some (.row id)=>match z.dy id with
   |some w=>match fB P ⟨none, .load t (.tmp D),t, "", #[],none⟩ w with
    |some (.pv v)=>match tM P l w with
     |some (q,B)=>some (q,v::B)
     |none=>none
    |_=>none
   |none=>none
  |_=>none
def result:List AV->AV
 |[v]=>v
 |vs=> .gX vs
def qe (names:List Nat) (q:St):List Nat->Option (List (Nat×Ob))
 |[]=>some []
 |id::l=>match q.ob id,qe names q l with
  |some o,some w=>bif o.closed names then some ((id,o)::w) else none
  |_,_=>none
def qQ (N:Nat):Code->Bool
 | .region _ l _=>l.toList.all λo=>match o.dst with
  |some d=>Nat.blt d N
  |none=>true
 | .seq a b=>qQ N a&&qQ N b
 | .cond _ a b=>qQ N a&&qQ N b
 | .block _ c=>qQ N c
 | .loop c=>qQ N c
 | .scope c=>qQ N c
 |_=>true
def Vj (fn:Func):Bool:=Nat.ble fn.ntmps 10000&& !(fn.name== "runtime.NumGoroutine")&&match fn.body with
 |some c=>qQ fn.ntmps c
 |none=>true
def DK (P:Program):Bool:=P.follows .mixedOrders&&P.funcs.toList.all Vj&&Nat.ble P.funcs.size 1000000
def PY (fn:Func) (names:List Nat) (l:St):Option Nat:=
 match fn.results.toList,names with
 |[.tmp t],[10000]=>match l.env t,l.ob 10000 with
  |some (.row 10000),some (.row _ _ xs)=>some xs.length
  |some (.sub 10000 _ 0 n),some (.row _ _ _)=>some n
  |_,_=>none
 |_,_=>none
def Ws (fn:Func) (l:St):Option AV:=
 match fn.results.toList with
 |[.tmp t]=>match l.env t with
  |some (.row id)=>match iK id,l.ob id with
   |true,some (.row e q xs)=>some (.gX [.gX [.self e, .dG q xs]])
   |_,_=>none
  |_=>none
 |_=>none
def vn:Nat->List Nat->List (Nat×Nat)
 |_,[]=>[]
 |k,id::l=>(id,25000+k)::vn (k+1) l
def Xe:oJ->AV
 | .v a=>a
 | .r n=> .self n
 | .p n=> .self n
def aaW:oJ->Bool
 | .v (.self _)=>false
 |_=>true
def ue:SV->Option AV
 | .row n=>some (.self n)
 | .ptr n 0=>some (.self n)
 | .ag l=>bif l.all aaW then some (.agg (l.map Xe)) else none
 | .pv v=>bif v.scalar then some v else none
 |_=>none
def WO:SV->Option AV
 | .two v w=>match ue v,ue w with
  |some a,some b=>some (.gX [a,b])
  |_,_=>none
 | .three u v w=>match ue u,ue v,ue w with
  |some a,some b,some c=>some (.gX [a,b,c])
  |_,_,_=>none
 |v=>ue v
def KU (P:Program) (l:St):ResultVar->Option SV
 | .tmp t=>l.env t
 | .cell q t=>fB P ⟨none, .load t (.tmp q),t, "", #[],none⟩ l
def WC (P:Program) (l:St):List ResultVar->Option SV
 |[r]=>KU P l r
 |[r,q]=>match KU P l r,KU P l q with
  |some v,some w=>some (.two v w)
  |_,_=>none
 |[r,q,p]=>match KU P l r,KU P l q,KU P l p with
  |some u,some v,some w=>some (.three u v w)
  |_,_,_=>none
 |_=>none
def OB (P:Program) (fn:Func) (names:List Nat) (q:St):Option (AV×List (Nat×Ob)):=
 match WC P q fn.results.toList with
  |some w=>
   let ids:=(gI q 200 (w.ids++names.flatMap (Cv q)) []).filter iK;let nn:=vn 0 ids
   bif distinct ids&&names.all (λn=>Nat.blt n 25000)&&w.closed (names++ids) then
    match WO (w.oN (iN nn)),jP q (names++ids) (iN nn) (names.map (λn=>(n,n))++nn) with
    |some x,some l=>some (.gX [.gX [.self 0, .pG,x]],l)
    |_,_=>none
   else none
  |none=>none
def abf (P:Program) (own:Bool) (fn:Func) (names:List Nat) (e:Ex) (q:St):Option (AV×List (Nat×Ob)):=
 match e with
 | .exit _=>none
 |_=>bif own then
   match Ws fn q,qe names q names with
   |some r,some l=>some (r,l)
   |_,_=>OB P fn names q
  else match PY fn names q with
  |some n=>match qe names q names with
   |some l=>some (.self n,l)
   |none=>none
  |none=>match tM P fn.results.toList q with
   |some (w,z)=>match qe names w names with
    |some l=>some (result z,l)
    |none=>none
   |none=>none
def giv (i:Nat):Bool:=Nat.ble 9000 i&&iK i
def abe (P:Program) (own:Bool) (fn:Func) (cG:List (Nat×Ob)) (e:Ex) (l:St):Option (AV×List (Nat×Ob)):=abf P own fn ((cG.map (·.1)).filter λi=> !(iK i)) e l
def qB (P:Program) (H:Nat->Hint) (gR:eN):Nat->eN
 |0=>λ_ _ _=>none
 |n+1=>λf args cG=>match gR f args cG with
  |some r=>some r
  |none=>match P.funcs[f]? with
   |some fn=>match fn.body with
    |some c=>
     bif Nat.ble args.length fn.ntmps&&(cG.map (·.1)).all (λi=> !(iK i)||giv i) then
      match exec P (H f) (qB P H gR n) n c { env:=find (zz 0 args),ob:=find cG } with
      |some (e,l)=>abe P (H f).own fn cG e l
      |none=>none
     else none
    |none=>none
   |none=>none
