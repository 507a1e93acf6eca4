/- THE ABSTRACT MACHINE, TYPED. -/
import Derived.Test.YtmidjldjkbljjaaGreatDoorAmFin
set_option linter.unusedVariables false
set_option linter.unusedSimpArgs false
namespace Go.AM
open Go.RowKit
structure Ad where
 T:Type
 enc:T→List AV
structure iE where
 T:Type
 enc:T→AV
def Bi {α:Type 1}:List (Nat×α)→Nat→Option α
 |[],_=>none
 |(j,v)::l,i=>cond (Nat.beq j i) (some v) (Bi l i)
structure jL where
 elem:TypeId→Option Ad
 val:TypeId→Option iE
 res:Nat→Option iE
 ptr:Option Ad:=none
def Ai {T:Type} (enc:T→List AV):Option T→AV
 |some x=> .ref (enc x)
 |none=> .ri
def aO (K V:iE) (l:List (K.T×V.T)):List AV×List AV:=(l.map fun p=>K.enc p.1,l.map fun p=>V.enc p.2)
section
variable {R:Type}
@[irreducible] def check (p:Prop) [Decidable p] (x:Option R):Option R:=if p then x else none
@[irreducible] def bl {α:Type} (xs:List α) (i:Int) (k:α→Option R):Option R:=
 if 0≤i then match xs[i.toNat]? with
  |some x=>k x
  |none=>none
 else none
@[irreducible] def ic {α:Type} (xs:List α) (i:Nat) (k:α→Option R):Option R:=
 match xs[i]? with
 |some x=>k x
 |none=>none
@[irreducible] def rU (c:Option (AV×List (Nat×Ob))) (k:AV→Option R):Option R:=
 match c with
 |some (r,[])=>k r
 |_=>none
@[irreducible] def zu (c:Option (AV×List (Nat×Ob))) (nm e sz:Nat) (k:AV→List (List AV)→Option R):Option R:=
 match c with
 |some (r,[(LJ, .row e' sz' xs)])=>bif Nat.beq nm LJ&&Nat.beq e e'&&Nat.beq sz sz' then k r xs else none
 |_=>none
@[irreducible] def BF (x:Option (Option AV)) (k:AV→Option R) (z:Option R):Option R:=
 match x with
 |some (some v)=>k v
 |some none=>z
 |none=>none
@[irreducible] def I6 (x:Option (List AV×List AV)) (k:List AV×List AV→Option R):Option R:=
 match x with
 |some p=>k p
 |none=>none
@[irreducible] noncomputable def fD {α T:Type} (enc:T→α) (c:α) (k:T→Option R):Option R:=
 open Classical in if hx : ∃ d, enc d = c then k hx.choose else none
@[irreducible] def qg (c:Option (AV×List (Nat×Ob))) (k:AV→List (Nat×Ob)→Option R):Option R:=
 match c with
 |some (r,l)=>k r l
 |none=>none
@[irreducible] def aS (nm:Nat) (l:List (Nat×Ob)) (k:Ob→List (Nat×Ob)→Option R):Option R:=
 match l with
 |(LJ,o)::l=>bif Nat.beq nm LJ then k o l else none
 |[]=>none
@[irreducible] def kO (l:List (Nat×Ob)) (k:Option R):Option R:=
 match l with
 |[]=>k
 |_=>none
@[irreducible] noncomputable def ct (o o':Ob) (k:Option R):Option R:=open Classical in if o=o' then k else none
@[irreducible] def gE (e sz:Nat) (o:Ob) (k:List (List AV)→Option R):Option R:=
 match o with
 | .row e' sz' xs=>bif Nat.beq e e'&&Nat.beq sz sz' then k xs else none
 |_=>none
@[irreducible] def nE (kt et:Nat) (o:Ob) (k:List AV×List AV→Option R):Option R:=
 match o with
 | .mp k' e' ks vs=>bif Nat.beq kt k'&&Nat.beq et e' then k (ks,vs) else none
 |_=>none
@[irreducible] def Tt (a:AV) (k:List AV→Option R):Option R:=
 match a with
 | .ref cs=>k cs
 |_=>none
@[irreducible] def QZ (x:Option (Option Nat)) (k:Bool→Option R):Option R:=
 match x with
 |some r=>k r.isSome
 |none=>none
@[irreducible] def su (x:Option (List UInt8)) (k:List UInt8→Option R):Option R:=
 match x with
 |some b=>k b
 |none=>none
def FN (key:AV) (ks:List AV) (vs:List (Option (List (List AV)))):Option (List (List AV)×List (Option (List (List AV)))):=
 match gG key ks with
 |some (some i)=>match vs[i]? with
  |some (some xs)=>some (xs,vs.set i none)
  |_=>none
 |some none=>some ([],vs)
 |none=>none
@[irreducible] def JJ (x:Option (List (List AV)×List (Option (List (List AV))))) (k:List (List AV)→List (Option (List (List AV)))→Option R):Option R:=
 match x with
 |some p=>k p.1 p.2
 |none=>none
@[irreducible] def EA (x:Option (List AV×List (Option (List (List AV))))) (k:List AV×List (Option (List (List AV)))→Option R):Option R:=
 match x with
 |some p=>k p
 |none=>none
@[irreducible] def PV (x:Option (List (List (List AV)))) (k:List (List (List AV))→Option R):Option R:=
 match x with
 |some l=>k l
 |none=>none
def c8 (K:iE) (E:Ad) (l:List (K.T×Option (List E.T))):List AV×List (Option (List (List AV))):=(l.map fun p=>K.enc p.1,l.map fun p=>p.2.map (List.map E.enc))
def lg {α:Type} (c:Option α) (k:α→Option R):Option R:=
 match c with
 |some r=>k r
 |none=>none
noncomputable def HD (C:jL) (e:TypeId) (c:List AV) (k:List AV→Option R):Option R:=
 match C.elem e with
 |some d=>fD d.enc c fun x=>k (d.enc x)
 |none=>k c
noncomputable def TB (C:jL) (e:TypeId) (c:List (List AV)) (k:List (List AV)→Option R):Option R:=
 match C.elem e with
 |some d=>fD (List.map d.enc) c fun x=>k (x.map d.enc)
 |none=>k c
noncomputable def YC (C:jL) (t:TypeId) (c:AV) (k:AV→Option R):Option R:=
 match C.val t with
 |some d=>fD d.enc c fun x=>k (d.enc x)
 |none=>k c
noncomputable def S9 (C:jL) (kt et:TypeId) (p:List AV×List AV) (k:List AV×List AV→Option R):Option R:=
 match C.val kt,C.val et with
 |some K,some V=>fD (aO K V) p fun l=>k (aO K V l)
 |_,_=>k p
noncomputable def mrK (C:jL) (kt e:TypeId) (p:List AV×List (Option (List (List AV)))) (k:List AV×List (Option (List (List AV)))→Option R):Option R:=
 match C.val kt,C.elem e with
 |some K,some E=>fD (c8 K E) p fun l=>k (c8 K E l)
 |_,_=>k p
noncomputable def mpK (C:jL) (kt e:TypeId) (sz:Nat) (p:List AV×List AV) (k:List AV×List AV→Option R):Option R:=
 match C.val kt,C.elem e with
 |some K,some E=>fD (aO K ⟨List E.T,fun x=> .cm sz (x.map E.enc)⟩) p fun l=>k (aO K ⟨List E.T,fun x=> .cm sz (x.map E.enc)⟩ l)
 |_,_=>k p
noncomputable def L3 (C:jL) (o o':Ob) (k:Ob→Option R):Option R:=
 match o with
 | .row e sz _=>gE e sz o' fun xs=>TB C e xs fun xs=>k (.row e sz xs)
 | .mp kt et _ _=>nE kt et o' fun p=>S9 C kt et p fun p=>k (.mp kt et p.1 p.2)
 |o=>ct o' o (k o)
noncomputable def DZ (C:jL) (keep:List Nat):List (Nat×Ob)→List (Nat×Ob)→(List (Nat×Ob)→Option R)→Option R
 |[],l',k=>kO l' (k [])
 |(nm,o)::l,l',k=>aS nm l' fun o' l''=>bif keep.contains nm then ct o' o (DZ C keep l l'' fun os=>k ((nm,o)::os)) else L3 C o o' fun o2=>DZ C keep l l'' fun os=>k ((nm,o2)::os)
noncomputable def Jf (C:jL) (g:Nat) (c:AV) (k:AV→Option R):Option R:=
 match C.res g with
 |some d=>fD d.enc c fun x=>k (d.enc x)
 |none=>k c
noncomputable def Kj (C:jL) (a:AV) (k:AV→Option R):Option R:=
 Tt a fun cs=>match C.ptr with
  |some d=>fD d.enc cs fun x=>k (.ref (d.enc x))
  |none=>k (.ref cs)
def pJ (lo:Option SV) (dflt:Nat) (hi:Nat) (k:Nat→Option R):Option R:=
 match lo with
 |none=>k dflt
 |some (.pv (.int _ i))=>check (0≤i∧i≤hi) (k i.toNat)
 |some _=>none
noncomputable def sn:List (Nat×Ob)→List (Nat×Ob)→Option R→Option R
 |[],l',k=>kO l' k
 |(nm,o)::l,l',k=>aS nm l' fun o' l''=>ct o' o (sn l l'' k)
noncomputable def Fi (P:Program) (C:jL) (h:Hint) (F:dm) (st:St) (c:Call) (f:Operand) (k:AV→Option R):Option R:=
 match rH P h st c f with
 |some (g,args)=>
  bif distinct (fS st args)&&Nat.blt (fS st args).length 10000&&args.all (SV.closed (fS st args)) then
   match gj st (fS st args) (j5 (eM (fS st args))) (eM (fS st args)) with
   |some bU=>qg (F g (args.map (SV.mw (j5 (eM (fS st args))))) bU) fun r l=>sn bU l (Jf C g r fun r=>bif r.ig then k r else none)
   |none=>none
  else none
 |none=>none
noncomputable def qT (P:Program) (C:jL) (h:Hint) (F:dm) (o:Oper) (st:St) (k:SV→Option R):Option R:=
 match o.op with
 | .pick c a b=>match bw P 0 st c with
  |some (.pv (.bool t))=>bif t then lg (bw P o.type st a) k else lg (bw P o.type st b) k
  |_=>none
 | .nilCheck x=>match bw P 0 st x with
  |some (.pv a)=>Kj C a fun a=>k (.pv a)
  |_=>lg (cR P o st) k
 | .indexAddr t x ix=>match P.underlying t with
  |some (.array n e)=>lg (yd P st n e x ix) k
  |_=>match isSlice P t,bw P t st x,bw P 0 st ix with
  |some (e,s),some (.pv (.cm sz xs)),some (.pv (.int _ i))=>bif Nat.beq s sz then bl xs i fun c=>HD C e c fun c=>k (.cp c) else none
  |some (_,s),some (.row id),some (.pv (.int _ i))=>match st.ob id with
   |some (.row _ sz xs)=>bif Nat.beq s sz then check (0≤i∧i.toNat<xs.length) (k (.rp id sz i.toNat 0)) else none
   |_=>none
  |some (_,s),some (.sub id sz lo hi),some (.pv (.int _ i))=>bif Nat.beq s sz then check (0≤i∧i.toNat<hi-lo) (k (.rp id sz (lo+i.toNat) 0)) else none
  |_,_,_=>none
 | .index t x ix=>match P.underlying t,bw P t st x,bw P 0 st ix with
  |some .string,some (.pv (.str s)),some (.pv (.int _ i))=>bl s i fun b=>k (.pv (.int .u8 b.toNat))
  |_,_,_=>none
 | .load t x=>match bw P 0 st x with
  |some (.rp id sz i off)=>match st.ob id with
   |some (.row e sz' xs)=>bif Nat.beq sz sz' then ic xs i fun c=>HD C e c fun c=>lg (eB P t (c.drop off)) fun v=>k (.pv v) else none
   |_=>none
  |_=>lg (cR P o st) k
 | .binOp op t x y _=>match (bw P t st x).bind eL,(bw P t st y).bind eL with
  |some (.int ka a),some (.int kb b)=>match op with
   | .quo=>bif ka==kb then check (b≠0) (k (.pv (.int ka (ka.wrap (a.tdiv b))))) else none
   | .rem=>bif ka==kb then check (b≠0) (k (.pv (.int ka (a.tmod b)))) else none
   | .shl=>check (0≤b) (k (.pv (.int ka (ka.wrap (a *2^ min b.toNat ka.bits)))))
   | .shr=>check (0≤b) (k (.pv (.int ka (a.fdiv (2^ min b.toNat ka.bits)))))
   |_=>lg (cR P o st) k
  |some (.str a),some (.str b)=>match op with
   | .add=>check (a.length+b.length≤9223372036854775807) (k (.pv (.str (a++b))))
   |_=>lg (cR P o st) k
  |_,_=>lg (cR P o st) k
 | .slice t x lo hi none=>match P.underlying t,bw P t st x,fR P st lo,fR P st hi with
  |some .string,some (.pv (.str s)),some lo,some hi=>pJ hi s.length s.length fun h=>pJ lo 0 h fun l=>k (.pv (.str ((s.take h).drop l)))
  |some (.slice _),some (.pv (.cm sz xs)),some lo,some hi=>match isSlice P t with
   |some (_,s)=>bif Nat.beq s sz then pJ hi xs.length xs.length fun h=>pJ lo 0 h fun l=>k (.pv (.cm sz ((xs.take h).drop l))) else none
   |none=>none
  |some (.slice _),some (.row id),some lo,some hi=>match isSlice P t,st.ob id with
   |some (_,s),some (.row _ sz xs)=>bif Nat.beq s sz then pJ hi xs.length xs.length fun h=>pJ lo 0 h fun l=>k (.sub id sz l h) else none
   |_,_=>none
  |some (.slice _),some (.sub id sz a b),some lo,some hi=>match isSlice P t with
   |some (_,s)=>bif Nat.beq s sz then pJ hi (b-a) (b-a) fun h=>pJ lo 0 h fun l=>k (.sub id sz (a+l) (a+h)) else none
   |none=>none
  |_,_,_,_=>none
 | .convert src dst x=>match P.underlying src,P.underlying dst with
  |some (.slice e),some .string=>match P.underlying e,gC P e,(bw P src st x).bind (elems st) with
   |some (.int .u8),some 1,some (1,xs)=>su (bytesOf xs) fun b=>k (.pv (.str b))
   |_,_,_=>none
  |_,_=>lg (cR P o st) k
 | .lookup t x kx ok=>bif jo h x&& !ok then none else match P.underlying t with
  |some (.map kt et)=>match (bw P t st x).bind (zI st),(bw P kt st kx).bind eL with
   |some ks,some key=>bif ok&&fc P kt key&&(je P et).isSome then QZ (gG key ks) fun b=>k (.two .any b) else none
   |_,_=>match (bw P t st x).bind (maps st),(bw P kt st kx).bind eL with
   |some (ks,vs),some key=>bif fc P kt key then BF (IL key ks vs) (fun v=>YC C et v fun v=>k (.pv (found ok v true))) (lg (je P et) fun z=>k (.pv (found ok z false))) else none
   |_,_=>none
  |_=>none
 | .call c=>match c.callee with
  | .value f=>bif o.dst.any h.stay.contains&&wide st c f then Fi P C h F st c f fun r=>k (.pv r) else
   bif wide st c f||c.args.toList.any (fun x=>(ji h st x).isSome) then none else
   match bw P 0 st f,ff P st c.args.toList c.argTypes.toList with
   |some (.pv (.fn g caps)),some vs=>rU (F g ((vs++caps).map .pv) []) fun r=>Jf C g r fun r=>bif (!(c.args.toList.any (j7 st))||r.plain)&&r.ig then k (.pv r) else none
   |_,_=>none
  |_=>lg (r6 P c st) k
 |_=>lg (cM P h F o st) k
noncomputable def tX (P:Program) (C:jL) (st:St) (t:TypeId) (m kx x:Operand) (k:St→Option R):Option R:=
 match P.underlying t with
 |some (.map kt et)=>match Lq P st et x with
  |some st'=>match bw P t st' m,(bw P kt st' kx).bind eL,(bw P et st' x).bind eL with
   |some (.row id),some key,some v=>match st'.ob id with
    |some (.mp k' e' ks vs)=>bif fc P kt key&&v.BM then
      I6 (q9 key v ks vs) fun p=>S9 C kt et p fun p=>k { st' with ob:=put st'.ob id (some (.mp k' e' p.1 p.2)) }
     else none
    |_=>none
   |_,_,_=>none
  |none=>none
 |_=>none
noncomputable def vi (P:Program) (C:jL) (st:St) (t:TypeId) (m kx:Operand) (k:St→Option R):Option R:=
 match P.underlying t with
 |some (.map kt et)=>match bw P t st m,(bw P kt st kx).bind eL with
  |some (.row id),some key=>match st.ob id with
   |some (.mp k' e' ks vs)=>bif fc P kt key then
     I6 (Yf key ks vs) fun p=>S9 C kt et p fun p=>k { st with ob:=put st.ob id (some (.mp k' e' p.1 p.2)) }
    else none
   |_=>none
  |_,_=>none
 |_=>none
noncomputable def LI (P:Program) (C:jL) (st:St) (t:TypeId) (m kx:Operand) (d:Nat) (k:St→Option R):Option R:=
 match El P st t m kx with
 |some (et,id,key,k',e,sz,ks,vs)=>bif Nat.beq id d then none else match je P et,isSlice P et with
  |some (.cm _ []),some (e',s)=>bif Nat.beq e e'&&Nat.beq s sz&&Nat.blt 0 s then
    JJ (FN key ks vs) fun xs vs'=>TB C e xs fun xs=>mrK C k' e (ks,vs') fun p=>
     k ((St.new { st with ob:=put st.ob id (some (.mr k' e sz p.1 p.2)) } d (.row e sz xs)).set (some d) (.row d))
   else none
  |_,_=>none
 |none=>none
noncomputable def Nv (P:Program) (C:jL) (st:St) (t:TypeId) (m kx x:Operand) (k:St→Option R):Option R:=
 match El P st t m kx with
 |some (et,id,key,k',e,sz,ks,vs)=>match x with
  | .const (.slice none 0 0)=>match isSlice P et with
   |some (e',s)=>bif Nat.beq e e'&&Nat.beq s sz&&Nat.blt 0 s then
     EA (q9 key (some []) ks vs) fun p=>mrK C k' e p fun p=>k { st with ob:=put st.ob id (some (.mr k' e sz p.1 p.2)) }
    else none
   |none=>none
  |x=>match bw P et st x with
   |some (.row j)=>match st.ob j with
    |some (.row e' s xs)=>bif Nat.beq e e'&&Nat.beq s sz&&Nat.blt j 10000 then
      EA (q9 key (some xs) ks vs) fun p=>mrK C k' e p fun p=>k { (st.bV j) with ob:=put (st.bV j).ob id (some (.mr k' e sz p.1 p.2)) }
     else none
    |_=>none
   |_=>none
 |none=>none
noncomputable def x4 (P:Program) (C:jL) (h:Hint) (F:dm) (st:St) (c:Call) (f:Operand) (d:Option Nat) (k:St→Option R):Option R:=
 match (bw P 0 st f).bind Uo,pH P h st c.args.toList c.argTypes.toList with
 |some (g,caps),some vs=>
  let args:=vs++caps
  let ids:=eZ st 200 (args.flatMap SV.ids) []
  let mv:=tZ (d.any h.stay.contains) st (yL args)
  let m:=iz mv 0 ids
  let names:=m.map (·.2)
  let ρ:=j5 m
  bif distinct ids&&Nat.blt ids.length 10000&&args.all (SV.closed ids) then
   match gj st ids ρ m with
   |some bU=>qg (F g (args.map (SV.mw ρ)) bU) fun r l=>DZ C ((m.filter fun p=>h.keep.contains p.1).map (·.2)) bU l fun dP=>Jf C g r fun r=>match lN names (j5 (swap m)) m dP with
    |some back=>bif r.ig then
      let st1:=mu (ids.filter mv) st
      k (St.set { env:=st1.env,ob:=fun i=>(find back i).orElse fun _=>st1.ob i } d (.pv r)) else none
    |none=>none
   |none=>none
  else none
 |_,_=>none
noncomputable def stepT (P:Program) (C:jL) (h:Hint) (F:dm) (o:Oper) (st:St) (k:St→Option R):Option R:=
 match o.op with
 | .makeSlice t l c=>match o.dst,isSlice P t,(bw P 0 st l).bind eL,(bw P 0 st c).bind eL with
  |some d,some (e,s),some (.int _ l),some (.int _ c)=>match zeroCells P e,P.info? e with
   |some z,some i=>bif Nat.blt 0 s&&Nat.beq z.length s then check (0≤l∧l≤c∧i.bytes *c.toNat≤281474976710656∧c≤9223372036854775807)
     (k ((st.new d (.row e s (List.replicate l.toNat z))).set (some d) (.row d))) else none
   |_,_=>none
  |_,_,_,_=>none
 | .store t x y=>match o.dst,bw P 0 st x,bw P t st y with
  |none,some (.rp id sz i off),some (.pv v)=>match st.ob id,gC P t with
   |some (.row e sz' xs),some n=>bif Nat.beq sz sz'&&Nat.beq v.cells.length n&&v.BM then
     ic xs i fun c=>HD C e c fun c=>bif Nat.ble (off+n) c.length then k { st with ob:=put st.ob id (some (.row e sz' (xs.set i (c.take off++v.cells++c.drop (off+n))))) } else none
    else none
   |_,_=>none
  |none,some a,some v=>lg (storeAt P t st a v) k
  |_,_,_=>none
 | .call c=>match c.callee with
  | .builtin .append=>match o.dst,c.args.toList,c.argTypes.toList with
   |some d,[x,y],[t,t']=>match isSlice P t,bw P t st x,bw P t' st y with
    |some (e,s),some (.row id),some y=>match st.ob id,elems st y,P.info? e with
     |some (.row e' sz xs),some (sz',ys),some i=>
      bif Nat.beq t t'&&Nat.beq e e'&&Nat.beq s sz&&Nat.beq sz sz'&&Nat.blt 0 sz&&(i.zero.map (fun z=>z.cells.size)==some sz)&&lQ id then
       check ((xs.length+ys.length) *i.bytes≤140737488355328∧xs.length+ys.length≤4611686018427387904) (k ((st.new id (.row e sz (xs++ys))).set (some d) (.row id)))
      else none
     |_,_,_=>none
    |_,_,_=>none
   |_,_,_=>none
  | .builtin .delete=>match o.dst,c.args.toList,c.argTypes.toList with
   |none,[m,kx],t::_=>vi P C st t m kx k
   |_,_,_=>none
  | .builtin .clear=>match o.dst,c.args.toList,c.argTypes.toList with
   |none,[x],[t]=>match isSlice P t,bw P t st x with
    |some (e,s),some (.sub id sz lo hi)=>match st.ob id,zeroCells P e with
     |some (.row e' sz' xs),some z=>bif Nat.beq s sz&&Nat.beq sz sz'&&Nat.beq z.length sz&&Nat.beq e e'&&Nat.blt 0 sz then
       check (hi≤xs.length) (k { st with ob:=put st.ob id (some (.row e' sz' (xs.take lo++List.replicate (hi-lo) z++xs.drop hi))) }) else none
     |_,_=>none
    |_,_=>none
   |_,_,_=>none
  | .value f=>bif o.dst.any h.stay.contains&&wide st c f then qT P C h F o st fun v=>k (st.set o.dst v) else bif wide st c f then x4 P C h F st c f o.dst k else bif c.args.toList.any (fun x=>(ji h st x).isSome) then
    match bw P 0 st f,tW P h st c.args.toList c.argTypes.toList with
    |some (.pv (.fn g caps)),some (vs,[id])=>match st.ob id with
     |some (.row e sz xs)=>zu (F g (vs++caps.map .pv) [(10000, .row e sz xs)]) 10000 e sz fun r xs'=>Jf C g r fun r=>TB C e xs' fun xs'=>match r with
       | .self n=>bif lQ id then check (n≤xs'.length) (k ((st.new id (.row e sz (xs'.take n))).set o.dst (.row id))) else none
       |r=>bif r.plain then k (St.set { st with ob:=put st.ob id (some (.row e sz xs')) } o.dst (.pv r)) else none
     |_=>none
    |_,_=>none
   else bif c.args.toList.any (j7 st) then
    match bw P 0 st f,ff P st c.args.toList c.argTypes.toList with
    |some (.pv (.fn g caps)),some vs=>rU (F g ((vs++caps).map .pv) []) fun r=>Jf C g r fun r=>bif r.plain&&r.ig then k (st.set o.dst (.pv r)) else
      match mS.dV st c.args.toList with
      |some st'=>match bw P 0 st' f,ff P st' c.args.toList c.argTypes.toList with
       |some (.pv (.fn g' Qj)),some vs'=>bif c.args.toList.any (j7 st') then none else rU (F g' ((vs'++Qj).map .pv) []) fun r=>Jf C g' r fun r=>bif r.ig then k (st'.set o.dst (.pv r)) else none
       |_,_=>none
      |none=>none
    |_,_=>none
   else qT P C h F o st fun v=>k (st.set o.dst v)
  |_=>qT P C h F o st fun v=>k (st.set o.dst v)
 | .mapUpdate t m kx x=>match o.dst with
  |none=>bif jo h m then Nv P C st t m kx x k else tX P C st t m kx x k
  |some _=>none
 | .insert t m kx x=>match o.dst with
  |none=>bif jo h m then Nv P C st t m kx x k else tX P C st t m kx x k
  |some _=>none
 | .lookup t m kx ok=>bif jo h m&& !ok then
   match o.dst with
   |some d=>LI P C st t m kx d k
   |none=>none
  else qT P C h F o st fun v=>k (st.set o.dst v)
 | .range t x=>match o.dst,P.underlying t,(bw P t st x).bind eL with
  |some d,some .string,some (.str s)=>k ((st.new d (.it s 0)).set (some d) (.ptr d 0))
  |_,_,_=>none
 | .next x true=>match o.dst,bw P 0 st x with
  |some d,some (.ptr id 0)=>match st.ob id with
   |some (.it s pos)=>bif Nat.blt pos s.length then
     k (St.set { st with ob:=put st.ob id (some (.it s (pos+(Utf8.decode ⟨s.toArray⟩ pos).2))) } (some d) (.pv (.fG [.bool true, .int .i64 pos, .int .i32 (Utf8.decode ⟨s.toArray⟩ pos).1])))
    else k (st.set (some d) (.pv (.fG [.bool false])))
   |_=>none
  |_,_=>none
 | .assign _| .buildSlice _ _ _| .box _ _| .alloc _| .makeMap _ _| .makeFunc _ _ _| .build _ _=>lg (step P h F o st) k
 |_=>qT P C h F o st fun v=>k (st.set o.dst v)
def N0 (ops:Array Oper) (o:Oper) (st:St) (k:Bool→St→Option R):Option R:=
 match o.guard with
 |none=>k true st
 |some (j,want)=>match (ops[j]?).bind (·.dst) with
  |some d=>match st.env d with
   |some (.pv (.bool true))=>k want st
   |some (.pv (.bool false))=>k (!want) st
   |some .undef=>k false st
   |_=>none
  |none=>none
def guards (ops:Array Oper) (i:Nat):Bool:=ops.toList.any fun o=>match o.guard,o.op with
 |some (j,_),_=>Nat.beq j i
 |none,_=>false
def Gw (b:Bool) (d:Option Nat) (st:St) (k:St→Option R):Option R:=
 bif b then
  match d with
  |some d=>match st.env d with
   |some (.pv (.bool t))=>bif t then k (st.set (some d) (.pv (.bool true))) else k (st.set (some d) (.pv (.bool false)))
   |_=>k st
  |none=>k st
 else k st
noncomputable def w9 (P:Program) (C:jL) (h:Hint) (F:dm) (ops:Array Oper):Nat→List Oper→St→(St→Option R)→Option R
 |_,[],st,k=>k st
 |i,o::l,st,k=>N0 ops o st fun b st=>bif b then stepT P C h F o st fun st=>Gw (guards ops i) o.dst st fun st=>w9 P C h F ops (i+1) l st k
   else w9 P C h F ops (i+1) l (st.set o.dst .undef) k
noncomputable def iR (P:Program) (C:jL) (h:Hint) (F:dm) (ops:Array Oper) (fresh:List (Nat×Nat)):Nat→List Oper→List (Nat×dY)→St→(St→Option R)→Option R
 |_,[],_,st,k=>k st
 |i,o::l,prev,st,k=>N0 ops o st fun b st=>bif b then
    bif isF h st o then
     qT P C h F o st fun v=>bif iY ops fresh i v&&e9 ops prev i (sI P h ops o st v) then
      Gw (guards ops i) o.dst (st.set o.dst v) fun st'=>iR P C h F ops fresh (i+1) l ((i,sI P h ops o st v)::prev) st' k else none
    else match o.op,o.dst with
     | .store t x y,none=>match bw P 0 st x,bw P t st y with
      |some sa,some sv=>match targetId sa with
       |some id=>bif iY ops fresh i sv&&e9 ops prev i (fL ops o st id) then
         stepT P C h F o st fun st'=>iR P C h F ops fresh (i+1) l ((i,fL ops o st id)::prev) st' k else none
       |none=>none
      |_,_=>none
     | .alloc t,some d=>bif h.rows.contains d then none else match zeroCells P t with
      |some z=>bif e9 ops prev i (gu ops o d) then
        iR P C h F ops fresh (i+1) l ((i,gu ops o d)::prev) { env:=put st.env d (some (.ptr d 0)),ob:=put st.ob d (some (.box t (z.map .pv))) } k else none
      |none=>none
     | .call c,d=>match DR P st fresh ops c d with
      |some id=>bif e9 ops prev i (iV ops o st (d.getD 0) id) then
        stepT P C h F o st fun st'=>iR P C h F ops fresh (i+1) l ((i,iV ops o st (d.getD 0) id)::prev) st' k
       else none
      |none=>bif fresh.all (fun p=>Nat.blt p.2 i)&&e9 ops prev i eH then
        stepT P C h F o st fun st'=>iR P C h F ops fresh (i+1) l ((i,eH)::prev) st' k
       else none
     | .assign _,_| .makeSlice _ _ _,_| .buildSlice _ _ _,_| .box _ _,_| .makeMap _ _,_| .mapUpdate _ _ _ _,_| .insert _ _ _ _,_| .lookup _ _ _ _,_| .range _ _,_| .next _ _,_=>bif fresh.all (fun p=>Nat.blt p.2 i)&&e9 ops prev i eH then
       stepT P C h F o st fun st'=>iR P C h F ops fresh (i+1) l ((i,eH)::prev) st' k
      else none
     |_,_=>none
   else bif e9 ops prev i (nO ops o st) then iR P C h F ops fresh (i+1) l ((i,nO ops o st)::prev) (st.set o.dst .undef) k else none
@[irreducible] noncomputable def zH (P:Program) (h:Hint) (F:dm) (c:Code) (st:St) (k:Ex→St→Option R):Option R:=
 open Classical in if hx : ∃ x n, exec P h F n (.loop c) st = some x then k hx.choose.1 hx.choose.2 else none
def seqK (rb:St→(Ex→St→Option R)→Option R) (k:Ex→St→Option R):Ex→St→Option R:=fun e st=>match e with
 | .normal=>rb st k
 |e=>k e st
def Kb (id:Nat) (k:Ex→St→Option R):Ex→St→Option R:=fun e st=>match e with
 | .exit j=>bif Nat.beq j id then k .normal st else k (.exit j) st
 |e=>k e st
noncomputable def JY (P:Program) (h:Hint) (F:dm) (c:Code) (k:Ex→St→Option R):Ex→St→Option R:=fun e st=>match e with
 | .normal=>zH P h F c (h.canon (cu c) st) k
 |e=>k e st
noncomputable def wV (C:jL):List Nat→St→(St→Option R)→Option R
 |[],st,k=>k st
 |id::l,st,k=>match st.ob id with
  |some (.mr kt e sz ks vs)=>bif s4 id then
    PV (lM vs) fun xs=>mpK C kt e sz (ks,xs.map (.cm sz)) fun p=>
     wV C l { env:=fun i=>(st.env i).map (SV.cQ id (.mp p.1 p.2)),ob:=put (fun i=>(st.ob i).map (Ob.cQ id (.mp p.1 p.2))) id none } k
   else none
  |_=>match st.Gk id with
   |some st'=>wV C l st' k
   |none=>none
noncomputable def Tw (C:jL) (h:Hint) (id:Nat) (st:St) (k:St→Option R):Option R:=
 match find h.oV id with
 |some l=>wV C l st k
 |none=>k st
noncomputable def iI (P:Program) (C:jL) (h:Hint) (F:dm):Code→St→(Ex→St→Option R)→Option R
 | .skip,st,k=>k .normal st
 | .label _,st,k=>k .normal st
 | .region id ops draw,st,k=>Tw C h id st fun st=>
  bif draw then
   bif lC 0 ops.toList&&mq (dS 0 ops.toList) then iR P C h F ops (dS 0 ops.toList) 0 ops.toList [] (gW (dS 0 ops.toList) st) (k .normal) else none
  else w9 P C h F ops 0 ops.toList st (k .normal)
 | .seq a b,st,k=>match find h.blk (cu a) with
  |some x=>check (x.1 st=true) (k (W8 (x.2 st).1) (x.2 st).2)
  |none=>iI P C h F a st (seqK (iI P C h F b) k)
 | .cond c a b,st,k=>match bw P 0 st c with
  |some (.pv (.bool t))=>bif t then iI P C h F a st k else iI P C h F b st k
  |_=>none
 | .block id c,st,k=>iI P C h F c st (Kb id k)
 | .loop c,st,k=>zH P h F c (h.canon (cu c) st) k
 | .exit id,st,k=>k (.exit id) st
 | .ret,st,k=>k .ret st
 | .scope c,st,k=>iI P C h F c st k
 |_,_,_=>none
noncomputable def vV (P:Program) (C:jL) (h:Hint) (F:dm) (key:Nat):Code→(Ex→St→Option R)→Option (Code×(Ex→St→Option R))
 | .seq a b,k=>match find h.blk (cu a) with
  |some _=>none
  |none=>match vV P C h F key a (seqK (iI P C h F b) k) with
   |some x=>some x
   |none=>vV P C h F key b k
 | .cond _ a b,k=>match vV P C h F key a k with
  |some x=>some x
  |none=>vV P C h F key b k
 | .block id c,k=>vV P C h F key c (Kb id k)
 | .loop c,k=>bif Nat.beq (cu c) key then some (c,k) else vV P C h F key c (JY P h F c k)
 | .scope c,k=>vV P C h F key c k
 |_,_=>none
end
noncomputable def Qf (P:Program) (C:jL) (H:Nat→Hint) (dg:dm) (f:Nat) (args:List SV) (bU:List (Nat×Ob)):Option (AV×List (Nat×Ob)):=
 match P.funcs[f]? with
 |some fn=>match fn.body with
  |some c=>bif Nat.ble args.length fn.ntmps&&(bU.map (·.1)).all (fun i=> !(s4 i)) then iI P C (H f) (run P H dg) c { env:=find (qN 0 args),ob:=find bU } (QA P fn (bU.map (·.1))) else none
  |none=>none
 |none=>none
noncomputable def zC (P:Program) (C:jL) (H:Nat→Hint) (dg:dm) (f key:Nat) (names:List Nat) (env:List (Nat×SV)) (ob:List (Nat×Ob)):Option (AV×List (Nat×Ob)):=
 match P.funcs[f]? with
 |some fn=>match fn.body with
  |some c=>match vV P C (H f) (run P H dg) key c (QA P fn names) with
   |some (cl,k)=>zH P (H f) (run P H dg) cl { env:=find env,ob:=find ob } k
   |none=>none
  |none=>none
 |none=>none
noncomputable def L0 (P:Program) (C:jL) (H:Nat→Hint) (dg:dm) (f key:Nat) (names:List Nat) (env:List (Nat×SV)) (ob:List (Nat×Ob)):Option (AV×List (Nat×Ob)):=
 match P.funcs[f]? with
 |some fn=>match fn.body with
  |some c=>match vV P C (H f) (run P H dg) key c (QA P fn names) with
   |some (cl,k)=>iI P C (H f) (run P H dg) cl ((H f).canon (cu cl) { env:=find env,ob:=find ob }) (JY P (H f) (run P H dg) cl k)
   |none=>none
  |none=>none
 |none=>none
section
variable {R:Type} {P:Program} {C:jL} {h:Hint} {F:dm}
theorem dB {α:Type} {c:Option α} {k:α→Option R} {r:R} (hv:lg c k=some r):∃x,c=some x∧k x=some r:=by
 cases c with
 |none=>simp [lg] at hv
 |some x=>exact ⟨x,rfl,hv⟩
theorem eV {p:Prop} [Decidable p] {x:Option R} {r:R} (hv:check p x=some r):p∧x=some r:=by
 unfold check at hv;split at hv
 ·exact ⟨‹_›,hv⟩
 ·cases hv
theorem D8 {α:Type} {xs:List α} {i:Int} {k:α→Option R} {r:R} (hv:bl xs i k=some r):0≤i∧∃x,xs[i.toNat]? =some x∧k x=some r:=by
 unfold bl at hv;split at hv
 ·rename_i h0
  split at hv
  ·rename_i x hx;exact ⟨h0,x,hx,hv⟩
  ·cases hv
 ·cases hv
theorem Ea {α:Type} {xs:List α} {i:Nat} {k:α→Option R} {r:R} (hv:ic xs i k=some r):∃x,xs[i]? =some x∧k x=some r:=by
 unfold ic at hv;split at hv
 ·rename_i x hx;exact ⟨x,hx,hv⟩
 ·cases hv
theorem uU {c:Option (AV×List (Nat×Ob))} {k:AV→Option R} {r:R} (hv:rU c k=some r):∃x,c=some (x,[])∧k x=some r:=by
 unfold rU at hv;split at hv
 ·rename_i x;exact ⟨x,rfl,hv⟩
 ·cases hv
theorem Kf {c:Option (AV×List (Nat×Ob))} {nm e sz:Nat} {k:AV→List (List AV)→Option R} {r:R} (hv:zu c nm e sz k=some r):∃x xs,c=some (x,[(nm, .row e sz xs)])∧k x xs=some r:=by
 unfold zu at hv;split at hv
 ·rename_i x LJ e' sz' xs
  replace hv:=bM hv
  obtain ⟨hb,hv⟩:=hv;simp only [Bool.and_eq_true] at hb;have h1:=beq_iff.1 hb.1.1;have h2:=beq_iff.1 hb.1.2;have h3:=beq_iff.1 hb.2;subst h1 h2 h3;exact ⟨x,xs,rfl,hv⟩
 ·cases hv
theorem lZ {α T:Type} {enc:T→α} {c:α} {k:T→Option R} {r:R} (hv:fD enc c k=some r):∃d,enc d=c∧k d=some r:=by
 unfold fD at hv;split at hv
 ·rename_i hx;exact ⟨_,hx.choose_spec,hv⟩
 ·cases hv
theorem uZ {e:TypeId} {c:List AV} {k:List AV→Option R} {r:R} (hv:HD C e c k=some r):k c=some r:=by
 unfold HD at hv;split at hv
 ·obtain ⟨x,rfl,hk⟩:=lZ hv;exact hk
 ·exact hv
theorem yM {e:TypeId} {c:List (List AV)} {k:List (List AV)→Option R} {r:R} (hv:TB C e c k=some r):k c=some r:=by
 unfold TB at hv;split at hv
 ·obtain ⟨x,rfl,hk⟩:=lZ hv;exact hk
 ·exact hv
theorem nv {g:Nat} {c:AV} {k:AV→Option R} {r:R} (hv:Jf C g c k=some r):k c=some r:=by
 unfold Jf at hv;split at hv
 ·obtain ⟨x,rfl,hk⟩:=lZ hv;exact hk
 ·exact hv
theorem Pu {t:TypeId} {c:AV} {k:AV→Option R} {r:R} (hv:YC C t c k=some r):k c=some r:=by
 unfold YC at hv;split at hv
 ·obtain ⟨x,rfl,hk⟩:=lZ hv;exact hk
 ·exact hv
theorem yp {kt et:TypeId} {c:List AV×List AV} {k:List AV×List AV→Option R} {r:R} (hv:S9 C kt et c k=some r):k c=some r:=by
 unfold S9 at hv;split at hv
 ·obtain ⟨x,rfl,hk⟩:=lZ hv;exact hk
 ·exact hv
theorem Lv {x:Option (Option AV)} {k:AV→Option R} {z:Option R} {r:R} (hv:BF x k z=some r):(∃v,x=some (some v)∧k v=some r)∨(x=some none∧z=some r):=by
 unfold BF at hv;split at hv
 ·exact .inl ⟨_,rfl,hv⟩
 ·exact .inr ⟨rfl,hv⟩
 ·cases hv
theorem Ez {x:Option (List AV×List AV)} {k:List AV×List AV→Option R} {r:R} (hv:I6 x k=some r):∃p,x=some p∧k p=some r:=by
 unfold I6 at hv;split at hv
 ·exact ⟨_,rfl,hv⟩
 ·cases hv
theorem A6 {c:Option (AV×List (Nat×Ob))} {k:AV→List (Nat×Ob)→Option R} {r:R} (hv:qg c k=some r):∃x l,c=some (x,l)∧k x l=some r:=by
 unfold qg at hv;split at hv
 ·exact ⟨_,_,rfl,hv⟩
 ·cases hv
theorem xK {nm:Nat} {l:List (Nat×Ob)} {k:Ob→List (Nat×Ob)→Option R} {r:R} (hv:aS nm l k=some r):∃o l',l=(nm,o)::l'∧k o l'=some r:=by
 unfold aS at hv;split at hv
 ·replace hv:=bM hv
  obtain ⟨hb,hv⟩:=hv;have:=beq_iff.1 hb;subst this;exact ⟨_,_,rfl,hv⟩
 ·cases hv
theorem En {l:List (Nat×Ob)} {k:Option R} {r:R} (hv:kO l k=some r):l=[]∧k=some r:=by
 unfold kO at hv;split at hv
 ·exact ⟨rfl,hv⟩
 ·cases hv
theorem vr {o o':Ob} {k:Option R} {r:R} (hv:ct o o' k=some r):o=o'∧k=some r:=by
 unfold ct at hv;split at hv
 ·exact ⟨‹_›,hv⟩
 ·cases hv
theorem J4 {e sz:Nat} {o:Ob} {k:List (List AV)→Option R} {r:R} (hv:gE e sz o k=some r):∃xs,o= .row e sz xs∧k xs=some r:=by
 unfold gE at hv;split at hv
 ·replace hv:=bM hv
  obtain ⟨hb,hv⟩:=hv;simp only [Bool.and_eq_true] at hb;have h1:=beq_iff.1 hb.1;have h2:=beq_iff.1 hb.2;subst h1 h2;exact ⟨_,rfl,hv⟩
 ·cases hv
theorem J3 {kt et:Nat} {o:Ob} {k:List AV×List AV→Option R} {r:R} (hv:nE kt et o k=some r):∃p,o= .mp kt et p.1 p.2∧k p=some r:=by
 unfold nE at hv;split at hv
 ·replace hv:=bM hv
  obtain ⟨hb,hv⟩:=hv;simp only [Bool.and_eq_true] at hb;have h1:=beq_iff.1 hb.1;have h2:=beq_iff.1 hb.2;subst h1 h2;exact ⟨(_,_),rfl,hv⟩
 ·cases hv
theorem OE {x:Option (Option Nat)} {k:Bool→Option R} {r:R} (hv:QZ x k=some r):∃q,x=some q∧k q.isSome=some r:=by
 unfold QZ at hv;split at hv
 ·exact ⟨_,rfl,hv⟩
 ·cases hv
theorem Hi {x:Option (List UInt8)} {k:List UInt8→Option R} {r:R} (hv:su x k=some r):∃b,x=some b∧k b=some r:=by
 unfold su at hv;split at hv
 ·exact ⟨_,rfl,hv⟩
 ·cases hv
theorem Mc {x:Option (List (List AV)×List (Option (List (List AV))))} {k:List (List AV)→List (Option (List (List AV)))→Option R} {r:R} (hv:JJ x k=some r):∃p,x=some p∧k p.1 p.2=some r:=by
 unfold JJ at hv;split at hv
 ·exact ⟨_,rfl,hv⟩
 ·cases hv
theorem BX {x:Option (List AV×List (Option (List (List AV))))} {k:List AV×List (Option (List (List AV)))→Option R} {r:R} (hv:EA x k=some r):∃p,x=some p∧k p=some r:=by
 unfold EA at hv;split at hv
 ·exact ⟨_,rfl,hv⟩
 ·cases hv
theorem N6 {x:Option (List (List (List AV)))} {k:List (List (List AV))→Option R} {r:R} (hv:PV x k=some r):∃l,x=some l∧k l=some r:=by
 unfold PV at hv;split at hv
 ·exact ⟨_,rfl,hv⟩
 ·cases hv
theorem BL {kt e:TypeId} {c:List AV×List (Option (List (List AV)))} {k:List AV×List (Option (List (List AV)))→Option R} {r:R} (hv:mrK C kt e c k=some r):k c=some r:=by
 unfold mrK at hv;split at hv
 ·obtain ⟨x,rfl,hk⟩:=lZ hv;exact hk
 ·exact hv
theorem Tf {kt e:TypeId} {sz:Nat} {c:List AV×List AV} {k:List AV×List AV→Option R} {r:R} (hv:mpK C kt e sz c k=some r):k c=some r:=by
 unfold mpK at hv;split at hv
 ·obtain ⟨x,rfl,hk⟩:=lZ hv;exact hk
 ·exact hv
theorem Jo {o o':Ob} {k:Ob→Option R} {r:R} (hv:L3 C o o' k=some r):k o'=some r:=by
 unfold L3 at hv;split at hv
 ·obtain ⟨xs,rfl,hk⟩:=J4 hv;exact yM hk
 ·obtain ⟨p,rfl,hk⟩:=J3 hv;exact yp hk
 ·obtain ⟨rfl,hk⟩:=vr hv;exact hk
theorem uY {keep:List Nat}:∀{l l':List (Nat×Ob)} {k:List (Nat×Ob)→Option R} {r:R},DZ C keep l l' k=some r→k l'=some r
 |[],l',k,r,hv=>by
  simp only [DZ] at hv;obtain ⟨rfl,hk⟩:=En hv;exact hk
 |(nm,o)::l,l',k,r,hv=>by
  simp only [DZ] at hv
  replace hv:=xK hv
  obtain ⟨o',l'',rfl,hv⟩:=hv;cases hkp:keep.contains nm with
  |true=>
   rw [hkp] at hv;obtain ⟨e,hv⟩:=vr hv;subst e;exact uY (k:=fun os=>k ((nm,o')::os)) hv
  |false=>
   rw [hkp] at hv;simp only [cond_false] at hv;exact uY (k:=fun os=>k ((nm,o')::os)) (Jo hv)
theorem Pd {a:AV} {k:List AV→Option R} {r:R} (hv:Tt a k=some r):∃cs,a= .ref cs∧k cs=some r:=by
 unfold Tt at hv;split at hv
 ·exact ⟨_,rfl,hv⟩
 ·cases hv
theorem HA {a:AV} {k:AV→Option R} {r:R} (hv:Kj C a k=some r):∃cs,a= .ref cs∧k (.ref cs)=some r:=by
 unfold Kj at hv;obtain ⟨cs,e,hv⟩:=Pd hv;refine ⟨cs,e,?_⟩;split at hv
 ·obtain ⟨x,e2,hv⟩:=lZ hv;rw [←e2];exact hv
 ·exact hv
theorem uw:∀{l l':List (Nat×Ob)} {k:Option R} {r:R},sn l l' k=some r→l'=l∧k=some r
 |[],l',k,r,hv=>by
  simp only [sn] at hv;obtain ⟨e,hk⟩:=En hv;exact ⟨e,hk⟩
 |(nm,o)::l,l',k,r,hv=>by
  simp only [sn] at hv;obtain ⟨o',l2,e1,h1⟩:=xK hv;obtain ⟨e2,h2⟩:=vr h1;obtain ⟨e3,h3⟩:=uw h2;exact ⟨by rw [e1,e2,e3],h3⟩
theorem Fj {st:St} {c:Call} {f:Operand} {k:AV→Option R} {r:R} (hv:Fi P C h F st c f k=some r):∃v,lz P h F st c f=some v∧k v=some r:=by
 unfold Fi at hv;split at hv
 ·rename_i g args ha
  obtain ⟨hb,hv⟩:=bM hv;split at hv
  ·rename_i bU hl
   obtain ⟨x,l,hx,hv⟩:=A6 hv;obtain ⟨e,h2⟩:=uw hv;subst e;obtain ⟨Eb,h3⟩:=bM (nv h2);refine ⟨x,?_,h3⟩;simp only [lz,ha,hb,cond_true,hl,hx,xd,Eb,Bool.and_self]
  ·cases hv
 ·cases hv
theorem gF {lo:Option SV} {d hi:Nat} {k:Nat→Option R} {r:R} (hv:pJ lo d hi k=some r):∃n,dW lo d hi=some n∧k n=some r:=by
 unfold pJ at hv;split at hv
 ·exact ⟨d,rfl,hv⟩
 ·rename_i q i
  obtain ⟨hc,hk⟩:=eV hv;exact ⟨i.toNat,by simp [dW,hc],hk⟩
 ·cases hv
theorem vX {o:Oper} {st:St} {k:SV→Option R} {r:R} (hv:qT P C h F o st k=some r):∃v,cM P h F o st=some v∧k v=some r:=by
 unfold qT at hv;split at hv
 ·rename_i c x y ho
  split at hv
  ·rename_i t hc
   cases t with
   |true=>
    obtain ⟨v,hx,hk⟩:=dB hv;exact ⟨v,by simp [cM,cR,ho,hc,hx],hk⟩
   |false=>
    obtain ⟨v,hx,hk⟩:=dB hv;exact ⟨v,by simp [cM,cR,ho,hc,hx],hk⟩
  ·cases hv
 ·rename_i x ho
  split at hv
  ·rename_i a hx
   obtain ⟨cs,rfl,hk⟩:=HA hv;exact ⟨_,by simp only [cM,cR,ho,hx],hk⟩
  ·obtain ⟨v,hp,hk⟩:=dB hv
   exact ⟨v,by simp only [cM,ho];exact hp,hk⟩
 ·rename_i t x ix ho
  split at hv
  ·rename_i n e hu
   obtain ⟨v,hx,hk⟩:=dB hv;exact ⟨v,by simp [cM,cR,ho,hu,hx],hk⟩
  ·rename_i hna
   have hp:cM P h F o st=wm P st t x ix:=by
    simp only [cM,ho,cR]
   rw [hp];split at hv
   ·rename_i e s sz xs q i hs hx hi
    replace hv:=bM hv
    obtain ⟨hb,hv⟩:=hv;have:=beq_iff.1 hb;subst this;obtain ⟨h0,c,hc,hk⟩:=D8 hv;exact ⟨_,by simp [wm,hs,hx,hi,h0,hc],uZ hk⟩
   ·rename_i e s id q i hs hx hi
    split at hv
    ·rename_i e' sz xs cU
     replace hv:=bM hv
     obtain ⟨hb,hv⟩:=hv;have:=beq_iff.1 hb;subst this;obtain ⟨hc,hk⟩:=eV hv;exact ⟨_,by simp [wm,hs,hx,hi,cU,hc],hk⟩
    ·cases hv
   ·rename_i e s id sz lo hi' q i hs hx hi
    replace hv:=bM hv
    obtain ⟨hb,hv⟩:=hv;have:=beq_iff.1 hb;subst this;obtain ⟨hc,hk⟩:=eV hv;exact ⟨_,by simp [wm,hs,hx,hi,hc],hk⟩
   ·cases hv
 ·rename_i t x ix ho
  split at hv
  ·rename_i s q i hu hx hi
   obtain ⟨h0,b,hb,hk⟩:=D8 hv;exact ⟨_,by simp [cM,cR,ho,hu,hx,hi,h0,hb],hk⟩
  ·cases hv
 ·rename_i t x ho
  split at hv
  ·rename_i id sz i off hx
   split at hv
   ·rename_i e sz' xs cU
    replace hv:=bM hv
    obtain ⟨hb,hv⟩:=hv;have:=beq_iff.1 hb;subst this;obtain ⟨c,hc,hv⟩:=Ea hv
    replace hv:=uZ hv
    obtain ⟨v,ht,hk⟩:=dB hv;exact ⟨_,by simp [cM,cR,ho,hx,cU,hc,ht],hk⟩
   ·cases hv
  ·obtain ⟨v,ht,hk⟩:=dB hv
   exact ⟨v,by simp only [cM,ho];exact ht,hk⟩
 ·rename_i op t x y t' ho
  have dflt:lg (cR P o st) (fun v=>k v)=some r→∃v,cM P h F o st=some v∧k v=some r:=fun hv=>by
   obtain ⟨v,ht,hk⟩:=dB hv;exact ⟨v,by simp only [cM,ho];exact ht,hk⟩
  split at hv
  ·rename_i ka a kb b hx hy
   split at hv
   ·replace hv:=bM hv
    obtain ⟨hb,hv⟩:=hv;have hk:ka=kb:=by simpa using hb
    subst hk;obtain ⟨hc,hk⟩:=eV hv;exact ⟨_,by simp [cM,cR,ho,hx,hy,bin,yf,hc],hk⟩
   ·replace hv:=bM hv
    obtain ⟨hb,hv⟩:=hv;have hk:ka=kb:=by simpa using hb
    subst hk;obtain ⟨hc,hk⟩:=eV hv;exact ⟨_,by simp [cM,cR,ho,hx,hy,bin,yf,hc],hk⟩
   ·obtain ⟨hc,hk⟩:=eV hv
    have:¬b<0:=by omega
    exact ⟨_,by simp [cM,cR,ho,hx,hy,bin,tv,this],hk⟩
   ·obtain ⟨hc,hk⟩:=eV hv
    have:¬b<0:=by omega
    exact ⟨_,by simp [cM,cR,ho,hx,hy,bin,tv,this],hk⟩
   ·exact dflt hv
  ·rename_i a b hx hy
   split at hv
   ·obtain ⟨hc,hk⟩:=eV hv
    exact ⟨_,by simp [cM,cR,ho,hx,hy,bin,L5,hc],hk⟩
   ·exact dflt hv
  ·exact dflt hv
 ·rename_i t x lo hi ho
  split at hv
  ·rename_i s lv KL hu hx hlo hhi
   obtain ⟨n,hn,hv⟩:=gF hv;obtain ⟨m,hm,hk⟩:=gF hv;exact ⟨_,by simp [cM,cR,ho,hu,hx,hlo,hhi,hn,hm],hk⟩
  ·rename_i e sz xs lv KL hu hx hlo hhi
   split at hv
   ·rename_i e' s hs
    replace hv:=bM hv
    obtain ⟨hb,hv⟩:=hv;have:=beq_iff.1 hb;subst this;obtain ⟨n,hn,hv⟩:=gF hv;obtain ⟨m,hm,hk⟩:=gF hv;exact ⟨_,by simp [cM,cR,ho,hu,hx,hlo,hhi,hs,hn,hm],hk⟩
   ·cases hv
  ·rename_i e id lv KL hu hx hlo hhi
   split at hv
   ·rename_i e' s e2 sz xs hs cU
    replace hv:=bM hv
    obtain ⟨hb,hv⟩:=hv;have:=beq_iff.1 hb;subst this;obtain ⟨n,hn,hv⟩:=gF hv;obtain ⟨m,hm,hk⟩:=gF hv;exact ⟨_,by simp [cM,cR,ho,hu,hx,hlo,hhi,hs,cU,hn,hm],hk⟩
   ·cases hv
  ·rename_i e id sz a b lv KL hu hx hlo hhi
   split at hv
   ·rename_i e' s hs
    replace hv:=bM hv
    obtain ⟨hb,hv⟩:=hv;have:=beq_iff.1 hb;subst this;obtain ⟨n,hn,hv⟩:=gF hv;obtain ⟨m,hm,hk⟩:=gF hv;exact ⟨_,by simp [cM,cR,ho,hu,hx,hlo,hhi,hs,hn,hm],hk⟩
   ·cases hv
  ·cases hv
 ·rename_i src dst x ho
  split at hv
  ·rename_i e hu hd
   split at hv
   ·rename_i xs he hs hx
    obtain ⟨b,hb,hk⟩:=Hi hv;exact ⟨_,by simp [cM,cR,ho,hu,hd,he,hs,hx,hb],hk⟩
   ·cases hv
  ·obtain ⟨v,ht,hk⟩:=dB hv
   exact ⟨v,by simp only [cM,ho];exact ht,hk⟩
 ·rename_i t x kx ok ho
  cases hrm:(jo h x&& !ok) with
  |true=>rw [hrm] at hv;cases hv
  |false=>
  rw [hrm] at hv;simp only [cond_false] at hv;split at hv
  ·rename_i kt et hu
   split at hv
   ·rename_i ks key hx hk
    obtain ⟨hok,hv⟩:=bM hv;obtain ⟨q,hq,hv⟩:=OE hv;exact ⟨_,by simp only [cM,cR,ho,hrm,cond_false,hu,hx,hk,hok,cond_true,hq,Option.map_some],hv⟩
   ·rename_i hno
    split at hv
    ·rename_i ks vs key hx hk
     have hnk:(bw P t st x).bind (zI st)=none:=by
      cases hkk:(bw P t st x).bind (zI st) with
      |none=>rfl
      |some ks'=>exact (hno ks' key hkk hk).elim
     obtain ⟨hok,hv⟩:=bM hv;rcases Lv hv with ⟨v,hg,hv⟩|⟨hg,hv⟩
     ·exact ⟨_,by simp only [cM,cR,ho,hrm,cond_false,hu,hnk,hx,hk,hok,cond_true,hg],Pu hv⟩
     ·obtain ⟨z,hz,hv⟩:=dB hv
      exact ⟨_,by simp only [cM,cR,ho,hrm,cond_false,hu,hnk,hx,hk,hok,cond_true,hg,hz,Option.map_some],hv⟩
    ·cases hv
  ·cases hv
 ·rename_i c ho
  split at hv
  ·rename_i f hc
   cases hro:(o.dst.any h.stay.contains&&wide st c f) with
   |true=>
    rw [hro] at hv;simp only [cond_true] at hv;obtain ⟨v,hx,hk⟩:=Fj hv;refine ⟨.pv v,?_,hk⟩;simp only [cM,ho,hc];rw [hro,hx];rfl
   |false=>
   rw [hro] at hv;simp only [cond_false] at hv;cases gw:(wide st c f||c.args.toList.any (fun x=>(ji h st x).isSome)) with
   |true=>rw [gw] at hv;cases hv
   |false=>
   rw [gw] at hv;simp only [cond_false] at hv;split at hv
   ·rename_i g caps vs hf hvs
    obtain ⟨r',hx,hv⟩:=uU hv;obtain ⟨hb,hk⟩:=bM (nv hv);refine ⟨.pv r',?_,hk⟩;simp only [cM,ho,hc,hf,hvs,hx];rw [hro,gw,hb];rfl
   ·cases hv
  ·rename_i hc
   obtain ⟨v,ht,hk⟩:=dB hv;refine ⟨v,?_,hk⟩;simp only [cM,ho];exact ht
 ·exact dB hv
theorem rY {st:St} {t:TypeId} {m kx x:Operand} {k:St→Option R} {r:R} (hv:tX P C st t m kx x k=some r):∃st',qt P st t m kx x=some st'∧k st'=some r:=by
 unfold tX at hv;split at hv
 ·rename_i kt et hu
  split at hv
  ·rename_i st1 h1
   split at hv
   ·rename_i id key v hm hk hx
    split at hv
    ·rename_i k' e' ks vs cU
     obtain ⟨hc,hv⟩:=bM hv;obtain ⟨p,hp,hv⟩:=Ez hv
     replace hv:=yp hv
     exact ⟨_,by simp only [qt,hu,h1,hm,hk,hx,cU,hc,cond_true,hp],hv⟩
    ·cases hv
   ·cases hv
  ·cases hv
 ·cases hv
theorem ym {st:St} {t:TypeId} {m kx:Operand} {k:St→Option R} {r:R} (hv:vi P C st t m kx k=some r):∃st',qs P st t m kx=some st'∧k st'=some r:=by
 unfold vi at hv;split at hv
 ·rename_i kt et hu
  split at hv
  ·rename_i id key hm hk
   split at hv
   ·rename_i k' e' ks vs cU
    obtain ⟨hc,hv⟩:=bM hv;obtain ⟨p,hp,hv⟩:=Ez hv
    replace hv:=yp hv
    exact ⟨_,by simp only [qs,hu,hm,hk,cU,hc,cond_true,hp],hv⟩
   ·cases hv
  ·cases hv
 ·cases hv
theorem Ag {st:St} {c:Call} {f:Operand} {d:Option Nat} {k:St→Option R} {r:R} (hv:x4 P C h F st c f d k=some r):∃st',gp P h F st c f d=some st'∧k st'=some r:=by
 unfold x4 at hv;split at hv
 ·rename_i g caps vs hf hvs
  simp only [] at hv
  replace hv:=bM hv
  obtain ⟨hb,hv⟩:=hv;split at hv
  ·rename_i bU hl
   obtain ⟨r',l,hx,hv⟩:=A6 hv
   replace hv:=nv (uY hv)
   split at hv
   ·rename_i back sM
    replace hv:=bM hv
    obtain ⟨Eb,hk⟩:=hv;refine ⟨_,?_,hk⟩;simp only [gp,hf,hvs,hb,cond_true,hl,hx,sM,Eb]
   ·cases hv
  ·cases hv
 ·cases hv
theorem zN {st:St} {t:TypeId} {m kx x:Operand} {k:St→Option R} {r:R} (hv:Nv P C st t m kx x k=some r):∃st',LH P st t m kx x=some st'∧k st'=some r:=by
 unfold Nv at hv;split at hv
 ·rename_i et id key k' e sz ks vs hmk
  split at hv
  ·split at hv
   ·rename_i e' s hs
    replace hv:=bM hv
    obtain ⟨hb,hv⟩:=hv;simp only [Bool.and_eq_true] at hb;have e1:=beq_iff.1 hb.1.1;have e2:=beq_iff.1 hb.1.2;have e3:0<s:=by simpa [Nat.blt_eq] using hb.2
    obtain ⟨p,hp,hv⟩:=BX hv;refine ⟨_,?_,BL hv⟩;simp only [LH,hmk,hs];rw [if_pos ⟨e1,e2,e3⟩];simp only [hp]
   ·cases hv
  ·rename_i hnc
   split at hv
   ·rename_i j hx
    split at hv
    ·rename_i e' s xs cU
     replace hv:=bM hv
     obtain ⟨hb,hv⟩:=hv;simp only [Bool.and_eq_true] at hb;have e1:=beq_iff.1 hb.1.1;have e2:=beq_iff.1 hb.1.2;have e3:j<10000:=by simpa [Nat.blt_eq] using hb.2
     obtain ⟨p,hp,hv⟩:=BX hv;refine ⟨_,?_,BL hv⟩;cases x with
     |tmp i=>
      simp only [LH,hmk,hx,cU];rw [if_pos ⟨e1,e2,e3⟩];simp only [hp]
     |const v=>
      simp only [bw] at hx;cases hc:ofConst P et v<;>simp [hc] at hx
     |func f=>simp [bw] at hx
     |global g=>simp [bw] at hx
    ·cases hv
   ·cases hv
 ·cases hv
theorem FM {st:St} {t:TypeId} {m kx:Operand} {d:Nat} {k:St→Option R} {r:R} (hv:LI P C st t m kx d k=some r):∃st',Em P st t m kx d=some st'∧k st'=some r:=by
 unfold LI at hv;split at hv
 ·rename_i et id key k' e sz ks vs hmk
  cases G1:Nat.beq id d with
  |true=>rw [G1] at hv;cases hv
  |false=>
  rw [G1] at hv;simp only [cond_false] at hv;split at hv
  ·rename_i s0 e' s hz hs
   replace hv:=bM hv
   obtain ⟨hb,hv⟩:=hv;simp only [Bool.and_eq_true] at hb;have e1:=beq_iff.1 hb.1.1;have e2:=beq_iff.1 hb.1.2;have e3:0<s:=by simpa [Nat.blt_eq] using hb.2
   obtain ⟨p,hp,hv⟩:=Mc hv
   replace hv:=BL (yM hv)
   obtain ⟨_,_,_,_,cU,_⟩:=sU hmk;unfold FN at hp;split at hp
   ·rename_i i hf
    split at hp
    ·rename_i xs hvi
     injection hp with hp;subst hp
     refine ⟨_,?_,hv⟩;simp only [Em,hmk,G1,cond_false,hf,hvi]
    ·cases hp
   ·rename_i hf
    injection hp with hp;subst hp
    refine ⟨_,?_,hv⟩;simp only [Em,hmk,G1,cond_false,hf,hz,hs];rw [if_pos ⟨e1,e2,e3⟩];have:put st.ob id (some (.mr k' e sz ks vs))=st.ob:=by
     funext i
     by_cases e:id=i
     ·subst e;rw [bT,cU]
     ·rw [aX _ _ e]
    simp only [this]
   ·cases hp
  ·cases hv
 ·cases hv
theorem pg {o:Oper} {st:St} {k:St→Option R} {r:R} (hv:stepT P C h F o st k=some r):∃st',step P h F o st=some st'∧k st'=some r:=by
 have ofF:(qT P C h F o st fun v=>k (st.set o.dst v))=some r→∃st',step P h F o st=some st'∧k st'=some r:=fun hv=>by
  obtain ⟨v,hf,hk⟩:=vX hv;exact ⟨_,by simp only [step,hf],hk⟩
 unfold stepT at hv;split at hv
 ·rename_i t l c ho
  have hf:cM P h F o st=none:=by simp [cM,cR,ho]
  split at hv
  ·rename_i d e s kl l' kc c' hd hs hl hc
   split at hv
   ·rename_i z i hz hi
    replace hv:=bM hv
    obtain ⟨hb,hv⟩:=hv;simp only [Bool.and_eq_true] at hb;obtain ⟨de,hk⟩:=eV hv;have h1:0<s:=by simpa [Nat.blt_eq] using hb.1
    have h2:z.length=s:=beq_iff.1 hb.2;exact ⟨_,by simp only [step,hf,mS,hd,ho,hs,hl,hc,hz,hi];rw [if_pos ⟨h1,h2,de⟩],hk⟩
   ·cases hv
  ·cases hv
 ·rename_i t x y ho
  have hf:cM P h F o st=none:=by simp [cM,cR,ho]
  split at hv
  ·rename_i id sz i off v hd hx hy
   split at hv
   ·rename_i e sz' xs n cU hsz
    replace hv:=bM hv
    obtain ⟨hb,hv⟩:=hv;simp only [Bool.and_eq_true] at hb;have h1:=beq_iff.1 hb.1.1;subst h1;have h2:=beq_iff.1 hb.1.2;obtain ⟨c,hc,hv⟩:=Ea hv
    replace hv:=bM (uZ hv)
    obtain ⟨hle,hk⟩:=hv;refine ⟨_,?_,hk⟩;simp only [step,hf,mS,hd,ho,hx,hy,storeAt,cU,hsz,hc];rw [if_pos ⟨trivial,h2,Nat.le_of_ble_eq_true hle,hb.2⟩]
   ·cases hv
  ·rename_i a v _ hd hx hy
   obtain ⟨st',hs,hk⟩:=dB hv;exact ⟨st',by simp only [step,hf,mS,hd,ho,hx,hy];exact hs,hk⟩
  ·cases hv
 ·rename_i c ho
  split at hv
  ·rename_i hc
   have hf:cM P h F o st=none:=by
    simp only [cM,ho,hc,r6]
   split at hv
   ·rename_i d x y t t' hd hargs wk
    split at hv
    ·rename_i e s id sy hs hx hy
     split at hv
     ·rename_i e' sz xs sz' ys i cU hel hi
      replace hv:=bM hv
      obtain ⟨hb,hv⟩:=hv;simp only [Bool.and_eq_true] at hb;obtain ⟨⟨⟨⟨⟨⟨b1,b2⟩,b3⟩,b4⟩,b5⟩,b6⟩,b7⟩:=hb;have e1:=beq_iff.1 b1;have e2:=beq_iff.1 b2;have e3:=beq_iff.1 b3;have e4:=beq_iff.1 b4;have e5:0<sz:=by simpa [Nat.blt_eq] using b5
      have e6:i.zero.map (fun z=>z.cells.size)=some sz:=by simpa using b6
      obtain ⟨de,hk⟩:=eV hv;refine ⟨_,?_,hk⟩;simp only [step,hf,mS,ho,hc,hd,hargs,wk,hs,hx,hy,cU,hel,hi];rw [if_pos ⟨e1,e2,e3,e4,e5,de.1,de.2,e6,b7⟩]
     ·cases hv
    ·cases hv
   ·cases hv
  ·rename_i hc
   have hf:cM P h F o st=none:=by simp only [cM,ho,hc,r6]
   split at hv
   ·rename_i m kx t ts hd hargs wk
    obtain ⟨st',h1,hk⟩:=ym hv;exact ⟨st',by simp only [step,hf,mS,ho,hc,hd,hargs,wk];exact h1,hk⟩
   ·cases hv
  ·rename_i hc
   have hf:cM P h F o st=none:=by simp only [cM,ho,hc,r6]
   split at hv
   ·rename_i x t hd hargs wk
    split at hv
    ·rename_i e s id sz lo hi hs hx
     split at hv
     ·rename_i e' sz' xs z cU hz
      replace hv:=bM hv
      obtain ⟨hb,hv⟩:=hv;simp only [Bool.and_eq_true] at hb;obtain ⟨⟨⟨⟨b1,b2⟩,b3⟩,b4⟩,b5⟩:=hb;have e1:=beq_iff.1 b1;have e2:=beq_iff.1 b2;have e3:=beq_iff.1 b3;have e4:=beq_iff.1 b4;have e5:0<sz:=by simpa [Nat.blt_eq] using b5
      obtain ⟨hle,hk⟩:=eV hv;refine ⟨_,?_,hk⟩;simp only [step,hf,mS,ho,hc,hd,hargs,wk,hs,hx,cU,hz];rw [if_pos ⟨e1,e2,e3,hle,e4,e5⟩]
     ·cases hv
    ·cases hv
   ·cases hv
  ·rename_i f hc
   cases hro:(o.dst.any h.stay.contains&&wide st c f) with
   |true=>rw [hro] at hv;exact ofF hv
   |false=>
   rw [hro] at hv;simp only [cond_false] at hv;cases TT:wide st c f with
   |true=>
    rw [TT] at hv;simp only [cond_true] at hv;have hf:cM P h F o st=none:=by simp only [cM,ho,hc];rw [hro,TT];rfl
    obtain ⟨st',h1,hk⟩:=Ag hv;exact ⟨st',by simp only [step,hf];cases hd:o.dst<;>(simp only [mS,ho,hc,hd];rw [hd] at hro;rw [hro,TT,←hd];exact h1),hk⟩
   |false=>
   have hro0:∀(d:Option Nat),(d.any h.stay.contains&&false)=false:=fun d=>by simp
   rw [TT] at hv;simp only [cond_false] at hv;cases gw:c.args.toList.any (fun x=>(ji h st x).isSome) with
   |true=>
    rw [gw] at hv;simp only [cond_true] at hv;have hf:cM P h F o st=none:=by simp only [cM,ho,hc];rw [hro,gw];simp
    split at hv
    ·rename_i g caps vs id hfn hvs
     split at hv
     ·rename_i e sz xs cU
      obtain ⟨r',xs',hx,hv⟩:=Kf hv
      replace hv:=yM (nv hv)
      have hstep:∀st2,jG P h F st c f o.dst=some st2→step P h F o st=some st2:=fun st2 h2=>by
       simp only [step,hf];cases hd:o.dst<;>(simp only [mS,ho,hc,hd];rw [TT,gw,hro0];simp only [cond_true,cond_false];rw [←hd];exact h2)
      split at hv
      ·rename_i n
       replace hv:=bM hv
       obtain ⟨hb,hv⟩:=hv;obtain ⟨hn,hk⟩:=eV hv;refine ⟨_,hstep _ ?_,hk⟩;simp only [jG,hfn,hvs,cU,hx,beq_iff.2 (rfl:e=e),beq_iff.2 (rfl:sz=sz),beq_iff.2 (rfl:10000=10000),Bool.and_self,cond_true,hb,Nat.ble_eq_true_of_le hn]
      ·rename_i Eb
       replace hv:=bM hv
       obtain ⟨hb,hk⟩:=hv;refine ⟨_,hstep _ ?_,hk⟩;simp only [jG,hfn,hvs,cU,hx,beq_iff.2 (rfl:e=e),beq_iff.2 (rfl:sz=sz),beq_iff.2 (rfl:10000=10000),Bool.and_self,cond_true,hb]
     ·cases hv
    ·cases hv
   |false=>
   have Bo:(wide st c f||c.args.toList.any (fun x=>(ji h st x).isSome))=false:=by rw [TT,gw];rfl
   rw [gw] at hv;simp only [cond_false] at hv;cases Am:c.args.toList.any (j7 st) with
   |true=>
    simp only [Am,cond_true] at hv;split at hv
    ·rename_i g caps vs hfn hvs
     obtain ⟨r',hx,hv⟩:=uU hv
     replace hv:=nv hv
     cases hp:(r'.plain&&r'.ig) with
     |true=>
      simp only [hp,cond_true] at hv;refine ⟨_,?_,hv⟩;rw [Bool.and_eq_true] at hp;simp only [step,cM,ho,hc];rw [hro,Bo];simp only [hfn,hvs,hx,hp.1,hp.2,Bool.true_or,Bool.or_true,Bool.true_and,cond_true,cond_false]
     |false=>
      simp only [hp,cond_false] at hv;split at hv
      ·rename_i st1 fP
       split at hv
       ·rename_i g' Qj vs' hfn' hvs'
        cases hrow:c.args.toList.any (j7 st1) with
        |true=>rw [hrow] at hv;cases hv
        |false=>
         rw [hrow] at hv;simp only [cond_false] at hv;obtain ⟨r2,hx2,hv⟩:=uU hv
         replace hv:=bM (nv hv)
         obtain ⟨Eb,hv⟩:=hv;refine ⟨_,?_,hv⟩;have hf:cM P h F o st=none:=by
          simp only [cM,ho,hc];rw [hro,Bo];simp only [cond_false,hfn,hvs,hx,hp,Am,Bool.not_true,Bool.or_false,Bool.false_or]
         simp only [step,hf];cases hd:o.dst<;>(simp only [mS,ho,hc,hd];rw [TT,gw,hro0];simp only [cond_false,fP,hfn',hvs',hx2,hrow,Eb,Bool.not_true,Bool.or_false])
       ·cases hv
      ·cases hv
    ·cases hv
   |false=>simp only [Am,cond_false] at hv;exact ofF hv
  ·exact ofF hv
 ·rename_i t m kx x ho
  split at hv
  ·rename_i hd
   cases hrm:jo h m with
   |true=>
    rw [hrm] at hv;obtain ⟨st',h1,hk⟩:=zN hv;exact ⟨st',by simp only [step,mS,cM,cR,ho,hd];rw [hrm];exact h1,hk⟩
   |false=>
    rw [hrm] at hv;obtain ⟨st',h1,hk⟩:=rY hv;exact ⟨st',by simp only [step,mS,cM,cR,ho,hd];rw [hrm];exact h1,hk⟩
  ·cases hv
 ·rename_i t m kx x ho
  split at hv
  ·rename_i hd
   cases hrm:jo h m with
   |true=>
    rw [hrm] at hv;obtain ⟨st',h1,hk⟩:=zN hv;exact ⟨st',by simp only [step,mS,cM,cR,ho,hd];rw [hrm];exact h1,hk⟩
   |false=>
    rw [hrm] at hv;obtain ⟨st',h1,hk⟩:=rY hv;exact ⟨st',by simp only [step,mS,cM,cR,ho,hd];rw [hrm];exact h1,hk⟩
  ·cases hv
 ·rename_i t m kx ok ho
  cases hrm:(jo h m&& !ok) with
  |true=>
   rw [hrm] at hv;simp only [cond_true] at hv;have hrm':=hrm;simp only [Bool.and_eq_true,Bool.not_eq_true'] at hrm;obtain ⟨Ij,rfl⟩:=hrm;split at hv
   ·rename_i d hd
    obtain ⟨st',h1,hk⟩:=FM hv;refine ⟨st',?_,hk⟩;have hf:cM P h F o st=none:=by simp only [cM,ho];rw [hrm'];rfl
    simp only [step,hf,mS,ho,hd];rw [Ij];exact h1
   ·cases hv
  |false=>rw [hrm] at hv;exact ofF hv
 ·rename_i t x ho
  split at hv
  ·rename_i d s hd hu hx
   refine ⟨_,?_,hv⟩;simp only [step,mS,cM,cR,ho,hd,hu,hx]
  ·cases hv
 ·rename_i x ho
  split at hv
  ·rename_i d id hd hx
   split at hv
   ·rename_i s pos cU
    have hf:cM P h F o st=none:=by simp only [cM,cR,ho]
    cases hp:Nat.blt pos s.length with
    |true=>
     rw [hp] at hv;refine ⟨_,?_,hv⟩;have hp':pos<s.length:=by simpa [Nat.blt_eq] using hp
     simp only [step,hf,mS,ho,hd,hx,cU];rw [if_pos hp']
    |false=>
     rw [hp] at hv;refine ⟨_,?_,hv⟩;have hp':¬pos<s.length:=fun h=>by rw [←Nat.blt_eq] at h;rw [h] at hp;cases hp
     simp only [step,hf,mS,ho,hd,hx,cU];rw [if_neg hp']
   ·cases hv
  ·cases hv
 ·exact dB hv
 ·exact dB hv
 ·exact dB hv
 ·exact dB hv
 ·exact dB hv
 ·exact dB hv
 ·exact dB hv
 ·exact ofF hv
theorem Ab {ops:Array Oper} {o:Oper} {st:St} {k:Bool→St→Option R} {r:R} (hv:N0 ops o st k=some r):∃b,fC ops o st=some b∧k b st=some r:=by
 unfold N0 at hv;unfold fC;split at hv
 ·rename_i hg;exact ⟨true,by simp [hg],hv⟩
 ·rename_i j want hg
  (try simp only [hg])
  split at hv
  ·rename_i d hd
   (try simp only [hd])
   split at hv
   ·rename_i he;exact ⟨want,by simp [he],hv⟩
   ·rename_i he;exact ⟨!want,by simp only [he];cases want<;>rfl,hv⟩
   ·rename_i he;exact ⟨false,by simp [he],hv⟩
   ·cases hv
  ·cases hv
theorem Jn {st:St} {d:Nat} {v:SV} (he:st.env d=some v):st.set (some d) v=st:=by
 obtain ⟨env,ob⟩:=st;simp only [St.set,St.mk.injEq,and_true]
 funext i
 by_cases e:d=i
 ·subst e;rw [bT];exact he.symm
 ·rw [aX _ _ e]
theorem xm {b:Bool} {d:Option Nat} {st:St} {k:St→Option R} {r:R} (hv:Gw b d st k=some r):k st=some r:=by
 unfold Gw at hv;cases b with
 |false=>exact hv
 |true=>
  simp only [cond_true] at hv;split at hv
  ·rename_i d'
   split at hv
   ·rename_i t he
    cases t with
    |true=>simp only [cond_true] at hv;rwa [Jn he] at hv
    |false=>simp only [cond_false] at hv;rwa [Jn he] at hv
   ·exact hv
  ·exact hv
theorem Dz {ops:Array Oper}:∀{l:List Oper} {i:Nat} {st:St} {k:St→Option R} {r:R},w9 P C h F ops i l st k=some r→∃s,jq P h F ops l st=some s∧k s=some r:=by
 intro l
 induction l with
 |nil=>intro i st k r hv;exact ⟨st,rfl,hv⟩
 |cons o l ih=>
  intro i st k r hv;simp only [w9] at hv;obtain ⟨b,hw,hv⟩:=Ab hv;cases b with
  |true=>
   simp only [cond_true] at hv;obtain ⟨st1,hs,hv⟩:=pg hv;obtain ⟨s,hr,hk⟩:=ih (xm hv);exact ⟨s,by simp [jq,hw,hs,hr],hk⟩
  |false=>
   simp only [cond_false] at hv;obtain ⟨s,hr,hk⟩:=ih hv;exact ⟨s,by simp [jq,hw,hr],hk⟩
theorem B7 {ops:Array Oper} {fresh:List (Nat×Nat)}:∀{l:List Oper} {i:Nat} {prev:List (Nat×dY)} {st:St} {k:St→Option R} {r:R},iR P C h F ops fresh i l prev st k=some r→∃s,cn P h F ops fresh i l prev st=some s∧k s=some r:=by
 intro l
 induction l with
 |nil=>intro i prev st k r hv;exact ⟨st,rfl,hv⟩
 |cons o l ih=>
  intro i prev st k r hv;simp only [iR] at hv
  replace hv:=Ab hv
  obtain ⟨b,hw,hv⟩:=hv;cases b with
  |true=>
   simp only [cond_true] at hv;cases hF:isF h st o with
   |true=>
    simp only [hF,cond_true] at hv;obtain ⟨v,hf,hv⟩:=vX hv
    replace hv:=bM hv
    obtain ⟨hc,hv⟩:=hv;obtain ⟨s,hr,hk⟩:=ih (xm hv);exact ⟨s,by simp only [cn,hw,cond_true,hF,hf,hc];exact hr,hk⟩
   |false=>
    simp only [hF,cond_false] at hv;have all:(bif fresh.all (fun p=>Nat.blt p.2 i)&&e9 ops prev i eH then stepT P C h F o st fun st'=>iR P C h F ops fresh (i+1) l ((i,eH)::prev) st' k else none)=some r→
      ∃s,(bif fresh.all (fun p=>Nat.blt p.2 i)&&e9 ops prev i eH then
       match step P h F o st with
       |some st'=>cn P h F ops fresh (i+1) l ((i,eH)::prev) st'
       |none=>none
      else none)=some s∧k s=some r:=fun hv=>by
     replace hv:=bM hv
     obtain ⟨hc,hv⟩:=hv;obtain ⟨st1,hs,hv⟩:=pg hv;obtain ⟨s,hr,hk⟩:=ih hv;exact ⟨s,by simp only [hc,cond_true,hs];exact hr,hk⟩
    split at hv
    ·rename_i t x y ho hd
     split at hv
     ·rename_i sa sv hx hy
      split at hv
      ·rename_i id ht
       replace hv:=bM hv
       obtain ⟨hc,hv⟩:=hv;obtain ⟨st1,hs,hv⟩:=pg hv;obtain ⟨s,hr,hk⟩:=ih hv;have hst:storeAt P t st sa sv=some st1:=by
        have hfn:cM P h F o st=none:=by simp [cM,ho,cR]
        unfold step at hs;rw [hfn] at hs;simp only [mS,hd,ho,hx,hy] at hs;exact hs
       exact ⟨s,by simp only [cn,hw,cond_true,hF,cond_false,ho,hd,hx,hy,ht,hst,hc];exact hr,hk⟩
      ·cases hv
     ·cases hv
    ·rename_i t d ho hd
     cases hrw:h.rows.contains d with
     |true=>rw [hrw] at hv;cases hv
     |false=>
     rw [hrw] at hv;simp only [cond_false] at hv;split at hv
     ·rename_i z hz
      replace hv:=bM hv
      obtain ⟨hc,hv⟩:=hv;obtain ⟨s,hr,hk⟩:=ih hv;exact ⟨s,by simp only [cn,hw,cond_true,hF,cond_false,ho,hd,hrw,hz,hc];exact hr,hk⟩
     ·cases hv
    ·rename_i c ho
     split at hv
     ·rename_i id iD
      replace hv:=bM hv
      obtain ⟨hc,hv⟩:=hv;obtain ⟨st1,hs,hv⟩:=pg hv;obtain ⟨s,hr,hk⟩:=ih hv;exact ⟨s,by simp only [cn,hw,cond_true,hF,cond_false,ho,iD,hc,hs];exact hr,hk⟩
     ·rename_i iD
      obtain ⟨s,hr,hk⟩:=all hv;exact ⟨s,by simp only [cn,hw,cond_true,hF,cond_false,ho,iD];exact hr,hk⟩
    ·rename_i ho
     obtain ⟨s,hr,hk⟩:=all hv;exact ⟨s,by simp only [cn,hw,cond_true,hF,cond_false,ho];exact hr,hk⟩
    ·rename_i ho
     obtain ⟨s,hr,hk⟩:=all hv;exact ⟨s,by simp only [cn,hw,cond_true,hF,cond_false,ho];exact hr,hk⟩
    ·rename_i ho
     obtain ⟨s,hr,hk⟩:=all hv;exact ⟨s,by simp only [cn,hw,cond_true,hF,cond_false,ho];exact hr,hk⟩
    ·rename_i ho
     obtain ⟨s,hr,hk⟩:=all hv;exact ⟨s,by simp only [cn,hw,cond_true,hF,cond_false,ho];exact hr,hk⟩
    ·rename_i ho
     obtain ⟨s,hr,hk⟩:=all hv;exact ⟨s,by simp only [cn,hw,cond_true,hF,cond_false,ho];exact hr,hk⟩
    ·rename_i ho
     obtain ⟨s,hr,hk⟩:=all hv;exact ⟨s,by simp only [cn,hw,cond_true,hF,cond_false,ho];exact hr,hk⟩
    ·rename_i ho
     obtain ⟨s,hr,hk⟩:=all hv;exact ⟨s,by simp only [cn,hw,cond_true,hF,cond_false,ho];exact hr,hk⟩
    ·rename_i ho
     obtain ⟨s,hr,hk⟩:=all hv;exact ⟨s,by simp only [cn,hw,cond_true,hF,cond_false,ho];exact hr,hk⟩
    ·rename_i ho
     obtain ⟨s,hr,hk⟩:=all hv;exact ⟨s,by simp only [cn,hw,cond_true,hF,cond_false,ho];exact hr,hk⟩
    ·rename_i ho
     obtain ⟨s,hr,hk⟩:=all hv;exact ⟨s,by simp only [cn,hw,cond_true,hF,cond_false,ho];exact hr,hk⟩
    ·cases hv
  |false=>
   simp only [cond_false] at hv
   replace hv:=bM hv
   obtain ⟨hc,hv⟩:=hv;obtain ⟨s,hr,hk⟩:=ih hv;exact ⟨s,by simp only [cn,hw,cond_false,hc,cond_true];exact hr,hk⟩
theorem Fw {α:Type} (m:Nat→Option α):∀(l:List Nat) (i:Nat),find (lR m l) i=if i∈l then m i else none:=by
 intro l
 induction l with
 |nil=>intro i;simp [lR,find]
 |cons j l ih=>
  intro i;simp only [lR];cases hj:m j with
  |none=>
   simp only [ih,List.mem_cons];by_cases e:i=j
   ·subst e;simp [hj]
   ·simp [e]
  |some v=>
   simp only [find];cases hb:Nat.beq j i with
   |true=>have:=beq_iff.1 hb;subst this;simp [hj]
   |false=>
    have hne:¬i=j:=fun e=>by subst e;simp [beq_iff.2] at hb
    simp only [cond_false,ih,List.mem_cons,hne,false_or]
theorem Ht (h:Hint) (key:Nat) (st:St):h.canon key (h.canon key st)=h.canon key st:=by
 unfold Hint.canon;split
 ·rename_i vars obs hf
  simp only [St.mk.injEq];constructor<;>(funext i;simp only [Fw];split<;>rfl)
 ·rfl
theorem Br {key:Nat} {f:St→Option (Ex×St)} {n:Nat} {st:St}:iter h key f n (h.canon key st)=iter h key f n st:=by
 cases n with
 |zero=>rfl
 |succ n=>simp only [iter,Ht]
theorem OT {c:Code} {n m:Nat} (hm:n≤m) {key:Nat}:∀(q:Nat) {q':Nat} {st:St} {x:Ex×St},q≤q'→iter h key (exec P h F n c) q st=some x→iter h key (exec P h F m c) q' st=some x:=by
 intro q
 induction q with
 |zero=>intro q' st x _ hv;simp [iter] at hv
 |succ q ih=>
  intro q' st x hq hv;obtain ⟨UT,rfl⟩:∃UT,q'=UT+1:=⟨q'-1,by omega⟩
  simp only [iter] at hv⊢;split at hv
  ·rename_i st1 hc
   rw [iT hm hc];exact ih (by omega) hv
  ·rename_i hne
   rw [iT hm hv];obtain ⟨e,s⟩:=x;cases e with
   |normal=>exact absurd hv (hne s)
   |exit j=>rfl
   |ret=>rfl
theorem qp {c:Code} {st:St} {k:Ex→St→Option R} {r:R}:zH P h F c st k=some r↔∃n e st',exec P h F n (.loop c) st=some (e,st')∧k e st'=some r:=by
 constructor
 ·intro hv
  unfold zH at hv;split at hv
  ·rename_i hx
   obtain ⟨n,hn⟩:=hx.choose_spec;exact ⟨n,_,_,hn,hv⟩
  ·cases hv
 ·rintro ⟨n,e,st',hn,hk⟩
  unfold zH;have hx:∃x n,exec P h F n (.loop c) st=some x:=⟨(e,st'),n,hn⟩
  rw [dif_pos hx];obtain ⟨m,hm⟩:=hx.choose_spec;have h1:=iT (Nat.le_max_left n m) hn;have h2:=iT (Nat.le_max_right n m) hm;rw [h1] at h2;injection h2 with h2
  rw [←h2];exact hk
theorem qa:∀{l:List Nat} {st:St} {k:St→Option R} {r:R},wV C l st k=some r→∃st',s5 l st=some st'∧k st'=some r
 |[],st,k,r,hv=>⟨st,rfl,hv⟩
 |id::l,st,k,r,hv=>by
  simp only [wV] at hv;split at hv
  ·rename_i kt e sz ks vs cU
   replace hv:=bM hv
   obtain ⟨hown,hv⟩:=hv;obtain ⟨xs,hxs,hv⟩:=N6 hv;obtain ⟨st',h1,hk⟩:=qa (Tf hv);refine ⟨st',?_,hk⟩;simp only [s5,St.Gk,St.cQ,hown,cU,Option.bind_some,Ob.val,hxs,Option.map_some];exact h1
  ·split at hv
   ·rename_i st1 hp
    obtain ⟨st',h1,hk⟩:=qa hv;exact ⟨st',by simp only [s5,hp,Option.bind_some];exact h1,hk⟩
   ·cases hv
theorem I4 {id:Nat} {st:St} {k:St→Option R} {r:R} (hv:Tw C h id st k=some r):∃st',h.Tv id st=some st'∧k st'=some r:=by
 unfold Tw at hv;unfold Hint.Tv;split at hv
 ·rename_i l hl
  rw [hl];exact qa hv
 ·rename_i hl
  rw [hl];exact ⟨st,rfl,hv⟩
theorem oJ:∀(c:Code) {st:St} {k:Ex→St→Option R} {r:R},iI P C h F c st k=some r→∃n e st',exec P h F n c st=some (e,st')∧k e st'=some r:=by
 intro c
 induction c with
 |skip=>intro st k r hv;exact ⟨0,_,_,rfl,hv⟩
 |label l=>intro st k r hv;exact ⟨0,_,_,rfl,hv⟩
 |exit id=>intro st k r hv;exact ⟨0,_,_,rfl,hv⟩
 |ret=>intro st k r hv;exact ⟨0,_,_,rfl,hv⟩
 |region id ops draw=>
  intro st k r hv;simp only [iI] at hv;obtain ⟨st1,fP,hv⟩:=I4 hv;cases draw with
  |true=>
   simp only [cond_true] at hv;obtain ⟨hs,hv⟩:=bM hv;obtain ⟨s,hr,hk⟩:=B7 hv;exact ⟨0, .normal,s,by simp only [exec,fP,Option.bind_some,cond_true,hs,hr,Option.map_some],hk⟩
  |false=>
   simp only [cond_false] at hv;obtain ⟨s,hr,hk⟩:=Dz hv;exact ⟨0, .normal,s,by simp [exec,fP,hr],hk⟩
 |seq x y MV OP=>
  intro st k r hv;simp only [iI] at hv;cases C0:find h.blk (cu x) with
  |some z=>
   simp only [C0] at hv;obtain ⟨hg,hv⟩:=eV hv;exact ⟨0,_,_,by simp only [exec,C0,hg,cond_true],hv⟩
  |none=>
  simp only [C0] at hv;obtain ⟨n,e,st1,hx,hv⟩:=MV hv;cases e with
  |normal=>
   obtain ⟨m,e2,st2,hy,hk⟩:=OP (show iI P C h F y st1 k=some r from hv);exact ⟨max n m,e2,st2,by simp only [exec,C0,iT (Nat.le_max_left n m) hx];exact iT (Nat.le_max_right n m) hy,hk⟩
  |exit id=>exact ⟨n,_,st1,by simp only [exec,C0,hx],hv⟩
  |ret=>exact ⟨n,_,st1,by simp only [exec,C0,hx],hv⟩
 |cond c x y MV OP=>
  intro st k r hv;simp only [iI] at hv;split at hv
  ·rename_i t hc
   cases t with
   |true=>obtain ⟨n,e,st1,hx,hk⟩:=MV hv;exact ⟨n,e,st1,by simp only [exec,hc,cond_true];exact hx,hk⟩
   |false=>obtain ⟨n,e,st1,hx,hk⟩:=OP hv;exact ⟨n,e,st1,by simp only [exec,hc,cond_false];exact hx,hk⟩
  ·cases hv
 |block id c ih=>
  intro st k r hv;simp only [iI] at hv;obtain ⟨n,e,st1,hx,hv⟩:=ih hv;cases e with
  |normal=>exact ⟨n,_,st1,by simp only [exec,hx],hv⟩
  |ret=>exact ⟨n,_,st1,by simp only [exec,hx],hv⟩
  |exit j=>
   simp only [Kb] at hv;cases hb:Nat.beq j id with
   |true=>simp only [hb,cond_true] at hv;exact ⟨n, .normal,st1,by simp only [exec,hx,hb,cond_true],hv⟩
   |false=>simp only [hb,cond_false] at hv;exact ⟨n, .exit j,st1,by simp only [exec,hx,hb,cond_false],hv⟩
 |loop c ih=>
  intro st k r hv;simp only [iI] at hv;obtain ⟨n,e,st',hx,hk⟩:=qp.1 hv;refine ⟨n,e,st',?_,hk⟩;simp only [exec] at hx⊢
  rwa [Br] at hx
 |scope c ih=>
  intro st k r hv;simp only [iI] at hv;obtain ⟨n,e,st1,hx,hk⟩:=ih hv;exact ⟨n,e,st1,by simp only [exec];exact hx,hk⟩
 |rangeFunc f ps x y MV OP=>intro st k r hv;simp [iI] at hv
 |goto l=>intro st k r hv;simp [iI] at hv
 |refuse s=>intro st k r hv;simp [iI] at hv
theorem IA {c:Code} {st:St} {k:Ex→St→Option R} {r:R} (hv:iI P C h F c (h.canon (cu c) st) (JY P h F c k)=some r):zH P h F c st k=some r:=by
 obtain ⟨n,e,st1,hx,hk⟩:=oJ c hv;cases e with
 |normal=>
  obtain ⟨m,e2,st2,hm,hk2⟩:=qp.1 (show zH P h F c (h.canon (cu c) st1) k=some r from hk);simp only [exec,Br] at hm;refine qp.2 ⟨max n m+1,e2,st2,?_,hk2⟩;simp only [exec,iter];rw [iT (show n≤max n m+1 by omega) hx];exact OT (show m≤max n m+1 by omega) m (by omega) hm
 |exit j=>
  refine qp.2 ⟨n+1, .exit j,st1,?_,hk⟩;simp only [exec,iter];rw [iT (show n≤n+1 by omega) hx]
 |ret=>
  refine qp.2 ⟨n+1, .ret,st1,?_,hk⟩;simp only [exec,iter];rw [iT (show n≤n+1 by omega) hx]
end
section
variable {P:Program} {C:jL} {H:Nat→Hint} {dg:dm}
theorem kH {f:Nat} {args:List SV} {bU:List (Nat×Ob)} {r:AV×List (Nat×Ob)} (hp:dg f args bU=none) (hv:Qf P C H dg f args bU=some r):run P H dg f args bU=some r:=by
 unfold Qf at hv;split at hv
 ·rename_i fn hf
  split at hv
  ·rename_i c hb
   obtain ⟨hc,hv⟩:=bM hv;obtain ⟨n,e,st,hx,he⟩:=oJ c hv;exact Jl hp hf hb hc hx he
  ·cases hv
 ·cases hv
theorem u9 {f key:Nat} {names:List Nat} {env:List (Nat×SV)} {ob:List (Nat×Ob)} {r:AV×List (Nat×Ob)} (hv:L0 P C H dg f key names env ob=some r):zC P C H dg f key names env ob=some r:=by
 unfold L0 at hv;unfold zC;split at hv
 ·rename_i fn hf
  (try simp only [hf])
  split at hv
  ·rename_i c hb
   (try simp only [hb])
   split at hv
   ·rename_i cl k hk
    (try simp only [hk])
    exact IA hv
   ·cases hv
  ·cases hv
 ·cases hv
end
section
variable {R:Type}
theorem aV {p:Prop} [Decidable p] (hp:p) (x:Option R):check p x=x:=by unfold check;rw [if_pos hp]
theorem H7 {α:Type} {xs:List α} {i:Int} {x:α} (h0:0≤i) (hx:xs[i.toNat]? =some x) (k:α→Option R):bl xs i k=k x:=by unfold bl;rw [if_pos h0,hx]
theorem dQ {α:Type} {xs:List α} {i:Nat} {x:α} (hx:xs[i]? =some x) (k:α→Option R):bl xs (i:Int) k=k x:=H7 (by omega) (by simpa using hx) k
theorem gv {α:Type} {xs:List α} {i:Nat} {x:α} (hx:xs[i]? =some x) (k:α→Option R):ic xs i k=k x:=by unfold ic;rw [hx]
theorem Of {c:Option (AV×List (Nat×Ob))} {r:AV} (hc:c=some (r,[])) (k:AV→Option R):rU c k=k r:=by subst hc;unfold rU;rfl
theorem Og {c:Option (AV×List (Nat×Ob))} {nm e sz:Nat} {r:AV} {xs:List (List AV)} (hc:c=some (r,[(nm, .row e sz xs)])) (k:AV→List (List AV)→Option R):zu c nm e sz k=k r xs:=by
 subst hc;unfold zu;simp [beq_iff.2]
theorem T1 {α T:Type} {enc:T→α} (inj:∀a b,enc a=enc b→a=b) (d:T) (k:T→Option R):fD enc (enc d) k=k d:=by
 unfold fD;have hx:∃x,enc x=enc d:=⟨d,rfl⟩
 rw [dif_pos hx,inj _ _ hx.choose_spec]
end
end Go.AM
