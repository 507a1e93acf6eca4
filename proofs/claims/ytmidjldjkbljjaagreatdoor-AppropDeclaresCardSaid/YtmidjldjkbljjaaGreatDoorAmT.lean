/- THE ABSTRACT MACHINE, TYPED. -/
import Derived.Test.YtmidjldjkbljjaaGreatDoorAmFin
set_option linter.unusedVariables false
set_option linter.unusedSimpArgs false
namespace Go.AM
open Go.RowKit
structure zf where
 T:Type
 enc:T→List AV
structure gX where
 T:Type
 enc:T→AV
def Am {α:Type 1}:List (Nat×α)→Nat→Option α
 |[],_=>none
 |(j,v)::l,i=>cond (Nat.beq j i) (some v) (Am l i)
structure jH where
 elem:TypeId→Option zf
 val:TypeId→Option gX
 res:Nat→Option gX
 ptr:Option zf:=none
def zl {T:Type} (enc:T→List AV):Option T→AV
 |some x=> .ref (enc x)
 |none=> .qB
def aH (K V:gX) (l:List (K.T×V.T)):List AV×List AV:=(l.map fun p=>K.enc p.1,l.map fun p=>V.enc p.2)
section
variable {R:Type}
@[irreducible] def check (p:Prop) [Decidable p] (x:Option R):Option R:=if p then x else none
@[irreducible] def bA {α:Type} (xs:List α) (i:Int) (k:α→Option R):Option R:=
 if 0≤i then match xs[i.toNat]? with
  |some x=>k x
  |none=>none
 else none
@[irreducible] def fA {α:Type} (xs:List α) (i:Nat) (k:α→Option R):Option R:=
 match xs[i]? with
 |some x=>k x
 |none=>none
@[irreducible] def qX (c:Option (AV×List (Nat×Ob))) (k:AV→Option R):Option R:=
 match c with
 |some (r,[])=>k r
 |_=>none
@[irreducible] def yA (c:Option (AV×List (Nat×Ob))) (nm e sz:Nat) (k:AV→List (List AV)→Option R):Option R:=
 match c with
 |some (r,[(KA, .row e' sz' xs)])=>bif Nat.beq nm KA&&Nat.beq e e'&&Nat.beq sz sz' then k r xs else none
 |_=>none
@[irreducible] def AK (x:Option (Option AV)) (k:AV→Option R) (z:Option R):Option R:=
 match x with
 |some (some v)=>k v
 |some none=>z
 |none=>none
@[irreducible] def A6 (x:Option (List AV×List AV)) (k:List AV×List AV→Option R):Option R:=
 match x with
 |some p=>k p
 |none=>none
@[irreducible] noncomputable def eZ {α T:Type} (enc:T→α) (c:α) (k:T→Option R):Option R:=
 open Classical in if hx : ∃ d, enc d = c then k hx.choose else none
@[irreducible] def pn (c:Option (AV×List (Nat×Ob))) (k:AV→List (Nat×Ob)→Option R):Option R:=
 match c with
 |some (r,l)=>k r l
 |none=>none
@[irreducible] def aP (nm:Nat) (l:List (Nat×Ob)) (k:Ob→List (Nat×Ob)→Option R):Option R:=
 match l with
 |(KA,o)::l=>bif Nat.beq nm KA then k o l else none
 |[]=>none
@[irreducible] def jO (l:List (Nat×Ob)) (k:Option R):Option R:=
 match l with
 |[]=>k
 |_=>none
@[irreducible] noncomputable def bX (o o':Ob) (k:Option R):Option R:=open Classical in if o=o' then k else none
@[irreducible] def gD (e sz:Nat) (o:Ob) (k:List (List AV)→Option R):Option R:=
 match o with
 | .row e' sz' xs=>bif Nat.beq e e'&&Nat.beq sz sz' then k xs else none
 |_=>none
@[irreducible] def nj (kt et:Nat) (o:Ob) (k:List AV×List AV→Option R):Option R:=
 match o with
 | .mp k' e' ks vs=>bif Nat.beq kt k'&&Nat.beq et e' then k (ks,vs) else none
 |_=>none
@[irreducible] def RA (a:AV) (k:List AV→Option R):Option R:=
 match a with
 | .ref cs=>k cs
 |_=>none
@[irreducible] def Pj (x:Option (Option Nat)) (k:Bool→Option R):Option R:=
 match x with
 |some r=>k r.isSome
 |none=>none
@[irreducible] def rF (x:Option (List UInt8)) (k:List UInt8→Option R):Option R:=
 match x with
 |some b=>k b
 |none=>none
def EE (key:AV) (ks:List AV) (vs:List (Option (List (List AV)))):Option (List (List AV)×List (Option (List (List AV)))):=
 match gv key ks with
 |some (some i)=>match vs[i]? with
  |some (some xs)=>some (xs,vs.set i none)
  |_=>none
 |some none=>some ([],vs)
 |none=>none
@[irreducible] def Ix (x:Option (List (List AV)×List (Option (List (List AV))))) (k:List (List AV)→List (Option (List (List AV)))→Option R):Option R:=
 match x with
 |some p=>k p.1 p.2
 |none=>none
@[irreducible] def Du (x:Option (List AV×List (Option (List (List AV))))) (k:List AV×List (Option (List (List AV)))→Option R):Option R:=
 match x with
 |some p=>k p
 |none=>none
@[irreducible] def Og (x:Option (List (List (List AV)))) (k:List (List (List AV))→Option R):Option R:=
 match x with
 |some l=>k l
 |none=>none
def c5 (K:gX) (E:zf) (l:List (K.T×Option (List E.T))):List AV×List (Option (List (List AV))):=(l.map fun p=>K.enc p.1,l.map fun p=>p.2.map (List.map E.enc))
def kO {α:Type} (c:Option α) (k:α→Option R):Option R:=
 match c with
 |some r=>k r
 |none=>none
noncomputable def Gj (C:jH) (e:TypeId) (c:List AV) (k:List AV→Option R):Option R:=
 match C.elem e with
 |some d=>eZ d.enc c fun x=>k (d.enc x)
 |none=>k c
noncomputable def RK (C:jH) (e:TypeId) (c:List (List AV)) (k:List (List AV)→Option R):Option R:=
 match C.elem e with
 |some d=>eZ (List.map d.enc) c fun x=>k (x.map d.enc)
 |none=>k c
noncomputable def WG (C:jH) (t:TypeId) (c:AV) (k:AV→Option R):Option R:=
 match C.val t with
 |some d=>eZ d.enc c fun x=>k (d.enc x)
 |none=>k c
noncomputable def Rh (C:jH) (kt et:TypeId) (p:List AV×List AV) (k:List AV×List AV→Option R):Option R:=
 match C.val kt,C.val et with
 |some K,some V=>eZ (aH K V) p fun l=>k (aH K V l)
 |_,_=>k p
noncomputable def YU (C:jH) (kt e:TypeId) (p:List AV×List (Option (List (List AV)))) (k:List AV×List (Option (List (List AV)))→Option R):Option R:=
 match C.val kt,C.elem e with
 |some K,some E=>eZ (c5 K E) p fun l=>k (c5 K E l)
 |_,_=>k p
noncomputable def mpK (C:jH) (kt e:TypeId) (sz:Nat) (p:List AV×List AV) (k:List AV×List AV→Option R):Option R:=
 match C.val kt,C.elem e with
 |some K,some E=>eZ (aH K ⟨List E.T,fun x=> .bS sz (x.map E.enc)⟩) p fun l=>k (aH K ⟨List E.T,fun x=> .bS sz (x.map E.enc)⟩ l)
 |_,_=>k p
noncomputable def KP (C:jH) (o o':Ob) (k:Ob→Option R):Option R:=
 match o with
 | .row e sz _=>gD e sz o' fun xs=>RK C e xs fun xs=>k (.row e sz xs)
 | .mp kt et _ _=>nj kt et o' fun p=>Rh C kt et p fun p=>k (.mp kt et p.1 p.2)
 |o=>bX o' o (k o)
noncomputable def CS (C:jH) (keep:List Nat):List (Nat×Ob)→List (Nat×Ob)→(List (Nat×Ob)→Option R)→Option R
 |[],l',k=>jO l' (k [])
 |(nm,o)::l,l',k=>aP nm l' fun o' l''=>bif keep.contains nm then bX o' o (CS C keep l l'' fun os=>k ((nm,o)::os)) else KP C o o' fun o2=>CS C keep l l'' fun os=>k ((nm,o2)::os)
noncomputable def HP (C:jH) (g:Nat) (c:AV) (k:AV→Option R):Option R:=
 match C.res g with
 |some d=>eZ d.enc c fun x=>k (d.enc x)
 |none=>k c
noncomputable def Jh (C:jH) (a:AV) (k:AV→Option R):Option R:=
 RA a fun cs=>match C.ptr with
  |some d=>eZ d.enc cs fun x=>k (.ref (d.enc x))
  |none=>k (.ref cs)
def oD (lo:Option SV) (dflt:Nat) (hi:Nat) (k:Nat→Option R):Option R:=
 match lo with
 |none=>k dflt
 |some (.pv (.int _ i))=>check (0≤i∧i≤hi) (k i.toNat)
 |some _=>none
noncomputable def rC:List (Nat×Ob)→List (Nat×Ob)→Option R→Option R
 |[],l',k=>jO l' k
 |(nm,o)::l,l',k=>aP nm l' fun o' l''=>bX o' o (rC l l'' k)
noncomputable def Eb (P:Program) (C:jH) (h:Hint) (F:de) (st:St) (c:Call) (f:Operand) (k:AV→Option R):Option R:=
 match qL P h st c f with
 |some (g,args)=>
  bif distinct (fM st args)&&Nat.blt (fM st args).length 10000&&args.all (SV.closed (fM st args)) then
   match fW st (fM st args) (jT (eD (fM st args))) (eD (fM st args)) with
   |some bQ=>pn (F g (args.map (SV.l6 (jT (eD (fM st args))))) bQ) fun r l=>rC bQ l (HP C g r fun r=>bif r.ic then k r else none)
   |none=>none
  else none
 |none=>none
noncomputable def qo (P:Program) (C:jH) (h:Hint) (F:de) (o:Oper) (st:St) (k:SV→Option R):Option R:=
 match o.op with
 | .pick c a b=>match bg P 0 st c with
  |some (.pv (.bool t))=>bif t then kO (bg P o.type st a) k else kO (bg P o.type st b) k
  |_=>none
 | .nilCheck x=>match bg P 0 st x with
  |some (.pv a)=>Jh C a fun a=>k (.pv a)
  |_=>kO (cM P o st) k
 | .indexAddr t x ix=>match P.underlying t with
  |some (.array n e)=>kO (wX P st n e x ix) k
  |_=>match isSlice P t,bg P t st x,bg P 0 st ix with
  |some (e,s),some (.pv (.bS sz xs)),some (.pv (.int _ i))=>bif Nat.beq s sz then bA xs i fun c=>Gj C e c fun c=>k (.cp c) else none
  |some (_,s),some (.row id),some (.pv (.int _ i))=>match st.ob id with
   |some (.row _ sz xs)=>bif Nat.beq s sz then check (0≤i∧i.toNat<xs.length) (k (.rp id sz i.toNat 0)) else none
   |_=>none
  |some (_,s),some (.sub id sz lo hi),some (.pv (.int _ i))=>bif Nat.beq s sz then check (0≤i∧i.toNat<hi-lo) (k (.rp id sz (lo+i.toNat) 0)) else none
  |_,_,_=>none
 | .index t x ix=>match P.underlying t,bg P t st x,bg P 0 st ix with
  |some .string,some (.pv (.str s)),some (.pv (.int _ i))=>bA s i fun b=>k (.pv (.int .u8 b.toNat))
  |_,_,_=>none
 | .load t x=>match bg P 0 st x with
  |some (.rp id sz i off)=>match st.ob id with
   |some (.row e sz' xs)=>bif Nat.beq sz sz' then fA xs i fun c=>Gj C e c fun c=>kO (ek P t (c.drop off)) fun v=>k (.pv v) else none
   |_=>none
  |_=>kO (cM P o st) k
 | .binOp op t x y _=>match (bg P t st x).bind eC,(bg P t st y).bind eC with
  |some (.int ka a),some (.int kb b)=>match op with
   | .quo=>bif ka==kb then check (b≠0) (k (.pv (.int ka (ka.wrap (a.tdiv b))))) else none
   | .rem=>bif ka==kb then check (b≠0) (k (.pv (.int ka (a.tmod b)))) else none
   | .shl=>check (0≤b) (k (.pv (.int ka (ka.wrap (a *2^ min b.toNat ka.bits)))))
   | .shr=>check (0≤b) (k (.pv (.int ka (a.fdiv (2^ min b.toNat ka.bits)))))
   |_=>kO (cM P o st) k
  |some (.str a),some (.str b)=>match op with
   | .add=>check (a.length+b.length≤9223372036854775807) (k (.pv (.str (a++b))))
   |_=>kO (cM P o st) k
  |_,_=>kO (cM P o st) k
 | .slice t x lo hi none=>match P.underlying t,bg P t st x,fL P st lo,fL P st hi with
  |some .string,some (.pv (.str s)),some lo,some hi=>oD hi s.length s.length fun h=>oD lo 0 h fun l=>k (.pv (.str ((s.take h).drop l)))
  |some (.slice _),some (.pv (.bS sz xs)),some lo,some hi=>match isSlice P t with
   |some (_,s)=>bif Nat.beq s sz then oD hi xs.length xs.length fun h=>oD lo 0 h fun l=>k (.pv (.bS sz ((xs.take h).drop l))) else none
   |none=>none
  |some (.slice _),some (.row id),some lo,some hi=>match isSlice P t,st.ob id with
   |some (_,s),some (.row _ sz xs)=>bif Nat.beq s sz then oD hi xs.length xs.length fun h=>oD lo 0 h fun l=>k (.sub id sz l h) else none
   |_,_=>none
  |some (.slice _),some (.sub id sz a b),some lo,some hi=>match isSlice P t with
   |some (_,s)=>bif Nat.beq s sz then oD hi (b-a) (b-a) fun h=>oD lo 0 h fun l=>k (.sub id sz (a+l) (a+h)) else none
   |none=>none
  |_,_,_,_=>none
 | .convert src dst x=>match P.underlying src,P.underlying dst with
  |some (.slice e),some .string=>match P.underlying e,gz P e,(bg P src st x).bind (elems st) with
   |some (.int .u8),some 1,some (1,xs)=>rF (bytesOf xs) fun b=>k (.pv (.str b))
   |_,_,_=>none
  |_,_=>kO (cM P o st) k
 | .lookup t x kx ok=>bif jk h x&& !ok then none else match P.underlying t with
  |some (.map kt et)=>match (bg P t st x).bind (yN st),(bg P kt st kx).bind eC with
   |some ks,some key=>bif ok&&eT P kt key&&(jc P et).isSome then Pj (gv key ks) fun b=>k (.two .any b) else none
   |_,_=>match (bg P t st x).bind (maps st),(bg P kt st kx).bind eC with
   |some (ks,vs),some key=>bif eT P kt key then AK (Hl key ks vs) (fun v=>WG C et v fun v=>k (.pv (found ok v true))) (kO (jc P et) fun z=>k (.pv (found ok z false))) else none
   |_,_=>none
  |_=>none
 | .call c=>match c.callee with
  | .value f=>bif o.dst.any h.stay.contains&&wide st c f then Eb P C h F st c f fun r=>k (.pv r) else
   bif wide st c f||c.args.toList.any (fun x=>(jg h st x).isSome) then none else
   match bg P 0 st f,eW P st c.args.toList c.argTypes.toList with
   |some (.pv (.fn g caps)),some vs=>qX (F g ((vs++caps).map .pv) []) fun r=>HP C g r fun r=>bif (!(c.args.toList.any (jU st))||r.plain)&&r.ic then k (.pv r) else none
   |_,_=>none
  |_=>kO (q7 P c st) k
 |_=>kO (cH P h F o st) k
noncomputable def s4 (P:Program) (C:jH) (st:St) (t:TypeId) (m kx x:Operand) (k:St→Option R):Option R:=
 match P.underlying t with
 |some (.map kt et)=>match Kj P st et x with
  |some st'=>match bg P t st' m,(bg P kt st' kx).bind eC,(bg P et st' x).bind eC with
   |some (.row id),some key,some v=>match st'.ob id with
    |some (.mp k' e' ks vs)=>bif eT P kt key&&v.AT then
      A6 (qz key v ks vs) fun p=>Rh C kt et p fun p=>k { st' with ob:=put st'.ob id (some (.mp k' e' p.1 p.2)) }
     else none
    |_=>none
   |_,_,_=>none
  |none=>none
 |_=>none
noncomputable def uv (P:Program) (C:jH) (st:St) (t:TypeId) (m kx:Operand) (k:St→Option R):Option R:=
 match P.underlying t with
 |some (.map kt et)=>match bg P t st m,(bg P kt st kx).bind eC with
  |some (.row id),some key=>match st.ob id with
   |some (.mp k' e' ks vs)=>bif eT P kt key then
     A6 (Ks key ks vs) fun p=>Rh C kt et p fun p=>k { st with ob:=put st.ob id (some (.mp k' e' p.1 p.2)) }
    else none
   |_=>none
  |_,_=>none
 |_=>none
noncomputable def Kz (P:Program) (C:jH) (st:St) (t:TypeId) (m kx:Operand) (d:Nat) (k:St→Option R):Option R:=
 match Dc P st t m kx with
 |some (et,id,key,k',e,sz,ks,vs)=>bif Nat.beq id d then none else match jc P et,isSlice P et with
  |some (.bS _ []),some (e',s)=>bif Nat.beq e e'&&Nat.beq s sz&&Nat.blt 0 s then
    Ix (EE key ks vs) fun xs vs'=>RK C e xs fun xs=>YU C k' e (ks,vs') fun p=>
     k ((St.new { st with ob:=put st.ob id (some (.mr k' e sz p.1 p.2)) } d (.row e sz xs)).set (some d) (.row d))
   else none
  |_,_=>none
 |none=>none
noncomputable def L5 (P:Program) (C:jH) (st:St) (t:TypeId) (m kx x:Operand) (k:St→Option R):Option R:=
 match Dc P st t m kx with
 |some (et,id,key,k',e,sz,ks,vs)=>match x with
  | .const (.slice none 0 0)=>match isSlice P et with
   |some (e',s)=>bif Nat.beq e e'&&Nat.beq s sz&&Nat.blt 0 s then
     Du (qz key (some []) ks vs) fun p=>YU C k' e p fun p=>k { st with ob:=put st.ob id (some (.mr k' e sz p.1 p.2)) }
    else none
   |none=>none
  |x=>match bg P et st x with
   |some (.row j)=>match st.ob j with
    |some (.row e' s xs)=>bif Nat.beq e e'&&Nat.beq s sz&&Nat.blt j 10000 then
      Du (qz key (some xs) ks vs) fun p=>YU C k' e p fun p=>k { (st.bR j) with ob:=put (st.bR j).ob id (some (.mr k' e sz p.1 p.2)) }
     else none
    |_=>none
   |_=>none
 |none=>none
noncomputable def wQ (P:Program) (C:jH) (h:Hint) (F:de) (st:St) (c:Call) (f:Operand) (d:Option Nat) (k:St→Option R):Option R:=
 match (bg P 0 st f).bind Sw,oC P h st c.args.toList c.argTypes.toList with
 |some (g,caps),some vs=>
  let args:=vs++caps
  let ids:=eO st 200 (args.flatMap SV.ids) []
  let mv:=s6 (d.any h.stay.contains) st (xL args)
  let m:=iy mv 0 ids
  let names:=m.map (·.2)
  let ρ:=jT m
  bif distinct ids&&Nat.blt ids.length 10000&&args.all (SV.closed ids) then
   match fW st ids ρ m with
   |some bQ=>pn (F g (args.map (SV.l6 ρ)) bQ) fun r l=>CS C ((m.filter fun p=>h.keep.contains p.1).map (·.2)) bQ l fun dI=>HP C g r fun r=>match lE names (jT (swap m)) m dI with
    |some back=>bif r.ic then
      let st1:=lZ (ids.filter mv) st
      k (St.set { env:=st1.env,ob:=fun i=>(find back i).orElse fun _=>st1.ob i } d (.pv r)) else none
    |none=>none
   |none=>none
  else none
 |_,_=>none
noncomputable def stepT (P:Program) (C:jH) (h:Hint) (F:de) (o:Oper) (st:St) (k:St→Option R):Option R:=
 match o.op with
 | .makeSlice t l c=>match o.dst,isSlice P t,(bg P 0 st l).bind eC,(bg P 0 st c).bind eC with
  |some d,some (e,s),some (.int _ l),some (.int _ c)=>match zeroCells P e,P.info? e with
   |some z,some i=>bif Nat.blt 0 s&&Nat.beq z.length s then check (0≤l∧l≤c∧i.bytes *c.toNat≤281474976710656∧c≤9223372036854775807)
     (k ((st.new d (.row e s (List.replicate l.toNat z))).set (some d) (.row d))) else none
   |_,_=>none
  |_,_,_,_=>none
 | .store t x y=>match o.dst,bg P 0 st x,bg P t st y with
  |none,some (.rp id sz i off),some (.pv v)=>match st.ob id,gz P t with
   |some (.row e sz' xs),some n=>bif Nat.beq sz sz'&&Nat.beq v.cells.length n&&v.AT then
     fA xs i fun c=>Gj C e c fun c=>bif Nat.ble (off+n) c.length then k { st with ob:=put st.ob id (some (.row e sz' (xs.set i (c.take off++v.cells++c.drop (off+n))))) } else none
    else none
   |_,_=>none
  |none,some a,some v=>kO (storeAt P t st a v) k
  |_,_,_=>none
 | .call c=>match c.callee with
  | .builtin .append=>match o.dst,c.args.toList,c.argTypes.toList with
   |some d,[x,y],[t,t']=>match isSlice P t,bg P t st x,bg P t' st y with
    |some (e,s),some (.row id),some y=>match st.ob id,elems st y,P.info? e with
     |some (.row e' sz xs),some (sz',ys),some i=>
      bif Nat.beq t t'&&Nat.beq e e'&&Nat.beq s sz&&Nat.beq sz sz'&&Nat.blt 0 sz&&(i.zero.map (fun z=>z.cells.size)==some sz)&&lF id then
       check ((xs.length+ys.length) *i.bytes≤140737488355328∧xs.length+ys.length≤4611686018427387904) (k ((st.new id (.row e sz (xs++ys))).set (some d) (.row id)))
      else none
     |_,_,_=>none
    |_,_,_=>none
   |_,_,_=>none
  | .builtin .delete=>match o.dst,c.args.toList,c.argTypes.toList with
   |none,[m,kx],t::_=>uv P C st t m kx k
   |_,_,_=>none
  | .builtin .clear=>match o.dst,c.args.toList,c.argTypes.toList with
   |none,[x],[t]=>match isSlice P t,bg P t st x with
    |some (e,s),some (.sub id sz lo hi)=>match st.ob id,zeroCells P e with
     |some (.row e' sz' xs),some z=>bif Nat.beq s sz&&Nat.beq sz sz'&&Nat.beq z.length sz&&Nat.beq e e'&&Nat.blt 0 sz then
       check (hi≤xs.length) (k { st with ob:=put st.ob id (some (.row e' sz' (xs.take lo++List.replicate (hi-lo) z++xs.drop hi))) }) else none
     |_,_=>none
    |_,_=>none
   |_,_,_=>none
  | .value f=>bif o.dst.any h.stay.contains&&wide st c f then qo P C h F o st fun v=>k (st.set o.dst v) else bif wide st c f then wQ P C h F st c f o.dst k else bif c.args.toList.any (fun x=>(jg h st x).isSome) then
    match bg P 0 st f,sY P h st c.args.toList c.argTypes.toList with
    |some (.pv (.fn g caps)),some (vs,[id])=>match st.ob id with
     |some (.row e sz xs)=>yA (F g (vs++caps.map .pv) [(10000, .row e sz xs)]) 10000 e sz fun r xs'=>HP C g r fun r=>RK C e xs' fun xs'=>match r with
       | .self n=>bif lF id then check (n≤xs'.length) (k ((st.new id (.row e sz (xs'.take n))).set o.dst (.row id))) else none
       |r=>bif r.plain then k (St.set { st with ob:=put st.ob id (some (.row e sz xs')) } o.dst (.pv r)) else none
     |_=>none
    |_,_=>none
   else bif c.args.toList.any (jU st) then
    match bg P 0 st f,eW P st c.args.toList c.argTypes.toList with
    |some (.pv (.fn g caps)),some vs=>qX (F g ((vs++caps).map .pv) []) fun r=>HP C g r fun r=>bif r.plain&&r.ic then k (st.set o.dst (.pv r)) else
      match mI.dQ st c.args.toList with
      |some st'=>match bg P 0 st' f,eW P st' c.args.toList c.argTypes.toList with
       |some (.pv (.fn g' OG)),some vs'=>bif c.args.toList.any (jU st') then none else qX (F g' ((vs'++OG).map .pv) []) fun r=>HP C g' r fun r=>bif r.ic then k (st'.set o.dst (.pv r)) else none
       |_,_=>none
      |none=>none
    |_,_=>none
   else qo P C h F o st fun v=>k (st.set o.dst v)
  |_=>qo P C h F o st fun v=>k (st.set o.dst v)
 | .mapUpdate t m kx x=>match o.dst with
  |none=>bif jk h m then L5 P C st t m kx x k else s4 P C st t m kx x k
  |some _=>none
 | .insert t m kx x=>match o.dst with
  |none=>bif jk h m then L5 P C st t m kx x k else s4 P C st t m kx x k
  |some _=>none
 | .lookup t m kx ok=>bif jk h m&& !ok then
   match o.dst with
   |some d=>Kz P C st t m kx d k
   |none=>none
  else qo P C h F o st fun v=>k (st.set o.dst v)
 | .range t x=>match o.dst,P.underlying t,(bg P t st x).bind eC with
  |some d,some .string,some (.str s)=>k ((st.new d (.it s 0)).set (some d) (.ptr d 0))
  |_,_,_=>none
 | .next x true=>match o.dst,bg P 0 st x with
  |some d,some (.ptr id 0)=>match st.ob id with
   |some (.it s pos)=>bif Nat.blt pos s.length then
     k (St.set { st with ob:=put st.ob id (some (.it s (pos+(Utf8.decode ⟨s.toArray⟩ pos).2))) } (some d) (.pv (.fk [.bool true, .int .i64 pos, .int .i32 (Utf8.decode ⟨s.toArray⟩ pos).1])))
    else k (st.set (some d) (.pv (.fk [.bool false])))
   |_=>none
  |_,_=>none
 | .assign _| .buildSlice _ _ _| .box _ _| .alloc _| .makeMap _ _| .makeFunc _ _ _| .build _ _=>kO (step P h F o st) k
 |_=>qo P C h F o st fun v=>k (st.set o.dst v)
def Mz (ops:Array Oper) (o:Oper) (st:St) (k:Bool→St→Option R):Option R:=
 match o.guard with
 |none=>k true st
 |some (j,want)=>match (ops[j]?).bind (·.dst) with
  |some d=>match st.env d with
   |some (.pv (.bool true))=>k want st
   |some (.pv (.bool false))=>k (!want) st
   |some .undef=>k false st
   |_=>none
  |none=>none
def guards (ops:Array Oper) (i:Nat):Bool:=ops.toList.any fun o=>match o.guard,o.op with
 |some (j,_),_=>Nat.beq j i
 |none,_=>false
def Fq (b:Bool) (d:Option Nat) (st:St) (k:St→Option R):Option R:=
 bif b then
  match d with
  |some d=>match st.env d with
   |some (.pv (.bool t))=>bif t then k (st.set (some d) (.pv (.bool true))) else k (st.set (some d) (.pv (.bool false)))
   |_=>k st
  |none=>k st
 else k st
noncomputable def vT (P:Program) (C:jH) (h:Hint) (F:de) (ops:Array Oper):Nat→List Oper→St→(St→Option R)→Option R
 |_,[],st,k=>k st
 |i,o::l,st,k=>Mz ops o st fun b st=>bif b then stepT P C h F o st fun st=>Fq (guards ops i) o.dst st fun st=>vT P C h F ops (i+1) l st k
   else vT P C h F ops (i+1) l (st.set o.dst .undef) k
noncomputable def iP (P:Program) (C:jH) (h:Hint) (F:de) (ops:Array Oper) (fresh:List (Nat×Nat)):Nat→List Oper→List (Nat×dV)→St→(St→Option R)→Option R
 |_,[],_,st,k=>k st
 |i,o::l,prev,st,k=>Mz ops o st fun b st=>bif b then
    bif YM h st o then
     qo P C h F o st fun v=>bif iW ops fresh i v&&eR ops prev i (rO P h ops o st v) then
      Fq (guards ops i) o.dst (st.set o.dst v) fun st'=>iP P C h F ops fresh (i+1) l ((i,rO P h ops o st v)::prev) st' k else none
    else match o.op,o.dst with
     | .store t x y,none=>match bg P 0 st x,bg P t st y with
      |some sa,some sv=>match targetId sa with
       |some id=>bif iW ops fresh i sv&&eR ops prev i (fD ops o st id) then
         stepT P C h F o st fun st'=>iP P C h F ops fresh (i+1) l ((i,fD ops o st id)::prev) st' k else none
       |none=>none
      |_,_=>none
     | .alloc t,some d=>bif h.rows.contains d then none else match zeroCells P t with
      |some z=>bif eR ops prev i (gl ops o d) then
        iP P C h F ops fresh (i+1) l ((i,gl ops o d)::prev) { env:=put st.env d (some (.ptr d 0)),ob:=put st.ob d (some (.box t (z.map .pv))) } k else none
      |none=>none
     | .call c,d=>match CK P st fresh ops c d with
      |some id=>bif eR ops prev i (iT ops o st (d.getD 0) id) then
        stepT P C h F o st fun st'=>iP P C h F ops fresh (i+1) l ((i,iT ops o st (d.getD 0) id)::prev) st' k
       else none
      |none=>bif fresh.all (fun p=>Nat.blt p.2 i)&&eR ops prev i eB then
        stepT P C h F o st fun st'=>iP P C h F ops fresh (i+1) l ((i,eB)::prev) st' k
       else none
     | .assign _,_| .makeSlice _ _ _,_| .buildSlice _ _ _,_| .box _ _,_| .makeMap _ _,_| .mapUpdate _ _ _ _,_| .insert _ _ _ _,_| .lookup _ _ _ _,_| .range _ _,_| .next _ _,_=>bif fresh.all (fun p=>Nat.blt p.2 i)&&eR ops prev i eB then
       stepT P C h F o st fun st'=>iP P C h F ops fresh (i+1) l ((i,eB)::prev) st' k
      else none
     |_,_=>none
   else bif eR ops prev i (ny ops o st) then iP P C h F ops fresh (i+1) l ((i,ny ops o st)::prev) (st.set o.dst .undef) k else none
@[irreducible] noncomputable def yM (P:Program) (h:Hint) (F:de) (c:Code) (st:St) (k:Ex→St→Option R):Option R:=
 open Classical in if hx : ∃ x n, exec P h F n (.loop c) st = some x then k hx.choose.1 hx.choose.2 else none
def Y5 (rb:St→(Ex→St→Option R)→Option R) (k:Ex→St→Option R):Ex→St→Option R:=fun e st=>match e with
 | .normal=>rb st k
 |e=>k e st
def I9 (id:Nat) (k:Ex→St→Option R):Ex→St→Option R:=fun e st=>match e with
 | .exit j=>bif Nat.beq j id then k .normal st else k (.exit j) st
 |e=>k e st
noncomputable def IU (P:Program) (h:Hint) (F:de) (c:Code) (k:Ex→St→Option R):Ex→St→Option R:=fun e st=>match e with
 | .normal=>yM P h F c (h.canon (cn c) st) k
 |e=>k e st
noncomputable def vM (C:jH):List Nat→St→(St→Option R)→Option R
 |[],st,k=>k st
 |id::l,st,k=>match st.ob id with
  |some (.mr kt e sz ks vs)=>bif r7 id then
    Og (lC vs) fun xs=>mpK C kt e sz (ks,xs.map (.bS sz)) fun p=>
     vM C l { env:=fun i=>(st.env i).map (SV.cL id (.mp p.1 p.2)),ob:=put (fun i=>(st.ob i).map (Ob.cL id (.mp p.1 p.2))) id none } k
   else none
  |_=>match st.Fc id with
   |some st'=>vM C l st' k
   |none=>none
noncomputable def RD (C:jH) (h:Hint) (id:Nat) (st:St) (k:St→Option R):Option R:=
 match find h.ot id with
 |some l=>vM C l st k
 |none=>k st
noncomputable def iJ (P:Program) (C:jH) (h:Hint) (F:de):Code→St→(Ex→St→Option R)→Option R
 | .skip,st,k=>k .normal st
 | .label _,st,k=>k .normal st
 | .region id ops draw,st,k=>RD C h id st fun st=>
  bif draw then
   bif kS 0 ops.toList&&lY (dN 0 ops.toList) then iP P C h F ops (dN 0 ops.toList) 0 ops.toList [] (gR (dN 0 ops.toList) st) (k .normal) else none
  else vT P C h F ops 0 ops.toList st (k .normal)
 | .seq a b,st,k=>match find h.blk (cn a) with
  |some x=>check (x.1 st=true) (k (Vb (x.2 st).1) (x.2 st).2)
  |none=>iJ P C h F a st (Y5 (iJ P C h F b) k)
 | .cond c a b,st,k=>match bg P 0 st c with
  |some (.pv (.bool t))=>bif t then iJ P C h F a st k else iJ P C h F b st k
  |_=>none
 | .block id c,st,k=>iJ P C h F c st (I9 id k)
 | .loop c,st,k=>yM P h F c (h.canon (cn c) st) k
 | .exit id,st,k=>k (.exit id) st
 | .ret,st,k=>k .ret st
 | .scope c,st,k=>iJ P C h F c st k
 |_,_,_=>none
noncomputable def vb (P:Program) (C:jH) (h:Hint) (F:de) (key:Nat):Code→(Ex→St→Option R)→Option (Code×(Ex→St→Option R))
 | .seq a b,k=>match find h.blk (cn a) with
  |some _=>none
  |none=>match vb P C h F key a (Y5 (iJ P C h F b) k) with
   |some x=>some x
   |none=>vb P C h F key b k
 | .cond _ a b,k=>match vb P C h F key a k with
  |some x=>some x
  |none=>vb P C h F key b k
 | .block id c,k=>vb P C h F key c (I9 id k)
 | .loop c,k=>bif Nat.beq (cn c) key then some (c,k) else vb P C h F key c (IU P h F c k)
 | .scope c,k=>vb P C h F key c k
 |_,_=>none
end
noncomputable def OB (P:Program) (C:jH) (H:Nat→Hint) (c9:de) (f:Nat) (args:List SV) (bQ:List (Nat×Ob)):Option (AV×List (Nat×Ob)):=
 match P.funcs[f]? with
 |some fn=>match fn.body with
  |some c=>bif Nat.ble args.length fn.ntmps&&(bQ.map (·.1)).all (fun i=> !(r7 i)) then iJ P C (H f) (run P H c9) c { env:=find (qi 0 args),ob:=find bQ } (OV P fn (bQ.map (·.1))) else none
  |none=>none
 |none=>none
noncomputable def yI (P:Program) (C:jH) (H:Nat→Hint) (c9:de) (f key:Nat) (names:List Nat) (env:List (Nat×SV)) (ob:List (Nat×Ob)):Option (AV×List (Nat×Ob)):=
 match P.funcs[f]? with
 |some fn=>match fn.body with
  |some c=>match vb P C (H f) (run P H c9) key c (OV P fn names) with
   |some (cl,k)=>yM P (H f) (run P H c9) cl { env:=find env,ob:=find ob } k
   |none=>none
  |none=>none
 |none=>none
noncomputable def KN (P:Program) (C:jH) (H:Nat→Hint) (c9:de) (f key:Nat) (names:List Nat) (env:List (Nat×SV)) (ob:List (Nat×Ob)):Option (AV×List (Nat×Ob)):=
 match P.funcs[f]? with
 |some fn=>match fn.body with
  |some c=>match vb P C (H f) (run P H c9) key c (OV P fn names) with
   |some (cl,k)=>iJ P C (H f) (run P H c9) cl ((H f).canon (cn cl) { env:=find env,ob:=find ob }) (IU P (H f) (run P H c9) cl k)
   |none=>none
  |none=>none
 |none=>none
section
variable {R:Type} {P:Program} {C:jH} {h:Hint} {F:de}
theorem dr {α:Type} {c:Option α} {k:α→Option R} {r:R} (hv:kO c k=some r):∃x,c=some x∧k x=some r:=by
 cases c with
 |none=>simp [kO] at hv
 |some x=>exact ⟨x,rfl,hv⟩
theorem eH {p:Prop} [Decidable p] {x:Option R} {r:R} (hv:check p x=some r):p∧x=some r:=by
 unfold check at hv;split at hv
 ·exact ⟨‹_›,hv⟩
 ·cases hv
theorem CX {α:Type} {xs:List α} {i:Int} {k:α→Option R} {r:R} (hv:bA xs i k=some r):0≤i∧∃x,xs[i.toNat]? =some x∧k x=some r:=by
 unfold bA at hv;split at hv
 ·rename_i h0
  split at hv
  ·rename_i x hx;exact ⟨h0,x,hx,hv⟩
  ·cases hv
 ·cases hv
theorem CZ {α:Type} {xs:List α} {i:Nat} {k:α→Option R} {r:R} (hv:fA xs i k=some r):∃x,xs[i]? =some x∧k x=some r:=by
 unfold fA at hv;split at hv
 ·rename_i x hx;exact ⟨x,hx,hv⟩
 ·cases hv
theorem tY {c:Option (AV×List (Nat×Ob))} {k:AV→Option R} {r:R} (hv:qX c k=some r):∃x,c=some (x,[])∧k x=some r:=by
 unfold qX at hv;split at hv
 ·rename_i x;exact ⟨x,rfl,hv⟩
 ·cases hv
theorem Je {c:Option (AV×List (Nat×Ob))} {nm e sz:Nat} {k:AV→List (List AV)→Option R} {r:R} (hv:yA c nm e sz k=some r):∃x xs,c=some (x,[(nm, .row e sz xs)])∧k x xs=some r:=by
 unfold yA at hv;split at hv
 ·rename_i x KA e' sz' xs
  replace hv:=bG hv
  obtain ⟨hb,hv⟩:=hv;simp only [Bool.and_eq_true] at hb;have h1:=beq_iff.1 hb.1.1;have h2:=beq_iff.1 hb.1.2;have h3:=beq_iff.1 hb.2;subst h1 h2 h3;exact ⟨x,xs,rfl,hv⟩
 ·cases hv
theorem lP {α T:Type} {enc:T→α} {c:α} {k:T→Option R} {r:R} (hv:eZ enc c k=some r):∃d,enc d=c∧k d=some r:=by
 unfold eZ at hv;split at hv
 ·rename_i hx;exact ⟨_,hx.choose_spec,hv⟩
 ·cases hv
theorem ue {e:TypeId} {c:List AV} {k:List AV→Option R} {r:R} (hv:Gj C e c k=some r):k c=some r:=by
 unfold Gj at hv;split at hv
 ·obtain ⟨x,rfl,hk⟩:=lP hv;exact hk
 ·exact hv
theorem xM {e:TypeId} {c:List (List AV)} {k:List (List AV)→Option R} {r:R} (hv:RK C e c k=some r):k c=some r:=by
 unfold RK at hv;split at hv
 ·obtain ⟨x,rfl,hk⟩:=lP hv;exact hk
 ·exact hv
theorem mZ {g:Nat} {c:AV} {k:AV→Option R} {r:R} (hv:HP C g c k=some r):k c=some r:=by
 unfold HP at hv;split at hv
 ·obtain ⟨x,rfl,hk⟩:=lP hv;exact hk
 ·exact hv
theorem NY {t:TypeId} {c:AV} {k:AV→Option R} {r:R} (hv:WG C t c k=some r):k c=some r:=by
 unfold WG at hv;split at hv
 ·obtain ⟨x,rfl,hk⟩:=lP hv;exact hk
 ·exact hv
theorem xg {kt et:TypeId} {c:List AV×List AV} {k:List AV×List AV→Option R} {r:R} (hv:Rh C kt et c k=some r):k c=some r:=by
 unfold Rh at hv;split at hv
 ·obtain ⟨x,rfl,hk⟩:=lP hv;exact hk
 ·exact hv
theorem Ko {x:Option (Option AV)} {k:AV→Option R} {z:Option R} {r:R} (hv:AK x k z=some r):(∃v,x=some (some v)∧k v=some r)∨(x=some none∧z=some r):=by
 unfold AK at hv;split at hv
 ·exact .inl ⟨_,rfl,hv⟩
 ·exact .inr ⟨rfl,hv⟩
 ·cases hv
theorem Dt {x:Option (List AV×List AV)} {k:List AV×List AV→Option R} {r:R} (hv:A6 x k=some r):∃p,x=some p∧k p=some r:=by
 unfold A6 at hv;split at hv
 ·exact ⟨_,rfl,hv⟩
 ·cases hv
theorem z8 {c:Option (AV×List (Nat×Ob))} {k:AV→List (Nat×Ob)→Option R} {r:R} (hv:pn c k=some r):∃x l,c=some (x,l)∧k x l=some r:=by
 unfold pn at hv;split at hv
 ·exact ⟨_,_,rfl,hv⟩
 ·cases hv
theorem wD {nm:Nat} {l:List (Nat×Ob)} {k:Ob→List (Nat×Ob)→Option R} {r:R} (hv:aP nm l k=some r):∃o l',l=(nm,o)::l'∧k o l'=some r:=by
 unfold aP at hv;split at hv
 ·replace hv:=bG hv
  obtain ⟨hb,hv⟩:=hv;have:=beq_iff.1 hb;subst this;exact ⟨_,_,rfl,hv⟩
 ·cases hv
theorem De {l:List (Nat×Ob)} {k:Option R} {r:R} (hv:jO l k=some r):l=[]∧k=some r:=by
 unfold jO at hv;split at hv
 ·exact ⟨rfl,hv⟩
 ·cases hv
theorem uD {o o':Ob} {k:Option R} {r:R} (hv:bX o o' k=some r):o=o'∧k=some r:=by
 unfold bX at hv;split at hv
 ·exact ⟨‹_›,hv⟩
 ·cases hv
theorem IZ {e sz:Nat} {o:Ob} {k:List (List AV)→Option R} {r:R} (hv:gD e sz o k=some r):∃xs,o= .row e sz xs∧k xs=some r:=by
 unfold gD at hv;split at hv
 ·replace hv:=bG hv
  obtain ⟨hb,hv⟩:=hv;simp only [Bool.and_eq_true] at hb;have h1:=beq_iff.1 hb.1;have h2:=beq_iff.1 hb.2;subst h1 h2;exact ⟨_,rfl,hv⟩
 ·cases hv
theorem IY {kt et:Nat} {o:Ob} {k:List AV×List AV→Option R} {r:R} (hv:nj kt et o k=some r):∃p,o= .mp kt et p.1 p.2∧k p=some r:=by
 unfold nj at hv;split at hv
 ·replace hv:=bG hv
  obtain ⟨hb,hv⟩:=hv;simp only [Bool.and_eq_true] at hb;have h1:=beq_iff.1 hb.1;have h2:=beq_iff.1 hb.2;subst h1 h2;exact ⟨(_,_),rfl,hv⟩
 ·cases hv
theorem Nd {x:Option (Option Nat)} {k:Bool→Option R} {r:R} (hv:Pj x k=some r):∃q,x=some q∧k q.isSome=some r:=by
 unfold Pj at hv;split at hv
 ·exact ⟨_,rfl,hv⟩
 ·cases hv
theorem FZ {x:Option (List UInt8)} {k:List UInt8→Option R} {r:R} (hv:rF x k=some r):∃b,x=some b∧k b=some r:=by
 unfold rF at hv;split at hv
 ·exact ⟨_,rfl,hv⟩
 ·cases hv
theorem KY {x:Option (List (List AV)×List (Option (List (List AV))))} {k:List (List AV)→List (Option (List (List AV)))→Option R} {r:R} (hv:Ix x k=some r):∃p,x=some p∧k p.1 p.2=some r:=by
 unfold Ix at hv;split at hv
 ·exact ⟨_,rfl,hv⟩
 ·cases hv
theorem A8 {x:Option (List AV×List (Option (List (List AV))))} {k:List AV×List (Option (List (List AV)))→Option R} {r:R} (hv:Du x k=some r):∃p,x=some p∧k p=some r:=by
 unfold Du at hv;split at hv
 ·exact ⟨_,rfl,hv⟩
 ·cases hv
theorem MF {x:Option (List (List (List AV)))} {k:List (List (List AV))→Option R} {r:R} (hv:Og x k=some r):∃l,x=some l∧k l=some r:=by
 unfold Og at hv;split at hv
 ·exact ⟨_,rfl,hv⟩
 ·cases hv
theorem AS {kt e:TypeId} {c:List AV×List (Option (List (List AV)))} {k:List AV×List (Option (List (List AV)))→Option R} {r:R} (hv:YU C kt e c k=some r):k c=some r:=by
 unfold YU at hv;split at hv
 ·obtain ⟨x,rfl,hk⟩:=lP hv;exact hk
 ·exact hv
theorem Rp {kt e:TypeId} {sz:Nat} {c:List AV×List AV} {k:List AV×List AV→Option R} {r:R} (hv:mpK C kt e sz c k=some r):k c=some r:=by
 unfold mpK at hv;split at hv
 ·obtain ⟨x,rfl,hk⟩:=lP hv;exact hk
 ·exact hv
theorem HX {o o':Ob} {k:Ob→Option R} {r:R} (hv:KP C o o' k=some r):k o'=some r:=by
 unfold KP at hv;split at hv
 ·obtain ⟨xs,rfl,hk⟩:=IZ hv;exact xM hk
 ·obtain ⟨p,rfl,hk⟩:=IY hv;exact xg hk
 ·obtain ⟨rfl,hk⟩:=uD hv;exact hk
theorem ud {keep:List Nat}:∀{l l':List (Nat×Ob)} {k:List (Nat×Ob)→Option R} {r:R},CS C keep l l' k=some r→k l'=some r
 |[],l',k,r,hv=>by
  simp only [CS] at hv;obtain ⟨rfl,hk⟩:=De hv;exact hk
 |(nm,o)::l,l',k,r,hv=>by
  simp only [CS] at hv
  replace hv:=wD hv
  obtain ⟨o',l'',rfl,hv⟩:=hv;cases hkp:keep.contains nm with
  |true=>
   rw [hkp] at hv;obtain ⟨e,hv⟩:=uD hv;subst e;exact ud (k:=fun os=>k ((nm,o')::os)) hv
  |false=>
   rw [hkp] at hv;simp only [cond_false] at hv;exact ud (k:=fun os=>k ((nm,o')::os)) (HX hv)
theorem NK {a:AV} {k:List AV→Option R} {r:R} (hv:RA a k=some r):∃cs,a= .ref cs∧k cs=some r:=by
 unfold RA at hv;split at hv
 ·exact ⟨_,rfl,hv⟩
 ·cases hv
theorem Gg {a:AV} {k:AV→Option R} {r:R} (hv:Jh C a k=some r):∃cs,a= .ref cs∧k (.ref cs)=some r:=by
 unfold Jh at hv;obtain ⟨cs,e,hv⟩:=NK hv;refine ⟨cs,e,?_⟩;split at hv
 ·obtain ⟨x,e2,hv⟩:=lP hv;rw [←e2];exact hv
 ·exact hv
theorem tB:∀{l l':List (Nat×Ob)} {k:Option R} {r:R},rC l l' k=some r→l'=l∧k=some r
 |[],l',k,r,hv=>by
  simp only [rC] at hv;obtain ⟨e,hk⟩:=De hv;exact ⟨e,hk⟩
 |(nm,o)::l,l',k,r,hv=>by
  simp only [rC] at hv;obtain ⟨o',l2,e1,h1⟩:=wD hv;obtain ⟨e2,h2⟩:=uD h1;obtain ⟨e3,h3⟩:=tB h2;exact ⟨by rw [e1,e2,e3],h3⟩
theorem Ec {st:St} {c:Call} {f:Operand} {k:AV→Option R} {r:R} (hv:Eb P C h F st c f k=some r):∃v,kQ P h F st c f=some v∧k v=some r:=by
 unfold Eb at hv;split at hv
 ·rename_i g args ha
  obtain ⟨hb,hv⟩:=bG hv;split at hv
  ·rename_i bQ hl
   obtain ⟨x,l,hx,hv⟩:=z8 hv;obtain ⟨e,h2⟩:=tB hv;subst e;obtain ⟨C0,h3⟩:=bG (mZ h2);refine ⟨x,?_,h3⟩;simp only [kQ,ha,hb,cond_true,hl,hx,vV,C0,Bool.and_self]
  ·cases hv
 ·cases hv
theorem gE {lo:Option SV} {d hi:Nat} {k:Nat→Option R} {r:R} (hv:oD lo d hi k=some r):∃n,dR lo d hi=some n∧k n=some r:=by
 unfold oD at hv;split at hv
 ·exact ⟨d,rfl,hv⟩
 ·rename_i q i
  obtain ⟨hc,hk⟩:=eH hv;exact ⟨i.toNat,by simp [dR,hc],hk⟩
 ·cases hv
theorem ve {o:Oper} {st:St} {k:SV→Option R} {r:R} (hv:qo P C h F o st k=some r):∃v,cH P h F o st=some v∧k v=some r:=by
 unfold qo at hv;split at hv
 ·rename_i c x y ho
  split at hv
  ·rename_i t hc
   cases t with
   |true=>
    obtain ⟨v,hx,hk⟩:=dr hv;exact ⟨v,by simp [cH,cM,ho,hc,hx],hk⟩
   |false=>
    obtain ⟨v,hx,hk⟩:=dr hv;exact ⟨v,by simp [cH,cM,ho,hc,hx],hk⟩
  ·cases hv
 ·rename_i x ho
  split at hv
  ·rename_i a hx
   obtain ⟨cs,rfl,hk⟩:=Gg hv;exact ⟨_,by simp only [cH,cM,ho,hx],hk⟩
  ·obtain ⟨v,hp,hk⟩:=dr hv
   exact ⟨v,by simp only [cH,ho];exact hp,hk⟩
 ·rename_i t x ix ho
  split at hv
  ·rename_i n e hu
   obtain ⟨v,hx,hk⟩:=dr hv;exact ⟨v,by simp [cH,cM,ho,hu,hx],hk⟩
  ·rename_i hna
   have hp:cH P h F o st=vm P st t x ix:=by
    simp only [cH,ho,cM]
   rw [hp];split at hv
   ·rename_i e s sz xs q i hs hx hi
    replace hv:=bG hv
    obtain ⟨hb,hv⟩:=hv;have:=beq_iff.1 hb;subst this;obtain ⟨h0,c,hc,hk⟩:=CX hv;exact ⟨_,by simp [vm,hs,hx,hi,h0,hc],ue hk⟩
   ·rename_i e s id q i hs hx hi
    split at hv
    ·rename_i e' sz xs cQ
     replace hv:=bG hv
     obtain ⟨hb,hv⟩:=hv;have:=beq_iff.1 hb;subst this;obtain ⟨hc,hk⟩:=eH hv;exact ⟨_,by simp [vm,hs,hx,hi,cQ,hc],hk⟩
    ·cases hv
   ·rename_i e s id sz lo hi' q i hs hx hi
    replace hv:=bG hv
    obtain ⟨hb,hv⟩:=hv;have:=beq_iff.1 hb;subst this;obtain ⟨hc,hk⟩:=eH hv;exact ⟨_,by simp [vm,hs,hx,hi,hc],hk⟩
   ·cases hv
 ·rename_i t x ix ho
  split at hv
  ·rename_i s q i hu hx hi
   obtain ⟨h0,b,hb,hk⟩:=CX hv;exact ⟨_,by simp [cH,cM,ho,hu,hx,hi,h0,hb],hk⟩
  ·cases hv
 ·rename_i t x ho
  split at hv
  ·rename_i id sz i off hx
   split at hv
   ·rename_i e sz' xs cQ
    replace hv:=bG hv
    obtain ⟨hb,hv⟩:=hv;have:=beq_iff.1 hb;subst this;obtain ⟨c,hc,hv⟩:=CZ hv
    replace hv:=ue hv
    obtain ⟨v,ht,hk⟩:=dr hv;exact ⟨_,by simp [cH,cM,ho,hx,cQ,hc,ht],hk⟩
   ·cases hv
  ·obtain ⟨v,ht,hk⟩:=dr hv
   exact ⟨v,by simp only [cH,ho];exact ht,hk⟩
 ·rename_i op t x y t' ho
  have dflt:kO (cM P o st) (fun v=>k v)=some r→∃v,cH P h F o st=some v∧k v=some r:=fun hv=>by
   obtain ⟨v,ht,hk⟩:=dr hv;exact ⟨v,by simp only [cH,ho];exact ht,hk⟩
  split at hv
  ·rename_i ka a kb b hx hy
   split at hv
   ·replace hv:=bG hv
    obtain ⟨hb,hv⟩:=hv;have hk:ka=kb:=by simpa using hb
    subst hk;obtain ⟨hc,hk⟩:=eH hv;exact ⟨_,by simp [cH,cM,ho,hx,hy,bin,wY,hc],hk⟩
   ·replace hv:=bG hv
    obtain ⟨hb,hv⟩:=hv;have hk:ka=kb:=by simpa using hb
    subst hk;obtain ⟨hc,hk⟩:=eH hv;exact ⟨_,by simp [cH,cM,ho,hx,hy,bin,wY,hc],hk⟩
   ·obtain ⟨hc,hk⟩:=eH hv
    have:¬b<0:=by omega
    exact ⟨_,by simp [cH,cM,ho,hx,hy,bin,sw,this],hk⟩
   ·obtain ⟨hc,hk⟩:=eH hv
    have:¬b<0:=by omega
    exact ⟨_,by simp [cH,cM,ho,hx,hy,bin,sw,this],hk⟩
   ·exact dflt hv
  ·rename_i a b hx hy
   split at hv
   ·obtain ⟨hc,hk⟩:=eH hv
    exact ⟨_,by simp [cH,cM,ho,hx,hy,bin,KR,hc],hk⟩
   ·exact dflt hv
  ·exact dflt hv
 ·rename_i t x lo hi ho
  split at hv
  ·rename_i s lv JG hu hx hlo hhi
   obtain ⟨n,hn,hv⟩:=gE hv;obtain ⟨m,hm,hk⟩:=gE hv;exact ⟨_,by simp [cH,cM,ho,hu,hx,hlo,hhi,hn,hm],hk⟩
  ·rename_i e sz xs lv JG hu hx hlo hhi
   split at hv
   ·rename_i e' s hs
    replace hv:=bG hv
    obtain ⟨hb,hv⟩:=hv;have:=beq_iff.1 hb;subst this;obtain ⟨n,hn,hv⟩:=gE hv;obtain ⟨m,hm,hk⟩:=gE hv;exact ⟨_,by simp [cH,cM,ho,hu,hx,hlo,hhi,hs,hn,hm],hk⟩
   ·cases hv
  ·rename_i e id lv JG hu hx hlo hhi
   split at hv
   ·rename_i e' s e2 sz xs hs cQ
    replace hv:=bG hv
    obtain ⟨hb,hv⟩:=hv;have:=beq_iff.1 hb;subst this;obtain ⟨n,hn,hv⟩:=gE hv;obtain ⟨m,hm,hk⟩:=gE hv;exact ⟨_,by simp [cH,cM,ho,hu,hx,hlo,hhi,hs,cQ,hn,hm],hk⟩
   ·cases hv
  ·rename_i e id sz a b lv JG hu hx hlo hhi
   split at hv
   ·rename_i e' s hs
    replace hv:=bG hv
    obtain ⟨hb,hv⟩:=hv;have:=beq_iff.1 hb;subst this;obtain ⟨n,hn,hv⟩:=gE hv;obtain ⟨m,hm,hk⟩:=gE hv;exact ⟨_,by simp [cH,cM,ho,hu,hx,hlo,hhi,hs,hn,hm],hk⟩
   ·cases hv
  ·cases hv
 ·rename_i src dst x ho
  split at hv
  ·rename_i e hu hd
   split at hv
   ·rename_i xs he hs hx
    obtain ⟨b,hb,hk⟩:=FZ hv;exact ⟨_,by simp [cH,cM,ho,hu,hd,he,hs,hx,hb],hk⟩
   ·cases hv
  ·obtain ⟨v,ht,hk⟩:=dr hv
   exact ⟨v,by simp only [cH,ho];exact ht,hk⟩
 ·rename_i t x kx ok ho
  cases hrm:(jk h x&& !ok) with
  |true=>rw [hrm] at hv;cases hv
  |false=>
  rw [hrm] at hv;simp only [cond_false] at hv;split at hv
  ·rename_i kt et hu
   split at hv
   ·rename_i ks key hx hk
    obtain ⟨hok,hv⟩:=bG hv;obtain ⟨q,hq,hv⟩:=Nd hv;exact ⟨_,by simp only [cH,cM,ho,hrm,cond_false,hu,hx,hk,hok,cond_true,hq,Option.map_some],hv⟩
   ·rename_i hno
    split at hv
    ·rename_i ks vs key hx hk
     have hnk:(bg P t st x).bind (yN st)=none:=by
      cases hkk:(bg P t st x).bind (yN st) with
      |none=>rfl
      |some ks'=>exact (hno ks' key hkk hk).elim
     obtain ⟨hok,hv⟩:=bG hv;rcases Ko hv with ⟨v,hg,hv⟩|⟨hg,hv⟩
     ·exact ⟨_,by simp only [cH,cM,ho,hrm,cond_false,hu,hnk,hx,hk,hok,cond_true,hg],NY hv⟩
     ·obtain ⟨z,hz,hv⟩:=dr hv
      exact ⟨_,by simp only [cH,cM,ho,hrm,cond_false,hu,hnk,hx,hk,hok,cond_true,hg,hz,Option.map_some],hv⟩
    ·cases hv
  ·cases hv
 ·rename_i c ho
  split at hv
  ·rename_i f hc
   cases hro:(o.dst.any h.stay.contains&&wide st c f) with
   |true=>
    rw [hro] at hv;simp only [cond_true] at hv;obtain ⟨v,hx,hk⟩:=Ec hv;refine ⟨.pv v,?_,hk⟩;simp only [cH,ho,hc];rw [hro,hx];rfl
   |false=>
   rw [hro] at hv;simp only [cond_false] at hv;cases gq:(wide st c f||c.args.toList.any (fun x=>(jg h st x).isSome)) with
   |true=>rw [gq] at hv;cases hv
   |false=>
   rw [gq] at hv;simp only [cond_false] at hv;split at hv
   ·rename_i g caps vs hf hvs
    obtain ⟨r',hx,hv⟩:=tY hv;obtain ⟨hb,hk⟩:=bG (mZ hv);refine ⟨.pv r',?_,hk⟩;simp only [cH,ho,hc,hf,hvs,hx];rw [hro,gq,hb];rfl
   ·cases hv
  ·rename_i hc
   obtain ⟨v,ht,hk⟩:=dr hv;refine ⟨v,?_,hk⟩;simp only [cH,ho];exact ht
 ·exact dr hv
theorem q4 {st:St} {t:TypeId} {m kx x:Operand} {k:St→Option R} {r:R} (hv:s4 P C st t m kx x k=some r):∃st',pV P st t m kx x=some st'∧k st'=some r:=by
 unfold s4 at hv;split at hv
 ·rename_i kt et hu
  split at hv
  ·rename_i st1 h1
   split at hv
   ·rename_i id key v hm hk hx
    split at hv
    ·rename_i k' e' ks vs cQ
     obtain ⟨hc,hv⟩:=bG hv;obtain ⟨p,hp,hv⟩:=Dt hv
     replace hv:=xg hv
     exact ⟨_,by simp only [pV,hu,h1,hm,hk,hx,cQ,hc,cond_true,hp],hv⟩
    ·cases hv
   ·cases hv
  ·cases hv
 ·cases hv
theorem xd {st:St} {t:TypeId} {m kx:Operand} {k:St→Option R} {r:R} (hv:uv P C st t m kx k=some r):∃st',pR P st t m kx=some st'∧k st'=some r:=by
 unfold uv at hv;split at hv
 ·rename_i kt et hu
  split at hv
  ·rename_i id key hm hk
   split at hv
   ·rename_i k' e' ks vs cQ
    obtain ⟨hc,hv⟩:=bG hv;obtain ⟨p,hp,hv⟩:=Dt hv
    replace hv:=xg hv
    exact ⟨_,by simp only [pR,hu,hm,hk,cQ,hc,cond_true,hp],hv⟩
   ·cases hv
  ·cases hv
 ·cases hv
theorem zj {st:St} {c:Call} {f:Operand} {d:Option Nat} {k:St→Option R} {r:R} (hv:wQ P C h F st c f d k=some r):∃st',gd P h F st c f d=some st'∧k st'=some r:=by
 unfold wQ at hv;split at hv
 ·rename_i g caps vs hf hvs
  simp only [] at hv
  replace hv:=bG hv
  obtain ⟨hb,hv⟩:=hv;split at hv
  ·rename_i bQ hl
   obtain ⟨r',l,hx,hv⟩:=z8 hv
   replace hv:=mZ (ud hv)
   split at hv
   ·rename_i back rR
    replace hv:=bG hv
    obtain ⟨C0,hk⟩:=hv;refine ⟨_,?_,hk⟩;simp only [gd,hf,hvs,hb,cond_true,hl,hx,rR,C0]
   ·cases hv
  ·cases hv
 ·cases hv
theorem yS {st:St} {t:TypeId} {m kx x:Operand} {k:St→Option R} {r:R} (hv:L5 P C st t m kx x k=some r):∃st',Ky P st t m kx x=some st'∧k st'=some r:=by
 unfold L5 at hv;split at hv
 ·rename_i et id key k' e sz ks vs hmk
  split at hv
  ·split at hv
   ·rename_i e' s hs
    replace hv:=bG hv
    obtain ⟨hb,hv⟩:=hv;simp only [Bool.and_eq_true] at hb;have e1:=beq_iff.1 hb.1.1;have e2:=beq_iff.1 hb.1.2;have e3:0<s:=by simpa [Nat.blt_eq] using hb.2
    obtain ⟨p,hp,hv⟩:=A8 hv;refine ⟨_,?_,AS hv⟩;simp only [Ky,hmk,hs];rw [if_pos ⟨e1,e2,e3⟩];simp only [hp]
   ·cases hv
  ·rename_i hnc
   split at hv
   ·rename_i j hx
    split at hv
    ·rename_i e' s xs cQ
     replace hv:=bG hv
     obtain ⟨hb,hv⟩:=hv;simp only [Bool.and_eq_true] at hb;have e1:=beq_iff.1 hb.1.1;have e2:=beq_iff.1 hb.1.2;have e3:j<10000:=by simpa [Nat.blt_eq] using hb.2
     obtain ⟨p,hp,hv⟩:=A8 hv;refine ⟨_,?_,AS hv⟩;cases x with
     |tmp i=>
      simp only [Ky,hmk,hx,cQ];rw [if_pos ⟨e1,e2,e3⟩];simp only [hp]
     |const v=>
      simp only [bg] at hx;cases hc:ofConst P et v<;>simp [hc] at hx
     |func f=>simp [bg] at hx
     |global g=>simp [bg] at hx
    ·cases hv
   ·cases hv
 ·cases hv
theorem ED {st:St} {t:TypeId} {m kx:Operand} {d:Nat} {k:St→Option R} {r:R} (hv:Kz P C st t m kx d k=some r):∃st',Dd P st t m kx d=some st'∧k st'=some r:=by
 unfold Kz at hv;split at hv
 ·rename_i et id key k' e sz ks vs hmk
  cases FN:Nat.beq id d with
  |true=>rw [FN] at hv;cases hv
  |false=>
  rw [FN] at hv;simp only [cond_false] at hv;split at hv
  ·rename_i s0 e' s hz hs
   replace hv:=bG hv
   obtain ⟨hb,hv⟩:=hv;simp only [Bool.and_eq_true] at hb;have e1:=beq_iff.1 hb.1.1;have e2:=beq_iff.1 hb.1.2;have e3:0<s:=by simpa [Nat.blt_eq] using hb.2
   obtain ⟨p,hp,hv⟩:=KY hv
   replace hv:=AS (xM hv)
   obtain ⟨_,_,_,_,cQ,_⟩:=rX hmk;unfold EE at hp;split at hp
   ·rename_i i hf
    split at hp
    ·rename_i xs hvi
     injection hp with hp;subst hp
     refine ⟨_,?_,hv⟩;simp only [Dd,hmk,FN,cond_false,hf,hvi]
    ·cases hp
   ·rename_i hf
    injection hp with hp;subst hp
    refine ⟨_,?_,hv⟩;simp only [Dd,hmk,FN,cond_false,hf,hz,hs];rw [if_pos ⟨e1,e2,e3⟩];have:put st.ob id (some (.mr k' e sz ks vs))=st.ob:=by
     funext i
     by_cases e:id=i
     ·subst e;rw [bO,cQ]
     ·rw [aV _ _ e]
    simp only [this]
   ·cases hp
  ·cases hv
 ·cases hv
theorem ox {o:Oper} {st:St} {k:St→Option R} {r:R} (hv:stepT P C h F o st k=some r):∃st',step P h F o st=some st'∧k st'=some r:=by
 have YX:(qo P C h F o st fun v=>k (st.set o.dst v))=some r→∃st',step P h F o st=some st'∧k st'=some r:=fun hv=>by
  obtain ⟨v,hf,hk⟩:=ve hv;exact ⟨_,by simp only [step,hf],hk⟩
 unfold stepT at hv;split at hv
 ·rename_i t l c ho
  have hf:cH P h F o st=none:=by simp [cH,cM,ho]
  split at hv
  ·rename_i d e s kl l' kc c' hd hs hl hc
   split at hv
   ·rename_i z i hz hi
    replace hv:=bG hv
    obtain ⟨hb,hv⟩:=hv;simp only [Bool.and_eq_true] at hb;obtain ⟨c6,hk⟩:=eH hv;have h1:0<s:=by simpa [Nat.blt_eq] using hb.1
    have h2:z.length=s:=beq_iff.1 hb.2;exact ⟨_,by simp only [step,hf,mI,hd,ho,hs,hl,hc,hz,hi];rw [if_pos ⟨h1,h2,c6⟩],hk⟩
   ·cases hv
  ·cases hv
 ·rename_i t x y ho
  have hf:cH P h F o st=none:=by simp [cH,cM,ho]
  split at hv
  ·rename_i id sz i off v hd hx hy
   split at hv
   ·rename_i e sz' xs n cQ hsz
    replace hv:=bG hv
    obtain ⟨hb,hv⟩:=hv;simp only [Bool.and_eq_true] at hb;have h1:=beq_iff.1 hb.1.1;subst h1;have h2:=beq_iff.1 hb.1.2;obtain ⟨c,hc,hv⟩:=CZ hv
    replace hv:=bG (ue hv)
    obtain ⟨hle,hk⟩:=hv;refine ⟨_,?_,hk⟩;simp only [step,hf,mI,hd,ho,hx,hy,storeAt,cQ,hsz,hc];rw [if_pos ⟨trivial,h2,Nat.le_of_ble_eq_true hle,hb.2⟩]
   ·cases hv
  ·rename_i a v _ hd hx hy
   obtain ⟨st',hs,hk⟩:=dr hv;exact ⟨st',by simp only [step,hf,mI,hd,ho,hx,hy];exact hs,hk⟩
  ·cases hv
 ·rename_i c ho
  split at hv
  ·rename_i hc
   have hf:cH P h F o st=none:=by
    simp only [cH,ho,hc,q7]
   split at hv
   ·rename_i d x y t t' hd hargs vl
    split at hv
    ·rename_i e s id sy hs hx hy
     split at hv
     ·rename_i e' sz xs sz' ys i cQ hel hi
      replace hv:=bG hv
      obtain ⟨hb,hv⟩:=hv;simp only [Bool.and_eq_true] at hb;obtain ⟨⟨⟨⟨⟨⟨b1,b2⟩,b3⟩,b4⟩,b5⟩,b6⟩,b7⟩:=hb;have e1:=beq_iff.1 b1;have e2:=beq_iff.1 b2;have e3:=beq_iff.1 b3;have e4:=beq_iff.1 b4;have e5:0<sz:=by simpa [Nat.blt_eq] using b5
      have e6:i.zero.map (fun z=>z.cells.size)=some sz:=by simpa using b6
      obtain ⟨c6,hk⟩:=eH hv;refine ⟨_,?_,hk⟩;simp only [step,hf,mI,ho,hc,hd,hargs,vl,hs,hx,hy,cQ,hel,hi];rw [if_pos ⟨e1,e2,e3,e4,e5,c6.1,c6.2,e6,b7⟩]
     ·cases hv
    ·cases hv
   ·cases hv
  ·rename_i hc
   have hf:cH P h F o st=none:=by simp only [cH,ho,hc,q7]
   split at hv
   ·rename_i m kx t ts hd hargs vl
    obtain ⟨st',h1,hk⟩:=xd hv;exact ⟨st',by simp only [step,hf,mI,ho,hc,hd,hargs,vl];exact h1,hk⟩
   ·cases hv
  ·rename_i hc
   have hf:cH P h F o st=none:=by simp only [cH,ho,hc,q7]
   split at hv
   ·rename_i x t hd hargs vl
    split at hv
    ·rename_i e s id sz lo hi hs hx
     split at hv
     ·rename_i e' sz' xs z cQ hz
      replace hv:=bG hv
      obtain ⟨hb,hv⟩:=hv;simp only [Bool.and_eq_true] at hb;obtain ⟨⟨⟨⟨b1,b2⟩,b3⟩,b4⟩,b5⟩:=hb;have e1:=beq_iff.1 b1;have e2:=beq_iff.1 b2;have e3:=beq_iff.1 b3;have e4:=beq_iff.1 b4;have e5:0<sz:=by simpa [Nat.blt_eq] using b5
      obtain ⟨hle,hk⟩:=eH hv;refine ⟨_,?_,hk⟩;simp only [step,hf,mI,ho,hc,hd,hargs,vl,hs,hx,cQ,hz];rw [if_pos ⟨e1,e2,e3,hle,e4,e5⟩]
     ·cases hv
    ·cases hv
   ·cases hv
  ·rename_i f hc
   cases hro:(o.dst.any h.stay.contains&&wide st c f) with
   |true=>rw [hro] at hv;exact YX hv
   |false=>
   rw [hro] at hv;simp only [cond_false] at hv;cases R2:wide st c f with
   |true=>
    rw [R2] at hv;simp only [cond_true] at hv;have hf:cH P h F o st=none:=by simp only [cH,ho,hc];rw [hro,R2];rfl
    obtain ⟨st',h1,hk⟩:=zj hv;exact ⟨st',by simp only [step,hf];cases hd:o.dst<;>(simp only [mI,ho,hc,hd];rw [hd] at hro;rw [hro,R2,←hd];exact h1),hk⟩
   |false=>
   have Yz:∀(d:Option Nat),(d.any h.stay.contains&&false)=false:=fun d=>by simp
   rw [R2] at hv;simp only [cond_false] at hv;cases gq:c.args.toList.any (fun x=>(jg h st x).isSome) with
   |true=>
    rw [gq] at hv;simp only [cond_true] at hv;have hf:cH P h F o st=none:=by simp only [cH,ho,hc];rw [hro,gq];simp
    split at hv
    ·rename_i g caps vs id hfn hvs
     split at hv
     ·rename_i e sz xs cQ
      obtain ⟨r',xs',hx,hv⟩:=Je hv
      replace hv:=xM (mZ hv)
      have hstep:∀st2,jD P h F st c f o.dst=some st2→step P h F o st=some st2:=fun st2 h2=>by
       simp only [step,hf];cases hd:o.dst<;>(simp only [mI,ho,hc,hd];rw [R2,gq,Yz];simp only [cond_true,cond_false];rw [←hd];exact h2)
      split at hv
      ·rename_i n
       replace hv:=bG hv
       obtain ⟨hb,hv⟩:=hv;obtain ⟨hn,hk⟩:=eH hv;refine ⟨_,hstep _ ?_,hk⟩;simp only [jD,hfn,hvs,cQ,hx,beq_iff.2 (rfl:e=e),beq_iff.2 (rfl:sz=sz),beq_iff.2 (rfl:10000=10000),Bool.and_self,cond_true,hb,Nat.ble_eq_true_of_le hn]
      ·rename_i C0
       replace hv:=bG hv
       obtain ⟨hb,hk⟩:=hv;refine ⟨_,hstep _ ?_,hk⟩;simp only [jD,hfn,hvs,cQ,hx,beq_iff.2 (rfl:e=e),beq_iff.2 (rfl:sz=sz),beq_iff.2 (rfl:10000=10000),Bool.and_self,cond_true,hb]
     ·cases hv
    ·cases hv
   |false=>
   have Aq:(wide st c f||c.args.toList.any (fun x=>(jg h st x).isSome))=false:=by rw [R2,gq];rfl
   rw [gq] at hv;simp only [cond_false] at hv;cases zp:c.args.toList.any (jU st) with
   |true=>
    simp only [zp,cond_true] at hv;split at hv
    ·rename_i g caps vs hfn hvs
     obtain ⟨r',hx,hv⟩:=tY hv
     replace hv:=mZ hv
     cases hp:(r'.plain&&r'.ic) with
     |true=>
      simp only [hp,cond_true] at hv;refine ⟨_,?_,hv⟩;rw [Bool.and_eq_true] at hp;simp only [step,cH,ho,hc];rw [hro,Aq];simp only [hfn,hvs,hx,hp.1,hp.2,Bool.true_or,Bool.or_true,Bool.true_and,cond_true,cond_false]
     |false=>
      simp only [hp,cond_false] at hv;split at hv
      ·rename_i st1 fJ
       split at hv
       ·rename_i g' OG vs' hfn' hvs'
        cases hrow:c.args.toList.any (jU st1) with
        |true=>rw [hrow] at hv;cases hv
        |false=>
         rw [hrow] at hv;simp only [cond_false] at hv;obtain ⟨r2,hx2,hv⟩:=tY hv
         replace hv:=bG (mZ hv)
         obtain ⟨C0,hv⟩:=hv;refine ⟨_,?_,hv⟩;have hf:cH P h F o st=none:=by
          simp only [cH,ho,hc];rw [hro,Aq];simp only [cond_false,hfn,hvs,hx,hp,zp,Bool.not_true,Bool.or_false,Bool.false_or]
         simp only [step,hf];cases hd:o.dst<;>(simp only [mI,ho,hc,hd];rw [R2,gq,Yz];simp only [cond_false,fJ,hfn',hvs',hx2,hrow,C0,Bool.not_true,Bool.or_false])
       ·cases hv
      ·cases hv
    ·cases hv
   |false=>simp only [zp,cond_false] at hv;exact YX hv
  ·exact YX hv
 ·rename_i t m kx x ho
  split at hv
  ·rename_i hd
   cases hrm:jk h m with
   |true=>
    rw [hrm] at hv;obtain ⟨st',h1,hk⟩:=yS hv;exact ⟨st',by simp only [step,mI,cH,cM,ho,hd];rw [hrm];exact h1,hk⟩
   |false=>
    rw [hrm] at hv;obtain ⟨st',h1,hk⟩:=q4 hv;exact ⟨st',by simp only [step,mI,cH,cM,ho,hd];rw [hrm];exact h1,hk⟩
  ·cases hv
 ·rename_i t m kx x ho
  split at hv
  ·rename_i hd
   cases hrm:jk h m with
   |true=>
    rw [hrm] at hv;obtain ⟨st',h1,hk⟩:=yS hv;exact ⟨st',by simp only [step,mI,cH,cM,ho,hd];rw [hrm];exact h1,hk⟩
   |false=>
    rw [hrm] at hv;obtain ⟨st',h1,hk⟩:=q4 hv;exact ⟨st',by simp only [step,mI,cH,cM,ho,hd];rw [hrm];exact h1,hk⟩
  ·cases hv
 ·rename_i t m kx ok ho
  cases hrm:(jk h m&& !ok) with
  |true=>
   rw [hrm] at hv;simp only [cond_true] at hv;have hrm':=hrm;simp only [Bool.and_eq_true,Bool.not_eq_true'] at hrm;obtain ⟨hr1,rfl⟩:=hrm;split at hv
   ·rename_i d hd
    obtain ⟨st',h1,hk⟩:=ED hv;refine ⟨st',?_,hk⟩;have hf:cH P h F o st=none:=by simp only [cH,ho];rw [hrm'];rfl
    simp only [step,hf,mI,ho,hd];rw [hr1];exact h1
   ·cases hv
  |false=>rw [hrm] at hv;exact YX hv
 ·rename_i t x ho
  split at hv
  ·rename_i d s hd hu hx
   refine ⟨_,?_,hv⟩;simp only [step,mI,cH,cM,ho,hd,hu,hx]
  ·cases hv
 ·rename_i x ho
  split at hv
  ·rename_i d id hd hx
   split at hv
   ·rename_i s pos cQ
    have hf:cH P h F o st=none:=by simp only [cH,cM,ho]
    cases hp:Nat.blt pos s.length with
    |true=>
     rw [hp] at hv;refine ⟨_,?_,hv⟩;have hp':pos<s.length:=by simpa [Nat.blt_eq] using hp
     simp only [step,hf,mI,ho,hd,hx,cQ];rw [if_pos hp']
    |false=>
     rw [hp] at hv;refine ⟨_,?_,hv⟩;have hp':¬pos<s.length:=fun h=>by rw [←Nat.blt_eq] at h;rw [h] at hp;cases hp
     simp only [step,hf,mI,ho,hd,hx,cQ];rw [if_neg hp']
   ·cases hv
  ·cases hv
 ·exact dr hv
 ·exact dr hv
 ·exact dr hv
 ·exact dr hv
 ·exact dr hv
 ·exact dr hv
 ·exact dr hv
 ·exact YX hv
theorem zd {ops:Array Oper} {o:Oper} {st:St} {k:Bool→St→Option R} {r:R} (hv:Mz ops o st k=some r):∃b,fe ops o st=some b∧k b st=some r:=by
 unfold Mz at hv;unfold fe;split at hv
 ·rename_i hg;exact ⟨true,by simp [hg],hv⟩
 ·rename_i j want hg
  (try simp only [hg])
  split at hv
  ·rename_i d hd
   (try simp only [hd])
   split at hv
   ·rename_i he;exact ⟨want,by simp [he],hv⟩
   ·rename_i he;exact ⟨!want,by simp only [he];cases want<;>rfl,hv⟩
   ·rename_i he;exact ⟨false,by simp [he],hv⟩
   ·cases hv
  ·cases hv
theorem HW {st:St} {d:Nat} {v:SV} (he:st.env d=some v):st.set (some d) v=st:=by
 obtain ⟨env,ob⟩:=st;simp only [St.set,St.mk.injEq,and_true]
 funext i
 by_cases e:d=i
 ·subst e;rw [bO];exact he.symm
 ·rw [aV _ _ e]
theorem vY {b:Bool} {d:Option Nat} {st:St} {k:St→Option R} {r:R} (hv:Fq b d st k=some r):k st=some r:=by
 unfold Fq at hv;cases b with
 |false=>exact hv
 |true=>
  simp only [cond_true] at hv;split at hv
  ·rename_i d'
   split at hv
   ·rename_i t he
    cases t with
    |true=>simp only [cond_true] at hv;rwa [HW he] at hv
    |false=>simp only [cond_false] at hv;rwa [HW he] at hv
   ·exact hv
  ·exact hv
theorem Cs {ops:Array Oper}:∀{l:List Oper} {i:Nat} {st:St} {k:St→Option R} {r:R},vT P C h F ops i l st k=some r→∃s,jl P h F ops l st=some s∧k s=some r:=by
 intro l
 induction l with
 |nil=>intro i st k r hv;exact ⟨st,rfl,hv⟩
 |cons o l ih=>
  intro i st k r hv;simp only [vT] at hv;obtain ⟨b,hw,hv⟩:=zd hv;cases b with
  |true=>
   simp only [cond_true] at hv;obtain ⟨st1,hs,hv⟩:=ox hv;obtain ⟨s,hr,hk⟩:=ih (vY hv);exact ⟨s,by simp [jl,hw,hs,hr],hk⟩
  |false=>
   simp only [cond_false] at hv;obtain ⟨s,hr,hk⟩:=ih hv;exact ⟨s,by simp [jl,hw,hr],hk⟩
theorem Bf {ops:Array Oper} {fresh:List (Nat×Nat)}:∀{l:List Oper} {i:Nat} {prev:List (Nat×dV)} {st:St} {k:St→Option R} {r:R},iP P C h F ops fresh i l prev st k=some r→∃s,cg P h F ops fresh i l prev st=some s∧k s=some r:=by
 intro l
 induction l with
 |nil=>intro i prev st k r hv;exact ⟨st,rfl,hv⟩
 |cons o l ih=>
  intro i prev st k r hv;simp only [iP] at hv
  replace hv:=zd hv
  obtain ⟨b,hw,hv⟩:=hv;cases b with
  |true=>
   simp only [cond_true] at hv;cases hF:YM h st o with
   |true=>
    simp only [hF,cond_true] at hv;obtain ⟨v,hf,hv⟩:=ve hv
    replace hv:=bG hv
    obtain ⟨hc,hv⟩:=hv;obtain ⟨s,hr,hk⟩:=ih (vY hv);exact ⟨s,by simp only [cg,hw,cond_true,hF,hf,hc];exact hr,hk⟩
   |false=>
    simp only [hF,cond_false] at hv;have all:(bif fresh.all (fun p=>Nat.blt p.2 i)&&eR ops prev i eB then stepT P C h F o st fun st'=>iP P C h F ops fresh (i+1) l ((i,eB)::prev) st' k else none)=some r→
      ∃s,(bif fresh.all (fun p=>Nat.blt p.2 i)&&eR ops prev i eB then
       match step P h F o st with
       |some st'=>cg P h F ops fresh (i+1) l ((i,eB)::prev) st'
       |none=>none
      else none)=some s∧k s=some r:=fun hv=>by
     replace hv:=bG hv
     obtain ⟨hc,hv⟩:=hv;obtain ⟨st1,hs,hv⟩:=ox hv;obtain ⟨s,hr,hk⟩:=ih hv;exact ⟨s,by simp only [hc,cond_true,hs];exact hr,hk⟩
    split at hv
    ·rename_i t x y ho hd
     split at hv
     ·rename_i sa sv hx hy
      split at hv
      ·rename_i id ht
       replace hv:=bG hv
       obtain ⟨hc,hv⟩:=hv;obtain ⟨st1,hs,hv⟩:=ox hv;obtain ⟨s,hr,hk⟩:=ih hv;have hst:storeAt P t st sa sv=some st1:=by
        have hfn:cH P h F o st=none:=by simp [cH,ho,cM]
        unfold step at hs;rw [hfn] at hs;simp only [mI,hd,ho,hx,hy] at hs;exact hs
       exact ⟨s,by simp only [cg,hw,cond_true,hF,cond_false,ho,hd,hx,hy,ht,hst,hc];exact hr,hk⟩
      ·cases hv
     ·cases hv
    ·rename_i t d ho hd
     cases hrw:h.rows.contains d with
     |true=>rw [hrw] at hv;cases hv
     |false=>
     rw [hrw] at hv;simp only [cond_false] at hv;split at hv
     ·rename_i z hz
      replace hv:=bG hv
      obtain ⟨hc,hv⟩:=hv;obtain ⟨s,hr,hk⟩:=ih hv;exact ⟨s,by simp only [cg,hw,cond_true,hF,cond_false,ho,hd,hrw,hz,hc];exact hr,hk⟩
     ·cases hv
    ·rename_i c ho
     split at hv
     ·rename_i id iE
      replace hv:=bG hv
      obtain ⟨hc,hv⟩:=hv;obtain ⟨st1,hs,hv⟩:=ox hv;obtain ⟨s,hr,hk⟩:=ih hv;exact ⟨s,by simp only [cg,hw,cond_true,hF,cond_false,ho,iE,hc,hs];exact hr,hk⟩
     ·rename_i iE
      obtain ⟨s,hr,hk⟩:=all hv;exact ⟨s,by simp only [cg,hw,cond_true,hF,cond_false,ho,iE];exact hr,hk⟩
    ·rename_i ho
     obtain ⟨s,hr,hk⟩:=all hv;exact ⟨s,by simp only [cg,hw,cond_true,hF,cond_false,ho];exact hr,hk⟩
    ·rename_i ho
     obtain ⟨s,hr,hk⟩:=all hv;exact ⟨s,by simp only [cg,hw,cond_true,hF,cond_false,ho];exact hr,hk⟩
    ·rename_i ho
     obtain ⟨s,hr,hk⟩:=all hv;exact ⟨s,by simp only [cg,hw,cond_true,hF,cond_false,ho];exact hr,hk⟩
    ·rename_i ho
     obtain ⟨s,hr,hk⟩:=all hv;exact ⟨s,by simp only [cg,hw,cond_true,hF,cond_false,ho];exact hr,hk⟩
    ·rename_i ho
     obtain ⟨s,hr,hk⟩:=all hv;exact ⟨s,by simp only [cg,hw,cond_true,hF,cond_false,ho];exact hr,hk⟩
    ·rename_i ho
     obtain ⟨s,hr,hk⟩:=all hv;exact ⟨s,by simp only [cg,hw,cond_true,hF,cond_false,ho];exact hr,hk⟩
    ·rename_i ho
     obtain ⟨s,hr,hk⟩:=all hv;exact ⟨s,by simp only [cg,hw,cond_true,hF,cond_false,ho];exact hr,hk⟩
    ·rename_i ho
     obtain ⟨s,hr,hk⟩:=all hv;exact ⟨s,by simp only [cg,hw,cond_true,hF,cond_false,ho];exact hr,hk⟩
    ·rename_i ho
     obtain ⟨s,hr,hk⟩:=all hv;exact ⟨s,by simp only [cg,hw,cond_true,hF,cond_false,ho];exact hr,hk⟩
    ·rename_i ho
     obtain ⟨s,hr,hk⟩:=all hv;exact ⟨s,by simp only [cg,hw,cond_true,hF,cond_false,ho];exact hr,hk⟩
    ·cases hv
  |false=>
   simp only [cond_false] at hv
   replace hv:=bG hv
   obtain ⟨hc,hv⟩:=hv;obtain ⟨s,hr,hk⟩:=ih hv;exact ⟨s,by simp only [cg,hw,cond_false,hc,cond_true];exact hr,hk⟩
theorem El {α:Type} (m:Nat→Option α):∀(l:List Nat) (i:Nat),find (lG m l) i=if i∈l then m i else none:=by
 intro l
 induction l with
 |nil=>intro i;simp [lG,find]
 |cons j l ih=>
  intro i;simp only [lG];cases hj:m j with
  |none=>
   simp only [ih,List.mem_cons];by_cases e:i=j
   ·subst e;simp [hj]
   ·simp [e]
  |some v=>
   simp only [find];cases hb:Nat.beq j i with
   |true=>have:=beq_iff.1 hb;subst this;simp [hj]
   |false=>
    have hne:¬i=j:=fun e=>by subst e;simp [beq_iff.2] at hb
    simp only [cond_false,ih,List.mem_cons,hne,false_or]
theorem F9 (h:Hint) (key:Nat) (st:St):h.canon key (h.canon key st)=h.canon key st:=by
 unfold Hint.canon;split
 ·rename_i vars obs hf
  simp only [St.mk.injEq];constructor<;>(funext i;simp only [El];split<;>rfl)
 ·rfl
theorem Av {key:Nat} {f:St→Option (Ex×St)} {n:Nat} {st:St}:iter h key f n (h.canon key st)=iter h key f n st:=by
 cases n with
 |zero=>rfl
 |succ n=>simp only [iter,F9]
theorem Nq {c:Code} {n m:Nat} (hm:n≤m) {key:Nat}:∀(q:Nat) {q':Nat} {st:St} {x:Ex×St},q≤q'→iter h key (exec P h F n c) q st=some x→iter h key (exec P h F m c) q' st=some x:=by
 intro q
 induction q with
 |zero=>intro q' st x _ hv;simp [iter] at hv
 |succ q ih=>
  intro q' st x hq hv;obtain ⟨Te,rfl⟩:∃Te,q'=Te+1:=⟨q'-1,by omega⟩
  simp only [iter] at hv⊢;split at hv
  ·rename_i st1 hc
   rw [iR hm hc];exact ih (by omega) hv
  ·rename_i hne
   rw [iR hm hv];obtain ⟨e,s⟩:=x;cases e with
   |normal=>exact absurd hv (hne s)
   |exit j=>rfl
   |ret=>rfl
theorem pO {c:Code} {st:St} {k:Ex→St→Option R} {r:R}:yM P h F c st k=some r↔∃n e st',exec P h F n (.loop c) st=some (e,st')∧k e st'=some r:=by
 constructor
 ·intro hv
  unfold yM at hv;split at hv
  ·rename_i hx
   obtain ⟨n,hn⟩:=hx.choose_spec;exact ⟨n,_,_,hn,hv⟩
  ·cases hv
 ·rintro ⟨n,e,st',hn,hk⟩
  unfold yM;have hx:∃x n,exec P h F n (.loop c) st=some x:=⟨(e,st'),n,hn⟩
  rw [dif_pos hx];obtain ⟨m,hm⟩:=hx.choose_spec;have h1:=iR (Nat.le_max_left n m) hn;have h2:=iR (Nat.le_max_right n m) hm;rw [h1] at h2;injection h2 with h2
  rw [←h2];exact hk
theorem oT:∀{l:List Nat} {st:St} {k:St→Option R} {r:R},vM C l st k=some r→∃st',r8 l st=some st'∧k st'=some r
 |[],st,k,r,hv=>⟨st,rfl,hv⟩
 |id::l,st,k,r,hv=>by
  simp only [vM] at hv;split at hv
  ·rename_i kt e sz ks vs cQ
   replace hv:=bG hv
   obtain ⟨hown,hv⟩:=hv;obtain ⟨xs,hxs,hv⟩:=MF hv;obtain ⟨st',h1,hk⟩:=oT (Rp hv);refine ⟨st',?_,hk⟩;simp only [r8,St.Fc,St.cL,hown,cQ,Option.bind_some,Ob.val,hxs,Option.map_some];exact h1
  ·split at hv
   ·rename_i st1 hp
    obtain ⟨st',h1,hk⟩:=oT hv;exact ⟨st',by simp only [r8,hp,Option.bind_some];exact h1,hk⟩
   ·cases hv
theorem HE {id:Nat} {st:St} {k:St→Option R} {r:R} (hv:RD C h id st k=some r):∃st',h.RC id st=some st'∧k st'=some r:=by
 unfold RD at hv;unfold Hint.RC;split at hv
 ·rename_i l hl
  rw [hl];exact oT hv
 ·rename_i hl
  rw [hl];exact ⟨st,rfl,hv⟩
theorem nX:∀(c:Code) {st:St} {k:Ex→St→Option R} {r:R},iJ P C h F c st k=some r→∃n e st',exec P h F n c st=some (e,st')∧k e st'=some r:=by
 intro c
 induction c with
 |skip=>intro st k r hv;exact ⟨0,_,_,rfl,hv⟩
 |label l=>intro st k r hv;exact ⟨0,_,_,rfl,hv⟩
 |exit id=>intro st k r hv;exact ⟨0,_,_,rfl,hv⟩
 |ret=>intro st k r hv;exact ⟨0,_,_,rfl,hv⟩
 |region id ops draw=>
  intro st k r hv;simp only [iJ] at hv;obtain ⟨st1,fJ,hv⟩:=HE hv;cases draw with
  |true=>
   simp only [cond_true] at hv;obtain ⟨hs,hv⟩:=bG hv;obtain ⟨s,hr,hk⟩:=Bf hv;exact ⟨0, .normal,s,by simp only [exec,fJ,Option.bind_some,cond_true,hs,hr,Option.map_some],hk⟩
  |false=>
   simp only [cond_false] at hv;obtain ⟨s,hr,hk⟩:=Cs hv;exact ⟨0, .normal,s,by simp [exec,fJ,hr],hk⟩
 |seq x y LB Nn=>
  intro st k r hv;simp only [iJ] at hv;cases B5:find h.blk (cn x) with
  |some z=>
   simp only [B5] at hv;obtain ⟨hg,hv⟩:=eH hv;exact ⟨0,_,_,by simp only [exec,B5,hg,cond_true],hv⟩
  |none=>
  simp only [B5] at hv;obtain ⟨n,e,st1,hx,hv⟩:=LB hv;cases e with
  |normal=>
   obtain ⟨m,e2,st2,hy,hk⟩:=Nn (show iJ P C h F y st1 k=some r from hv);exact ⟨max n m,e2,st2,by simp only [exec,B5,iR (Nat.le_max_left n m) hx];exact iR (Nat.le_max_right n m) hy,hk⟩
  |exit id=>exact ⟨n,_,st1,by simp only [exec,B5,hx],hv⟩
  |ret=>exact ⟨n,_,st1,by simp only [exec,B5,hx],hv⟩
 |cond c x y LB Nn=>
  intro st k r hv;simp only [iJ] at hv;split at hv
  ·rename_i t hc
   cases t with
   |true=>obtain ⟨n,e,st1,hx,hk⟩:=LB hv;exact ⟨n,e,st1,by simp only [exec,hc,cond_true];exact hx,hk⟩
   |false=>obtain ⟨n,e,st1,hx,hk⟩:=Nn hv;exact ⟨n,e,st1,by simp only [exec,hc,cond_false];exact hx,hk⟩
  ·cases hv
 |block id c ih=>
  intro st k r hv;simp only [iJ] at hv;obtain ⟨n,e,st1,hx,hv⟩:=ih hv;cases e with
  |normal=>exact ⟨n,_,st1,by simp only [exec,hx],hv⟩
  |ret=>exact ⟨n,_,st1,by simp only [exec,hx],hv⟩
  |exit j=>
   simp only [I9] at hv;cases hb:Nat.beq j id with
   |true=>simp only [hb,cond_true] at hv;exact ⟨n, .normal,st1,by simp only [exec,hx,hb,cond_true],hv⟩
   |false=>simp only [hb,cond_false] at hv;exact ⟨n, .exit j,st1,by simp only [exec,hx,hb,cond_false],hv⟩
 |loop c ih=>
  intro st k r hv;simp only [iJ] at hv;obtain ⟨n,e,st',hx,hk⟩:=pO.1 hv;refine ⟨n,e,st',?_,hk⟩;simp only [exec] at hx⊢
  rwa [Av] at hx
 |scope c ih=>
  intro st k r hv;simp only [iJ] at hv;obtain ⟨n,e,st1,hx,hk⟩:=ih hv;exact ⟨n,e,st1,by simp only [exec];exact hx,hk⟩
 |rangeFunc f ps x y LB Nn=>intro st k r hv;simp [iJ] at hv
 |goto l=>intro st k r hv;simp [iJ] at hv
 |refuse s=>intro st k r hv;simp [iJ] at hv
theorem G5 {c:Code} {st:St} {k:Ex→St→Option R} {r:R} (hv:iJ P C h F c (h.canon (cn c) st) (IU P h F c k)=some r):yM P h F c st k=some r:=by
 obtain ⟨n,e,st1,hx,hk⟩:=nX c hv;cases e with
 |normal=>
  obtain ⟨m,e2,st2,hm,hk2⟩:=pO.1 (show yM P h F c (h.canon (cn c) st1) k=some r from hk);simp only [exec,Av] at hm;refine pO.2 ⟨max n m+1,e2,st2,?_,hk2⟩;simp only [exec,iter];rw [iR (show n≤max n m+1 by omega) hx];exact Nq (show m≤max n m+1 by omega) m (by omega) hm
 |exit j=>
  refine pO.2 ⟨n+1, .exit j,st1,?_,hk⟩;simp only [exec,iter];rw [iR (show n≤n+1 by omega) hx]
 |ret=>
  refine pO.2 ⟨n+1, .ret,st1,?_,hk⟩;simp only [exec,iter];rw [iR (show n≤n+1 by omega) hx]
end
section
variable {P:Program} {C:jH} {H:Nat→Hint} {c9:de}
theorem kA {f:Nat} {args:List SV} {bQ:List (Nat×Ob)} {r:AV×List (Nat×Ob)} (hp:c9 f args bQ=none) (hv:OB P C H c9 f args bQ=some r):run P H c9 f args bQ=some r:=by
 unfold OB at hv;split at hv
 ·rename_i fn hf
  split at hv
  ·rename_i c hb
   obtain ⟨hc,hv⟩:=bG hv;obtain ⟨n,e,st,hx,he⟩:=nX c hv;exact HU hp hf hb hc hx he
  ·cases hv
 ·cases hv
theorem uj {f key:Nat} {names:List Nat} {env:List (Nat×SV)} {ob:List (Nat×Ob)} {r:AV×List (Nat×Ob)} (hv:KN P C H c9 f key names env ob=some r):yI P C H c9 f key names env ob=some r:=by
 unfold KN at hv;unfold yI;split at hv
 ·rename_i fn hf
  (try simp only [hf])
  split at hv
  ·rename_i c hb
   (try simp only [hb])
   split at hv
   ·rename_i cl k hk
    (try simp only [hk])
    exact G5 hv
   ·cases hv
  ·cases hv
 ·cases hv
end
section
variable {R:Type}
theorem aU {p:Prop} [Decidable p] (hp:p) (x:Option R):check p x=x:=by unfold check;rw [if_pos hp]
theorem GF {α:Type} {xs:List α} {i:Int} {x:α} (h0:0≤i) (hx:xs[i.toNat]? =some x) (k:α→Option R):bA xs i k=k x:=by unfold bA;rw [if_pos h0,hx]
theorem fI {α:Type} {xs:List α} {i:Nat} {x:α} (hx:xs[i]? =some x) (k:α→Option R):bA xs (i:Int) k=k x:=GF (by omega) (by simpa using hx) k
theorem gp {α:Type} {xs:List α} {i:Nat} {x:α} (hx:xs[i]? =some x) (k:α→Option R):fA xs i k=k x:=by unfold fA;rw [hx]
theorem MP {c:Option (AV×List (Nat×Ob))} {r:AV} (hc:c=some (r,[])) (k:AV→Option R):qX c k=k r:=by subst hc;unfold qX;rfl
theorem MQ {c:Option (AV×List (Nat×Ob))} {nm e sz:Nat} {r:AV} {xs:List (List AV)} (hc:c=some (r,[(nm, .row e sz xs)])) (k:AV→List (List AV)→Option R):yA c nm e sz k=k r xs:=by
 subst hc;unfold yA;simp [beq_iff.2]
theorem Sa {α T:Type} {enc:T→α} (inj:∀a b,enc a=enc b→a=b) (d:T) (k:T→Option R):eZ enc (enc d) k=k d:=by
 unfold eZ;have hx:∃x,enc x=enc d:=⟨d,rfl⟩
 rw [dif_pos hx,inj _ _ hx.choose_spec]
end
end Go.AM
