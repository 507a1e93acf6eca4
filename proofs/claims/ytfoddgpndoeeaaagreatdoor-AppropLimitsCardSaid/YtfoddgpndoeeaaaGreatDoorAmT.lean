/- THE ABSTRACT MACHINE, TYPED. -/
import Derived.Test.YtfoddgpndoeeaaaGreatDoorAmFin
set_option linter.unusedVariables false
set_option linter.unusedSimpArgs false
namespace Go.AM
open Go.RowKit
structure yD where
 T:Type
 enc:T→List AV
structure gN where
 T:Type
 enc:T→AV
def y7 {α:Type 1}:List (Nat×α)→Nat→Option α
 |[],_=>none
 |(j,v)::l,i=>cond (Nat.beq j i) (some v) (y7 l i)
structure gW where
 elem:TypeId→Option yD
 val:TypeId→Option gN
 res:Nat→Option gN
 ptr:Option yD:=none
def x5 {T:Type} (enc:T→List AV):Option T→AV
 |some x=> .ref (enc x)
 |none=> .pH
def az (K V:gN) (l:List (K.T×V.T)):List AV×List AV:=(l.map fun p=>K.enc p.1,l.map fun p=>V.enc p.2)
section
variable {R:Type}
@[irreducible] def check (p:Prop) [Decidable p] (x:Option R):Option R:=if p then x else none
@[irreducible] def cM {α:Type} (xs:List α) (i:Int) (k:α→Option R):Option R:=
 if 0≤i then match xs[i.toNat]? with
  |some x=>k x
  |none=>none
 else none
@[irreducible] def kg {α:Type} (xs:List α) (i:Nat) (k:α→Option R):Option R:=
 match xs[i]? with
 |some x=>k x
 |none=>none
@[irreducible] def nK (c:Option (AV×List (Nat×Ob))) (k:AV→Option R):Option R:=
 match c with
 |some (r,[])=>k r
 |_=>none
@[irreducible] def wX (c:Option (AV×List (Nat×Ob))) (nm e sz:Nat) (k:AV→List (List AV)→Option R):Option R:=
 match c with
 |some (r,[(Jb, .row e' sz' xs)])=>bif Nat.beq nm Jb&&Nat.beq e e'&&Nat.beq sz sz' then k r xs else none
 |_=>none
@[irreducible] def zA (x:Option (Option AV)) (k:AV→Option R) (z:Option R):Option R:=
 match x with
 |some (some v)=>k v
 |some none=>z
 |none=>none
@[irreducible] def zS (x:Option (List AV×List AV)) (k:List AV×List AV→Option R):Option R:=
 match x with
 |some p=>k p
 |none=>none
@[irreducible] noncomputable def eS {α T:Type} (enc:T→α) (c:α) (k:T→Option R):Option R:=
 open Classical in if hx : ∃ d, enc d = c then k hx.choose else none
@[irreducible] def nL (c:Option (AV×List (Nat×Ob))) (k:AV→List (Nat×Ob)→Option R):Option R:=
 match c with
 |some (r,l)=>k r l
 |none=>none
@[irreducible] def aD (nm:Nat) (l:List (Nat×Ob)) (k:Ob→List (Nat×Ob)→Option R):Option R:=
 match l with
 |(Jb,o)::l=>bif Nat.beq nm Jb then k o l else none
 |[]=>none
@[irreducible] def jw (l:List (Nat×Ob)) (k:Option R):Option R:=
 match l with
 |[]=>k
 |_=>none
@[irreducible] noncomputable def bN (o o':Ob) (k:Option R):Option R:=open Classical in if o=o' then k else none
@[irreducible] def gu (e sz:Nat) (o:Ob) (k:List (List AV)→Option R):Option R:=
 match o with
 | .row e' sz' xs=>bif Nat.beq e e'&&Nat.beq sz sz' then k xs else none
 |_=>none
@[irreducible] def me (kt et:Nat) (o:Ob) (k:List AV×List AV→Option R):Option R:=
 match o with
 | .mp k' e' ks vs=>bif Nat.beq kt k'&&Nat.beq et e' then k (ks,vs) else none
 |_=>none
@[irreducible] def OY (a:AV) (k:List AV→Option R):Option R:=
 match a with
 | .ref cs=>k cs
 |_=>none
@[irreducible] def Nt (x:Option (Option Nat)) (k:Bool→Option R):Option R:=
 match x with
 |some r=>k r.isSome
 |none=>none
@[irreducible] def oJ (x:Option (List UInt8)) (k:List UInt8→Option R):Option R:=
 match x with
 |some b=>k b
 |none=>none
def Dk (key:AV) (ks:List AV) (vs:List (Option (List (List AV)))):Option (List (List AV)×List (Option (List (List AV)))):=
 match gl key ks with
 |some (some i)=>match vs[i]? with
  |some (some xs)=>some (xs,vs.set i none)
  |_=>none
 |some none=>some ([],vs)
 |none=>none
@[irreducible] def GO (x:Option (List (List AV)×List (Option (List (List AV))))) (k:List (List AV)→List (Option (List (List AV)))→Option R):Option R:=
 match x with
 |some p=>k p.1 p.2
 |none=>none
@[irreducible] def B8 (x:Option (List AV×List (Option (List (List AV))))) (k:List AV×List (Option (List (List AV)))→Option R):Option R:=
 match x with
 |some p=>k p
 |none=>none
@[irreducible] def EF (x:Option (List (List (List AV)))) (k:List (List (List AV))→Option R):Option R:=
 match x with
 |some l=>k l
 |none=>none
@[irreducible] def OV (ys:List (Option (List (List AV)))) (i:Nat) (k:List (List AV)→Option R):Option R:=
 match ys[i]? with
 |some (some zs)=>k zs
 |_=>none
def cR (K:gN) (E:yD) (l:List (K.T×Option (List E.T))):List AV×List (Option (List (List AV))):=(l.map fun p=>K.enc p.1,l.map fun p=>p.2.map (List.map E.enc))
def j7 {α:Type} (c:Option α) (k:α→Option R):Option R:=
 match c with
 |some r=>k r
 |none=>none
noncomputable def E8 (C:gW) (e:TypeId) (c:List AV) (k:List AV→Option R):Option R:=
 match C.elem e with
 |some d=>eS d.enc c fun x=>k (d.enc x)
 |none=>k c
noncomputable def Jq (C:gW) (e:TypeId) (c:List (List AV)) (k:List (List AV)→Option R):Option R:=
 match C.elem e with
 |some d=>eS (List.map d.enc) c fun x=>k (x.map d.enc)
 |none=>k c
noncomputable def T4 (C:gW) (t:TypeId) (c:AV) (k:AV→Option R):Option R:=
 match C.val t with
 |some d=>eS d.enc c fun x=>k (d.enc x)
 |none=>k c
noncomputable def OB (C:gW) (kt et:TypeId) (p:List AV×List AV) (k:List AV×List AV→Option R):Option R:=
 match C.val kt,C.val et with
 |some K,some V=>eS (az K V) p fun l=>k (az K V l)
 |_,_=>k p
noncomputable def VZ (C:gW) (kt e:TypeId) (p:List AV×List (Option (List (List AV)))) (k:List AV×List (Option (List (List AV)))→Option R):Option R:=
 match C.val kt,C.elem e with
 |some K,some E=>eS (cR K E) p fun l=>k (cR K E l)
 |_,_=>k p
noncomputable def Kn (C:gW) (e:TypeId) (ys:List (Option (List (List AV)))) (k:List (Option (List (List AV)))→Option R):Option R:=
 match C.elem e with
 |some d=>eS (List.map (Option.map (List.map d.enc))) ys fun y=>k (y.map (Option.map (List.map d.enc)))
 |none=>k ys
noncomputable def mpK (C:gW) (kt e:TypeId) (sz:Nat) (p:List AV×List AV) (k:List AV×List AV→Option R):Option R:=
 match C.val kt,C.elem e with
 |some K,some E=>eS (az K ⟨List E.T,fun x=> .cE sz (x.map E.enc)⟩) p fun l=>k (az K ⟨List E.T,fun x=> .cE sz (x.map E.enc)⟩ l)
 |_,_=>k p
noncomputable def Js (C:gW) (o o':Ob) (k:Ob→Option R):Option R:=
 match o with
 | .row e sz _=>gu e sz o' fun xs=>Jq C e xs fun xs=>k (.row e sz xs)
 | .mp kt et _ _=>me kt et o' fun p=>OB C kt et p fun p=>k (.mp kt et p.1 p.2)
 |o=>bN o' o (k o)
noncomputable def BA (C:gW) (keep:List Nat):List (Nat×Ob)→List (Nat×Ob)→(List (Nat×Ob)→Option R)→Option R
 |[],l',k=>jw l' (k [])
 |(nm,o)::l,l',k=>aD nm l' fun o' l''=>bif keep.contains nm then bN o' o (BA C keep l l'' fun os=>k ((nm,o)::os)) else Js C o o' fun o2=>BA C keep l l'' fun os=>k ((nm,o2)::os)
noncomputable def D5 (C:gW) (g:Nat) (c:AV) (k:AV→Option R):Option R:=
 match C.res g with
 |some d=>eS d.enc c fun x=>k (d.enc x)
 |none=>k c
noncomputable def Hz (C:gW) (a:AV) (k:AV→Option R):Option R:=
 OY a fun cs=>match C.ptr with
  |some d=>eS d.enc cs fun x=>k (.ref (d.enc x))
  |none=>k (.ref cs)
def nh (lo:Option SV) (dflt:Nat) (hi:Nat) (k:Nat→Option R):Option R:=
 match lo with
 |none=>k dflt
 |some (.pv (.int _ i))=>check (0≤i∧i≤hi) (k i.toNat)
 |some _=>none
noncomputable def qC:List (Nat×Ob)→List (Nat×Ob)→Option R→Option R
 |[],l',k=>jw l' k
 |(nm,o)::l,l',k=>aD nm l' fun o' l''=>bN o' o (qC l l'' k)
noncomputable def CL (P:Program) (C:gW) (h:Hint) (F:cQ) (st:St) (c:Call) (f:Operand) (k:AV→Option R):Option R:=
 match pZ P h st c f with
 |some (g,args)=>
  bif distinct (fF st args)&&Nat.blt (fF st args).length 10000&&args.all (SV.closed (fF st args)) then
   match fS st (fF st args) (jI (er (fF st args))) (er (fF st args)) with
   |some bG=>nL (F g (args.map (SV.lq (jI (er (fF st args))))) bG) fun r l=>qC bG l (D5 C g r fun r=>bif r.gm then k r else none)
   |none=>none
  else none
 |none=>none
noncomputable def nv (P:Program) (C:gW) (h:Hint) (F:cQ) (o:Oper) (st:St) (k:SV→Option R):Option R:=
 match o.op with
 | .pick c a b=>match aM P 0 st c with
  |some (.pv (.bool t))=>bif t then j7 (aM P o.type st a) k else j7 (aM P o.type st b) k
  |_=>none
 | .nilCheck x=>match aM P 0 st x with
  |some (.pv a)=>Hz C a fun a=>k (.pv a)
  |_=>j7 (cD P o st) k
 | .indexAddr t x ix=>match P.underlying t with
  |some (.array n e)=>j7 (oU P st n e x ix) k
  |_=>match isSlice P t,aM P t st x,aM P 0 st ix with
  |some (e,s),some (.pv (.cE sz xs)),some (.pv (.int _ i))=>bif Nat.beq s sz then cM xs i fun c=>E8 C e c fun c=>k (.cp c) else none
  |some (_,s),some (.row id),some (.pv (.int _ i))=>match st.ob id with
   |some (.row _ sz xs)=>bif Nat.beq s sz then check (0≤i∧i.toNat<xs.length) (k (.rp id sz i.toNat 0)) else none
   |some (.rn _ sz _ _ _ xs _)=>bif Nat.beq s sz then check (0≤i∧i.toNat<xs.length) (k (.rp id sz i.toNat 0)) else none
   |_=>none
  |some (_,s),some (.sub id sz lo hi),some (.pv (.int _ i))=>bif Nat.beq s sz then check (0≤i∧i.toNat<hi-lo) (k (.rp id sz (lo+i.toNat) 0)) else none
  |_,_,_=>none
 | .index t x ix=>match P.underlying t,aM P t st x,aM P 0 st ix with
  |some .string,some (.pv (.str s)),some (.pv (.int _ i))=>cM s i fun b=>k (.pv (.int .u8 b.toNat))
  |_,_,_=>none
 | .load t x=>match aM P 0 st x with
  |some (.rp id sz i off)=>match st.ob id with
   |some (.row e sz' xs)=>bif Nat.beq sz sz' then kg xs i fun c=>E8 C e c fun c=>j7 (dU P t (c.drop off)) fun v=>k (.pv v) else none
   |_=>none
  |_=>j7 (cD P o st) k
 | .binOp op t x y _=>match (aM P t st x).bind dS,(aM P t st y).bind dS with
  |some (.int ka a),some (.int kb b)=>match op with
   | .quo=>bif ka==kb then check (b≠0) (k (.pv (.int ka (ka.wrap (a.tdiv b))))) else none
   | .rem=>bif ka==kb then check (b≠0) (k (.pv (.int ka (a.tmod b)))) else none
   | .shl=>check (0≤b) (k (.pv (.int ka (ka.wrap (a *2^ min b.toNat ka.bits)))))
   | .shr=>check (0≤b) (k (.pv (.int ka (a.fdiv (2^ min b.toNat ka.bits)))))
   |_=>j7 (cD P o st) k
  |some (.str a),some (.str b)=>match op with
   | .add=>check (a.length+b.length≤9223372036854775807) (k (.pv (.str (a++b))))
   |_=>j7 (cD P o st) k
  |_,_=>j7 (cD P o st) k
 | .slice t x lo hi none=>match P.underlying t,aM P t st x,fB P st lo,fB P st hi with
  |some .string,some (.pv (.str s)),some lo,some hi=>nh hi s.length s.length fun h=>nh lo 0 h fun l=>k (.pv (.str ((s.take h).drop l)))
  |some (.slice _),some (.pv (.cE sz xs)),some lo,some hi=>match isSlice P t with
   |some (_,s)=>bif Nat.beq s sz then nh hi xs.length xs.length fun h=>nh lo 0 h fun l=>k (.pv (.cE sz ((xs.take h).drop l))) else none
   |none=>none
  |some (.slice _),some (.row id),some lo,some hi=>match isSlice P t,st.ob id with
   |some (_,s),some (.row _ sz xs)=>bif Nat.beq s sz then nh hi xs.length xs.length fun h=>nh lo 0 h fun l=>k (.sub id sz l h) else none
   |_,_=>none
  |some (.slice _),some (.sub id sz a b),some lo,some hi=>match isSlice P t with
   |some (_,s)=>bif Nat.beq s sz then nh hi (b-a) (b-a) fun h=>nh lo 0 h fun l=>k (.sub id sz (a+l) (a+h)) else none
   |none=>none
  |_,_,_,_=>none
 | .convert src dst x=>match P.underlying src,P.underlying dst with
  |some (.slice e),some .string=>match P.underlying e,fH P e,(aM P src st x).bind (elems st) with
   |some (.int .u8),some 1,some (1,xs)=>oJ (bytesOf xs) fun b=>k (.pv (.str b))
   |_,_,_=>none
  |_,_=>j7 (cD P o st) k
 | .lookup t x kx ok=>bif iS h x&& !ok then none else match P.underlying t with
  |some (.map kt et)=>match (aM P t st x).bind (xz st),(aM P kt st kx).bind dS with
   |some ks,some key=>bif ok&&eP P kt key&&(iN P et).isSome then Nt (gl key ks) fun b=>k (.two .any b) else none
   |_,_=>match (aM P t st x).bind (maps st),(aM P kt st kx).bind dS with
   |some (ks,vs),some key=>bif eP P kt key then zA (FY key ks vs) (fun v=>T4 C et v fun v=>k (.pv (found ok v true))) (j7 (iN P et) fun z=>k (.pv (found ok z false))) else none
   |_,_=>none
  |_=>none
 | .call c=>match c.callee with
  | .value f=>bif o.dst.any h.pQ.contains then none else bif o.dst.any h.stay.contains&&wide st c f then CL P C h F st c f fun r=>k (.pv r) else
   bif wide st c f||c.args.toList.any (fun x=>(iQ h st x).isSome) then none else
   match aM P 0 st f,eU P st c.args.toList c.argTypes.toList with
   |some (.pv (.fn g caps)),some vs=>nK (F g ((vs++caps).map .pv) []) fun r=>D5 C g r fun r=>bif (!(c.args.toList.any (jJ st))||r.plain)&&r.gm then k (.pv r) else none
   |_,_=>none
  |_=>j7 (qp P c st) k
 |_=>j7 (cr P h F o st) k
noncomputable def rZ (P:Program) (C:gW) (st:St) (t:TypeId) (m kx x:Operand) (k:St→Option R):Option R:=
 match P.underlying t with
 |some (.map kt et)=>match IS P st et x with
  |some st'=>match aM P t st' m,(aM P kt st' kx).bind dS,(aM P et st' x).bind dS with
   |some (.row id),some key,some v=>match st'.ob id with
    |some (.mp k' e' ks vs)=>bif eP P kt key&&v.zL then
      zS (pE key v ks vs) fun p=>OB C kt et p fun p=>k { st' with ob:=put st'.ob id (some (.mp k' e' p.1 p.2)) }
     else none
    |_=>none
   |_,_,_=>none
  |none=>none
 |_=>none
noncomputable def tE (P:Program) (C:gW) (st:St) (t:TypeId) (m kx:Operand) (k:St→Option R):Option R:=
 match P.underlying t with
 |some (.map kt et)=>match aM P t st m,(aM P kt st kx).bind dS with
  |some (.row id),some key=>match st.ob id with
   |some (.mp k' e' ks vs)=>bif eP P kt key then
     zS (I1 key ks vs) fun p=>OB C kt et p fun p=>k { st with ob:=put st.ob id (some (.mp k' e' p.1 p.2)) }
    else none
   |_=>none
  |_,_=>none
 |_=>none
noncomputable def I8 (P:Program) (C:gW) (st:St) (t:TypeId) (m kx:Operand) (d:Nat) (k:St→Option R):Option R:=
 match BN P st t m kx with
 |some (et,id,key,k',e,sz,ks,vs)=>bif Nat.beq id d then none else match iN P et,isSlice P et with
  |some (.cE _ []),some (e',s)=>bif Nat.beq e e'&&Nat.beq s sz&&Nat.blt 0 s then
    GO (Dk key ks vs) fun xs vs'=>Jq C e xs fun xs=>VZ C k' e (ks,vs') fun p=>
     k ((St.new { st with ob:=put st.ob id (some (.mr k' e sz p.1 p.2)) } d (.row e sz xs)).set (some d) (.row d))
   else none
  |_,_=>none
 |none=>none
noncomputable def Km (P:Program) (C:gW) (st:St) (t:TypeId) (m kx x:Operand) (k:St→Option R):Option R:=
 match BN P st t m kx with
 |some (et,id,key,k',e,sz,ks,vs)=>match x with
  | .const (.slice none 0 0)=>match isSlice P et with
   |some (e',s)=>bif Nat.beq e e'&&Nat.beq s sz&&Nat.blt 0 s then
     B8 (pE key (some []) ks vs) fun p=>VZ C k' e p fun p=>k { st with ob:=put st.ob id (some (.mr k' e sz p.1 p.2)) }
    else none
   |none=>none
  |x=>match aM P et st x with
   |some (.row j)=>match st.ob j with
    |some (.row e' s xs)=>bif Nat.beq e e'&&Nat.beq s sz&&Nat.blt j 10000 then
      B8 (pE key (some xs) ks vs) fun p=>VZ C k' e p fun p=>k { (st.cA j) with ob:=put (st.cA j).ob id (some (.mr k' e sz p.1 p.2)) }
     else none
    |_=>none
   |_=>none
 |none=>none
noncomputable def vD (P:Program) (C:gW) (h:Hint) (F:cQ) (st:St) (c:Call) (f:Operand) (d:Option Nat) (k:St→Option R):Option R:=
 match (aM P 0 st f).bind P9,ng P h st c.args.toList c.argTypes.toList with
 |some (g,caps),some vs=>
  let args:=vs++caps
  let ids:=eM st 200 (args.flatMap SV.ids) []
  let mv:=r7 (d.any h.stay.contains) st (wu args)
  let m:=gU mv 0 ids
  let names:=m.map (·.2)
  let ρ:=jI m
  bif distinct ids&&Nat.blt ids.length 10000&&args.all (SV.closed ids) then
   match fS st ids ρ m with
   |some bG=>nL (F g (args.map (SV.lq ρ)) bG) fun r l=>BA C ((m.filter fun p=>h.keep.contains p.1).map (·.2)) bG l fun de=>D5 C g r fun r=>match kO names (jI (swap m)) m de with
    |some back=>bif r.gm then
      let st1:=lg (ids.filter mv) st
      k (St.set { env:=st1.env,ob:=fun i=>(find back i).orElse fun _=>st1.ob i } d (.pv r)) else none
    |none=>none
   |none=>none
  else none
 |_,_=>none
noncomputable def yP (P:Program) (C:gW) (h:Hint) (F:cQ) (st:St) (c:Call) (f:Operand) (d:Option Nat) (k:St→Option R):Option R:=
 match d with
 |some d=>match aM P 0 st f,jW P (mS h d).isSome st c.args.toList c.argTypes.toList with
  |some (.pv (.fn g caps)),some vs=>nK (F g ((vs++caps).map .pv) []) fun r=>D5 C (bif (mS h d).isSome then g+1000000 else g) r fun r=>match r with
   | .e9 [.e9 [.self e, .cE sz xs]]=>bif (mS h d).isSome then none else k ((st.new d (.row e sz xs)).set (some d) (.row d))
   | .agg cs=>match mS h d with
    |some []=>k (st.set (some d) (.pv (.agg cs)))
    |some l=>match kR cs l with
     |some ks=>bif l.all (fun x=>Nat.blt x.1 10000) then k ((lN l st).set (some d) (.ag ks)) else none
     |none=>none
    |none=>none
   |_=>none
  |_,_=>none
 |none=>none
noncomputable def AA (P:Program) (C:gW) (st:St) (t:TypeId) (x:Operand) (d:Nat) (k:St→Option R):Option R:=
 match aM P 0 st x,yJ P t with
 |some (.rp id sz i off),some false=>match st.ob id with
  |some (.rn e sz' q e' s' xs ys)=>bif Nat.beq sz sz'&&Nat.beq off q&& !(Nat.beq id d)&&Nat.blt id 10000 then
    OV ys i fun zs=>Jq C e' zs fun zs=>Kn C e' (ys.set i none) fun ys=>
     k ((St.new { st with ob:=put st.ob id (some (.rn e sz' q e' s' xs ys)) } d (.row e' s' zs)).set (some d) (.row d))
   else none
  |_=>none
 |_,_=>none
noncomputable def Jm (P:Program) (C:gW) (st:St) (t:TypeId) (id sz i off j:Nat) (k:St→Option R):Option R:=
 match yJ P t,fH P t,st.ob id,st.ob j with
 |some false,some 1,some (.rn e sz' q e' s' xs ys),some (.row e2 s2 zs)=>
  bif Nat.beq sz sz'&&Nat.beq off q&&Nat.blt id 10000&&Nat.blt j 10000&&Nat.beq e' e2&&Nat.beq s' s2&& !(Nat.beq id j) then
   check (i<ys.length) (Kn C e' (ys.set i (some zs)) fun ys=>k { st.cA j with ob:=put (st.cA j).ob id (some (.rn e sz' q e' s' xs ys)) })
  else none
 |_,_,_,_=>none
noncomputable def Ju (P:Program) (C:gW) (h:Hint) (F:cQ) (o:Oper) (st:St) (k:St→Option R):Option R:=
 match o.op with
 | .makeSlice t l c=>match o.dst,isSlice P t,(aM P 0 st l).bind dS,(aM P 0 st c).bind dS with
  |some d,some (e,s),some (.int _ l),some (.int _ c)=>match zeroCells P e,P.info? e with
   |some z,some i=>bif Nat.blt 0 s&&Nat.beq z.length s then check (0≤l∧l≤c∧i.bytes *c.toNat≤281474976710656∧c≤9223372036854775807)
     (k ((st.new d (.row e s (List.replicate l.toNat z))).set (some d) (.row d))) else none
   |_,_=>none
  |_,_,_,_=>none
 | .store t x y=>match o.dst,aM P 0 st x,aM P t st y with
  |none,some (.rp id sz i off),some (.pv v)=>match st.ob id,fH P t with
   |some (.row e sz' xs),some n=>bif Nat.beq sz sz'&&Nat.beq v.cells.length n&&v.zL then
     kg xs i fun c=>E8 C e c fun c=>bif Nat.ble (off+n) c.length then k { st with ob:=put st.ob id (some (.row e sz' (xs.set i (c.take off++v.cells++c.drop (off+n))))) } else none
    else none
   |_,_=>none
  |none,some (.rp id sz i off),some (.row j)=>Jm P C st t id sz i off j k
  |none,some a,some v=>j7 (storeAt P t st a v) k
  |_,_,_=>none
 | .load t x=>bif o.dst.any h.take.contains then
   match o.dst with
   |some d=>AA P C st t x d k
   |none=>none
  else nv P C h F o st fun v=>k (st.set o.dst v)
 | .call c=>match c.callee with
  | .builtin .append=>match o.dst,c.args.toList,c.argTypes.toList with
   |some d,[x,y],[t,t']=>match isSlice P t,aM P t st x,aM P t' st y with
    |some (e,s),some (.row id),some y=>match st.ob id,elems st y,P.info? e with
     |some (.row e' sz xs),some (sz',ys),some i=>
      bif Nat.beq t t'&&Nat.beq e e'&&Nat.beq s sz&&Nat.beq sz sz'&&Nat.blt 0 sz&&(i.zero.map (fun z=>z.cells.size)==some sz)&&kP id then
       check ((xs.length+ys.length) *i.bytes≤140737488355328∧xs.length+ys.length≤4611686018427387904) (k ((st.new id (.row e sz (xs++ys))).set (some d) (.row id)))
      else none
     |_,_,_=>none
    |_,_,_=>none
   |_,_,_=>none
  | .builtin .delete=>match o.dst,c.args.toList,c.argTypes.toList with
   |none,[m,kx],t::_=>tE P C st t m kx k
   |_,_,_=>none
  | .builtin .clear=>match o.dst,c.args.toList,c.argTypes.toList with
   |none,[x],[t]=>match isSlice P t,aM P t st x with
    |some (e,s),some (.sub id sz lo hi)=>match st.ob id,zeroCells P e with
     |some (.row e' sz' xs),some z=>bif Nat.beq s sz&&Nat.beq sz sz'&&Nat.beq z.length sz&&Nat.beq e e'&&Nat.blt 0 sz then
       check (hi≤xs.length) (k { st with ob:=put st.ob id (some (.row e' sz' (xs.take lo++List.replicate (hi-lo) z++xs.drop hi))) }) else none
     |_,_=>none
    |_,_=>none
   |_,_,_=>none
  | .value f=>bif o.dst.any h.pQ.contains then yP P C h F st c f o.dst k else bif o.dst.any h.stay.contains&&wide st c f then nv P C h F o st fun v=>k (st.set o.dst v) else bif wide st c f then vD P C h F st c f o.dst k else bif c.args.toList.any (fun x=>(iQ h st x).isSome) then
    match aM P 0 st f,rY P h st c.args.toList c.argTypes.toList with
    |some (.pv (.fn g caps)),some (vs,[id])=>match st.ob id with
     |some (.row e sz xs)=>wX (F g (vs++caps.map .pv) [(10000, .row e sz xs)]) 10000 e sz fun r xs'=>D5 C g r fun r=>Jq C e xs' fun xs'=>match r with
       | .self n=>bif kP id then check (n≤xs'.length) (k ((st.new id (.row e sz (xs'.take n))).set o.dst (.row id))) else none
       |r=>bif r.plain then k (St.set { st with ob:=put st.ob id (some (.row e sz xs')) } o.dst (.pv r)) else none
     |_=>none
    |_,_=>none
   else bif c.args.toList.any (jJ st) then
    match aM P 0 st f,eU P st c.args.toList c.argTypes.toList with
    |some (.pv (.fn g caps)),some vs=>nK (F g ((vs++caps).map .pv) []) fun r=>D5 C g r fun r=>bif r.plain&&r.gm then k (st.set o.dst (.pv r)) else
      match jG.dF st c.args.toList with
      |some st'=>match aM P 0 st' f,eU P st' c.args.toList c.argTypes.toList with
       |some (.pv (.fn g' MG)),some vs'=>bif c.args.toList.any (jJ st') then none else nK (F g' ((vs'++MG).map .pv) []) fun r=>D5 C g' r fun r=>bif r.gm then k (st'.set o.dst (.pv r)) else none
       |_,_=>none
      |none=>none
    |_,_=>none
   else nv P C h F o st fun v=>k (st.set o.dst v)
  |_=>nv P C h F o st fun v=>k (st.set o.dst v)
 | .mapUpdate t m kx x=>match o.dst with
  |none=>bif iS h m then Km P C st t m kx x k else rZ P C st t m kx x k
  |some _=>none
 | .insert t m kx x=>match o.dst with
  |none=>bif iS h m then Km P C st t m kx x k else rZ P C st t m kx x k
  |some _=>none
 | .lookup t m kx ok=>bif iS h m&& !ok then
   match o.dst with
   |some d=>I8 P C st t m kx d k
   |none=>none
  else nv P C h F o st fun v=>k (st.set o.dst v)
 | .range t x=>match o.dst,P.underlying t,(aM P t st x).bind dS with
  |some d,some .string,some (.str s)=>k ((st.new d (.it s 0)).set (some d) (.ptr d 0))
  |_,_,_=>none
 | .next x true=>match o.dst,aM P 0 st x with
  |some d,some (.ptr id 0)=>match st.ob id with
   |some (.it s pos)=>bif Nat.blt pos s.length then
     k (St.set { st with ob:=put st.ob id (some (.it s (pos+(Utf8.decode ⟨s.toArray⟩ pos).2))) } (some d) (.pv (.e9 [.bool true, .int .i64 pos, .int .i32 (Utf8.decode ⟨s.toArray⟩ pos).1])))
    else k (st.set (some d) (.pv (.e9 [.bool false])))
   |_=>none
  |_,_=>none
 | .assign _| .buildSlice _ _ _| .box _ _| .alloc _| .makeMap _ _| .makeFunc _ _ _| .build _ _=>j7 (step0 P h F o st) k
 |_=>nv P C h F o st fun v=>k (st.set o.dst v)
noncomputable def stepT (P:Program) (C:gW) (h:Hint) (F:cQ) (o:Oper) (st:St) (k:St→Option R):Option R:=j7 (fC (qq h o) st) fun st=>Ju P C h F o st k
def KF (ops:Array Oper) (o:Oper) (st:St) (k:Bool→St→Option R):Option R:=
 match o.guard with
 |none=>k true st
 |some (j,want)=>match (ops[j]?).bind (·.dst) with
  |some d=>match st.env d with
   |some (.pv (.bool true))=>k want st
   |some (.pv (.bool false))=>k (!want) st
   |some .undef=>k false st
   |_=>none
  |none=>none
def guards (ops:Array Oper) (i:Nat):Bool:=ops.toList.any fun o=>match o.guard,o.op with
 |some (j,_),_=>Nat.beq j i
 |none,_=>false
def Ai (b:Bool) (d:Option Nat) (st:St) (k:St→Option R):Option R:=
 bif b then
  match d with
  |some d=>match st.env d with
   |some (.pv (.bool t))=>bif t then k (st.set (some d) (.pv (.bool true))) else k (st.set (some d) (.pv (.bool false)))
   |_=>k st
  |none=>k st
 else k st
noncomputable def u9 (P:Program) (C:gW) (h:Hint) (F:cQ) (ops:Array Oper):Nat→List Oper→St→(St→Option R)→Option R
 |_,[],st,k=>k st
 |i,o::l,st,k=>KF ops o st fun b st=>bif b then stepT P C h F o st fun st=>Ai (guards ops i) o.dst st fun st=>u9 P C h F ops (i+1) l st k
   else u9 P C h F ops (i+1) l (st.set o.dst .undef) k
noncomputable def ox (P:Program) (C:gW) (h:Hint) (F:cQ) (ops:Array Oper):Nat→List Oper→List (Nat×cT)→St→(St→Option R)→Option R
 |_,[],_,st,k=>k st
 |i,o::l,prev,st,k=>KF ops o st fun b st=>bif b then
    bif Pv h st o&&(qq h o).isEmpty then
     nv P C h F o st fun v=>bif nt ops prev i ((mw P h ops o st).fill st (st.set o.dst v)) then
      Ai (guards ops i) o.dst (st.set o.dst v) fun st'=>ox P C h F ops (i+1) l ((i,(mw P h ops o st).fill st (st.set o.dst v))::prev) st' k else none
    else stepT P C h F o st fun st'=>bif nt ops prev i ((iY P h ops o st).fill st st') then
      Ai (guards ops i) o.dst st' fun st2=>ox P C h F ops (i+1) l ((i,(iY P h ops o st).fill st st')::prev) st2 k else none
   else bif nt ops prev i ((kZ ops o).fill st (st.set o.dst .undef)) then ox P C h F ops (i+1) l ((i,(kZ ops o).fill st (st.set o.dst .undef))::prev) (st.set o.dst .undef) k else none
@[irreducible] noncomputable def xy (P:Program) (h:Hint) (F:cQ) (c:Code) (st:St) (k:Ex→St→Option R):Option R:=
 open Classical in if hx : ∃ x n, exec P h F n (.loop c) st = some x then k hx.choose.1 hx.choose.2 else none
def Wb (rb:St→(Ex→St→Option R)→Option R) (k:Ex→St→Option R):Ex→St→Option R:=fun e st=>match e with
 | .normal=>rb st k
 |e=>k e st
def Hr (id:Nat) (k:Ex→St→Option R):Ex→St→Option R:=fun e st=>match e with
 | .exit j=>bif Nat.beq j id then k .normal st else k (.exit j) st
 |e=>k e st
noncomputable def He (P:Program) (h:Hint) (F:cQ) (c:Code) (k:Ex→St→Option R):Ex→St→Option R:=fun e st=>match e with
 | .normal=>xy P h F c (h.canon (bY c) st) k
 |e=>k e st
noncomputable def r9 (C:gW):List Nat→St→(St→Option R)→Option R
 |[],st,k=>k st
 |id::l,st,k=>match st.ob id with
  |some (.mr kt e sz ks vs)=>bif ot id then
    EF (gy vs) fun xs=>mpK C kt e sz (ks,xs.map (.cE sz)) fun p=>
     r9 C l { env:=fun i=>(st.env i).map (SV.bZ id (.mp p.1 p.2)),ob:=put (fun i=>(st.ob i).map (Ob.bZ id (.mp p.1 p.2))) id none } k
   else none
  |some (.rn e sz q e' s' xs ys)=>bif ot id then
    EF (gy ys) fun zs=>Jq C e (qg q s' xs zs) fun xs'=>
     r9 C l { env:=fun i=>(st.env i).map (SV.bZ id (.cE sz xs')),ob:=put (fun i=>(st.ob i).map (Ob.bZ id (.cE sz xs'))) id none } k
   else none
  |_=>match st.zO id with
   |some st'=>r9 C l st' k
   |none=>none
noncomputable def O1 (C:gW) (h:Hint) (id:Nat) (st:St) (k:St→Option R):Option R:=
 match find h.sQ id with
 |some l=>r9 C l st k
 |none=>k st
noncomputable def ia (P:Program) (C:gW) (h:Hint) (F:cQ):Code→St→(Ex→St→Option R)→Option R
 | .skip,st,k=>k .normal st
 | .label _,st,k=>k .normal st
 | .region id ops draw,st,k=>O1 C h id st fun st=>
  bif draw then
   bif kC 0 ops.toList then ox P C h F ops 0 ops.toList [] (jX (nI ops.toList) st) (k .normal) else none
  else u9 P C h F ops 0 ops.toList st (k .normal)
 | .seq a b,st,k=>match find h.blk (bY a) with
  |some x=>check (x.1 st=true) (k (SB (x.2 st).1) (x.2 st).2)
  |none=>ia P C h F a st (Wb (ia P C h F b) k)
 | .cond c a b,st,k=>match aM P 0 st c with
  |some (.pv (.bool t))=>bif t then ia P C h F a st k else ia P C h F b st k
  |_=>none
 | .block id c,st,k=>ia P C h F c st (Hr id k)
 | .loop c,st,k=>xy P h F c (h.canon (bY c) st) k
 | .exit id,st,k=>k (.exit id) st
 | .ret,st,k=>k .ret st
 | .scope c,st,k=>ia P C h F c st k
 |_,_,_=>none
noncomputable def uv (P:Program) (C:gW) (h:Hint) (F:cQ) (key:Nat):Code→(Ex→St→Option R)→Option (Code×(Ex→St→Option R))
 | .seq a b,k=>match find h.blk (bY a) with
  |some _=>none
  |none=>match uv P C h F key a (Wb (ia P C h F b) k) with
   |some x=>some x
   |none=>uv P C h F key b k
 | .cond _ a b,k=>match uv P C h F key a k with
  |some x=>some x
  |none=>uv P C h F key b k
 | .block id c,k=>uv P C h F key c (Hr id k)
 | .loop c,k=>bif Nat.beq (bY c) key then some (c,k) else uv P C h F key c (He P h F c k)
 | .scope c,k=>uv P C h F key c k
 |_,_=>none
end
noncomputable def ME (P:Program) (C:gW) (H:Nat→Hint) (dg:cQ) (f:Nat) (args:List SV) (bG:List (Nat×Ob)):Option (AV×List (Nat×Ob)):=
 match P.funcs[f]? with
 |some fn=>match fn.body with
  |some c=>bif Nat.ble args.length fn.ntmps&&(bG.map (·.1)).all (fun i=> !(ot i)) then ia P C (H f) (run P H dg) c { env:=find (oG 0 args),ob:=find bG } (M0 P (H f).own fn (bG.map (·.1))) else none
  |none=>none
 |none=>none
noncomputable def xq (P:Program) (C:gW) (H:Nat→Hint) (dg:cQ) (f key:Nat) (names:List Nat) (env:List (Nat×SV)) (ob:List (Nat×Ob)):Option (AV×List (Nat×Ob)):=
 match P.funcs[f]? with
 |some fn=>match fn.body with
  |some c=>match uv P C (H f) (run P H dg) key c (M0 P (H f).own fn names) with
   |some (cl,k)=>xy P (H f) (run P H dg) cl { env:=find env,ob:=find ob } k
   |none=>none
  |none=>none
 |none=>none
noncomputable def Jp (P:Program) (C:gW) (H:Nat→Hint) (dg:cQ) (f key:Nat) (names:List Nat) (env:List (Nat×SV)) (ob:List (Nat×Ob)):Option (AV×List (Nat×Ob)):=
 match P.funcs[f]? with
 |some fn=>match fn.body with
  |some c=>match uv P C (H f) (run P H dg) key c (M0 P (H f).own fn names) with
   |some (cl,k)=>ia P C (H f) (run P H dg) cl ((H f).canon (bY cl) { env:=find env,ob:=find ob }) (He P (H f) (run P H dg) cl k)
   |none=>none
  |none=>none
 |none=>none
section
variable {R:Type} {P:Program} {C:gW} {h:Hint} {F:cQ}
theorem cZ {α:Type} {c:Option α} {k:α→Option R} {r:R} (hv:j7 c k=some r):∃x,c=some x∧k x=some r:=by
 cases c with
 |none=>simp [j7] at hv
 |some x=>exact ⟨x,rfl,hv⟩
theorem dQ {p:Prop} [Decidable p] {x:Option R} {r:R} (hv:check p x=some r):p∧x=some r:=by
 unfold check at hv;split at hv
 ·exact ⟨‹_›,hv⟩
 ·cases hv
theorem BE {α:Type} {xs:List α} {i:Int} {k:α→Option R} {r:R} (hv:cM xs i k=some r):0≤i∧∃x,xs[i.toNat]? =some x∧k x=some r:=by
 unfold cM at hv;split at hv
 ·rename_i h0
  split at hv
  ·rename_i x hx;exact ⟨h0,x,hx,hv⟩
  ·cases hv
 ·cases hv
theorem BG {α:Type} {xs:List α} {i:Nat} {k:α→Option R} {r:R} (hv:kg xs i k=some r):∃x,xs[i]? =some x∧k x=some r:=by
 unfold kg at hv;split at hv
 ·rename_i x hx;exact ⟨x,hx,hv⟩
 ·cases hv
theorem oL {c:Option (AV×List (Nat×Ob))} {k:AV→Option R} {r:R} (hv:nK c k=some r):∃x,c=some (x,[])∧k x=some r:=by
 unfold nK at hv;split at hv
 ·rename_i x;exact ⟨x,rfl,hv⟩
 ·cases hv
theorem Hw {c:Option (AV×List (Nat×Ob))} {nm e sz:Nat} {k:AV→List (List AV)→Option R} {r:R} (hv:wX c nm e sz k=some r):∃x xs,c=some (x,[(nm, .row e sz xs)])∧k x xs=some r:=by
 unfold wX at hv;split at hv
 ·rename_i x Jb e' sz' xs
  replace hv:=bu hv
  obtain ⟨hb,hv⟩:=hv;simp only [Bool.and_eq_true] at hb;have h1:=beq_iff.1 hb.1.1;have h2:=beq_iff.1 hb.1.2;have h3:=beq_iff.1 hb.2;subst h1 h2 h3;exact ⟨x,xs,rfl,hv⟩
 ·cases hv
theorem jO {α T:Type} {enc:T→α} {c:α} {k:T→Option R} {r:R} (hv:eS enc c k=some r):∃d,enc d=c∧k d=some r:=by
 unfold eS at hv;split at hv
 ·rename_i hx;exact ⟨_,hx.choose_spec,hv⟩
 ·cases hv
theorem s9 {e:TypeId} {c:List AV} {k:List AV→Option R} {r:R} (hv:E8 C e c k=some r):k c=some r:=by
 unfold E8 at hv;split at hv
 ·obtain ⟨x,rfl,hk⟩:=jO hv;exact hk
 ·exact hv
theorem ow {e:TypeId} {c:List (List AV)} {k:List (List AV)→Option R} {r:R} (hv:Jq C e c k=some r):k c=some r:=by
 unfold Jq at hv;split at hv
 ·obtain ⟨x,rfl,hk⟩:=jO hv;exact hk
 ·exact hv
theorem kI {g:Nat} {c:AV} {k:AV→Option R} {r:R} (hv:D5 C g c k=some r):k c=some r:=by
 unfold D5 at hv;split at hv
 ·obtain ⟨x,rfl,hk⟩:=jO hv;exact hk
 ·exact hv
theorem L5 {t:TypeId} {c:AV} {k:AV→Option R} {r:R} (hv:T4 C t c k=some r):k c=some r:=by
 unfold T4 at hv;split at hv
 ·obtain ⟨x,rfl,hk⟩:=jO hv;exact hk
 ·exact hv
theorem vO {kt et:TypeId} {c:List AV×List AV} {k:List AV×List AV→Option R} {r:R} (hv:OB C kt et c k=some r):k c=some r:=by
 unfold OB at hv;split at hv
 ·obtain ⟨x,rfl,hk⟩:=jO hv;exact hk
 ·exact hv
theorem IX {x:Option (Option AV)} {k:AV→Option R} {z:Option R} {r:R} (hv:zA x k z=some r):(∃v,x=some (some v)∧k v=some r)∨(x=some none∧z=some r):=by
 unfold zA at hv;split at hv
 ·exact .inl ⟨_,rfl,hv⟩
 ·exact .inr ⟨rfl,hv⟩
 ·cases hv
theorem B7 {x:Option (List AV×List AV)} {k:List AV×List AV→Option R} {r:R} (hv:zS x k=some r):∃p,x=some p∧k p=some r:=by
 unfold zS at hv;split at hv
 ·exact ⟨_,rfl,hv⟩
 ·cases hv
theorem yO {c:Option (AV×List (Nat×Ob))} {k:AV→List (Nat×Ob)→Option R} {r:R} (hv:nL c k=some r):∃x l,c=some (x,l)∧k x l=some r:=by
 unfold nL at hv;split at hv
 ·exact ⟨_,_,rfl,hv⟩
 ·cases hv
theorem vq {nm:Nat} {l:List (Nat×Ob)} {k:Ob→List (Nat×Ob)→Option R} {r:R} (hv:aD nm l k=some r):∃o l',l=(nm,o)::l'∧k o l'=some r:=by
 unfold aD at hv;split at hv
 ·replace hv:=bu hv
  obtain ⟨hb,hv⟩:=hv;have:=beq_iff.1 hb;subst this;exact ⟨_,_,rfl,hv⟩
 ·cases hv
theorem BR {l:List (Nat×Ob)} {k:Option R} {r:R} (hv:jw l k=some r):l=[]∧k=some r:=by
 unfold jw at hv;split at hv
 ·exact ⟨rfl,hv⟩
 ·cases hv
theorem tN {o o':Ob} {k:Option R} {r:R} (hv:bN o o' k=some r):o=o'∧k=some r:=by
 unfold bN at hv;split at hv
 ·exact ⟨‹_›,hv⟩
 ·cases hv
theorem Hi {e sz:Nat} {o:Ob} {k:List (List AV)→Option R} {r:R} (hv:gu e sz o k=some r):∃xs,o= .row e sz xs∧k xs=some r:=by
 unfold gu at hv;split at hv
 ·replace hv:=bu hv
  obtain ⟨hb,hv⟩:=hv;simp only [Bool.and_eq_true] at hb;have h1:=beq_iff.1 hb.1;have h2:=beq_iff.1 hb.2;subst h1 h2;exact ⟨_,rfl,hv⟩
 ·cases hv
theorem Hg {kt et:Nat} {o:Ob} {k:List AV×List AV→Option R} {r:R} (hv:me kt et o k=some r):∃p,o= .mp kt et p.1 p.2∧k p=some r:=by
 unfold me at hv;split at hv
 ·replace hv:=bu hv
  obtain ⟨hb,hv⟩:=hv;simp only [Bool.and_eq_true] at hb;have h1:=beq_iff.1 hb.1;have h2:=beq_iff.1 hb.2;subst h1 h2;exact ⟨(_,_),rfl,hv⟩
 ·cases hv
theorem Lc {x:Option (Option Nat)} {k:Bool→Option R} {r:R} (hv:Nt x k=some r):∃q,x=some q∧k q.isSome=some r:=by
 unfold Nt at hv;split at hv
 ·exact ⟨_,rfl,hv⟩
 ·cases hv
theorem EO {x:Option (List UInt8)} {k:List UInt8→Option R} {r:R} (hv:oJ x k=some r):∃b,x=some b∧k b=some r:=by
 unfold oJ at hv;split at hv
 ·exact ⟨_,rfl,hv⟩
 ·cases hv
theorem JC {x:Option (List (List AV)×List (Option (List (List AV))))} {k:List (List AV)→List (Option (List (List AV)))→Option R} {r:R} (hv:GO x k=some r):∃p,x=some p∧k p.1 p.2=some r:=by
 unfold GO at hv;split at hv
 ·exact ⟨_,rfl,hv⟩
 ·cases hv
theorem zU {x:Option (List AV×List (Option (List (List AV))))} {k:List AV×List (Option (List (List AV)))→Option R} {r:R} (hv:B8 x k=some r):∃p,x=some p∧k p=some r:=by
 unfold B8 at hv;split at hv
 ·exact ⟨_,rfl,hv⟩
 ·cases hv
theorem Bq {x:Option (List (List (List AV)))} {k:List (List (List AV))→Option R} {r:R} (hv:EF x k=some r):∃l,x=some l∧k l=some r:=by
 unfold EF at hv;split at hv
 ·exact ⟨_,rfl,hv⟩
 ·cases hv
theorem LM {ys:List (Option (List (List AV)))} {i:Nat} {k:List (List AV)→Option R} {r:R} (hv:OV ys i k=some r):∃zs,ys[i]? =some (some zs)∧k zs=some r:=by
 unfold OV at hv;split at hv
 ·rename_i zs h;exact ⟨zs,h,hv⟩
 ·cases hv
theorem zJ {e:TypeId} {ys:List (Option (List (List AV)))} {k:List (Option (List (List AV)))→Option R} {r:R} (hv:Kn C e ys k=some r):k ys=some r:=by
 unfold Kn at hv;split at hv
 ·obtain ⟨x,rfl,hk⟩:=jO hv;exact hk
 ·exact hv
theorem zI {kt e:TypeId} {c:List AV×List (Option (List (List AV)))} {k:List AV×List (Option (List (List AV)))→Option R} {r:R} (hv:VZ C kt e c k=some r):k c=some r:=by
 unfold VZ at hv;split at hv
 ·obtain ⟨x,rfl,hk⟩:=jO hv;exact hk
 ·exact hv
theorem OI {kt e:TypeId} {sz:Nat} {c:List AV×List AV} {k:List AV×List AV→Option R} {r:R} (hv:mpK C kt e sz c k=some r):k c=some r:=by
 unfold mpK at hv;split at hv
 ·obtain ⟨x,rfl,hk⟩:=jO hv;exact hk
 ·exact hv
theorem Gv {o o':Ob} {k:Ob→Option R} {r:R} (hv:Js C o o' k=some r):k o'=some r:=by
 unfold Js at hv;split at hv
 ·obtain ⟨xs,rfl,hk⟩:=Hi hv;exact ow hk
 ·obtain ⟨p,rfl,hk⟩:=Hg hv;exact vO hk
 ·obtain ⟨rfl,hk⟩:=tN hv;exact hk
theorem s8 {keep:List Nat}:∀{l l':List (Nat×Ob)} {k:List (Nat×Ob)→Option R} {r:R},BA C keep l l' k=some r→k l'=some r
 |[],l',k,r,hv=>by
  simp only [BA] at hv;obtain ⟨rfl,hk⟩:=BR hv;exact hk
 |(nm,o)::l,l',k,r,hv=>by
  simp only [BA] at hv
  replace hv:=vq hv
  obtain ⟨o',l'',rfl,hv⟩:=hv;cases hkp:keep.contains nm with
  |true=>
   rw [hkp] at hv;obtain ⟨e,hv⟩:=tN hv;subst e;exact s8 (k:=fun os=>k ((nm,o')::os)) hv
  |false=>
   rw [hkp] at hv;simp only [cond_false] at hv;exact s8 (k:=fun os=>k ((nm,o')::os)) (Gv hv)
theorem LR {a:AV} {k:List AV→Option R} {r:R} (hv:OY a k=some r):∃cs,a= .ref cs∧k cs=some r:=by
 unfold OY at hv;split at hv
 ·exact ⟨_,rfl,hv⟩
 ·cases hv
theorem E5 {a:AV} {k:AV→Option R} {r:R} (hv:Hz C a k=some r):∃cs,a= .ref cs∧k (.ref cs)=some r:=by
 unfold Hz at hv;obtain ⟨cs,e,hv⟩:=LR hv;refine ⟨cs,e,?_⟩;split at hv
 ·obtain ⟨x,e2,hv⟩:=jO hv;rw [←e2];exact hv
 ·exact hv
theorem sA:∀{l l':List (Nat×Ob)} {k:Option R} {r:R},qC l l' k=some r→l'=l∧k=some r
 |[],l',k,r,hv=>by
  simp only [qC] at hv;obtain ⟨e,hk⟩:=BR hv;exact ⟨e,hk⟩
 |(nm,o)::l,l',k,r,hv=>by
  simp only [qC] at hv;obtain ⟨o',l2,e1,h1⟩:=vq hv;obtain ⟨e2,h2⟩:=tN h1;obtain ⟨e3,h3⟩:=sA h2;exact ⟨by rw [e1,e2,e3],h3⟩
theorem CM {st:St} {c:Call} {f:Operand} {k:AV→Option R} {r:R} (hv:CL P C h F st c f k=some r):∃v,kA P h F st c f=some v∧k v=some r:=by
 unfold CL at hv;split at hv
 ·rename_i g args ha
  obtain ⟨hb,hv⟩:=bu hv;split at hv
  ·rename_i bG hl
   obtain ⟨x,l,hx,hv⟩:=yO hv;obtain ⟨e,h2⟩:=sA hv;subst e;obtain ⟨FC,h3⟩:=bu (kI h2);refine ⟨x,?_,h3⟩;simp only [kA,ha,hb,cond_true,hl,hx,vb,FC,Bool.and_self]
  ·cases hv
 ·cases hv
theorem gv {lo:Option SV} {d hi:Nat} {k:Nat→Option R} {r:R} (hv:nh lo d hi k=some r):∃n,dG lo d hi=some n∧k n=some r:=by
 unfold nh at hv;split at hv
 ·exact ⟨d,rfl,hv⟩
 ·rename_i q i
  obtain ⟨hc,hk⟩:=dQ hv;exact ⟨i.toNat,by simp [dG,hc],hk⟩
 ·cases hv
theorem ux {o:Oper} {st:St} {k:SV→Option R} {r:R} (hv:nv P C h F o st k=some r):∃v,cr P h F o st=some v∧k v=some r:=by
 unfold nv at hv;split at hv
 ·rename_i c x y ho
  split at hv
  ·rename_i t hc
   cases t with
   |true=>
    obtain ⟨v,hx,hk⟩:=cZ hv;exact ⟨v,by simp [cr,cD,ho,hc,hx],hk⟩
   |false=>
    obtain ⟨v,hx,hk⟩:=cZ hv;exact ⟨v,by simp [cr,cD,ho,hc,hx],hk⟩
  ·cases hv
 ·rename_i x ho
  split at hv
  ·rename_i a hx
   obtain ⟨cs,rfl,hk⟩:=E5 hv;exact ⟨_,by simp only [cr,cD,ho,hx],hk⟩
  ·obtain ⟨v,hp,hk⟩:=cZ hv
   exact ⟨v,by simp only [cr,ho];exact hp,hk⟩
 ·rename_i t x ix ho
  split at hv
  ·rename_i n e hu
   obtain ⟨v,hx,hk⟩:=cZ hv;exact ⟨v,by simp [cr,cD,ho,hu,hx],hk⟩
  ·rename_i hna
   have hp:cr P h F o st=nU P st t x ix:=by
    simp only [cr,ho,cD]
   rw [hp];split at hv
   ·rename_i e s sz xs q i hs hx hi
    replace hv:=bu hv
    obtain ⟨hb,hv⟩:=hv;have:=beq_iff.1 hb;subst this;obtain ⟨h0,c,hc,hk⟩:=BE hv;exact ⟨_,by simp [nU,hs,hx,hi,h0,hc],s9 hk⟩
   ·rename_i e s id q i hs hx hi
    split at hv
    ·rename_i e' sz xs cz
     replace hv:=bu hv
     obtain ⟨hb,hv⟩:=hv;have:=beq_iff.1 hb;subst this;obtain ⟨hc,hk⟩:=dQ hv;exact ⟨_,by simp [nU,hs,hx,hi,cz,hc],hk⟩
    ·rename_i e' sz _ _ _ xs _ cz
     replace hv:=bu hv
     obtain ⟨hb,hv⟩:=hv;have:=beq_iff.1 hb;subst this;obtain ⟨hc,hk⟩:=dQ hv;exact ⟨_,by simp [nU,hs,hx,hi,cz,hc],hk⟩
    ·cases hv
   ·rename_i e s id sz lo hi' q i hs hx hi
    replace hv:=bu hv
    obtain ⟨hb,hv⟩:=hv;have:=beq_iff.1 hb;subst this;obtain ⟨hc,hk⟩:=dQ hv;exact ⟨_,by simp [nU,hs,hx,hi,hc],hk⟩
   ·cases hv
 ·rename_i t x ix ho
  split at hv
  ·rename_i s q i hu hx hi
   obtain ⟨h0,b,hb,hk⟩:=BE hv;exact ⟨_,by simp [cr,cD,ho,hu,hx,hi,h0,hb],hk⟩
  ·cases hv
 ·rename_i t x ho
  split at hv
  ·rename_i id sz i off hx
   split at hv
   ·rename_i e sz' xs cz
    replace hv:=bu hv
    obtain ⟨hb,hv⟩:=hv;have:=beq_iff.1 hb;subst this;obtain ⟨c,hc,hv⟩:=BG hv
    replace hv:=s9 hv
    obtain ⟨v,ht,hk⟩:=cZ hv;exact ⟨_,by simp [cr,cD,ho,hx,cz,hc,ht],hk⟩
   ·cases hv
  ·obtain ⟨v,ht,hk⟩:=cZ hv
   exact ⟨v,by simp only [cr,ho];exact ht,hk⟩
 ·rename_i op t x y t' ho
  have dflt:j7 (cD P o st) (fun v=>k v)=some r→∃v,cr P h F o st=some v∧k v=some r:=fun hv=>by
   obtain ⟨v,ht,hk⟩:=cZ hv;exact ⟨v,by simp only [cr,ho];exact ht,hk⟩
  split at hv
  ·rename_i ka a kb b hx hy
   split at hv
   ·replace hv:=bu hv
    obtain ⟨hb,hv⟩:=hv;have hk:ka=kb:=by simpa using hb
    subst hk;obtain ⟨hc,hk⟩:=dQ hv;exact ⟨_,by simp [cr,cD,ho,hx,hy,bin,vH,hc],hk⟩
   ·replace hv:=bu hv
    obtain ⟨hb,hv⟩:=hv;have hk:ka=kb:=by simpa using hb
    subst hk;obtain ⟨hc,hk⟩:=dQ hv;exact ⟨_,by simp [cr,cD,ho,hx,hy,bin,vH,hc],hk⟩
   ·obtain ⟨hc,hk⟩:=dQ hv
    have:¬b<0:=by omega
    exact ⟨_,by simp [cr,cD,ho,hx,hy,bin,rE,this],hk⟩
   ·obtain ⟨hc,hk⟩:=dQ hv
    have:¬b<0:=by omega
    exact ⟨_,by simp [cr,cD,ho,hx,hy,bin,rE,this],hk⟩
   ·exact dflt hv
  ·rename_i a b hx hy
   split at hv
   ·obtain ⟨hc,hk⟩:=dQ hv
    exact ⟨_,by simp [cr,cD,ho,hx,hy,bin,Jv,hc],hk⟩
   ·exact dflt hv
  ·exact dflt hv
 ·rename_i t x lo hi ho
  split at hv
  ·rename_i s lv H7 hu hx hlo hhi
   obtain ⟨n,hn,hv⟩:=gv hv;obtain ⟨m,hm,hk⟩:=gv hv;exact ⟨_,by simp [cr,cD,ho,hu,hx,hlo,hhi,hn,hm],hk⟩
  ·rename_i e sz xs lv H7 hu hx hlo hhi
   split at hv
   ·rename_i e' s hs
    replace hv:=bu hv
    obtain ⟨hb,hv⟩:=hv;have:=beq_iff.1 hb;subst this;obtain ⟨n,hn,hv⟩:=gv hv;obtain ⟨m,hm,hk⟩:=gv hv;exact ⟨_,by simp [cr,cD,ho,hu,hx,hlo,hhi,hs,hn,hm],hk⟩
   ·cases hv
  ·rename_i e id lv H7 hu hx hlo hhi
   split at hv
   ·rename_i e' s e2 sz xs hs cz
    replace hv:=bu hv
    obtain ⟨hb,hv⟩:=hv;have:=beq_iff.1 hb;subst this;obtain ⟨n,hn,hv⟩:=gv hv;obtain ⟨m,hm,hk⟩:=gv hv;exact ⟨_,by simp [cr,cD,ho,hu,hx,hlo,hhi,hs,cz,hn,hm],hk⟩
   ·cases hv
  ·rename_i e id sz a b lv H7 hu hx hlo hhi
   split at hv
   ·rename_i e' s hs
    replace hv:=bu hv
    obtain ⟨hb,hv⟩:=hv;have:=beq_iff.1 hb;subst this;obtain ⟨n,hn,hv⟩:=gv hv;obtain ⟨m,hm,hk⟩:=gv hv;exact ⟨_,by simp [cr,cD,ho,hu,hx,hlo,hhi,hs,hn,hm],hk⟩
   ·cases hv
  ·cases hv
 ·rename_i src dst x ho
  split at hv
  ·rename_i e hu hd
   split at hv
   ·rename_i xs he hs hx
    obtain ⟨b,hb,hk⟩:=EO hv;exact ⟨_,by simp [cr,cD,ho,hu,hd,he,hs,hx,hb],hk⟩
   ·cases hv
  ·obtain ⟨v,ht,hk⟩:=cZ hv
   exact ⟨v,by simp only [cr,ho];exact ht,hk⟩
 ·rename_i t x kx ok ho
  cases hrm:(iS h x&& !ok) with
  |true=>rw [hrm] at hv;cases hv
  |false=>
  rw [hrm] at hv;simp only [cond_false] at hv;split at hv
  ·rename_i kt et hu
   split at hv
   ·rename_i ks key hx hk
    obtain ⟨hok,hv⟩:=bu hv;obtain ⟨q,hq,hv⟩:=Lc hv;exact ⟨_,by simp only [cr,cD,ho,hrm,cond_false,hu,hx,hk,hok,cond_true,hq,Option.map_some],hv⟩
   ·rename_i hno
    split at hv
    ·rename_i ks vs key hx hk
     have hnk:(aM P t st x).bind (xz st)=none:=by
      cases hkk:(aM P t st x).bind (xz st) with
      |none=>rfl
      |some ks'=>exact (hno ks' key hkk hk).elim
     obtain ⟨hok,hv⟩:=bu hv;rcases IX hv with ⟨v,hg,hv⟩|⟨hg,hv⟩
     ·exact ⟨_,by simp only [cr,cD,ho,hrm,cond_false,hu,hnk,hx,hk,hok,cond_true,hg],L5 hv⟩
     ·obtain ⟨z,hz,hv⟩:=cZ hv
      exact ⟨_,by simp only [cr,cD,ho,hrm,cond_false,hu,hnk,hx,hk,hok,cond_true,hg,hz,Option.map_some],hv⟩
    ·cases hv
  ·cases hv
 ·rename_i c ho
  split at hv
  ·rename_i f hc
   cases how:o.dst.any h.pQ.contains with
   |true=>rw [how] at hv;cases hv
   |false=>
   rw [how] at hv;simp only [cond_false] at hv;cases hro:(o.dst.any h.stay.contains&&wide st c f) with
   |true=>
    rw [hro] at hv;simp only [cond_true] at hv;obtain ⟨v,hx,hk⟩:=CM hv;refine ⟨.pv v,?_,hk⟩;simp only [cr,ho,hc];rw [how,hro,hx];rfl
   |false=>
   rw [hro] at hv;simp only [cond_false] at hv;cases gd:(wide st c f||c.args.toList.any (fun x=>(iQ h st x).isSome)) with
   |true=>rw [gd] at hv;cases hv
   |false=>
   rw [gd] at hv;simp only [cond_false] at hv;split at hv
   ·rename_i g caps vs hf hvs
    obtain ⟨r',hx,hv⟩:=oL hv;obtain ⟨hb,hk⟩:=bu (kI hv);refine ⟨.pv r',?_,hk⟩;simp only [cr,ho,hc,hf,hvs,hx];rw [how,hro,gd,hb];rfl
   ·cases hv
  ·rename_i hc
   obtain ⟨v,ht,hk⟩:=cZ hv;refine ⟨v,?_,hk⟩;simp only [cr,ho];exact ht
 ·exact cZ hv
theorem qm {st:St} {t:TypeId} {m kx x:Operand} {k:St→Option R} {r:R} (hv:rZ P C st t m kx x k=some r):∃st',nZ P st t m kx x=some st'∧k st'=some r:=by
 unfold rZ at hv;split at hv
 ·rename_i kt et hu
  split at hv
  ·rename_i st1 h1
   split at hv
   ·rename_i id key v hm hk hx
    split at hv
    ·rename_i k' e' ks vs cz
     obtain ⟨hc,hv⟩:=bu hv;obtain ⟨p,hp,hv⟩:=B7 hv
     replace hv:=vO hv
     exact ⟨_,by simp only [nZ,hu,h1,hm,hk,hx,cz,hc,cond_true,hp],hv⟩
    ·cases hv
   ·cases hv
  ·cases hv
 ·cases hv
theorem vN {st:St} {t:TypeId} {m kx:Operand} {k:St→Option R} {r:R} (hv:tE P C st t m kx k=some r):∃st',nY P st t m kx=some st'∧k st'=some r:=by
 unfold tE at hv;split at hv
 ·rename_i kt et hu
  split at hv
  ·rename_i id key hm hk
   split at hv
   ·rename_i k' e' ks vs cz
    obtain ⟨hc,hv⟩:=bu hv;obtain ⟨p,hp,hv⟩:=B7 hv
    replace hv:=vO hv
    exact ⟨_,by simp only [nY,hu,hm,hk,cz,hc,cond_true,hp],hv⟩
   ·cases hv
  ·cases hv
 ·cases hv
theorem xZ {st:St} {c:Call} {f:Operand} {d:Option Nat} {k:St→Option R} {r:R} (hv:vD P C h F st c f d k=some r):∃st',fU P h F st c f d=some st'∧k st'=some r:=by
 unfold vD at hv;split at hv
 ·rename_i g caps vs hf hvs
  simp only [] at hv
  replace hv:=bu hv
  obtain ⟨hb,hv⟩:=hv;split at hv
  ·rename_i bG hl
   obtain ⟨r',l,hx,hv⟩:=yO hv
   replace hv:=kI (s8 hv)
   split at hv
   ·rename_i back sI
    replace hv:=bu hv
    obtain ⟨FC,hk⟩:=hv;refine ⟨_,?_,hk⟩;simp only [fU,hf,hvs,hb,cond_true,hl,hx,sI,FC]
   ·cases hv
  ·cases hv
 ·cases hv
theorem xE {st:St} {t:TypeId} {m kx x:Operand} {k:St→Option R} {r:R} (hv:Km P C st t m kx x k=some r):∃st',I7 P st t m kx x=some st'∧k st'=some r:=by
 unfold Km at hv;split at hv
 ·rename_i et id key k' e sz ks vs hmk
  split at hv
  ·split at hv
   ·rename_i e' s hs
    replace hv:=bu hv
    obtain ⟨hb,hv⟩:=hv;simp only [Bool.and_eq_true] at hb;have e1:=beq_iff.1 hb.1.1;have e2:=beq_iff.1 hb.1.2;have e3:0<s:=by simpa [Nat.blt_eq] using hb.2
    obtain ⟨p,hp,hv⟩:=zU hv;refine ⟨_,?_,zI hv⟩;simp only [I7,hmk,hs];rw [if_pos ⟨e1,e2,e3⟩];simp only [hp]
   ·cases hv
  ·rename_i hnc
   split at hv
   ·rename_i j hx
    split at hv
    ·rename_i e' s xs cz
     replace hv:=bu hv
     obtain ⟨hb,hv⟩:=hv;simp only [Bool.and_eq_true] at hb;have e1:=beq_iff.1 hb.1.1;have e2:=beq_iff.1 hb.1.2;have e3:j<10000:=by simpa [Nat.blt_eq] using hb.2
     obtain ⟨p,hp,hv⟩:=zU hv;refine ⟨_,?_,zI hv⟩;cases x with
     |tmp i=>
      simp only [I7,hmk,hx,cz];rw [if_pos ⟨e1,e2,e3⟩];simp only [hp]
     |const v=>
      simp only [aM] at hx;cases hc:ofConst P et v<;>simp [hc] at hx
     |func f=>simp [aM] at hx
     |global g=>simp [aM] at hx
    ·cases hv
   ·cases hv
 ·cases hv
theorem Dj {st:St} {t:TypeId} {m kx:Operand} {d:Nat} {k:St→Option R} {r:R} (hv:I8 P C st t m kx d k=some r):∃st',BO P st t m kx d=some st'∧k st'=some r:=by
 unfold I8 at hv;split at hv
 ·rename_i et id key k' e sz ks vs hmk
  cases vw:Nat.beq id d with
  |true=>rw [vw] at hv;cases hv
  |false=>
  rw [vw] at hv;simp only [cond_false] at hv;split at hv
  ·rename_i s0 e' s hz hs
   replace hv:=bu hv
   obtain ⟨hb,hv⟩:=hv;simp only [Bool.and_eq_true] at hb;have e1:=beq_iff.1 hb.1.1;have e2:=beq_iff.1 hb.1.2;have e3:0<s:=by simpa [Nat.blt_eq] using hb.2
   obtain ⟨p,hp,hv⟩:=JC hv
   replace hv:=zI (ow hv)
   obtain ⟨_,_,_,_,cz,_⟩:=qU hmk;unfold Dk at hp;split at hp
   ·rename_i i hf
    split at hp
    ·rename_i xs VG
     injection hp with hp;subst hp
     refine ⟨_,?_,hv⟩;simp only [BO,hmk,vw,cond_false,hf,VG]
    ·cases hp
   ·rename_i hf
    injection hp with hp;subst hp
    refine ⟨_,?_,hv⟩;simp only [BO,hmk,vw,cond_false,hf,hz,hs];rw [if_pos ⟨e1,e2,e3⟩];have:put st.ob id (some (.mr k' e sz ks vs))=st.ob:=by
     funext i
     by_cases e:id=i
     ·subst e;rw [bD,cz]
     ·rw [aN _ _ e]
    simp only [this]
   ·cases hp
  ·cases hv
 ·cases hv
theorem AO {st:St} {c:Call} {f:Operand} {d:Option Nat} {k:St→Option R} {r:R} (hv:yP P C h F st c f d k=some r):∃st',fu P h F st c f d=some st'∧k st'=some r:=by
 unfold yP at hv;split at hv
 ·rename_i d
  split at hv
  ·rename_i g caps vs hf hvs
   obtain ⟨x,hx,hv⟩:=oL hv
   replace hv:=kI hv
   split at hv
   ·cases hn:(mS h d).isSome with
    |true=>rw [hn] at hv;cases hv
    |false=>
     rw [hn] at hv hvs;exact ⟨_,by simp only [fu,hn,hf,hvs,hx,cond_false],hv⟩
   ·split at hv
    ·rename_i hl
     rw [hl] at hvs;exact ⟨_,by simp only [fu,hl,hf,hvs,hx],hv⟩
    ·rename_i l hne hl
     split at hv
     ·rename_i ks hks
      obtain ⟨hb,hv⟩:=bu hv;rw [hl] at hvs;cases l with
      |nil=>exact absurd rfl hne
      |cons x0 l0=>exact ⟨_,by simp only [fu,hl,hf,hvs,hx,hks,hb,cond_true],hv⟩
     ·cases hv
    ·cases hv
   ·cases hv
  ·cases hv
 ·cases hv
theorem AB {st:St} {t:TypeId} {x:Operand} {d:Nat} {k:St→Option R} {r:R} (hv:AA P C st t x d k=some r):∃st',lV P st t x d=some st'∧k st'=some r:=by
 unfold AA at hv;split at hv
 ·rename_i id sz i off hx ha
  split at hv
  ·rename_i e sz' q e' s' xs ys cz
   obtain ⟨hb,hv⟩:=bu hv;obtain ⟨zs,hz,hv⟩:=LM hv;have hk:=zJ (ow hv);exact ⟨_,by simp only [lV,hx,ha,cz,hz,hb,cond_true],hk⟩
  ·cases hv
 ·cases hv
theorem DW {st:St} {t:TypeId} {id sz i off j:Nat} {k:St→Option R} {r:R} (hv:Jm P C st t id sz i off j k=some r):∃st',xK P st t id sz i off j=some st'∧k st'=some r:=by
 unfold Jm at hv;split at hv
 ·rename_i e sz' q e' s' xs ys e2 s2 zs ha hs cz uB
  obtain ⟨hb,hv⟩:=bu hv;obtain ⟨hi,hv⟩:=dQ hv;have hk:=zJ hv;refine ⟨_,?_,hk⟩;unfold xK;simp only [ha,hs,cz,uB];have hi':Nat.blt i ys.length=true:=Nat.blt_eq.mpr hi;have hb':(Nat.beq sz sz'&&Nat.beq off q&&Nat.blt id 10000&&Nat.blt j 10000&&Nat.beq e' e2&&Nat.beq s' s2&&Nat.blt i ys.length&& !(Nat.beq id j))=true:=by
   simp only [Bool.and_eq_true] at hb⊢;exact ⟨⟨hb.1,hi'⟩,hb.2⟩
  rw [hb'];rfl
 ·cases hv
theorem Ea {o:Oper} {st:St} {k:St→Option R} {r:R} (hv:Ju P C h F o st k=some r):∃st',step0 P h F o st=some st'∧k st'=some r:=by
 have Ui:(nv P C h F o st fun v=>k (st.set o.dst v))=some r→∃st',step0 P h F o st=some st'∧k st'=some r:=fun hv=>by
  obtain ⟨v,hf,hk⟩:=ux hv;exact ⟨_,by simp only [step0,hf],hk⟩
 unfold Ju at hv;split at hv
 ·rename_i t l c ho
  have hf:cr P h F o st=none:=by simp [cr,cD,ho]
  split at hv
  ·rename_i d e s kl l' kc c' hd hs hl hc
   split at hv
   ·rename_i z i hz hi
    replace hv:=bu hv
    obtain ⟨hb,hv⟩:=hv;simp only [Bool.and_eq_true] at hb;obtain ⟨c9,hk⟩:=dQ hv;have h1:0<s:=by simpa [Nat.blt_eq] using hb.1
    have h2:z.length=s:=beq_iff.1 hb.2;exact ⟨_,by simp only [step0,hf,jG,hd,ho,hs,hl,hc,hz,hi];rw [if_pos ⟨h1,h2,c9⟩],hk⟩
   ·cases hv
  ·cases hv
 ·rename_i t x y ho
  have hf:cr P h F o st=none:=by simp [cr,cD,ho]
  split at hv
  ·rename_i id sz i off v hd hx hy
   split at hv
   ·rename_i e sz' xs n cz hsz
    replace hv:=bu hv
    obtain ⟨hb,hv⟩:=hv;simp only [Bool.and_eq_true] at hb;have h1:=beq_iff.1 hb.1.1;subst h1;have h2:=beq_iff.1 hb.1.2;obtain ⟨c,hc,hv⟩:=BG hv
    replace hv:=bu (s9 hv)
    obtain ⟨hle,hk⟩:=hv;refine ⟨_,?_,hk⟩;simp only [step0,hf,jG,hd,ho,hx,hy,storeAt,cz,hsz,hc];rw [if_pos ⟨trivial,h2,Nat.le_of_ble_eq_true hle,hb.2⟩]
   ·cases hv
  ·rename_i id sz i off j hd hx hy
   obtain ⟨st',hs,hk⟩:=DW hv;exact ⟨st',by simp only [step0,hf,jG,hd,ho,hx,hy];exact hs,hk⟩
  ·rename_i a v S0 hn2 hd hx hy
   obtain ⟨st',hs,hk⟩:=cZ hv;refine ⟨st',?_,hk⟩;have:jG P h F o st=storeAt P t st a v:=by
    simp only [jG,hd,ho,hx,hy]
   simp only [step0,hf];rw [this];exact hs
  ·cases hv
 ·rename_i t x ho
  cases Me:o.dst.any h.take.contains with
  |false=>rw [Me] at hv;exact Ui hv
  |true=>
   rw [Me] at hv;simp only [cond_true] at hv;split at hv
   ·rename_i d hd
    rw [hd] at Me;simp only [Option.any_some] at Me;obtain ⟨st',hs,hk⟩:=AB hv;refine ⟨st',?_,hk⟩;have hf:cr P h F o st=none:=by
     unfold lV at hs;split at hs
     ·rename_i hx _
      split at hs
      ·rename_i cz
       simp only [cr,ho,cD,hx,cz]
      ·cases hs
     ·cases hs
    simp only [step0,hf,jG,ho,hd,Me,cond_true];exact hs
   ·cases hv
 ·rename_i c ho
  split at hv
  ·rename_i hc
   have hf:cr P h F o st=none:=by
    simp only [cr,ho,hc,qp]
   split at hv
   ·rename_i d x y t t' hd hargs sj
    split at hv
    ·rename_i e s id sy hs hx hy
     split at hv
     ·rename_i e' sz xs sz' ys i cz hel hi
      replace hv:=bu hv
      obtain ⟨hb,hv⟩:=hv;simp only [Bool.and_eq_true] at hb;obtain ⟨⟨⟨⟨⟨⟨b1,b2⟩,b3⟩,b4⟩,b5⟩,b6⟩,b7⟩:=hb;have e1:=beq_iff.1 b1;have e2:=beq_iff.1 b2;have e3:=beq_iff.1 b3;have e4:=beq_iff.1 b4;have e5:0<sz:=by simpa [Nat.blt_eq] using b5
      have e6:i.zero.map (fun z=>z.cells.size)=some sz:=by simpa using b6
      obtain ⟨c9,hk⟩:=dQ hv;refine ⟨_,?_,hk⟩;simp only [step0,hf,jG,ho,hc,hd,hargs,sj,hs,hx,hy,cz,hel,hi];rw [if_pos ⟨e1,e2,e3,e4,e5,c9.1,c9.2,e6,b7⟩]
     ·cases hv
    ·cases hv
   ·cases hv
  ·rename_i hc
   have hf:cr P h F o st=none:=by simp only [cr,ho,hc,qp]
   split at hv
   ·rename_i m kx t ts hd hargs sj
    obtain ⟨st',h1,hk⟩:=vN hv;exact ⟨st',by simp only [step0,hf,jG,ho,hc,hd,hargs,sj];exact h1,hk⟩
   ·cases hv
  ·rename_i hc
   have hf:cr P h F o st=none:=by simp only [cr,ho,hc,qp]
   split at hv
   ·rename_i x t hd hargs sj
    split at hv
    ·rename_i e s id sz lo hi hs hx
     split at hv
     ·rename_i e' sz' xs z cz hz
      replace hv:=bu hv
      obtain ⟨hb,hv⟩:=hv;simp only [Bool.and_eq_true] at hb;obtain ⟨⟨⟨⟨b1,b2⟩,b3⟩,b4⟩,b5⟩:=hb;have e1:=beq_iff.1 b1;have e2:=beq_iff.1 b2;have e3:=beq_iff.1 b3;have e4:=beq_iff.1 b4;have e5:0<sz:=by simpa [Nat.blt_eq] using b5
      obtain ⟨hle,hk⟩:=dQ hv;refine ⟨_,?_,hk⟩;simp only [step0,hf,jG,ho,hc,hd,hargs,sj,hs,hx,cz,hz];rw [if_pos ⟨e1,e2,e3,hle,e4,e5⟩]
     ·cases hv
    ·cases hv
   ·cases hv
  ·rename_i f hc
   cases how:o.dst.any h.pQ.contains with
   |true=>
    rw [how] at hv;simp only [cond_true] at hv;have hf:cr P h F o st=none:=by simp only [cr,ho,hc,how,cond_true]
    obtain ⟨st',h1,hk⟩:=AO hv;exact ⟨st',by simp only [step0,hf];cases hd:o.dst<;>(simp only [jG,ho,hc,hd];rw [hd] at how;rw [how,←hd];exact h1),hk⟩
   |false=>
   rw [how] at hv;simp only [cond_false] at hv;have Vw:∀d,o.dst=d→d.any h.pQ.contains=false:=fun d hd=>hd▸how
   cases hro:(o.dst.any h.stay.contains&&wide st c f) with
   |true=>rw [hro] at hv;exact Ui hv
   |false=>
   rw [hro] at hv;simp only [cond_false] at hv;cases Pt:wide st c f with
   |true=>
    rw [Pt] at hv;simp only [cond_true] at hv;have hf:cr P h F o st=none:=by simp only [cr,ho,hc];rw [how,hro,Pt];rfl
    obtain ⟨st',h1,hk⟩:=xZ hv;exact ⟨st',by simp only [step0,hf];cases hd:o.dst<;>(simp only [jG,ho,hc,hd];rw [hd] at hro how;rw [how,hro,Pt,←hd];exact h1),hk⟩
   |false=>
   have VB:∀(d:Option Nat),(d.any h.stay.contains&&false)=false:=fun d=>by simp
   rw [Pt] at hv;simp only [cond_false] at hv;cases gd:c.args.toList.any (fun x=>(iQ h st x).isSome) with
   |true=>
    rw [gd] at hv;simp only [cond_true] at hv;have hf:cr P h F o st=none:=by simp only [cr,ho,hc];rw [how,hro,gd];simp
    split at hv
    ·rename_i g caps vs id hfn hvs
     split at hv
     ·rename_i e sz xs cz
      obtain ⟨r',xs',hx,hv⟩:=Hw hv
      replace hv:=ow (kI hv)
      have hstep:∀st2,ji P h F st c f o.dst=some st2→step0 P h F o st=some st2:=fun st2 h2=>by
       simp only [step0,hf];cases hd:o.dst<;>(simp only [jG,ho,hc,hd];rw [Vw _ hd,Pt,gd,VB];simp only [cond_true,cond_false];rw [←hd];exact h2)
      split at hv
      ·rename_i n
       replace hv:=bu hv
       obtain ⟨hb,hv⟩:=hv;obtain ⟨hn,hk⟩:=dQ hv;refine ⟨_,hstep _ ?_,hk⟩;simp only [ji,hfn,hvs,cz,hx,beq_iff.2 (rfl:e=e),beq_iff.2 (rfl:sz=sz),beq_iff.2 (rfl:10000=10000),Bool.and_self,cond_true,hb,Nat.ble_eq_true_of_le hn]
      ·rename_i FC
       replace hv:=bu hv
       obtain ⟨hb,hk⟩:=hv;refine ⟨_,hstep _ ?_,hk⟩;simp only [ji,hfn,hvs,cz,hx,beq_iff.2 (rfl:e=e),beq_iff.2 (rfl:sz=sz),beq_iff.2 (rfl:10000=10000),Bool.and_self,cond_true,hb]
     ·cases hv
    ·cases hv
   |false=>
   have zg:(wide st c f||c.args.toList.any (fun x=>(iQ h st x).isSome))=false:=by rw [Pt,gd];rfl
   rw [gd] at hv;simp only [cond_false] at hv;cases x9:c.args.toList.any (jJ st) with
   |true=>
    simp only [x9,cond_true] at hv;split at hv
    ·rename_i g caps vs hfn hvs
     obtain ⟨r',hx,hv⟩:=oL hv
     replace hv:=kI hv
     cases hp:(r'.plain&&r'.gm) with
     |true=>
      simp only [hp,cond_true] at hv;refine ⟨_,?_,hv⟩;rw [Bool.and_eq_true] at hp;simp only [step0,cr,ho,hc];rw [how,hro,zg];simp only [hfn,hvs,hx,hp.1,hp.2,Bool.true_or,Bool.or_true,Bool.true_and,cond_true,cond_false]
     |false=>
      simp only [hp,cond_false] at hv;split at hv
      ·rename_i st1 fm
       split at hv
       ·rename_i g' MG vs' hfn' hvs'
        cases hrow:c.args.toList.any (jJ st1) with
        |true=>rw [hrow] at hv;cases hv
        |false=>
         rw [hrow] at hv;simp only [cond_false] at hv;obtain ⟨r2,hx2,hv⟩:=oL hv
         replace hv:=bu (kI hv)
         obtain ⟨FC,hv⟩:=hv;refine ⟨_,?_,hv⟩;have hf:cr P h F o st=none:=by
          simp only [cr,ho,hc];rw [how,hro,zg];simp only [cond_false,hfn,hvs,hx,hp,x9,Bool.not_true,Bool.or_false,Bool.false_or]
         simp only [step0,hf];cases hd:o.dst<;>(simp only [jG,ho,hc,hd];rw [Vw _ hd,Pt,gd,VB];simp only [cond_false,fm,hfn',hvs',hx2,hrow,FC,Bool.not_true,Bool.or_false])
       ·cases hv
      ·cases hv
    ·cases hv
   |false=>simp only [x9,cond_false] at hv;exact Ui hv
  ·exact Ui hv
 ·rename_i t m kx x ho
  split at hv
  ·rename_i hd
   cases hrm:iS h m with
   |true=>
    rw [hrm] at hv;obtain ⟨st',h1,hk⟩:=xE hv;exact ⟨st',by simp only [step0,jG,cr,cD,ho,hd];rw [hrm];exact h1,hk⟩
   |false=>
    rw [hrm] at hv;obtain ⟨st',h1,hk⟩:=qm hv;exact ⟨st',by simp only [step0,jG,cr,cD,ho,hd];rw [hrm];exact h1,hk⟩
  ·cases hv
 ·rename_i t m kx x ho
  split at hv
  ·rename_i hd
   cases hrm:iS h m with
   |true=>
    rw [hrm] at hv;obtain ⟨st',h1,hk⟩:=xE hv;exact ⟨st',by simp only [step0,jG,cr,cD,ho,hd];rw [hrm];exact h1,hk⟩
   |false=>
    rw [hrm] at hv;obtain ⟨st',h1,hk⟩:=qm hv;exact ⟨st',by simp only [step0,jG,cr,cD,ho,hd];rw [hrm];exact h1,hk⟩
  ·cases hv
 ·rename_i t m kx ok ho
  cases hrm:(iS h m&& !ok) with
  |true=>
   rw [hrm] at hv;simp only [cond_true] at hv;have hrm':=hrm;simp only [Bool.and_eq_true,Bool.not_eq_true'] at hrm;obtain ⟨hr1,rfl⟩:=hrm;split at hv
   ·rename_i d hd
    obtain ⟨st',h1,hk⟩:=Dj hv;refine ⟨st',?_,hk⟩;have hf:cr P h F o st=none:=by simp only [cr,ho];rw [hrm'];rfl
    simp only [step0,hf,jG,ho,hd];rw [hr1];exact h1
   ·cases hv
  |false=>rw [hrm] at hv;exact Ui hv
 ·rename_i t x ho
  split at hv
  ·rename_i d s hd hu hx
   refine ⟨_,?_,hv⟩;simp only [step0,jG,cr,cD,ho,hd,hu,hx]
  ·cases hv
 ·rename_i x ho
  split at hv
  ·rename_i d id hd hx
   split at hv
   ·rename_i s pos cz
    have hf:cr P h F o st=none:=by simp only [cr,cD,ho]
    cases hp:Nat.blt pos s.length with
    |true=>
     rw [hp] at hv;refine ⟨_,?_,hv⟩;have hp':pos<s.length:=by simpa [Nat.blt_eq] using hp
     simp only [step0,hf,jG,ho,hd,hx,cz];rw [if_pos hp']
    |false=>
     rw [hp] at hv;refine ⟨_,?_,hv⟩;have hp':¬pos<s.length:=fun h=>by rw [←Nat.blt_eq] at h;rw [h] at hp;cases hp
     simp only [step0,hf,jG,ho,hd,hx,cz];rw [if_neg hp']
   ·cases hv
  ·cases hv
 ·exact cZ hv
 ·exact cZ hv
 ·exact cZ hv
 ·exact cZ hv
 ·exact cZ hv
 ·exact cZ hv
 ·exact cZ hv
 ·exact Ui hv
theorem xT {o:Oper} {st:St} {k:St→Option R} {r:R} (hv:stepT P C h F o st k=some r):∃st',step P h F o st=some st'∧k st'=some r:=by
 unfold stepT at hv;obtain ⟨st1,h1,hv⟩:=cZ hv;obtain ⟨st2,h2,hk⟩:=Ea hv;exact ⟨st2,by simp only [step,h1,Option.bind_some,h2],hk⟩
theorem xU {ops:Array Oper} {o:Oper} {st:St} {k:Bool→St→Option R} {r:R} (hv:KF ops o st k=some r):∃b,iM ops o st=some b∧k b st=some r:=by
 unfold KF at hv;unfold iM;split at hv
 ·rename_i hg;exact ⟨true,by simp [hg],hv⟩
 ·rename_i j want hg
  (try simp only [hg])
  split at hv
  ·rename_i d hd
   (try simp only [hd])
   split at hv
   ·rename_i he;exact ⟨want,by simp [he],hv⟩
   ·rename_i he;exact ⟨!want,by simp only [he];cases want<;>rfl,hv⟩
   ·rename_i he;exact ⟨false,by simp [he],hv⟩
   ·cases hv
  ·cases hv
theorem Gu {st:St} {d:Nat} {v:SV} (he:st.env d=some v):st.set (some d) v=st:=by
 obtain ⟨env,ob⟩:=st;simp only [St.set,St.mk.injEq,and_true]
 funext i
 by_cases e:d=i
 ·subst e;rw [bD];exact he.symm
 ·rw [aN _ _ e]
theorem qa {b:Bool} {d:Option Nat} {st:St} {k:St→Option R} {r:R} (hv:Ai b d st k=some r):k st=some r:=by
 unfold Ai at hv;cases b with
 |false=>exact hv
 |true=>
  simp only [cond_true] at hv;split at hv
  ·rename_i d'
   split at hv
   ·rename_i t he
    cases t with
    |true=>simp only [cond_true] at hv;rwa [Gu he] at hv
    |false=>simp only [cond_false] at hv;rwa [Gu he] at hv
   ·exact hv
  ·exact hv
theorem Ba {ops:Array Oper}:∀{l:List Oper} {i:Nat} {st:St} {k:St→Option R} {r:R},u9 P C h F ops i l st k=some r→∃s,iT P h F ops l st=some s∧k s=some r:=by
 intro l
 induction l with
 |nil=>intro i st k r hv;exact ⟨st,rfl,hv⟩
 |cons o l ih=>
  intro i st k r hv;simp only [u9] at hv;obtain ⟨b,hw,hv⟩:=xU hv;cases b with
  |true=>
   simp only [cond_true] at hv;obtain ⟨st1,hs,hv⟩:=xT hv;obtain ⟨s,hr,hk⟩:=ih (qa hv);exact ⟨s,by simp [iT,hw,hs,hr],hk⟩
  |false=>
   simp only [cond_false] at hv;obtain ⟨s,hr,hk⟩:=ih hv;exact ⟨s,by simp [iT,hw,hr],hk⟩
theorem Ab {ops:Array Oper}:∀{l:List Oper} {i:Nat} {prev:List (Nat×cT)} {st:St} {k:St→Option R} {r:R},ox P C h F ops i l prev st k=some r→∃s,eV P h F ops i l prev st=some s∧k s=some r:=by
 intro l
 induction l with
 |nil=>intro i prev st k r hv;exact ⟨st,rfl,hv⟩
 |cons o l ih=>
  intro i prev st k r hv;simp only [ox] at hv
  replace hv:=xU hv
  obtain ⟨b,hw,hv⟩:=hv;cases b with
  |true=>
   simp only [cond_true] at hv;cases hF:(Pv h st o&&(qq h o).isEmpty) with
   |true=>
    simp only [hF,cond_true] at hv;obtain ⟨v,hf,hv⟩:=ux hv;obtain ⟨hc,hv⟩:=bu hv;obtain ⟨s,hr,hk⟩:=ih (qa hv);exact ⟨s,by simp only [eV,hw,cond_true,hF,hf,hc];exact hr,hk⟩
   |false=>
    simp only [hF,cond_false] at hv;obtain ⟨st1,hs,hv⟩:=xT hv;obtain ⟨hc,hv⟩:=bu hv;obtain ⟨s,hr,hk⟩:=ih (qa hv);exact ⟨s,by simp only [eV,hw,cond_true,hF,cond_false,hs,hc];exact hr,hk⟩
  |false=>
   simp only [cond_false] at hv;obtain ⟨hc,hv⟩:=bu hv;obtain ⟨s,hr,hk⟩:=ih hv;exact ⟨s,by simp only [eV,hw,cond_false,hc,cond_true];exact hr,hk⟩
theorem CU {α:Type} (m:Nat→Option α):∀(l:List Nat) (i:Nat),find (kS m l) i=if i∈l then m i else none:=by
 intro l
 induction l with
 |nil=>intro i;simp [kS,find]
 |cons j l ih=>
  intro i;simp only [kS];cases hj:m j with
  |none=>
   simp only [ih,List.mem_cons];by_cases e:i=j
   ·subst e;simp [hj]
   ·simp [e]
  |some v=>
   simp only [find];cases hb:Nat.beq j i with
   |true=>have:=beq_iff.1 hb;subst this;simp [hj]
   |false=>
    have hne:¬i=j:=fun e=>by subst e;simp [beq_iff.2] at hb
    simp only [cond_false,ih,List.mem_cons,hne,false_or]
theorem EW (h:Hint) (key:Nat) (st:St):h.canon key (h.canon key st)=h.canon key st:=by
 unfold Hint.canon;split
 ·rename_i vars obs hf
  simp only [St.mk.injEq];constructor<;>(funext i;simp only [CU];split<;>rfl)
 ·rfl
theorem zj {key:Nat} {f:St→Option (Ex×St)} {n:Nat} {st:St}:iter h key f n (h.canon key st)=iter h key f n st:=by
 cases n with
 |zero=>rfl
 |succ n=>simp only [iter,EW]
theorem Lo {c:Code} {n m:Nat} (hm:n≤m) {key:Nat}:∀(q:Nat) {q':Nat} {st:St} {x:Ex×St},q≤q'→iter h key (exec P h F n c) q st=some x→iter h key (exec P h F m c) q' st=some x:=by
 intro q
 induction q with
 |zero=>intro q' st x _ hv;simp [iter] at hv
 |succ q ih=>
  intro q' st x hq hv;obtain ⟨QH,rfl⟩:∃QH,q'=QH+1:=⟨q'-1,by omega⟩
  simp only [iter] at hv⊢;split at hv
  ·rename_i st1 hc
   rw [iB hm hc];exact ih (by omega) hv
  ·rename_i hne
   rw [iB hm hv];obtain ⟨e,s⟩:=x;cases e with
   |normal=>exact absurd hv (hne s)
   |exit j=>rfl
   |ret=>rfl
theorem nW {c:Code} {st:St} {k:Ex→St→Option R} {r:R}:xy P h F c st k=some r↔∃n e st',exec P h F n (.loop c) st=some (e,st')∧k e st'=some r:=by
 constructor
 ·intro hv
  unfold xy at hv;split at hv
  ·rename_i hx
   obtain ⟨n,hn⟩:=hx.choose_spec;exact ⟨n,_,_,hn,hv⟩
  ·cases hv
 ·rintro ⟨n,e,st',hn,hk⟩
  unfold xy;have hx:∃x n,exec P h F n (.loop c) st=some x:=⟨(e,st'),n,hn⟩
  rw [dif_pos hx];obtain ⟨m,hm⟩:=hx.choose_spec;have h1:=iB (Nat.le_max_left n m) hn;have h2:=iB (Nat.le_max_right n m) hm;rw [h1] at h2;injection h2 with h2
  rw [←h2];exact hk
theorem kT:∀{l:List Nat} {st:St} {k:St→Option R} {r:R},r9 C l st k=some r→∃st',pR l st=some st'∧k st'=some r
 |[],st,k,r,hv=>⟨st,rfl,hv⟩
 |id::l,st,k,r,hv=>by
  simp only [r9] at hv;split at hv
  ·rename_i kt e sz ks vs cz
   replace hv:=bu hv
   obtain ⟨hown,hv⟩:=hv;obtain ⟨xs,hxs,hv⟩:=Bq hv;obtain ⟨st',h1,hk⟩:=kT (OI hv);refine ⟨st',?_,hk⟩;simp only [pR,St.zO,St.bZ,hown,cz,Option.bind_some,Ob.val,hxs,Option.map_some];exact h1
  ·rename_i e sz q e' s' xs ys cz
   replace hv:=bu hv
   obtain ⟨hown,hv⟩:=hv;obtain ⟨zs,hzs,hv⟩:=Bq hv;obtain ⟨st',h1,hk⟩:=kT (ow hv);refine ⟨st',?_,hk⟩;simp only [pR,St.zO,St.bZ,hown,cz,Option.bind_some,Ob.val,hzs,Option.map_some];exact h1
  ·split at hv
   ·rename_i st1 hp
    obtain ⟨st',h1,hk⟩:=kT hv;exact ⟨st',by simp only [pR,hp,Option.bind_some];exact h1,hk⟩
   ·cases hv
theorem Gc {id:Nat} {st:St} {k:St→Option R} {r:R} (hv:O1 C h id st k=some r):∃st',h.O0 id st=some st'∧k st'=some r:=by
 unfold O1 at hv;unfold Hint.O0;split at hv
 ·rename_i l hl
  rw [hl];exact kT hv
 ·rename_i hl
  rw [hl];exact ⟨st,rfl,hv⟩
theorem mO:∀(c:Code) {st:St} {k:Ex→St→Option R} {r:R},ia P C h F c st k=some r→∃n e st',exec P h F n c st=some (e,st')∧k e st'=some r:=by
 intro c
 induction c with
 |skip=>intro st k r hv;exact ⟨0,_,_,rfl,hv⟩
 |label l=>intro st k r hv;exact ⟨0,_,_,rfl,hv⟩
 |exit id=>intro st k r hv;exact ⟨0,_,_,rfl,hv⟩
 |ret=>intro st k r hv;exact ⟨0,_,_,rfl,hv⟩
 |region id ops draw=>
  intro st k r hv;simp only [ia] at hv;obtain ⟨st1,fm,hv⟩:=Gc hv;cases draw with
  |true=>
   simp only [cond_true] at hv;obtain ⟨hs,hv⟩:=bu hv;obtain ⟨s,hr,hk⟩:=Ab hv;exact ⟨0, .normal,s,by simp only [exec,fm,Option.bind_some,cond_true,hs,hr,Option.map_some],hk⟩
  |false=>
   simp only [cond_false] at hv;obtain ⟨s,hr,hk⟩:=Ba hv;exact ⟨0, .normal,s,by simp [exec,fm,hr],hk⟩
 |seq x y Kb Ln=>
  intro st k r hv;simp only [ia] at hv;cases ym:find h.blk (bY x) with
  |some z=>
   simp only [ym] at hv;obtain ⟨hg,hv⟩:=dQ hv;exact ⟨0,_,_,by simp only [exec,ym,hg,cond_true],hv⟩
  |none=>
  simp only [ym] at hv;obtain ⟨n,e,st1,hx,hv⟩:=Kb hv;cases e with
  |normal=>
   obtain ⟨m,e2,st2,hy,hk⟩:=Ln (show ia P C h F y st1 k=some r from hv);exact ⟨max n m,e2,st2,by simp only [exec,ym,iB (Nat.le_max_left n m) hx];exact iB (Nat.le_max_right n m) hy,hk⟩
  |exit id=>exact ⟨n,_,st1,by simp only [exec,ym,hx],hv⟩
  |ret=>exact ⟨n,_,st1,by simp only [exec,ym,hx],hv⟩
 |cond c x y Kb Ln=>
  intro st k r hv;simp only [ia] at hv;split at hv
  ·rename_i t hc
   cases t with
   |true=>obtain ⟨n,e,st1,hx,hk⟩:=Kb hv;exact ⟨n,e,st1,by simp only [exec,hc,cond_true];exact hx,hk⟩
   |false=>obtain ⟨n,e,st1,hx,hk⟩:=Ln hv;exact ⟨n,e,st1,by simp only [exec,hc,cond_false];exact hx,hk⟩
  ·cases hv
 |block id c ih=>
  intro st k r hv;simp only [ia] at hv;obtain ⟨n,e,st1,hx,hv⟩:=ih hv;cases e with
  |normal=>exact ⟨n,_,st1,by simp only [exec,hx],hv⟩
  |ret=>exact ⟨n,_,st1,by simp only [exec,hx],hv⟩
  |exit j=>
   simp only [Hr] at hv;cases hb:Nat.beq j id with
   |true=>simp only [hb,cond_true] at hv;exact ⟨n, .normal,st1,by simp only [exec,hx,hb,cond_true],hv⟩
   |false=>simp only [hb,cond_false] at hv;exact ⟨n, .exit j,st1,by simp only [exec,hx,hb,cond_false],hv⟩
 |loop c ih=>
  intro st k r hv;simp only [ia] at hv;obtain ⟨n,e,st',hx,hk⟩:=nW.1 hv;refine ⟨n,e,st',?_,hk⟩;simp only [exec] at hx⊢
  rwa [zj] at hx
 |scope c ih=>
  intro st k r hv;simp only [ia] at hv;obtain ⟨n,e,st1,hx,hk⟩:=ih hv;exact ⟨n,e,st1,by simp only [exec];exact hx,hk⟩
 |rangeFunc f ps x y Kb Ln=>intro st k r hv;simp [ia] at hv
 |goto l=>intro st k r hv;simp [ia] at hv
 |refuse s=>intro st k r hv;simp [ia] at hv
theorem FL {c:Code} {st:St} {k:Ex→St→Option R} {r:R} (hv:ia P C h F c (h.canon (bY c) st) (He P h F c k)=some r):xy P h F c st k=some r:=by
 obtain ⟨n,e,st1,hx,hk⟩:=mO c hv;cases e with
 |normal=>
  obtain ⟨m,e2,st2,hm,hk2⟩:=nW.1 (show xy P h F c (h.canon (bY c) st1) k=some r from hk);simp only [exec,zj] at hm;refine nW.2 ⟨max n m+1,e2,st2,?_,hk2⟩;simp only [exec,iter];rw [iB (show n≤max n m+1 by omega) hx];exact Lo (show m≤max n m+1 by omega) m (by omega) hm
 |exit j=>
  refine nW.2 ⟨n+1, .exit j,st1,?_,hk⟩;simp only [exec,iter];rw [iB (show n≤n+1 by omega) hx]
 |ret=>
  refine nW.2 ⟨n+1, .ret,st1,?_,hk⟩;simp only [exec,iter];rw [iB (show n≤n+1 by omega) hx]
end
section
variable {P:Program} {C:gW} {H:Nat→Hint} {dg:cQ}
theorem j0 {f:Nat} {args:List SV} {bG:List (Nat×Ob)} {r:AV×List (Nat×Ob)} (hp:dg f args bG=none) (hv:ME P C H dg f args bG=some r):run P H dg f args bG=some r:=by
 unfold ME at hv;split at hv
 ·rename_i fn hf
  split at hv
  ·rename_i c hb
   obtain ⟨hc,hv⟩:=bu hv;obtain ⟨n,e,st,hx,he⟩:=mO c hv;exact Gr hp hf hb hc hx he
  ·cases hv
 ·cases hv
theorem tn {f key:Nat} {names:List Nat} {env:List (Nat×SV)} {ob:List (Nat×Ob)} {r:AV×List (Nat×Ob)} (hv:Jp P C H dg f key names env ob=some r):xq P C H dg f key names env ob=some r:=by
 unfold Jp at hv;unfold xq;split at hv
 ·rename_i fn hf
  (try simp only [hf])
  split at hv
  ·rename_i c hb
   (try simp only [hb])
   split at hv
   ·rename_i cl k hk
    (try simp only [hk])
    exact FL hv
   ·cases hv
  ·cases hv
 ·cases hv
end
section
variable {R:Type}
theorem bg {p:Prop} [Decidable p] (hp:p) (x:Option R):check p x=x:=by unfold check;rw [if_pos hp]
theorem Nq {α:Type} {xs:List α} {i:Int} {x:α} (h0:0≤i) (hx:xs[i.toNat]? =some x) (k:α→Option R):cM xs i k=k x:=by unfold cM;rw [if_pos h0,hx]
theorem jQ {α:Type} {xs:List α} {i:Nat} {x:α} (hx:xs[i]? =some x) (k:α→Option R):cM xs (i:Int) k=k x:=Nq (by omega) (by simpa using hx) k
theorem k8 {α:Type} {xs:List α} {i:Nat} {x:α} (hx:xs[i]? =some x) (k:α→Option R):kg xs i k=k x:=by unfold kg;rw [hx]
theorem KO {c:Option (AV×List (Nat×Ob))} {r:AV} (hc:c=some (r,[])) (k:AV→Option R):nK c k=k r:=by subst hc;unfold nK;rfl
theorem KP {c:Option (AV×List (Nat×Ob))} {nm e sz:Nat} {r:AV} {xs:List (List AV)} (hc:c=some (r,[(nm, .row e sz xs)])) (k:AV→List (List AV)→Option R):wX c nm e sz k=k r xs:=by
 subst hc;unfold wX;simp [beq_iff.2]
theorem PI {α T:Type} {enc:T→α} (inj:∀a b,enc a=enc b→a=b) (d:T) (k:T→Option R):eS enc (enc d) k=k d:=by
 unfold eS;have hx:∃x,enc x=enc d:=⟨d,rfl⟩
 rw [dif_pos hx,inj _ _ hx.choose_spec]
end
end Go.AM
