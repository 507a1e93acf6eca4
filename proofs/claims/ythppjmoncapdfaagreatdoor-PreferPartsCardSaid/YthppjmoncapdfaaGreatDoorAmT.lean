/- THE ABSTRACT MACHINE, TYPED. -/
import Derived.Test.YthppjmoncapdfaaGreatDoorAmFin
set_option linter.unusedVariables false
set_option linter.unusedSimpArgs false
namespace Go.AM
open Go.RowKit
structure Ah where
 T:Type
 enc:T→List AV
structure mF where
 T:Type
 enc:T→AV
def vJ {α:Type 1}:List (Nat×α)→Nat→Option α
 |[],_=>none
 |(j,v)::l,i=>cond (Nat.beq j i) (some v) (vJ l i)
structure iy where
 elem:TypeId→Option Ah
 val:TypeId→Option mF
 res:Nat→Option mF
 ptr:Option Ah:=none
def F4 {T:Type} (enc:T→List AV):Option T→AV
 |some x=> .ref (enc x)
 |none=> .tX
def bW (K V:mF) (l:List (K.T×V.T)):List AV×List AV:=(l.map fun p=>K.enc p.1,l.map fun p=>V.enc p.2)
section
variable {R:Type}
@[irreducible] def check (p:Prop) [Decidable p] (x:Option R):Option R:=if p then x else none
@[irreducible] def bS {α:Type} (xs:List α) (i:Int) (k:α→Option R):Option R:=
 if 0≤i then match xs[i.toNat]? with
  |some x=>k x
  |none=>none
 else none
@[irreducible] def ec {α:Type} (xs:List α) (i:Nat) (k:α→Option R):Option R:=
 match xs[i]? with
 |some x=>k x
 |none=>none
@[irreducible] def pQ (c:Option (AV×List (Nat×Ob))) (k:AV→Option R):Option R:=
 match c with
 |some (r,[])=>k r
 |_=>none
@[irreducible] def Ci (c:Option (AV×List (Nat×Ob))) (nm e sz:Nat) (k:AV→List (List AV)→Option R):Option R:=
 match c with
 |some (r,[(KZ, .row e' sz' xs)])=>bif Nat.beq nm KZ&&Nat.beq e e'&&Nat.beq sz sz' then k r xs else none
 |_=>none
@[irreducible] def Da (x:Option (Option AV)) (k:AV→Option R) (z:Option R):Option R:=
 match x with
 |some (some v)=>k v
 |some none=>z
 |none=>none
@[irreducible] def Kt (x:Option (List AV×List AV)) (k:List AV×List AV→Option R):Option R:=
 match x with
 |some p=>k p
 |none=>none
@[irreducible] noncomputable def cD {α T:Type} (enc:T→α) (c:α) (k:T→Option R):Option R:=
 open Classical in if hx : ∃ d, enc d = c then k hx.choose else none
@[irreducible] def eU (c:Option (AV×List (Nat×Ob))) (k:AV→List (Nat×Ob)→Option R):Option R:=
 match c with
 |some (r,l)=>k r l
 |none=>none
@[irreducible] def ai (nm:Nat) (l:List (Nat×Ob)) (k:Ob→List (Nat×Ob)→Option R):Option R:=
 match l with
 |(KZ,o)::l=>bif Nat.beq nm KZ then k o l else none
 |[]=>none
@[irreducible] def eF (l:List (Nat×Ob)) (k:Option R):Option R:=
 match l with
 |[]=>k
 |_=>none
@[irreducible] noncomputable def bC (o o':Ob) (k:Option R):Option R:=open Classical in if o=o' then k else none
@[irreducible] def bu (e sz:Nat) (o:Ob) (k:List (List AV)→Option R):Option R:=
 match o with
 | .row e' sz' xs=>bif Nat.beq e e'&&Nat.beq sz sz' then k xs else none
 |_=>none
@[irreducible] def rI (kt et:Nat) (o:Ob) (k:List AV×List AV→Option R):Option R:=
 match o with
 | .mp k' e' ks vs=>bif Nat.beq kt k'&&Nat.beq et e' then k (ks,vs) else none
 |_=>none
@[irreducible] def Ru (o:Ob) (k:List AV→Option R):Option R:=
 match o with
 | .lp xs=>k xs
 |_=>none
@[irreducible] def T6 (a:AV) (k:List AV→Option R):Option R:=
 match a with
 | .ref cs=>k cs
 |_=>none
@[irreducible] def X6 (x:Option (Option Nat)) (k:Bool→Option R):Option R:=
 match x with
 |some r=>k r.isSome
 |none=>none
@[irreducible] def Lr (x:Option (List UInt8)) (k:List UInt8→Option R):Option R:=
 match x with
 |some b=>k b
 |none=>none
def TK (key:AV) (ks:List AV) (vs:List (Option (List (List AV)))):Option (List (List AV)×List (Option (List (List AV)))):=
 match j8 key ks with
 |some (some i)=>match vs[i]? with
  |some (some xs)=>some (xs,vs.set i none)
  |_=>none
 |some none=>some ([],vs)
 |none=>none
@[irreducible] def Um (x:Option (List (List AV)×List (Option (List (List AV))))) (k:List (List AV)→List (Option (List (List AV)))→Option R):Option R:=
 match x with
 |some p=>k p.1 p.2
 |none=>none
@[irreducible] def ON (x:Option (List AV×List (Option (List (List AV))))) (k:List AV×List (Option (List (List AV)))→Option R):Option R:=
 match x with
 |some p=>k p
 |none=>none
@[irreducible] def Lg (x:Option (List (List (List AV)))) (k:List (List (List AV))→Option R):Option R:=
 match x with
 |some l=>k l
 |none=>none
@[irreducible] def Kk (ys:List (Option (List (List AV)))) (i:Nat) (k:List (List AV)→Option R):Option R:=
 match ys[i]? with
 |some (some zs)=>k zs
 |_=>none
def Cr (K:mF) (E:Ah) (l:List (K.T×Option (List E.T))):List AV×List (Option (List (List AV))):=(l.map fun p=>K.enc p.1,l.map fun p=>p.2.map (List.map E.enc))
def ki {α:Type} (c:Option α) (k:α→Option R):Option R:=
 match c with
 |some r=>k r
 |none=>none
noncomputable def Jt (C:iy) (e:TypeId) (c:List AV) (k:List AV→Option R):Option R:=
 match C.elem e with
 |some d=>cD d.enc c fun x=>k (d.enc x)
 |none=>k c
noncomputable def Hy (C:iy) (e:TypeId) (c:List (List AV)) (k:List (List AV)→Option R):Option R:=
 match C.elem e with
 |some d=>cD (List.map d.enc) c fun x=>k (x.map d.enc)
 |none=>k c
noncomputable def Zd (C:iy) (t:TypeId) (c:AV) (k:AV→Option R):Option R:=
 match C.val t with
 |some d=>cD d.enc c fun x=>k (d.enc x)
 |none=>k c
noncomputable def Tz (C:iy) (kt et:TypeId) (p:List AV×List AV) (k:List AV×List AV→Option R):Option R:=
 match C.val kt,C.val et with
 |some K,some V=>cD (bW K V) p fun l=>k (bW K V l)
 |_,_=>k p
noncomputable def mrK (C:iy) (kt e:TypeId) (p:List AV×List (Option (List (List AV)))) (k:List AV×List (Option (List (List AV)))→Option R):Option R:=
 match C.val kt,C.elem e with
 |some K,some E=>cD (Cr K E) p fun l=>k (Cr K E l)
 |_,_=>k p
noncomputable def Kc (C:iy) (e:TypeId) (ys:List (Option (List (List AV)))) (k:List (Option (List (List AV)))→Option R):Option R:=
 match C.elem e with
 |some d=>cD (List.map (Option.map (List.map d.enc))) ys fun y=>k (y.map (Option.map (List.map d.enc)))
 |none=>k ys
noncomputable def mpK (C:iy) (kt e:TypeId) (sz:Nat) (p:List AV×List AV) (k:List AV×List AV→Option R):Option R:=
 match C.val kt,C.elem e with
 |some K,some E=>cD (bW K ⟨List E.T,fun x=> .aW sz (x.map E.enc)⟩) p fun l=>k (bW K ⟨List E.T,fun x=> .aW sz (x.map E.enc)⟩ l)
 |_,_=>k p
noncomputable def Nh (C:iy) (o o':Ob) (k:Ob→Option R):Option R:=
 match o with
 | .row e sz _=>bu e sz o' fun xs=>Hy C e xs fun xs=>k (.row e sz xs)
 | .mp kt et _ _=>rI kt et o' fun p=>Tz C kt et p fun p=>k (.mp kt et p.1 p.2)
 | .lp _=>Ru o' fun xs=>k (.lp xs)
 |o=>bC o' o (k o)
@[irreducible] def Wo (t:TypeId) (o:Ob) (k:List AV→Option R):Option R:=
 match o with
 | .box t' cells=>match jm cells with
  |some cs=>bif Nat.beq t t' then k cs else none
  |none=>none
 |_=>none
noncomputable def Xt (C:iy) (o o':Ob) (k:Ob→Option R):Option R:=
 match o with
 | .box t _=>Wo t o' fun cs=>match C.elem t with
  |some d=>cD d.enc cs fun x=>k (.box t ((d.enc x).map .pv))
  |none=>none
 |_=>none
noncomputable def Cp (C:iy) (keep bx:List Nat):List (Nat×Ob)→List (Nat×Ob)→(List (Nat×Ob)→Option R)→Option R
 |[],l',k=>eF l' (k [])
 |(nm,o)::l,l',k=>ai nm l' fun o' l''=>bif keep.contains nm then bC o' o (Cp C keep bx l l'' fun os=>k ((nm,o)::os)) else bif bx.contains nm then Xt C o o' fun o2=>Cp C keep bx l l'' fun os=>k ((nm,o2)::os) else Nh C o o' fun o2=>Cp C keep bx l l'' fun os=>k ((nm,o2)::os)
noncomputable def EC (C:iy) (g:Nat) (c:AV) (k:AV→Option R):Option R:=
 match C.res g with
 |some d=>cD d.enc c fun x=>k (d.enc x)
 |none=>k c
noncomputable def LF (C:iy) (a:AV) (k:AV→Option R):Option R:=
 T6 a fun cs=>match C.ptr with
  |some d=>cD d.enc cs fun x=>k (.ref (d.enc x))
  |none=>k (.ref cs)
def qZ (lo:Option SV) (dflt:Nat) (hi:Nat) (k:Nat→Option R):Option R:=
 match lo with
 |none=>k dflt
 |some (.pv (.int _ i))=>check (0≤i∧i≤hi) (k i.toNat)
 |some _=>none
noncomputable def ue:List (Nat×Ob)→List (Nat×Ob)→Option R→Option R
 |[],l',k=>eF l' k
 |(nm,o)::l,l',k=>ai nm l' fun o' l''=>bC o' o (ue l l'' k)
noncomputable def FR (P:Program) (C:iy) (h:Hint) (F:cL) (st:St) (c:Call) (f:Operand) (k:AV→Option R):Option R:=
 match ox P h st c f with
 |some (g,args)=>
  bif distinct (fo st args)&&Nat.blt (fo st args).length 10000&&args.all (SV.closed (fo st args)) then
   match gJ st (fo st args) (kJ (eY (fo st args))) (eY (fo st args)) with
   |some bT=>eU (F g (args.map (SV.nX (kJ (eY (fo st args))))) bT) fun r l=>ue bT l (EC C g r fun r=>bif r.gu then k r else none)
   |none=>none
  else none
 |none=>none
noncomputable def Ty (C:iy) (st:St) (v:SV) (k:AV→Option R):Option R:=
 match v with
 | .at id (.nr i)=>match st.ob id with
  |some (.rn _ _ _ e' s' _ ys)=>Kk ys i fun zs=>Hy C e' zs fun zs=>k (.aW s' zs)
  |_=>none
 | .ag [.r id]=>match st.ob id with
  |some (.rn e sz q _ s' xs ys)=>Lg (jL ys) fun l=>Hy C e (rA q s' xs l) fun m=>k (.agg [.aW sz m])
  |_=>ki (ic st v) k
 |v=>ki (ic st v) k
noncomputable def ya (P:Program) (C:iy) (st:St):List Operand→List TypeId→(List AV→Option R)→Option R
 |[],_,k=>k []
 |x::xs,ts,k=>match aR P (ts.headD 0) st x with
  |some v=>Ty C st v fun a=>ya P C st xs ts.tail fun l=>k (a::l)
  |none=>none
noncomputable def p8 (P:Program) (C:iy) (h:Hint) (F:cL) (o:Oper) (st:St) (k:SV→Option R):Option R:=
 match o.op with
 | .pick c a b=>match aR P 0 st c with
  |some (.pv (.bool t))=>bif t then ki (aR P o.type st a) k else ki (aR P o.type st b) k
  |_=>none
 | .nilCheck x=>match aR P 0 st x with
  |some (.pv a)=>LF C a fun a=>k (.pv a)
  |_=>ki (c7 P o st) k
 | .indexAddr t x ix=>match P.underlying t with
  |some (.array n e)=>ki (sM P st n e x ix) k
  |_=>match isSlice P t,aR P t st x,aR P 0 st ix with
  |some (e,s),some (.pv (.aW sz xs)),some (.pv (.int _ i))=>bif Nat.beq s sz then bS xs i fun c=>Jt C e c fun c=>k (.cp c) else none
  |some (_,s),some (.row id),some (.pv (.int _ i))=>match st.ob id with
   |some (.row _ sz xs)=>bif Nat.beq s sz then check (0≤i∧i.toNat<xs.length) (k (.rp id sz i.toNat 0)) else none
   |some (.rn _ sz _ _ _ xs _)=>bif Nat.beq s sz then check (0≤i∧i.toNat<xs.length) (k (.rp id sz i.toNat 0)) else none
   |_=>none
  |some (_,s),some (.sub id sz lo hi),some (.pv (.int _ i))=>bif Nat.beq s sz then check (0≤i∧i.toNat<hi-lo) (k (.rp id sz (lo+i.toNat) 0)) else none
  |_,_,_=>none
 | .index t x ix=>match P.underlying t,aR P t st x,aR P 0 st ix with
  |some .string,some (.pv (.str s)),some (.pv (.int _ i))=>bS s i fun b=>k (.pv (.int .u8 b.toNat))
  |_,_,_=>none
 | .load t x=>bif o.dst.any h.take.contains then none else match aR P 0 st x with
  |some (.rp id sz i off)=>match st.ob id with
   |some (.row e sz' xs)=>bif Nat.beq sz sz' then ec xs i fun c=>Jt C e c fun c=>ki (eS P t (c.drop off)) fun v=>k (.pv v) else none
   |some (.rn _ sz' q _ _ xs _)=>bif Nat.beq sz sz'&&Nat.beq off q&&(xD P t==some false) then check (i<xs.length) (k (.at id (.nr i))) else none
   |_=>none
  |_=>ki (c7 P o st) k
 | .binOp op t x y _=>match (aR P t st x).bind eR,(aR P t st y).bind eR with
  |some (.int ka a),some (.int kb b)=>match op with
   | .quo=>bif ka==kb then check (b≠0) (k (.pv (.int ka (ka.wrap (a.tdiv b))))) else none
   | .rem=>bif ka==kb then check (b≠0) (k (.pv (.int ka (a.tmod b)))) else none
   | .shl=>check (0≤b) (k (.pv (.int ka (ka.wrap (a *2^ min b.toNat ka.bits)))))
   | .shr=>check (0≤b) (k (.pv (.int ka (a.fdiv (2^ min b.toNat ka.bits)))))
   |_=>ki (c7 P o st) k
  |some (.str a),some (.str b)=>match op with
   | .add=>check (a.length+b.length≤9223372036854775807) (k (.pv (.str (a++b))))
   |_=>ki (c7 P o st) k
  |_,_=>ki (c7 P o st) k
 | .slice t x lo hi none=>match P.underlying t,aR P t st x,gK P st lo,gK P st hi with
  |some .string,some (.pv (.str s)),some lo,some hi=>qZ hi s.length s.length fun h=>qZ lo 0 h fun l=>k (.pv (.str ((s.take h).drop l)))
  |some (.slice _),some (.pv (.aW sz xs)),some lo,some hi=>match isSlice P t with
   |some (_,s)=>bif Nat.beq s sz then qZ hi xs.length xs.length fun h=>qZ lo 0 h fun l=>k (.pv (.aW sz ((xs.take h).drop l))) else none
   |none=>none
  |some (.slice _),some (.row id),some lo,some hi=>match isSlice P t,st.ob id with
   |some (_,s),some (.row _ sz xs)=>bif Nat.beq s sz then qZ hi xs.length xs.length fun h=>qZ lo 0 h fun l=>k (.sub id sz l h) else none
   |_,_=>none
  |some (.slice _),some (.sub id sz a b),some lo,some hi=>match isSlice P t with
   |some (_,s)=>bif Nat.beq s sz then qZ hi (b-a) (b-a) fun h=>qZ lo 0 h fun l=>k (.sub id sz (a+l) (a+h)) else none
   |none=>none
  |_,_,_,_=>none
 | .slice t x none (some hi) (some mx)=>match aR P t st x with
  |some (.row id)=>match st.ob id,isSlice P t,aR P 0 st hi,aR P 0 st mx with
   |some (.row _ sz xs),some (_,s),some (.pv (.int _ a)),some (.pv (.int _ b))=>bif Nat.beq s sz then check (a=(xs.length:Int)∧b=(xs.length:Int)) (k (.at id .full)) else none
   |_,_,_,_=>none
  |_=>none
 | .convert src dst x=>match P.underlying src,P.underlying dst with
  |some (.slice e),some .string=>match P.underlying e,gB P e,(aR P src st x).bind (elems st) with
   |some (.int .u8),some 1,some (1,xs)=>Lr (bytesOf xs) fun b=>k (.pv (.str b))
   |_,_,_=>none
  |_,_=>ki (c7 P o st) k
 | .lookup t x kx ok=>bif ko h x&& !ok then none else match P.underlying t with
  |some (.map kt et)=>match (aR P t st x).bind (AF st),(aR P kt st kx).bind eR with
   |some ks,some key=>bif ok&&fI P kt key&&(j7 P et).isSome then X6 (j8 key ks) fun b=>k (.two .any b) else none
   |_,_=>match (aR P t st x).bind (maps st),(aR P kt st kx).bind eR with
   |some (ks,vs),some key=>bif fI P kt key then Da (Kb key ks vs) (fun v=>Zd C et v fun v=>k (.pv (found ok v true))) (ki (j7 P et) fun z=>k (.pv (found ok z false))) else none
   |_,_=>none
  |_=>none
 | .call c=>match c.callee with
  | .value f=>bif o.dst.any h.owns.contains then none else bif o.dst.any h.stay.contains&&wide st c f then FR P C h F st c f fun r=>k (.pv r) else
   bif wide st c f||c.args.toList.any (fun x=>(jD h st x).isSome) then none else
   bif c.args.toList.any (qz st) then
    match aR P 0 st f with
    |some (.pv (.fn g caps))=>ya P C st c.args.toList c.argTypes.toList fun vs=>pQ (F g ((vs++caps).map .pv) []) fun r=>EC C g r fun r=>bif r.plain&&r.gu then k (.pv r) else none
    |_=>none
   else
   match aR P 0 st f,fq P st c.args.toList c.argTypes.toList with
   |some (.pv (.fn g caps)),some vs=>pQ (F g ((vs++caps).map .pv) []) fun r=>EC C g r fun r=>bif (!(c.args.toList.any (gx st))||r.plain)&&r.gu then k (.pv r) else none
   |_,_=>none
  |_=>ki (sd P c st) k
 |_=>ki (cI P h F o st) k
noncomputable def vj (P:Program) (C:iy) (st:St) (t:TypeId) (m kx x:Operand) (k:St→Option R):Option R:=
 match P.underlying t with
 |some (.map kt et)=>match ML P st et x with
  |some st'=>match aR P t st' m,(aR P kt st' kx).bind eR,(aR P et st' x).bind eR with
   |some (.row id),some key,some v=>match st'.ob id with
    |some (.mp k' e' ks vs)=>bif fI P kt key&&v.AL then
      Kt (vr key v ks vs) fun p=>Tz C kt et p fun p=>k { st' with ob:=put st'.ob id (some (.mp k' e' p.1 p.2)) }
     else none
    |_=>none
   |_,_,_=>none
  |none=>none
 |_=>none
noncomputable def wM (P:Program) (C:iy) (st:St) (t:TypeId) (m kx:Operand) (k:St→Option R):Option R:=
 match P.underlying t with
 |some (.map kt et)=>match aR P t st m,(aR P kt st kx).bind eR with
  |some (.row id),some key=>match st.ob id with
   |some (.mp k' e' ks vs)=>bif fI P kt key then
     Kt (YP key ks vs) fun p=>Tz C kt et p fun p=>k { st with ob:=put st.ob id (some (.mp k' e' p.1 p.2)) }
    else none
   |_=>none
  |_,_=>none
 |_=>none
noncomputable def MY (P:Program) (C:iy) (st:St) (t:TypeId) (m kx:Operand) (d:Nat) (k:St→Option R):Option R:=
 match E9 P st t m kx with
 |some (et,id,key,k',e,sz,ks,vs)=>bif Nat.beq id d then none else match j7 P et,isSlice P et with
  |some (.aW _ []),some (e',s)=>bif Nat.beq e e'&&Nat.beq s sz&&Nat.blt 0 s then
    Um (TK key ks vs) fun xs vs'=>Hy C e xs fun xs=>mrK C k' e (ks,vs') fun p=>
     k ((St.new { st with ob:=put st.ob id (some (.mr k' e sz p.1 p.2)) } d (.row e sz xs)).set (some d) (.row d))
   else none
  |_,_=>none
 |none=>none
noncomputable def Ow (P:Program) (C:iy) (st:St) (t:TypeId) (m kx x:Operand) (k:St→Option R):Option R:=
 match E9 P st t m kx with
 |some (et,id,key,k',e,sz,ks,vs)=>match x with
  | .const (.slice none 0 0)=>match isSlice P et with
   |some (e',s)=>bif Nat.beq e e'&&Nat.beq s sz&&Nat.blt 0 s then
     ON (vr key (some []) ks vs) fun p=>mrK C k' e p fun p=>k { st with ob:=put st.ob id (some (.mr k' e sz p.1 p.2)) }
    else none
   |none=>none
  |x=>match aR P et st x with
   |some (.row j)=>match st.ob j with
    |some (.row e' s xs)=>bif Nat.beq e e'&&Nat.beq s sz&&Nat.blt j 10000 then
      ON (vr key (some xs) ks vs) fun p=>mrK C k' e p fun p=>k { (st.cn j) with ob:=put (st.cn j).ob id (some (.mr k' e sz p.1 p.2)) }
     else none
    |_=>none
   |_=>none
 |none=>none
noncomputable def y5 (P:Program) (C:iy) (h:Hint) (F:cL) (st:St) (c:Call) (f:Operand) (d:Option Nat) (k:St→Option R):Option R:=
 match (aR P 0 st f).bind Vk,og P h st c.args.toList c.argTypes.toList with
 |some (g,pre,caps),some vs=>
  let args:=pre++(vs++caps)
  let ids:=eW st 200 (args.flatMap SV.ids) []
  let mv:=fM (d.any h.stay.contains) st (iZ args)
  let m:=fC mv 0 ids
  let names:=m.map (·.2)
  let ρ:=kJ m
  bif distinct ids&&Nat.blt ids.length 10000&&args.all (SV.closed ids) then
   match gJ st ids ρ m with
   |some bT=>eU (F g (args.map (SV.nX ρ)) bT) fun r l=>Cp C ((m.filter fun p=>h.keep.contains p.1).map (·.2)) ((m.filter fun p=>h.bx.contains p.1).map (·.2)) bT l fun dO=>EC C g r fun r=>match iV names (kJ (swap m)) m dO with
    |some back=>bif r.gu then
      let st1:=fe (ids.filter mv) st
      k (St.set { env:=st1.env,ob:=fun i=>(find back i).orElse fun _=>st1.ob i } d (.pv r)) else none
    |none=>none
   |none=>none
  else none
 |_,_=>none
noncomputable def Ch (P:Program) (C:iy) (h:Hint) (F:cL) (st:St) (c:Call) (f:Operand) (d:Option Nat) (k:St→Option R):Option R:=
 match d with
 |some d=>match aR P 0 st f,mh P (qQ h d).isSome st c.args.toList c.argTypes.toList with
  |some (.pv (.fn g caps)),some vs=>pQ (F g ((vs++caps).map .pv) []) fun r=>EC C (bif (qQ h d).isSome then g+1000000 else g) r fun r=>match r with
   | .dI [.dI [.self e, .aW sz xs]]=>bif (qQ h d).isSome then none else k ((st.new d (.row e sz xs)).set (some d) (.row d))
   | .agg cs=>match qQ h d with
    |some []=>k (st.set (some d) (.pv (.agg cs)))
    |some l=>match ny cs l with
     |some ks=>bif l.all (fun x=>Nat.blt x.1 10000) then k ((oJ h.nest l st).set (some d) (.ag ks)) else none
     |none=>none
    |none=>none
   |_=>none
  |_,_=>none
 |none=>none
noncomputable def DX (P:Program) (C:iy) (st:St) (t:TypeId) (x:Operand) (d:Nat) (k:St→Option R):Option R:=
 match aR P 0 st x,xD P t with
 |some (.rp id sz i off),some false=>match st.ob id with
  |some (.rn e sz' q e' s' xs ys)=>bif Nat.beq sz sz'&&Nat.beq off q&& !(Nat.beq id d)&&Nat.blt id 10000 then
    Kk ys i fun zs=>Hy C e' zs fun zs=>Kc C e' (ys.set i none) fun ys=>
     k ((St.new { st with ob:=put st.ob id (some (.rn e sz' q e' s' xs ys)) } d (.row e' s' zs)).set (some d) (.row d))
   else none
  |_=>none
 |_,_=>none
noncomputable def M7 (P:Program) (C:iy) (st:St) (t:TypeId) (id sz i off j:Nat) (k:St→Option R):Option R:=
 match xD P t,gB P t,st.ob id,st.ob j with
 |some false,some 1,some (.rn e sz' q e' s' xs ys),some (.row e2 s2 zs)=>
  bif Nat.beq sz sz'&&Nat.beq off q&&Nat.blt id 10000&&Nat.blt j 10000&&Nat.beq e' e2&&Nat.beq s' s2&& !(Nat.beq id j) then
   check (i<ys.length) (Kc C e' (ys.set i (some zs)) fun ys=>k { (st.cn j).cn (id+40000) with ob:=put ((st.cn j).cn (id+40000)).ob id (some (.rn e sz' q e' s' xs ys)) })
  else none
 |_,_,_,_=>none
noncomputable def Nj (P:Program) (C:iy) (h:Hint) (F:cL) (o:Oper) (st:St) (k:St→Option R):Option R:=
 match o.op with
 | .makeSlice t l c=>match o.dst,isSlice P t,(aR P 0 st l).bind eR,(aR P 0 st c).bind eR with
  |some d,some (e,s),some (.int _ l),some (.int _ c)=>match zeroCells P e,P.info? e with
   |some z,some i=>bif Nat.blt 0 s&&Nat.beq z.length s then check (0≤l∧l≤c∧i.bytes *c.toNat≤281474976710656∧c≤9223372036854775807)
     (k ((st.new d (.row e s (List.replicate l.toNat z))).set (some d) (.row d))) else none
   |_,_=>none
  |_,_,_,_=>none
 | .store t x y=>match o.dst,aR P 0 st x,aR P t st y with
  |none,some (.rp id sz i off),some (.pv v)=>match st.ob id,gB P t with
   |some (.row e sz' xs),some n=>bif Nat.beq sz sz'&&Nat.beq v.cells.length n&&v.AL then
     ec xs i fun c=>Jt C e c fun c=>bif Nat.ble (off+n) c.length then k { st with ob:=put st.ob id (some (.row e sz' (xs.set i (c.take off++v.cells++c.drop (off+n))))) } else none
    else none
   |_,_=>none
  |none,some (.rp id sz i off),some (.row j)=>M7 P C st t id sz i off j k
  |none,some (.ptr id off),some (.sub j sz 0 n)=>ki (NV P st t id off j sz n) k
  |none,some a,some v=>ki (storeAt P t st a v) k
  |_,_,_=>none
 | .load t x=>bif o.dst.any h.take.contains then
   match o.dst with
   |some d=>DX P C st t x d k
   |none=>none
  else p8 P C h F o st fun v=>k (st.set o.dst v)
 | .call c=>match c.callee with
  | .builtin .append=>match o.dst,c.args.toList,c.argTypes.toList with
   |some d,[x,y],[t,t']=>match isSlice P t,aR P t st x,aR P t' st y with
    |some (e,s),some (.row id),some y=>match st.ob id,elems st y,P.info? e with
     |some (.row e' sz xs),some (sz',ys),some i=>
      bif Nat.beq t t'&&Nat.beq e e'&&Nat.beq s sz&&Nat.beq sz sz'&&Nat.blt 0 sz&&(i.zero.map (fun z=>z.cells.size)==some sz)&&eT id then
       check ((xs.length+ys.length) *i.bytes≤140737488355328∧xs.length+ys.length≤4611686018427387904) (k ((st.new id (.row e sz (xs++ys))).set (some d) (.row id)))
      else none
     |some (.rn e' sz q e2 s2 xs zs),some (sz',ys),some i=>
      bif Nat.beq t t'&&Nat.beq e e'&&Nat.beq s sz&&Nat.beq sz sz'&&Nat.blt 0 sz&&(i.zero.map (fun z=>z.cells.size)==some sz)&&eT id&&ys.all (kQ q) then
       check ((xs.length+ys.length) *i.bytes≤140737488355328∧xs.length+ys.length≤4611686018427387904) (Kc C e2 (zs++ys.map fun _=>some []) fun zs=>
        k ((st.new id (.rn e sz q e2 s2 (xs++ys.map fun c=>c.set q .hole) zs)).set (some d) (.row id)))
      else none
     |_,_,_=>none
    |some (e,s),some (.at id .full),some y=>match st.ob id,elems st y,P.info? e with
     |some (.row e' sz xs),some (sz',ys),some i=>
      bif Nat.beq t t'&&Nat.beq e e'&&Nat.beq s sz&&Nat.beq sz sz'&&Nat.blt 0 sz&&(i.zero.map (fun z=>z.cells.size)==some sz)&&eT id&& !ys.isEmpty then
       check ((xs.length+ys.length) *i.bytes≤140737488355328∧xs.length+ys.length≤4611686018427387904) (k ((st.new id (.row e sz (xs++ys))).set (some d) (.row id)))
      else none
     |_,_,_=>none
    |_,_,_=>none
   |_,_,_=>none
  | .builtin .delete=>match o.dst,c.args.toList,c.argTypes.toList with
   |none,[m,kx],t::_=>wM P C st t m kx k
   |_,_,_=>none
  | .builtin .clear=>match o.dst,c.args.toList,c.argTypes.toList with
   |none,[x],[t]=>match isSlice P t,aR P t st x with
    |some (e,s),some (.sub id sz lo hi)=>match st.ob id,zeroCells P e with
     |some (.row e' sz' xs),some z=>bif Nat.beq s sz&&Nat.beq sz sz'&&Nat.beq z.length sz&&Nat.beq e e'&&Nat.blt 0 sz then
       check (hi≤xs.length) (k { st with ob:=put st.ob id (some (.row e' sz' (xs.take lo++List.replicate (hi-lo) z++xs.drop hi))) }) else none
     |_,_=>none
    |_,_=>none
   |_,_,_=>none
  | .value f=>bif o.dst.any h.owns.contains then Ch P C h F st c f o.dst k else bif o.dst.any h.stay.contains&&wide st c f then p8 P C h F o st fun v=>k (st.set o.dst v) else bif wide st c f then y5 P C h F st c f o.dst k else bif c.args.toList.any (fun x=>(jD h st x).isSome) then
    match aR P 0 st f,vi P h st c.args.toList c.argTypes.toList with
    |some (.pv (.fn g caps)),some (vs,[id])=>match st.ob id with
     |some (.row e sz xs)=>Ci (F g (vs++caps.map .pv) [(10000, .row e sz xs)]) 10000 e sz fun r xs'=>EC C g r fun r=>Hy C e xs' fun xs'=>match r with
       | .self n=>bif eT id then check (n≤xs'.length) (k ((st.new id (.row e sz (xs'.take n))).set o.dst (.row id))) else none
       |r=>bif r.plain then k (St.set { st with ob:=put st.ob id (some (.row e sz xs')) } o.dst (.pv r)) else none
     |_=>none
    |_,_=>none
   else bif c.args.toList.any (qz st) then p8 P C h F o st fun v=>k (st.set o.dst v)
   else bif c.args.toList.any (gx st) then
    match aR P 0 st f,fq P st c.args.toList c.argTypes.toList with
    |some (.pv (.fn g caps)),some vs=>pQ (F g ((vs++caps).map .pv) []) fun r=>EC C g r fun r=>bif r.plain&&r.gu then k (st.set o.dst (.pv r)) else
      match iM.fk st c.args.toList with
      |some st'=>match aR P 0 st' f,fq P st' c.args.toList c.argTypes.toList with
       |some (.pv (.fn g' NR)),some vs'=>bif c.args.toList.any (gx st') then none else pQ (F g' ((vs'++NR).map .pv) []) fun r=>EC C g' r fun r=>bif r.gu then k (st'.set o.dst (.pv r)) else none
       |_,_=>none
      |none=>none
    |_,_=>none
   else p8 P C h F o st fun v=>k (st.set o.dst v)
  |_=>p8 P C h F o st fun v=>k (st.set o.dst v)
 | .mapUpdate t m kx x=>match o.dst with
  |none=>bif ko h m then Ow P C st t m kx x k else vj P C st t m kx x k
  |some _=>none
 | .insert t m kx x=>match o.dst with
  |none=>bif ko h m then Ow P C st t m kx x k else vj P C st t m kx x k
  |some _=>none
 | .lookup t m kx ok=>bif ko h m&& !ok then
   match o.dst with
   |some d=>MY P C st t m kx d k
   |none=>none
  else p8 P C h F o st fun v=>k (st.set o.dst v)
 | .range t x=>match o.dst,P.underlying t,(aR P t st x).bind eR with
  |some d,some .string,some (.str s)=>k ((st.new d (.it s 0)).set (some d) (.ptr d 0))
  |_,_,_=>none
 | .next x true=>match o.dst,aR P 0 st x with
  |some d,some (.ptr id 0)=>match st.ob id with
   |some (.it s pos)=>bif Nat.blt pos s.length then
     k (St.set { st with ob:=put st.ob id (some (.it s (pos+(Utf8.decode ⟨s.toArray⟩ pos).2))) } (some d) (.pv (.dI [.bool true, .int .i64 pos, .int .i32 (Utf8.decode ⟨s.toArray⟩ pos).1])))
    else k (st.set (some d) (.pv (.dI [.bool false])))
   |_=>none
  |_,_=>none
 | .assign _| .buildSlice _ _ _| .box _ _| .alloc _| .makeMap _ _| .makeFunc _ _ _| .build _ _=>ki (step0 P h F o st) k
 |_=>p8 P C h F o st fun v=>k (st.set o.dst v)
noncomputable def stepT (P:Program) (C:iy) (h:Hint) (F:cL) (o:Oper) (st:St) (k:St→Option R):Option R:=ki (gM (tR h o) st) fun st=>Nj P C h F o st k
def O0 (ops:Array Oper) (o:Oper) (st:St) (k:Bool→St→Option R):Option R:=
 match o.guard with
 |none=>k true st
 |some (j,want)=>match (ops[j]?).bind (·.dst) with
  |some d=>match st.env d with
   |some (.pv (.bool true))=>k want st
   |some (.pv (.bool false))=>k (!want) st
   |some .undef=>k false st
   |_=>none
  |none=>none
def guards (ops:Array Oper) (i:Nat):Bool:=ops.toList.any fun o=>match o.guard,o.op with
 |some (j,_),_=>Nat.beq j i
 |none,_=>false
def DG (b:Bool) (d:Option Nat) (st:St) (k:St→Option R):Option R:=
 bif b then
  match d with
  |some d=>match st.env d with
   |some (.pv (.bool t))=>bif t then k (st.set (some d) (.pv (.bool true))) else k (st.set (some d) (.pv (.bool false)))
   |_=>k st
  |none=>k st
 else k st
noncomputable def yE (P:Program) (C:iy) (h:Hint) (F:cL) (ops:Array Oper):Nat→List Oper→St→(St→Option R)→Option R
 |_,[],st,k=>k st
 |i,o::l,st,k=>O0 ops o st fun b st=>bif b then stepT P C h F o st fun st=>DG (guards ops i) o.dst st fun st=>yE P C h F ops (i+1) l st k
   else yE P C h F ops (i+1) l (st.set o.dst .undef) k
noncomputable def sq (P:Program) (C:iy) (h:Hint) (F:cL) (ops:Array Oper):Nat→List Oper→List (Nat×dF)→St→(St→Option R)→Option R
 |_,[],_,st,k=>k st
 |i,o::l,prev,st,k=>O0 ops o st fun b st=>bif b then
    bif SE h st o&&(tR h o).isEmpty then
     p8 P C h F o st fun v=>bif rf ops prev i ((pZ P h ops o st).fill st (st.set o.dst v)) then
      DG (guards ops i) o.dst (st.set o.dst v) fun st'=>sq P C h F ops (i+1) l ((i,(pZ P h ops o st).fill st (st.set o.dst v))::prev) st' k else none
    else stepT P C h F o st fun st'=>bif rf ops prev i ((kC P h ops o st).fill st st') then
      DG (guards ops i) o.dst st' fun st2=>sq P C h F ops (i+1) l ((i,(kC P h ops o st).fill st st')::prev) st2 k else none
   else bif rf ops prev i ((nQ ops o).fill st (st.set o.dst .undef)) then sq P C h F ops (i+1) l ((i,(nQ ops o).fill st (st.set o.dst .undef))::prev) (st.set o.dst .undef) k else none
@[irreducible] noncomputable def AE (P:Program) (h:Hint) (F:cL) (c:Code) (st:St) (k:Ex→St→Option R):Option R:=
 open Classical in if hx : ∃ x n, exec P h F n (.loop c) st = some x then k hx.choose.1 hx.choose.2 else none
def seqK (rb:St→(Ex→St→Option R)→Option R) (k:Ex→St→Option R):Ex→St→Option R:=fun e st=>match e with
 | .normal=>rb st k
 |e=>k e st
def Lp (id:Nat) (k:Ex→St→Option R):Ex→St→Option R:=fun e st=>match e with
 | .exit j=>bif Nat.beq j id then k .normal st else k (.exit j) st
 |e=>k e st
noncomputable def Lb (P:Program) (h:Hint) (F:cL) (c:Code) (k:Ex→St→Option R):Ex→St→Option R:=fun e st=>match e with
 | .normal=>AE P h F c (h.canon (cE c) st) k
 |e=>k e st
noncomputable def vk (C:iy):List Nat→St→(St→Option R)→Option R
 |[],st,k=>k st
 |id::l,st,k=>match st.ob id with
  |some (.mr kt e sz ks vs)=>bif r9 id then
    Lg (jL vs) fun xs=>mpK C kt e sz (ks,xs.map (.aW sz)) fun p=>
     vk C l { env:=fun i=>(st.env i).map (SV.cw id (.mp p.1 p.2)),ob:=put (fun i=>(st.ob i).map (Ob.cw id (.mp p.1 p.2))) id none } k
   else none
  |some (.rn e sz q e' s' xs ys)=>bif r9 id then
    Lg (jL ys) fun zs=>Hy C e (rA q s' xs zs) fun xs'=>
     vk C l { env:=fun i=>(st.env i).map (SV.cw id (.aW sz xs')),ob:=put (fun i=>(st.ob i).map (Ob.cw id (.aW sz xs'))) id none } k
   else none
  |_=>match st.Dl id with
   |some st'=>vk C l st' k
   |none=>none
noncomputable def Uc (C:iy) (h:Hint) (id:Nat) (st:St) (k:St→Option R):Option R:=
 match find h.jt id with
 |some l=>vk C l st k
 |none=>k st
noncomputable def jy (P:Program) (C:iy) (h:Hint) (F:cL):Code→St→(Ex→St→Option R)→Option R
 | .skip,st,k=>k .normal st
 | .label _,st,k=>k .normal st
 | .region id ops draw,st,k=>Uc C h id st fun st=>
  bif draw then
   bif mL 0 ops.toList then sq P C h F ops 0 ops.toList [] (mj (rG ops.toList) st) (k .normal) else none
  else yE P C h F ops 0 ops.toList st (k .normal)
 | .seq a b,st,k=>match find h.blk (cE a) with
  |some x=>check (x.1 st=true) (k (XO (x.2 st).1) (x.2 st).2)
  |none=>jy P C h F a st (seqK (jy P C h F b) k)
 | .cond c a b,st,k=>match aR P 0 st c with
  |some (.pv (.bool t))=>bif t then jy P C h F a st k else jy P C h F b st k
  |_=>none
 | .block id c,st,k=>jy P C h F c st (Lp id k)
 | .loop c,st,k=>AE P h F c (h.canon (cE c) st) k
 | .exit id,st,k=>k (.exit id) st
 | .ret,st,k=>k .ret st
 | .scope c,st,k=>jy P C h F c st k
 |_,_,_=>none
noncomputable def xS (P:Program) (C:iy) (h:Hint) (F:cL) (key:Nat):Code→(Ex→St→Option R)→Option (Code×(Ex→St→Option R))
 | .seq a b,k=>match find h.blk (cE a) with
  |some _=>none
  |none=>match xS P C h F key a (seqK (jy P C h F b) k) with
   |some x=>some x
   |none=>xS P C h F key b k
 | .cond _ a b,k=>match xS P C h F key a k with
  |some x=>some x
  |none=>xS P C h F key b k
 | .block id c,k=>xS P C h F key c (Lp id k)
 | .loop c,k=>bif Nat.beq (cE c) key then some (c,k) else xS P C h F key c (Lb P h F c k)
 | .scope c,k=>xS P C h F key c k
 |_,_=>none
end
noncomputable def NM (P:Program) (C:iy) (H:Nat→Hint) (dg:cL) (f:Nat) (args:List SV) (bT:List (Nat×Ob)):Option (AV×List (Nat×Ob)):=
 match P.funcs[f]? with
 |some fn=>match fn.body with
  |some c=>bif Nat.ble args.length fn.ntmps&&(bT.map (·.1)).all (fun i=> !(r9 i)) then jy P C (H f) (run P H dg) c { env:=find (sA 0 args),ob:=find bT } (RU P (H f).own fn (bT.map (·.1))) else none
  |none=>none
 |none=>none
noncomputable def nR (P:Program) (C:iy) (H:Nat→Hint) (dg:cL) (f key:Nat) (names:List Nat) (env:List (Nat×SV)) (ob:List (Nat×Ob)):Option (AV×List (Nat×Ob)):=
 match P.funcs[f]? with
 |some fn=>match fn.body with
  |some c=>match xS P C (H f) (run P H dg) key c (RU P (H f).own fn names) with
   |some (cl,k)=>AE P (H f) (run P H dg) cl { env:=find env,ob:=find ob } k
   |none=>none
  |none=>none
 |none=>none
noncomputable def Hw (P:Program) (C:iy) (H:Nat→Hint) (dg:cL) (f key:Nat) (names:List Nat) (env:List (Nat×SV)) (ob:List (Nat×Ob)):Option (AV×List (Nat×Ob)):=
 match P.funcs[f]? with
 |some fn=>match fn.body with
  |some c=>match xS P C (H f) (run P H dg) key c (RU P (H f).own fn names) with
   |some (cl,k)=>jy P C (H f) (run P H dg) cl ((H f).canon (cE cl) { env:=find env,ob:=find ob }) (Lb P (H f) (run P H dg) cl k)
   |none=>none
  |none=>none
 |none=>none
section
variable {R:Type} {P:Program} {C:iy} {h:Hint} {F:cL}
theorem dh {α:Type} {c:Option α} {k:α→Option R} {r:R} (hv:ki c k=some r):∃x,c=some x∧k x=some r:=by
 cases c with
 |none=>simp [ki] at hv
 |some x=>exact ⟨x,rfl,hv⟩
theorem dR {p:Prop} [Decidable p] {x:Option R} {r:R} (hv:check p x=some r):p∧x=some r:=by
 unfold check at hv;split at hv
 ·exact ⟨‹_›,hv⟩
 ·cases hv
theorem EY {α:Type} {xs:List α} {i:Int} {k:α→Option R} {r:R} (hv:bS xs i k=some r):0≤i∧∃x,xs[i.toNat]? =some x∧k x=some r:=by
 unfold bS at hv;split at hv
 ·rename_i h0
  split at hv
  ·rename_i x hx;exact ⟨h0,x,hx,hv⟩
  ·cases hv
 ·cases hv
theorem EZ {α:Type} {xs:List α} {i:Nat} {k:α→Option R} {r:R} (hv:ec xs i k=some r):∃x,xs[i]? =some x∧k x=some r:=by
 unfold ec at hv;split at hv
 ·rename_i x hx;exact ⟨x,hx,hv⟩
 ·cases hv
theorem pR {c:Option (AV×List (Nat×Ob))} {k:AV→Option R} {r:R} (hv:pQ c k=some r):∃x,c=some (x,[])∧k x=some r:=by
 unfold pQ at hv;split at hv
 ·rename_i x;exact ⟨x,rfl,hv⟩
 ·cases hv
theorem Lw {c:Option (AV×List (Nat×Ob))} {nm e sz:Nat} {k:AV→List (List AV)→Option R} {r:R} (hv:Ci c nm e sz k=some r):∃x xs,c=some (x,[(nm, .row e sz xs)])∧k x xs=some r:=by
 unfold Ci at hv;split at hv
 ·rename_i x KZ e' sz' xs
  replace hv:=bz hv
  obtain ⟨hb,hv⟩:=hv;simp only [Bool.and_eq_true] at hb;have h1:=beq_iff.1 hb.1.1;have h2:=beq_iff.1 hb.1.2;have h3:=beq_iff.1 hb.2;subst h1 h2 h3;exact ⟨x,xs,rfl,hv⟩
 ·cases hv
theorem kz {α T:Type} {enc:T→α} {c:α} {k:T→Option R} {r:R} (hv:cD enc c k=some r):∃d,enc d=c∧k d=some r:=by
 unfold cD at hv;split at hv
 ·rename_i hx;exact ⟨_,hx.choose_spec,hv⟩
 ·cases hv
theorem wu {e:TypeId} {c:List AV} {k:List AV→Option R} {r:R} (hv:Jt C e c k=some r):k c=some r:=by
 unfold Jt at hv;split at hv
 ·obtain ⟨x,rfl,hk⟩:=kz hv;exact hk
 ·exact hv
theorem nq {e:TypeId} {c:List (List AV)} {k:List (List AV)→Option R} {r:R} (hv:Hy C e c k=some r):k c=some r:=by
 unfold Hy at hv;split at hv
 ·obtain ⟨x,rfl,hk⟩:=kz hv;exact hk
 ·exact hv
theorem lz {g:Nat} {c:AV} {k:AV→Option R} {r:R} (hv:EC C g c k=some r):k c=some r:=by
 unfold EC at hv;split at hv
 ·obtain ⟨x,rfl,hk⟩:=kz hv;exact hk
 ·exact hv
theorem Qn {t:TypeId} {c:AV} {k:AV→Option R} {r:R} (hv:Zd C t c k=some r):k c=some r:=by
 unfold Zd at hv;split at hv
 ·obtain ⟨x,rfl,hk⟩:=kz hv;exact hk
 ·exact hv
theorem zh {kt et:TypeId} {c:List AV×List AV} {k:List AV×List AV→Option R} {r:R} (hv:Tz C kt et c k=some r):k c=some r:=by
 unfold Tz at hv;split at hv
 ·obtain ⟨x,rfl,hk⟩:=kz hv;exact hk
 ·exact hv
theorem MS {x:Option (Option AV)} {k:AV→Option R} {z:Option R} {r:R} (hv:Da x k z=some r):(∃v,x=some (some v)∧k v=some r)∨(x=some none∧z=some r):=by
 unfold Da at hv;split at hv
 ·exact .inl ⟨_,rfl,hv⟩
 ·exact .inr ⟨rfl,hv⟩
 ·cases hv
theorem Fi {x:Option (List AV×List AV)} {k:List AV×List AV→Option R} {r:R} (hv:Kt x k=some r):∃p,x=some p∧k p=some r:=by
 unfold Kt at hv;split at hv
 ·exact ⟨_,rfl,hv⟩
 ·cases hv
theorem Cg {c:Option (AV×List (Nat×Ob))} {k:AV→List (Nat×Ob)→Option R} {r:R} (hv:eU c k=some r):∃x l,c=some (x,l)∧k x l=some r:=by
 unfold eU at hv;split at hv
 ·exact ⟨_,_,rfl,hv⟩
 ·cases hv
theorem yL {nm:Nat} {l:List (Nat×Ob)} {k:Ob→List (Nat×Ob)→Option R} {r:R} (hv:ai nm l k=some r):∃o l',l=(nm,o)::l'∧k o l'=some r:=by
 unfold ai at hv;split at hv
 ·replace hv:=bz hv
  obtain ⟨hb,hv⟩:=hv;have:=beq_iff.1 hb;subst this;exact ⟨_,_,rfl,hv⟩
 ·cases hv
theorem Fb {l:List (Nat×Ob)} {k:Option R} {r:R} (hv:eF l k=some r):l=[]∧k=some r:=by
 unfold eF at hv;split at hv
 ·exact ⟨rfl,hv⟩
 ·cases hv
theorem wY {o o':Ob} {k:Option R} {r:R} (hv:bC o o' k=some r):o=o'∧k=some r:=by
 unfold bC at hv;split at hv
 ·exact ⟨‹_›,hv⟩
 ·cases hv
theorem Lj {e sz:Nat} {o:Ob} {k:List (List AV)→Option R} {r:R} (hv:bu e sz o k=some r):∃xs,o= .row e sz xs∧k xs=some r:=by
 unfold bu at hv;split at hv
 ·replace hv:=bz hv
  obtain ⟨hb,hv⟩:=hv;simp only [Bool.and_eq_true] at hb;have h1:=beq_iff.1 hb.1;have h2:=beq_iff.1 hb.2;subst h1 h2;exact ⟨_,rfl,hv⟩
 ·cases hv
theorem Li {kt et:Nat} {o:Ob} {k:List AV×List AV→Option R} {r:R} (hv:rI kt et o k=some r):∃p,o= .mp kt et p.1 p.2∧k p=some r:=by
 unfold rI at hv;split at hv
 ·replace hv:=bz hv
  obtain ⟨hb,hv⟩:=hv;simp only [Bool.and_eq_true] at hb;have h1:=beq_iff.1 hb.1;have h2:=beq_iff.1 hb.2;subst h1 h2;exact ⟨(_,_),rfl,hv⟩
 ·cases hv
theorem PA {x:Option (Option Nat)} {k:Bool→Option R} {r:R} (hv:X6 x k=some r):∃q,x=some q∧k q.isSome=some r:=by
 unfold X6 at hv;split at hv
 ·exact ⟨_,rfl,hv⟩
 ·cases hv
theorem I8 {x:Option (List UInt8)} {k:List UInt8→Option R} {r:R} (hv:Lr x k=some r):∃b,x=some b∧k b=some r:=by
 unfold Lr at hv;split at hv
 ·exact ⟨_,rfl,hv⟩
 ·cases hv
theorem Ns {x:Option (List (List AV)×List (Option (List (List AV))))} {k:List (List AV)→List (Option (List (List AV)))→Option R} {r:R} (hv:Um x k=some r):∃p,x=some p∧k p.1 p.2=some r:=by
 unfold Um at hv;split at hv
 ·exact ⟨_,rfl,hv⟩
 ·cases hv
theorem Dr {x:Option (List AV×List (Option (List (List AV))))} {k:List AV×List (Option (List (List AV)))→Option R} {r:R} (hv:ON x k=some r):∃p,x=some p∧k p=some r:=by
 unfold ON at hv;split at hv
 ·exact ⟨_,rfl,hv⟩
 ·cases hv
theorem yW {x:Option (List (List (List AV)))} {k:List (List (List AV))→Option R} {r:R} (hv:Lg x k=some r):∃l,x=some l∧k l=some r:=by
 unfold Lg at hv;split at hv
 ·exact ⟨_,rfl,hv⟩
 ·cases hv
theorem Ff {ys:List (Option (List (List AV)))} {i:Nat} {k:List (List AV)→Option R} {r:R} (hv:Kk ys i k=some r):∃zs,ys[i]? =some (some zs)∧k zs=some r:=by
 unfold Kk at hv;split at hv
 ·rename_i zs h;exact ⟨zs,h,hv⟩
 ·cases hv
theorem wO {e:TypeId} {ys:List (Option (List (List AV)))} {k:List (Option (List (List AV)))→Option R} {r:R} (hv:Kc C e ys k=some r):k ys=some r:=by
 unfold Kc at hv;split at hv
 ·obtain ⟨x,rfl,hk⟩:=kz hv;exact hk
 ·exact hv
theorem Dg {kt e:TypeId} {c:List AV×List (Option (List (List AV)))} {k:List AV×List (Option (List (List AV)))→Option R} {r:R} (hv:mrK C kt e c k=some r):k c=some r:=by
 unfold mrK at hv;split at hv
 ·obtain ⟨x,rfl,hk⟩:=kz hv;exact hk
 ·exact hv
theorem TG {kt e:TypeId} {sz:Nat} {c:List AV×List AV} {k:List AV×List AV→Option R} {r:R} (hv:mpK C kt e sz c k=some r):k c=some r:=by
 unfold mpK at hv;split at hv
 ·obtain ⟨x,rfl,hk⟩:=kz hv;exact hk
 ·exact hv
theorem KM {o o':Ob} {k:Ob→Option R} {r:R} (hv:Nh C o o' k=some r):k o'=some r:=by
 unfold Nh at hv;split at hv
 ·obtain ⟨xs,rfl,hk⟩:=Lj hv;exact nq hk
 ·obtain ⟨p,rfl,hk⟩:=Li hv;exact zh hk
 ·unfold Ru at hv;split at hv<;>first|exact hv|cases hv
 ·obtain ⟨rfl,hk⟩:=wY hv;exact hk
theorem B0:∀{l:List SV} {cs:List AV},jm l=some cs→l=cs.map .pv
 |[],cs,h=>by simp only [jm,Option.some.injEq] at h;subst h;rfl
 |s::l,cs,h=>by
  cases s with
  |pv v=>
   simp only [jm,Option.map_eq_some_iff] at h;obtain ⟨vs,hv,rfl⟩:=h;rw [B0 hv];rfl
  |_=>simp [jm] at h
theorem Pc {o o':Ob} {k:Ob→Option R} {r:R} (hv:Xt C o o' k=some r):k o'=some r:=by
 unfold Xt at hv;split at hv
 ·unfold Wo at hv
  split at hv
  ·split at hv
   ·rename_i cs hcs
    replace hv:=bz hv
    obtain ⟨hb,hv⟩:=hv;have:=beq_iff.1 hb;subst this;split at hv
    ·obtain ⟨x,e,hv⟩:=kz hv
     rw [B0 hcs,←e];exact hv
    ·cases hv
   ·cases hv
  ·cases hv
 ·cases hv
theorem sG {keep bx:List Nat}:∀{l l':List (Nat×Ob)} {k:List (Nat×Ob)→Option R} {r:R},Cp C keep bx l l' k=some r→k l'=some r
 |[],l',k,r,hv=>by
  simp only [Cp] at hv;obtain ⟨rfl,hk⟩:=Fb hv;exact hk
 |(nm,o)::l,l',k,r,hv=>by
  simp only [Cp] at hv
  replace hv:=yL hv
  obtain ⟨o',l'',rfl,hv⟩:=hv;cases hkp:keep.contains nm with
  |true=>
   rw [hkp] at hv;obtain ⟨e,hv⟩:=wY hv;subst e;exact sG (k:=fun os=>k ((nm,o')::os)) hv
  |false=>
   rw [hkp] at hv;simp only [cond_false] at hv;cases JP:bx.contains nm with
   |true=>
    rw [JP] at hv;simp only [cond_true] at hv;exact sG (k:=fun os=>k ((nm,o')::os)) (Pc hv)
   |false=>
   rw [JP] at hv;simp only [cond_false] at hv;exact sG (k:=fun os=>k ((nm,o')::os)) (KM hv)
theorem Qe {a:AV} {k:List AV→Option R} {r:R} (hv:T6 a k=some r):∃cs,a= .ref cs∧k cs=some r:=by
 unfold T6 at hv;split at hv
 ·exact ⟨_,rfl,hv⟩
 ·cases hv
theorem Jo {a:AV} {k:AV→Option R} {r:R} (hv:LF C a k=some r):∃cs,a= .ref cs∧k (.ref cs)=some r:=by
 unfold LF at hv;obtain ⟨cs,e,hv⟩:=Qe hv;refine ⟨cs,e,?_⟩;split at hv
 ·obtain ⟨x,e2,hv⟩:=kz hv;rw [←e2];exact hv
 ·exact hv
theorem vD:∀{l l':List (Nat×Ob)} {k:Option R} {r:R},ue l l' k=some r→l'=l∧k=some r
 |[],l',k,r,hv=>by
  simp only [ue] at hv;obtain ⟨e,hk⟩:=Fb hv;exact ⟨e,hk⟩
 |(nm,o)::l,l',k,r,hv=>by
  simp only [ue] at hv;obtain ⟨o',l2,e1,h1⟩:=yL hv;obtain ⟨e2,h2⟩:=wY h1;obtain ⟨e3,h3⟩:=vD h2;exact ⟨by rw [e1,e2,e3],h3⟩
theorem FU {st:St} {c:Call} {f:Operand} {k:AV→Option R} {r:R} (hv:FR P C h F st c f k=some r):∃v,mJ P h F st c f=some v∧k v=some r:=by
 unfold FR at hv;split at hv
 ·rename_i g args ha
  obtain ⟨hb,hv⟩:=bz hv;split at hv
  ·rename_i bT hl
   obtain ⟨x,l,hx,hv⟩:=Cg hv;obtain ⟨e,h2⟩:=vD hv;subst e;obtain ⟨Ea,h3⟩:=bz (lz h2);refine ⟨x,?_,h3⟩;simp only [mJ,ha,hb,cond_true,hl,hx,yG,Ea,Bool.and_self]
  ·cases hv
 ·cases hv
theorem iR {lo:Option SV} {d hi:Nat} {k:Nat→Option R} {r:R} (hv:qZ lo d hi k=some r):∃n,eD lo d hi=some n∧k n=some r:=by
 unfold qZ at hv;split at hv
 ·exact ⟨d,rfl,hv⟩
 ·rename_i q i
  obtain ⟨hc,hk⟩:=dR hv;exact ⟨i.toNat,by simp [eD,hc],hk⟩
 ·cases hv
theorem MP {st:St} {v:SV} {k:AV→Option R} {r:R} (hv:Ty C st v k=some r):∃x,ic st v=some x∧k x=some r:=by
 unfold Ty at hv;split at hv
 ·rename_i id i
  split at hv
  ·rename_i e sz q e' s' xs ys cu
   obtain ⟨zs,hz,hv⟩:=Ff hv;exact ⟨_,by simp only [ic,cu,hz],nq hv⟩
  ·cases hv
 ·rename_i id
  split at hv
  ·rename_i e sz q e' s' xs ys cu
   obtain ⟨l,hl,hv⟩:=yW hv;exact ⟨_,by simp only [ic,fJ,cu,Option.bind_some,Ob.val,hl,Option.map_some],nq hv⟩
  ·exact dh hv
 ·exact dh hv
theorem vL {st:St}:∀{xs:List Operand} {ts:List TypeId} {k:List AV→Option R} {r:R},ya P C st xs ts k=some r→∃vs,fq P st xs ts=some vs∧k vs=some r
 |[],_,k,r,hv=>⟨[],rfl,hv⟩
 |x::xs,ts,k,r,hv=>by
  simp only [ya] at hv;split at hv
  ·rename_i v hx
   obtain ⟨a,ha,hv⟩:=MP hv;obtain ⟨vs,hvs,hv⟩:=vL hv;exact ⟨_,by simp only [fq,hx,Option.bind_some,ha,hvs],hv⟩
  ·cases hv
theorem La {st:St}:∀{xs:List Operand},xs.any (qz st)=true→xs.any (gx st)=true:=by
 intro xs h;obtain ⟨x,hx,h1⟩:=List.any_eq_true.1 h;refine List.any_eq_true.2 ⟨x,hx,?_⟩;cases x with
 |tmp i=>
  simp only [qz] at h1;simp only [gx];cases hi:st.env i with
  |none=>rw [hi] at h1;cases h1
  |some s=>rw [hi] at h1;cases s<;>first|rfl|exact absurd h1 Bool.false_ne_true
 |_=>cases h1
theorem xW {o:Oper} {st:St} {k:SV→Option R} {r:R} (hv:p8 P C h F o st k=some r):∃v,cI P h F o st=some v∧k v=some r:=by
 unfold p8 at hv;split at hv
 ·rename_i c x y ho
  split at hv
  ·rename_i t hc
   cases t with
   |true=>
    obtain ⟨v,hx,hk⟩:=dh hv;exact ⟨v,by simp [cI,c7,ho,hc,hx],hk⟩
   |false=>
    obtain ⟨v,hx,hk⟩:=dh hv;exact ⟨v,by simp [cI,c7,ho,hc,hx],hk⟩
  ·cases hv
 ·rename_i x ho
  split at hv
  ·rename_i a hx
   obtain ⟨cs,rfl,hk⟩:=Jo hv;exact ⟨_,by simp only [cI,c7,ho,hx],hk⟩
  ·obtain ⟨v,hp,hk⟩:=dh hv
   exact ⟨v,by simp only [cI,ho];exact hp,hk⟩
 ·rename_i t x ix ho
  split at hv
  ·rename_i n e hu
   obtain ⟨v,hx,hk⟩:=dh hv;exact ⟨v,by simp [cI,c7,ho,hu,hx],hk⟩
  ·rename_i hna
   have hp:cI P h F o st=rP P st t x ix:=by
    simp only [cI,ho,c7]
   rw [hp];split at hv
   ·rename_i e s sz xs q i hs hx hi
    replace hv:=bz hv
    obtain ⟨hb,hv⟩:=hv;have:=beq_iff.1 hb;subst this;obtain ⟨h0,c,hc,hk⟩:=EY hv;exact ⟨_,by simp [rP,hs,hx,hi,h0,hc],wu hk⟩
   ·rename_i e s id q i hs hx hi
    split at hv
    ·rename_i e' sz xs cu
     replace hv:=bz hv
     obtain ⟨hb,hv⟩:=hv;have:=beq_iff.1 hb;subst this;obtain ⟨hc,hk⟩:=dR hv;exact ⟨_,by simp [rP,hs,hx,hi,cu,hc],hk⟩
    ·rename_i e' sz _ _ _ xs _ cu
     replace hv:=bz hv
     obtain ⟨hb,hv⟩:=hv;have:=beq_iff.1 hb;subst this;obtain ⟨hc,hk⟩:=dR hv;exact ⟨_,by simp [rP,hs,hx,hi,cu,hc],hk⟩
    ·cases hv
   ·rename_i e s id sz lo hi' q i hs hx hi
    replace hv:=bz hv
    obtain ⟨hb,hv⟩:=hv;have:=beq_iff.1 hb;subst this;obtain ⟨hc,hk⟩:=dR hv;exact ⟨_,by simp [rP,hs,hx,hi,hc],hk⟩
   ·cases hv
 ·rename_i t x ix ho
  split at hv
  ·rename_i s q i hu hx hi
   obtain ⟨h0,b,hb,hk⟩:=EY hv;exact ⟨_,by simp [cI,c7,ho,hu,hx,hi,h0,hb],hk⟩
  ·cases hv
 ·rename_i t x ho
  cases Eb:o.dst.any h.take.contains with
  |true=>rw [Eb] at hv;cases hv
  |false=>
  rw [Eb] at hv;simp only [cond_false] at hv;have hfp:cI P h F o st=c7 P o st:=by simp only [cI,ho,Eb,cond_false]
  rw [hfp];split at hv
  ·rename_i id sz i off hx
   split at hv
   ·rename_i e sz' xs cu
    replace hv:=bz hv
    obtain ⟨hb,hv⟩:=hv;have:=beq_iff.1 hb;subst this;obtain ⟨c,hc,hv⟩:=EZ hv
    replace hv:=wu hv
    obtain ⟨v,ht,hk⟩:=dh hv;exact ⟨_,by simp [c7,ho,hx,cu,hc,ht],hk⟩
   ·rename_i e sz' q e' s' xs ys cu
    replace hv:=bz hv
    obtain ⟨hb,hv⟩:=hv;simp only [Bool.and_eq_true] at hb;obtain ⟨⟨b1,b2⟩,b3⟩:=hb;have e1:=beq_iff.1 b1;have e2:=beq_iff.1 b2;have e3:xD P t=some false:=by simpa using b3
    subst e1 e2;obtain ⟨hc,hk⟩:=dR hv;exact ⟨_,by simp [c7,ho,hx,cu,hc,e3],hk⟩
   ·cases hv
  ·obtain ⟨v,ht,hk⟩:=dh hv
   exact ⟨v,ht,hk⟩
 ·rename_i op t x y t' ho
  have dflt:ki (c7 P o st) (fun v=>k v)=some r→∃v,cI P h F o st=some v∧k v=some r:=fun hv=>by
   obtain ⟨v,ht,hk⟩:=dh hv;exact ⟨v,by simp only [cI,ho];exact ht,hk⟩
  split at hv
  ·rename_i ka a kb b hx hy
   split at hv
   ·replace hv:=bz hv
    obtain ⟨hb,hv⟩:=hv;have hk:ka=kb:=by simpa using hb
    subst hk;obtain ⟨hc,hk⟩:=dR hv;exact ⟨_,by simp [cI,c7,ho,hx,hy,bin,za,hc],hk⟩
   ·replace hv:=bz hv
    obtain ⟨hb,hv⟩:=hv;have hk:ka=kb:=by simpa using hb
    subst hk;obtain ⟨hc,hk⟩:=dR hv;exact ⟨_,by simp [cI,c7,ho,hx,hy,bin,za,hc],hk⟩
   ·obtain ⟨hc,hk⟩:=dR hv
    have:¬b<0:=by omega
    exact ⟨_,by simp [cI,c7,ho,hx,hy,bin,uU,this],hk⟩
   ·obtain ⟨hc,hk⟩:=dR hv
    have:¬b<0:=by omega
    exact ⟨_,by simp [cI,c7,ho,hx,hy,bin,uU,this],hk⟩
   ·exact dflt hv
  ·rename_i a b hx hy
   split at hv
   ·obtain ⟨hc,hk⟩:=dR hv
    exact ⟨_,by simp [cI,c7,ho,hx,hy,bin,Nk,hc],hk⟩
   ·exact dflt hv
  ·exact dflt hv
 ·rename_i t x lo hi ho
  split at hv
  ·rename_i s lv CK hu hx hlo hhi
   obtain ⟨n,hn,hv⟩:=iR hv;obtain ⟨m,hm,hk⟩:=iR hv;exact ⟨_,by simp [cI,c7,ho,hu,hx,hlo,hhi,hn,hm],hk⟩
  ·rename_i e sz xs lv CK hu hx hlo hhi
   split at hv
   ·rename_i e' s hs
    replace hv:=bz hv
    obtain ⟨hb,hv⟩:=hv;have:=beq_iff.1 hb;subst this;obtain ⟨n,hn,hv⟩:=iR hv;obtain ⟨m,hm,hk⟩:=iR hv;exact ⟨_,by simp [cI,c7,ho,hu,hx,hlo,hhi,hs,hn,hm],hk⟩
   ·cases hv
  ·rename_i e id lv CK hu hx hlo hhi
   split at hv
   ·rename_i e' s e2 sz xs hs cu
    replace hv:=bz hv
    obtain ⟨hb,hv⟩:=hv;have:=beq_iff.1 hb;subst this;obtain ⟨n,hn,hv⟩:=iR hv;obtain ⟨m,hm,hk⟩:=iR hv;exact ⟨_,by simp [cI,c7,ho,hu,hx,hlo,hhi,hs,cu,hn,hm],hk⟩
   ·cases hv
  ·rename_i e id sz a b lv CK hu hx hlo hhi
   split at hv
   ·rename_i e' s hs
    replace hv:=bz hv
    obtain ⟨hb,hv⟩:=hv;have:=beq_iff.1 hb;subst this;obtain ⟨n,hn,hv⟩:=iR hv;obtain ⟨m,hm,hk⟩:=iR hv;exact ⟨_,by simp [cI,c7,ho,hu,hx,hlo,hhi,hs,hn,hm],hk⟩
   ·cases hv
  ·cases hv
 ·rename_i t x hi mx ho
  split at hv
  ·rename_i id hx
   split at hv
   ·rename_i e2 sz xs e s ka va kb vb cu hs hh hm
    replace hv:=bz hv
    obtain ⟨hb,hv⟩:=hv;have:=beq_iff.1 hb;subst this;obtain ⟨hc,hk⟩:=dR hv;exact ⟨_,by simp only [cI,c7,ho,N6,hx,cu,hs,hh,hm];rw [if_pos ⟨trivial,hc⟩],hk⟩
   ·cases hv
  ·cases hv
 ·rename_i src dst x ho
  split at hv
  ·rename_i e hu hd
   split at hv
   ·rename_i xs he hs hx
    obtain ⟨b,hb,hk⟩:=I8 hv;exact ⟨_,by simp [cI,c7,ho,hu,hd,he,hs,hx,hb],hk⟩
   ·cases hv
  ·obtain ⟨v,ht,hk⟩:=dh hv
   exact ⟨v,by simp only [cI,ho];exact ht,hk⟩
 ·rename_i t x kx ok ho
  cases hrm:(ko h x&& !ok) with
  |true=>rw [hrm] at hv;cases hv
  |false=>
  rw [hrm] at hv;simp only [cond_false] at hv;split at hv
  ·rename_i kt et hu
   split at hv
   ·rename_i ks key hx hk
    obtain ⟨hok,hv⟩:=bz hv;obtain ⟨q,hq,hv⟩:=PA hv;exact ⟨_,by simp only [cI,c7,ho,hrm,cond_false,hu,hx,hk,hok,cond_true,hq,Option.map_some],hv⟩
   ·rename_i hno
    split at hv
    ·rename_i ks vs key hx hk
     have hnk:(aR P t st x).bind (AF st)=none:=by
      cases hkk:(aR P t st x).bind (AF st) with
      |none=>rfl
      |some ks'=>exact (hno ks' key hkk hk).elim
     obtain ⟨hok,hv⟩:=bz hv;rcases MS hv with ⟨v,hg,hv⟩|⟨hg,hv⟩
     ·exact ⟨_,by simp only [cI,c7,ho,hrm,cond_false,hu,hnk,hx,hk,hok,cond_true,hg],Qn hv⟩
     ·obtain ⟨z,hz,hv⟩:=dh hv
      exact ⟨_,by simp only [cI,c7,ho,hrm,cond_false,hu,hnk,hx,hk,hok,cond_true,hg,hz,Option.map_some],hv⟩
    ·cases hv
  ·cases hv
 ·rename_i c ho
  split at hv
  ·rename_i f hc
   cases how:o.dst.any h.owns.contains with
   |true=>rw [how] at hv;cases hv
   |false=>
   rw [how] at hv;simp only [cond_false] at hv;cases hro:(o.dst.any h.stay.contains&&wide st c f) with
   |true=>
    rw [hro] at hv;simp only [cond_true] at hv;obtain ⟨v,hx,hk⟩:=FU hv;refine ⟨.pv v,?_,hk⟩;simp only [cI,ho,hc];rw [how,hro,hx];rfl
   |false=>
   rw [hro] at hv;simp only [cond_false] at hv;cases ia:(wide st c f||c.args.toList.any (fun x=>(jD h st x).isSome)) with
   |true=>rw [ia] at hv;cases hv
   |false=>
   rw [ia] at hv;simp only [cond_false] at hv;cases hag:c.args.toList.any (qz st) with
   |true=>
    rw [hag] at hv;simp only [cond_true] at hv;have xX:=La hag;split at hv
    ·rename_i g caps hf
     obtain ⟨vs,hvs,hv⟩:=vL hv;obtain ⟨r',hx,hv⟩:=pR hv;obtain ⟨hp,hk⟩:=bz (lz hv);refine ⟨.pv r',?_,hk⟩;rw [Bool.and_eq_true] at hp;simp only [cI,ho,hc,hf,hvs,hx];rw [how,hro,ia];simp only [cond_false,xX,hp.1,hp.2,Bool.not_true,Bool.false_or,Bool.and_self,cond_true]
    ·cases hv
   |false=>
   rw [hag] at hv;simp only [cond_false] at hv;split at hv
   ·rename_i g caps vs hf hvs
    obtain ⟨r',hx,hv⟩:=pR hv;obtain ⟨hb,hk⟩:=bz (lz hv);refine ⟨.pv r',?_,hk⟩;simp only [cI,ho,hc,hf,hvs,hx];rw [how,hro,ia,hb];rfl
   ·cases hv
  ·rename_i hc
   obtain ⟨v,ht,hk⟩:=dh hv;refine ⟨v,?_,hk⟩;simp only [cI,ho];exact ht
 ·exact dh hv
theorem tN {st:St} {t:TypeId} {m kx x:Operand} {k:St→Option R} {r:R} (hv:vj P C st t m kx x k=some r):∃st',rU P st t m kx x=some st'∧k st'=some r:=by
 unfold vj at hv;split at hv
 ·rename_i kt et hu
  split at hv
  ·rename_i st1 h1
   split at hv
   ·rename_i id key v hm hk hx
    split at hv
    ·rename_i k' e' ks vs cu
     obtain ⟨hc,hv⟩:=bz hv;obtain ⟨p,hp,hv⟩:=Fi hv
     replace hv:=zh hv
     exact ⟨_,by simp only [rU,hu,h1,hm,hk,hx,cu,hc,cond_true,hp],hv⟩
    ·cases hv
   ·cases hv
  ·cases hv
 ·cases hv
theorem zg {st:St} {t:TypeId} {m kx:Operand} {k:St→Option R} {r:R} (hv:wM P C st t m kx k=some r):∃st',rT P st t m kx=some st'∧k st'=some r:=by
 unfold wM at hv;split at hv
 ·rename_i kt et hu
  split at hv
  ·rename_i id key hm hk
   split at hv
   ·rename_i k' e' ks vs cu
    obtain ⟨hc,hv⟩:=bz hv;obtain ⟨p,hp,hv⟩:=Fi hv
    replace hv:=zh hv
    exact ⟨_,by simp only [rT,hu,hm,hk,cu,hc,cond_true,hp],hv⟩
   ·cases hv
  ·cases hv
 ·cases hv
theorem Bc {st:St} {c:Call} {f:Operand} {d:Option Nat} {k:St→Option R} {r:R} (hv:y5 P C h F st c f d k=some r):∃st',fF P h F st c f d=some st'∧k st'=some r:=by
 unfold y5 at hv;split at hv
 ·rename_i g caps vs hf hvs
  simp only [] at hv
  replace hv:=bz hv
  obtain ⟨hb,hv⟩:=hv;split at hv
  ·rename_i bT hl
   obtain ⟨r',l,hx,hv⟩:=Cg hv
   replace hv:=lz (sG hv)
   split at hv
   ·rename_i back qO
    replace hv:=bz hv
    obtain ⟨Ea,hk⟩:=hv;refine ⟨_,?_,hk⟩;simp only [fF,hf,hvs,hb,cond_true,hl,hx,qO,Ea]
   ·cases hv
  ·cases hv
 ·cases hv
theorem AK {st:St} {t:TypeId} {m kx x:Operand} {k:St→Option R} {r:R} (hv:Ow P C st t m kx x k=some r):∃st',MX P st t m kx x=some st'∧k st'=some r:=by
 unfold Ow at hv;split at hv
 ·rename_i et id key k' e sz ks vs hmk
  split at hv
  ·split at hv
   ·rename_i e' s hs
    replace hv:=bz hv
    obtain ⟨hb,hv⟩:=hv;simp only [Bool.and_eq_true] at hb;have e1:=beq_iff.1 hb.1.1;have e2:=beq_iff.1 hb.1.2;have e3:0<s:=by simpa [Nat.blt_eq] using hb.2
    obtain ⟨p,hp,hv⟩:=Dr hv;refine ⟨_,?_,Dg hv⟩;simp only [MX,hmk,hs];rw [if_pos ⟨e1,e2,e3⟩];simp only [hp]
   ·cases hv
  ·rename_i hnc
   split at hv
   ·rename_i j hx
    split at hv
    ·rename_i e' s xs cu
     replace hv:=bz hv
     obtain ⟨hb,hv⟩:=hv;simp only [Bool.and_eq_true] at hb;have e1:=beq_iff.1 hb.1.1;have e2:=beq_iff.1 hb.1.2;have e3:j<10000:=by simpa [Nat.blt_eq] using hb.2
     obtain ⟨p,hp,hv⟩:=Dr hv;refine ⟨_,?_,Dg hv⟩;cases x with
     |tmp i=>
      simp only [MX,hmk,hx,cu];rw [if_pos ⟨e1,e2,e3⟩];simp only [hp]
     |const v=>
      simp only [aR] at hx;cases hc:ofConst P et v<;>simp [hc] at hx
     |func f=>simp [aR] at hx
     |global g=>simp [aR] at hx
    ·cases hv
   ·cases hv
 ·cases hv
theorem Gv {st:St} {t:TypeId} {m kx:Operand} {d:Nat} {k:St→Option R} {r:R} (hv:MY P C st t m kx d k=some r):∃st',Fa P st t m kx d=some st'∧k st'=some r:=by
 unfold MY at hv;split at hv
 ·rename_i et id key k' e sz ks vs hmk
  cases rD:Nat.beq id d with
  |true=>rw [rD] at hv;cases hv
  |false=>
  rw [rD] at hv;simp only [cond_false] at hv;split at hv
  ·rename_i s0 e' s hz hs
   replace hv:=bz hv
   obtain ⟨hb,hv⟩:=hv;simp only [Bool.and_eq_true] at hb;have e1:=beq_iff.1 hb.1.1;have e2:=beq_iff.1 hb.1.2;have e3:0<s:=by simpa [Nat.blt_eq] using hb.2
   obtain ⟨p,hp,hv⟩:=Ns hv
   replace hv:=Dg (nq hv)
   obtain ⟨_,_,_,_,cu,_⟩:=uz hmk;unfold TK at hp;split at hp
   ·rename_i i hf
    split at hp
    ·rename_i xs hvi
     injection hp with hp;subst hp
     refine ⟨_,?_,hv⟩;simp only [Fa,hmk,rD,cond_false,hf,hvi]
    ·cases hp
   ·rename_i hf
    injection hp with hp;subst hp
    refine ⟨_,?_,hv⟩;simp only [Fa,hmk,rD,cond_false,hf,hz,hs];rw [if_pos ⟨e1,e2,e3⟩];have:put st.ob id (some (.mr k' e sz ks vs))=st.ob:=by
     funext i
     by_cases e:id=i
     ·subst e;rw [bH,cu]
     ·rw [aQ _ _ e]
    simp only [this]
   ·cases hp
  ·cases hv
 ·cases hv
theorem Ef {st:St} {c:Call} {f:Operand} {d:Option Nat} {k:St→Option R} {r:R} (hv:Ch P C h F st c f d k=some r):∃st',gz P h F st c f d=some st'∧k st'=some r:=by
 unfold Ch at hv;split at hv
 ·rename_i d
  split at hv
  ·rename_i g caps vs hf hvs
   obtain ⟨x,hx,hv⟩:=pR hv
   replace hv:=lz hv
   split at hv
   ·cases hn:(qQ h d).isSome with
    |true=>rw [hn] at hv;cases hv
    |false=>
     rw [hn] at hv hvs;exact ⟨_,by simp only [gz,hn,hf,hvs,hx,cond_false],hv⟩
   ·split at hv
    ·rename_i hl
     rw [hl] at hvs;exact ⟨_,by simp only [gz,hl,hf,hvs,hx],hv⟩
    ·rename_i l hne hl
     split at hv
     ·rename_i ks hks
      obtain ⟨hb,hv⟩:=bz hv;rw [hl] at hvs;cases l with
      |nil=>exact absurd rfl hne
      |cons x0 l0=>exact ⟨_,by simp only [gz,hl,hf,hvs,hx,hks,hb,cond_true],hv⟩
     ·cases hv
    ·cases hv
   ·cases hv
  ·cases hv
 ·cases hv
theorem DY {st:St} {t:TypeId} {x:Operand} {d:Nat} {k:St→Option R} {r:R} (hv:DX P C st t x d k=some r):∃st',qW P st t x d=some st'∧k st'=some r:=by
 unfold DX at hv;split at hv
 ·rename_i id sz i off hx ha
  split at hv
  ·rename_i e sz' q e' s' xs ys cu
   obtain ⟨hb,hv⟩:=bz hv;obtain ⟨zs,hz,hv⟩:=Ff hv;have hk:=wO (nq hv);exact ⟨_,by simp only [qW,hx,ha,cu,hz,hb,cond_true],hk⟩
  ·cases hv
 ·cases hv
theorem Ho {st:St} {t:TypeId} {id sz i off j:Nat} {k:St→Option R} {r:R} (hv:M7 P C st t id sz i off j k=some r):∃st',AS P st t id sz i off j=some st'∧k st'=some r:=by
 unfold M7 at hv;split at hv
 ·rename_i e sz' q e' s' xs ys e2 s2 zs ha hs cu xZ
  obtain ⟨hb,hv⟩:=bz hv;obtain ⟨hi,hv⟩:=dR hv;have hk:=wO hv;refine ⟨_,?_,hk⟩;unfold AS;simp only [ha,hs,cu,xZ];have hi':Nat.blt i ys.length=true:=Nat.blt_eq.mpr hi;have hb':(Nat.beq sz sz'&&Nat.beq off q&&Nat.blt id 10000&&Nat.blt j 10000&&Nat.beq e' e2&&Nat.beq s' s2&&Nat.blt i ys.length&& !(Nat.beq id j))=true:=by
   simp only [Bool.and_eq_true] at hb⊢;exact ⟨⟨hb.1,hi'⟩,hb.2⟩
  rw [hb'];rfl
 ·cases hv
theorem HF {o:Oper} {st:St} {k:St→Option R} {r:R} (hv:Nj P C h F o st k=some r):∃st',step0 P h F o st=some st'∧k st'=some r:=by
 have YV:(p8 P C h F o st fun v=>k (st.set o.dst v))=some r→∃st',step0 P h F o st=some st'∧k st'=some r:=fun hv=>by
  obtain ⟨v,hf,hk⟩:=xW hv;exact ⟨_,by simp only [step0,hf],hk⟩
 unfold Nj at hv;split at hv
 ·rename_i t l c ho
  have hf:cI P h F o st=none:=by simp [cI,c7,ho]
  split at hv
  ·rename_i d e s kl l' kc c' hd hs hl hc
   split at hv
   ·rename_i z i hz hi
    replace hv:=bz hv
    obtain ⟨hb,hv⟩:=hv;simp only [Bool.and_eq_true] at hb;obtain ⟨dc,hk⟩:=dR hv;have h1:0<s:=by simpa [Nat.blt_eq] using hb.1
    have h2:z.length=s:=beq_iff.1 hb.2;exact ⟨_,by simp only [step0,hf,iM,hd,ho,hs,hl,hc,hz,hi];rw [if_pos ⟨h1,h2,dc⟩],hk⟩
   ·cases hv
  ·cases hv
 ·rename_i t x y ho
  have hf:cI P h F o st=none:=by simp [cI,c7,ho]
  split at hv
  ·rename_i id sz i off v hd hx hy
   split at hv
   ·rename_i e sz' xs n cu hsz
    replace hv:=bz hv
    obtain ⟨hb,hv⟩:=hv;simp only [Bool.and_eq_true] at hb;have h1:=beq_iff.1 hb.1.1;subst h1;have h2:=beq_iff.1 hb.1.2;obtain ⟨c,hc,hv⟩:=EZ hv
    replace hv:=bz (wu hv)
    obtain ⟨hle,hk⟩:=hv;refine ⟨_,?_,hk⟩;simp only [step0,hf,iM,hd,ho,hx,hy,storeAt,cu,hsz,hc];rw [if_pos ⟨trivial,h2,Nat.le_of_ble_eq_true hle,hb.2⟩]
   ·cases hv
  ·rename_i id sz i off j hd hx hy
   obtain ⟨st',hs,hk⟩:=Ho hv;exact ⟨st',by simp only [step0,hf,iM,hd,ho,hx,hy];exact hs,hk⟩
  ·rename_i id off j sz n hd hx hy
   obtain ⟨st',hs,hk⟩:=dh hv;exact ⟨st',by simp only [step0,hf,iM,hd,ho,hx,hy];exact hs,hk⟩
  ·rename_i a v hn1 hn2 hn3 hd hx hy
   obtain ⟨st',hs,hk⟩:=dh hv;refine ⟨st',?_,hk⟩;have:iM P h F o st=storeAt P t st a v:=by
    simp only [iM,hd,ho,hx,hy]
   simp only [step0,hf];rw [this];exact hs
  ·cases hv
 ·rename_i t x ho
  cases Eb:o.dst.any h.take.contains with
  |false=>rw [Eb] at hv;exact YV hv
  |true=>
   rw [Eb] at hv;simp only [cond_true] at hv;split at hv
   ·rename_i d hd
    rw [hd] at Eb;simp only [Option.any_some] at Eb;obtain ⟨st',hs,hk⟩:=DY hv;refine ⟨st',?_,hk⟩;have hf:cI P h F o st=none:=by simp only [cI,ho,hd,Option.any_some,Eb,cond_true]
    simp only [step0,hf,iM,ho,hd,Eb,cond_true];exact hs
   ·cases hv
 ·rename_i c ho
  split at hv
  ·rename_i hc
   have hf:cI P h F o st=none:=by
    simp only [cI,ho,hc,sd]
   split at hv
   ·rename_i d x y t t' hd hargs ou
    split at hv
    ·rename_i e s id sy hs hx hy
     split at hv
     ·rename_i e' sz xs sz' ys i cu hel hi
      replace hv:=bz hv
      obtain ⟨hb,hv⟩:=hv;simp only [Bool.and_eq_true] at hb;obtain ⟨⟨⟨⟨⟨⟨b1,b2⟩,b3⟩,b4⟩,b5⟩,b6⟩,b7⟩:=hb;have e1:=beq_iff.1 b1;have e2:=beq_iff.1 b2;have e3:=beq_iff.1 b3;have e4:=beq_iff.1 b4;have e5:0<sz:=by simpa [Nat.blt_eq] using b5
      have e6:i.zero.map (fun z=>z.cells.size)=some sz:=by simpa using b6
      obtain ⟨dc,hk⟩:=dR hv;refine ⟨_,?_,hk⟩;simp only [step0,hf,iM,ho,hc,hd,hargs,ou,hs,hx,hy,cu,hel,hi];rw [if_pos ⟨e1,e2,e3,e4,e5,dc.1,dc.2,e6,b7⟩]
     ·rename_i e' sz q e2x s2x xs zs sz' ys i cu hel hi
      replace hv:=bz hv
      obtain ⟨hb,hv⟩:=hv;simp only [Bool.and_eq_true] at hb;obtain ⟨⟨⟨⟨⟨⟨⟨b1,b2⟩,b3⟩,b4⟩,b5⟩,b6⟩,b7⟩,b8⟩:=hb;have e1:=beq_iff.1 b1;have e2:=beq_iff.1 b2;have e3:=beq_iff.1 b3;have e4:=beq_iff.1 b4;have e5:0<sz:=by simpa [Nat.blt_eq] using b5
      have e6:i.zero.map (fun z=>z.cells.size)=some sz:=by simpa using b6
      obtain ⟨dc,hk⟩:=dR hv;refine ⟨_,?_,wO hk⟩;simp only [step0,hf,iM,ho,hc,hd,hargs,ou,hs,hx,hy,cu,hel,hi];rw [if_pos ⟨e1,e2,e3,e4,e5,dc.1,dc.2,e6,b7,b8⟩]
     ·cases hv
    ·rename_i e s id sy hs hx hy
     split at hv
     ·rename_i e' sz xs sz' ys i cu hel hi
      replace hv:=bz hv
      obtain ⟨hb,hv⟩:=hv;simp only [Bool.and_eq_true,Bool.not_eq_true'] at hb;obtain ⟨⟨⟨⟨⟨⟨⟨b1,b2⟩,b3⟩,b4⟩,b5⟩,b6⟩,b7⟩,b8⟩:=hb;have e1:=beq_iff.1 b1;have e2:=beq_iff.1 b2;have e3:=beq_iff.1 b3;have e4:=beq_iff.1 b4;have e5:0<sz:=by simpa [Nat.blt_eq] using b5
      have e6:i.zero.map (fun z=>z.cells.size)=some sz:=by simpa using b6
      obtain ⟨dc,hk⟩:=dR hv;refine ⟨_,?_,hk⟩;simp only [step0,hf,iM,ho,hc,hd,hargs,ou,hs,hx,hy,cu,hel,hi];rw [if_pos ⟨e1,e2,e3,e4,e5,dc.1,dc.2,e6,b7,b8⟩]
     ·cases hv
    ·cases hv
   ·cases hv
  ·rename_i hc
   have hf:cI P h F o st=none:=by simp only [cI,ho,hc,sd]
   split at hv
   ·rename_i m kx t ts hd hargs ou
    obtain ⟨st',h1,hk⟩:=zg hv;exact ⟨st',by simp only [step0,hf,iM,ho,hc,hd,hargs,ou];exact h1,hk⟩
   ·cases hv
  ·rename_i hc
   have hf:cI P h F o st=none:=by simp only [cI,ho,hc,sd]
   split at hv
   ·rename_i x t hd hargs ou
    split at hv
    ·rename_i e s id sz lo hi hs hx
     split at hv
     ·rename_i e' sz' xs z cu hz
      replace hv:=bz hv
      obtain ⟨hb,hv⟩:=hv;simp only [Bool.and_eq_true] at hb;obtain ⟨⟨⟨⟨b1,b2⟩,b3⟩,b4⟩,b5⟩:=hb;have e1:=beq_iff.1 b1;have e2:=beq_iff.1 b2;have e3:=beq_iff.1 b3;have e4:=beq_iff.1 b4;have e5:0<sz:=by simpa [Nat.blt_eq] using b5
      obtain ⟨hle,hk⟩:=dR hv;refine ⟨_,?_,hk⟩;simp only [step0,hf,iM,ho,hc,hd,hargs,ou,hs,hx,cu,hz];rw [if_pos ⟨e1,e2,e3,hle,e4,e5⟩]
     ·cases hv
    ·cases hv
   ·cases hv
  ·rename_i f hc
   cases how:o.dst.any h.owns.contains with
   |true=>
    rw [how] at hv;simp only [cond_true] at hv;have hf:cI P h F o st=none:=by simp only [cI,ho,hc,how,cond_true]
    obtain ⟨st',h1,hk⟩:=Ef hv;exact ⟨st',by simp only [step0,hf];cases hd:o.dst<;>(simp only [iM,ho,hc,hd];rw [hd] at how;rw [how,←hd];exact h1),hk⟩
   |false=>
   rw [how] at hv;simp only [cond_false] at hv;have how0:∀d,o.dst=d→d.any h.owns.contains=false:=fun d hd=>hd▸how
   cases hro:(o.dst.any h.stay.contains&&wide st c f) with
   |true=>rw [hro] at hv;exact YV hv
   |false=>
   rw [hro] at hv;simp only [cond_false] at hv;cases PK:wide st c f with
   |true=>
    rw [PK] at hv;simp only [cond_true] at hv;have hf:cI P h F o st=none:=by simp only [cI,ho,hc];rw [how,hro,PK];rfl
    obtain ⟨st',h1,hk⟩:=Bc hv;exact ⟨st',by simp only [step0,hf];cases hd:o.dst<;>(simp only [iM,ho,hc,hd];rw [hd] at hro how;rw [how,hro,PK,←hd];exact h1),hk⟩
   |false=>
   have hro0:∀(d:Option Nat),(d.any h.stay.contains&&false)=false:=fun d=>by simp
   rw [PK] at hv;simp only [cond_false] at hv;cases ia:c.args.toList.any (fun x=>(jD h st x).isSome) with
   |true=>
    rw [ia] at hv;simp only [cond_true] at hv;have hf:cI P h F o st=none:=by simp only [cI,ho,hc];rw [how,hro,ia];simp
    split at hv
    ·rename_i g caps vs id hfn hvs
     split at hv
     ·rename_i e sz xs cu
      obtain ⟨r',xs',hx,hv⟩:=Lw hv
      replace hv:=nq (lz hv)
      have hstep:∀st2,jN P h F st c f o.dst=some st2→step0 P h F o st=some st2:=fun st2 h2=>by
       simp only [step0,hf];cases hd:o.dst<;>(simp only [iM,ho,hc,hd];rw [how0 _ hd,PK,ia,hro0];simp only [cond_true,cond_false];rw [←hd];exact h2)
      split at hv
      ·rename_i n
       replace hv:=bz hv
       obtain ⟨hb,hv⟩:=hv;obtain ⟨hn,hk⟩:=dR hv;refine ⟨_,hstep _ ?_,hk⟩;simp only [jN,hfn,hvs,cu,hx,beq_iff.2 (rfl:e=e),beq_iff.2 (rfl:sz=sz),beq_iff.2 (rfl:10000=10000),Bool.and_self,cond_true,hb,Nat.ble_eq_true_of_le hn]
      ·rename_i Ea
       replace hv:=bz hv
       obtain ⟨hb,hk⟩:=hv;refine ⟨_,hstep _ ?_,hk⟩;simp only [jN,hfn,hvs,cu,hx,beq_iff.2 (rfl:e=e),beq_iff.2 (rfl:sz=sz),beq_iff.2 (rfl:10000=10000),Bool.and_self,cond_true,hb]
     ·cases hv
    ·cases hv
   |false=>
   have CI:(wide st c f||c.args.toList.any (fun x=>(jD h st x).isSome))=false:=by rw [PK,ia];rfl
   rw [ia] at hv;simp only [cond_false] at hv;cases hag:c.args.toList.any (qz st) with
   |true=>rw [hag] at hv;exact YV hv
   |false=>
   rw [hag] at hv;simp only [cond_false] at hv;cases xX:c.args.toList.any (gx st) with
   |true=>
    simp only [xX,cond_true] at hv;split at hv
    ·rename_i g caps vs hfn hvs
     obtain ⟨r',hx,hv⟩:=pR hv
     replace hv:=lz hv
     cases hp:(r'.plain&&r'.gu) with
     |true=>
      simp only [hp,cond_true] at hv;refine ⟨_,?_,hv⟩;rw [Bool.and_eq_true] at hp;simp only [step0,cI,ho,hc];rw [how,hro,CI];simp only [hfn,hvs,hx,hp.1,hp.2,Bool.true_or,Bool.or_true,Bool.true_and,cond_true,cond_false]
     |false=>
      simp only [hp,cond_false] at hv;split at hv
      ·rename_i st1 dQ
       split at hv
       ·rename_i g' NR vs' hfn' Sv
        cases hrow:c.args.toList.any (gx st1) with
        |true=>rw [hrow] at hv;cases hv
        |false=>
         rw [hrow] at hv;simp only [cond_false] at hv;obtain ⟨r2,hx2,hv⟩:=pR hv
         replace hv:=bz (lz hv)
         obtain ⟨Ea,hv⟩:=hv;refine ⟨_,?_,hv⟩;have hf:cI P h F o st=none:=by
          simp only [cI,ho,hc];rw [how,hro,CI];simp only [cond_false,hfn,hvs,hx,hp,xX,Bool.not_true,Bool.or_false,Bool.false_or]
         simp only [step0,hf];cases hd:o.dst<;>(simp only [iM,ho,hc,hd];rw [how0 _ hd,PK,ia,hro0];simp only [cond_false,dQ,hfn',Sv,hx2,hrow,Ea,Bool.not_true,Bool.or_false])
       ·cases hv
      ·cases hv
    ·cases hv
   |false=>simp only [xX,cond_false] at hv;exact YV hv
  ·exact YV hv
 ·rename_i t m kx x ho
  split at hv
  ·rename_i hd
   cases hrm:ko h m with
   |true=>
    rw [hrm] at hv;obtain ⟨st',h1,hk⟩:=AK hv;exact ⟨st',by simp only [step0,iM,cI,c7,ho,hd];rw [hrm];exact h1,hk⟩
   |false=>
    rw [hrm] at hv;obtain ⟨st',h1,hk⟩:=tN hv;exact ⟨st',by simp only [step0,iM,cI,c7,ho,hd];rw [hrm];exact h1,hk⟩
  ·cases hv
 ·rename_i t m kx x ho
  split at hv
  ·rename_i hd
   cases hrm:ko h m with
   |true=>
    rw [hrm] at hv;obtain ⟨st',h1,hk⟩:=AK hv;exact ⟨st',by simp only [step0,iM,cI,c7,ho,hd];rw [hrm];exact h1,hk⟩
   |false=>
    rw [hrm] at hv;obtain ⟨st',h1,hk⟩:=tN hv;exact ⟨st',by simp only [step0,iM,cI,c7,ho,hd];rw [hrm];exact h1,hk⟩
  ·cases hv
 ·rename_i t m kx ok ho
  cases hrm:(ko h m&& !ok) with
  |true=>
   rw [hrm] at hv;simp only [cond_true] at hv;have hrm':=hrm;simp only [Bool.and_eq_true,Bool.not_eq_true'] at hrm;obtain ⟨hr1,rfl⟩:=hrm;split at hv
   ·rename_i d hd
    obtain ⟨st',h1,hk⟩:=Gv hv;refine ⟨st',?_,hk⟩;have hf:cI P h F o st=none:=by simp only [cI,ho];rw [hrm'];rfl
    simp only [step0,hf,iM,ho,hd];rw [hr1];exact h1
   ·cases hv
  |false=>rw [hrm] at hv;exact YV hv
 ·rename_i t x ho
  split at hv
  ·rename_i d s hd hu hx
   refine ⟨_,?_,hv⟩;simp only [step0,iM,cI,c7,ho,hd,hu,hx]
  ·cases hv
 ·rename_i x ho
  split at hv
  ·rename_i d id hd hx
   split at hv
   ·rename_i s pos cu
    have hf:cI P h F o st=none:=by simp only [cI,c7,ho]
    cases hp:Nat.blt pos s.length with
    |true=>
     rw [hp] at hv;refine ⟨_,?_,hv⟩;have hp':pos<s.length:=by simpa [Nat.blt_eq] using hp
     simp only [step0,hf,iM,ho,hd,hx,cu];rw [if_pos hp']
    |false=>
     rw [hp] at hv;refine ⟨_,?_,hv⟩;have hp':¬pos<s.length:=fun h=>by rw [←Nat.blt_eq] at h;rw [h] at hp;cases hp
     simp only [step0,hf,iM,ho,hd,hx,cu];rw [if_neg hp']
   ·cases hv
  ·cases hv
 ·exact dh hv
 ·exact dh hv
 ·exact dh hv
 ·exact dh hv
 ·exact dh hv
 ·exact dh hv
 ·exact dh hv
 ·exact YV hv
theorem A7 {o:Oper} {st:St} {k:St→Option R} {r:R} (hv:stepT P C h F o st k=some r):∃st',step P h F o st=some st'∧k st'=some r:=by
 unfold stepT at hv;obtain ⟨st1,h1,hv⟩:=dh hv;obtain ⟨st2,h2,hk⟩:=HF hv;exact ⟨st2,by simp only [step,h1,Option.bind_some,h2],hk⟩
theorem A8 {ops:Array Oper} {o:Oper} {st:St} {k:Bool→St→Option R} {r:R} (hv:O0 ops o st k=some r):∃b,j6 ops o st=some b∧k b st=some r:=by
 unfold O0 at hv;unfold j6;split at hv
 ·rename_i hg;exact ⟨true,by simp [hg],hv⟩
 ·rename_i j want hg
  (try simp only [hg])
  split at hv
  ·rename_i d hd
   (try simp only [hd])
   split at hv
   ·rename_i he;exact ⟨want,by simp [he],hv⟩
   ·rename_i he;exact ⟨!want,by simp only [he];cases want<;>rfl,hv⟩
   ·rename_i he;exact ⟨false,by simp [he],hv⟩
   ·cases hv
  ·cases hv
theorem KK {st:St} {d:Nat} {v:SV} (he:st.env d=some v):st.set (some d) v=st:=by
 obtain ⟨env,ob⟩:=st;simp only [St.set,St.mk.injEq,and_true]
 funext i
 by_cases e:d=i
 ·subst e;rw [bH];exact he.symm
 ·rw [aQ _ _ e]
theorem tC {b:Bool} {d:Option Nat} {st:St} {k:St→Option R} {r:R} (hv:DG b d st k=some r):k st=some r:=by
 unfold DG at hv;cases b with
 |false=>exact hv
 |true=>
  simp only [cond_true] at hv;split at hv
  ·rename_i d'
   split at hv
   ·rename_i t he
    cases t with
    |true=>simp only [cond_true] at hv;rwa [KK he] at hv
    |false=>simp only [cond_false] at hv;rwa [KK he] at hv
   ·exact hv
  ·exact hv
theorem ED {ops:Array Oper}:∀{l:List Oper} {i:Nat} {st:St} {k:St→Option R} {r:R},yE P C h F ops i l st k=some r→∃s,kq P h F ops l st=some s∧k s=some r:=by
 intro l
 induction l with
 |nil=>intro i st k r hv;exact ⟨st,rfl,hv⟩
 |cons o l ih=>
  intro i st k r hv;simp only [yE] at hv;obtain ⟨b,hw,hv⟩:=A8 hv;cases b with
  |true=>
   simp only [cond_true] at hv;obtain ⟨st1,hs,hv⟩:=A7 hv;obtain ⟨s,hr,hk⟩:=ih (tC hv);exact ⟨s,by simp [kq,hw,hs,hr],hk⟩
  |false=>
   simp only [cond_false] at hv;obtain ⟨s,hr,hk⟩:=ih hv;exact ⟨s,by simp [kq,hw,hr],hk⟩
theorem Dz {ops:Array Oper}:∀{l:List Oper} {i:Nat} {prev:List (Nat×dF)} {st:St} {k:St→Option R} {r:R},sq P C h F ops i l prev st k=some r→∃s,fO P h F ops i l prev st=some s∧k s=some r:=by
 intro l
 induction l with
 |nil=>intro i prev st k r hv;exact ⟨st,rfl,hv⟩
 |cons o l ih=>
  intro i prev st k r hv;simp only [sq] at hv
  replace hv:=A8 hv
  obtain ⟨b,hw,hv⟩:=hv;cases b with
  |true=>
   simp only [cond_true] at hv;cases hF:(SE h st o&&(tR h o).isEmpty) with
   |true=>
    simp only [hF,cond_true] at hv;obtain ⟨v,hf,hv⟩:=xW hv;obtain ⟨hc,hv⟩:=bz hv;obtain ⟨s,hr,hk⟩:=ih (tC hv);exact ⟨s,by simp only [fO,hw,cond_true,hF,hf,hc];exact hr,hk⟩
   |false=>
    simp only [hF,cond_false] at hv;obtain ⟨st1,hs,hv⟩:=A7 hv;obtain ⟨hc,hv⟩:=bz hv;obtain ⟨s,hr,hk⟩:=ih (tC hv);exact ⟨s,by simp only [fO,hw,cond_true,hF,cond_false,hs,hc];exact hr,hk⟩
  |false=>
   simp only [cond_false] at hv;obtain ⟨hc,hv⟩:=bz hv;obtain ⟨s,hr,hk⟩:=ih hv;exact ⟨s,by simp only [fO,hw,cond_false,hc,cond_true];exact hr,hk⟩
theorem Ga {α:Type} (m:Nat→Option α):∀(l:List Nat) (i:Nat),find (nE m l) i=if i∈l then m i else none:=by
 intro l
 induction l with
 |nil=>intro i;simp [nE,find]
 |cons j l ih=>
  intro i;simp only [nE];cases hj:m j with
  |none=>
   simp only [ih,List.mem_cons];by_cases e:i=j
   ·subst e;simp [hj]
   ·simp [e]
  |some v=>
   simp only [find];cases hb:Nat.beq j i with
   |true=>have:=beq_iff.1 hb;subst this;simp [hj]
   |false=>
    have hne:¬i=j:=fun e=>by subst e;simp [beq_iff.2] at hb
    simp only [cond_false,ih,List.mem_cons,hne,false_or]
theorem Jf (h:Hint) (key:Nat) (st:St):h.canon key (h.canon key st)=h.canon key st:=by
 unfold Hint.canon;split
 ·rename_i vars obs hf
  simp only [St.mk.injEq];constructor<;>(funext i;simp only [Ga];split<;>rfl)
 ·rfl
theorem CQ {key:Nat} {f:St→Option (Ex×St)} {n:Nat} {st:St}:iter h key f n (h.canon key st)=iter h key f n st:=by
 cases n with
 |zero=>rfl
 |succ n=>simp only [iter,Jf]
theorem PR {c:Code} {n m:Nat} (hm:n≤m) {key:Nat}:∀(q:Nat) {q':Nat} {st:St} {x:Ex×St},q≤q'→iter h key (exec P h F n c) q st=some x→iter h key (exec P h F m c) q' st=some x:=by
 intro q
 induction q with
 |zero=>intro q' st x _ hv;simp [iter] at hv
 |succ q ih=>
  intro q' st x hq hv;obtain ⟨V2,rfl⟩:∃V2,q'=V2+1:=⟨q'-1,by omega⟩
  simp only [iter] at hv⊢;split at hv
  ·rename_i st1 hc
   rw [jO hm hc];exact ih (by omega) hv
  ·rename_i hne
   rw [jO hm hv];obtain ⟨e,s⟩:=x;cases e with
   |normal=>exact absurd hv (hne s)
   |exit j=>rfl
   |ret=>rfl
theorem rQ {c:Code} {st:St} {k:Ex→St→Option R} {r:R}:AE P h F c st k=some r↔∃n e st',exec P h F n (.loop c) st=some (e,st')∧k e st'=some r:=by
 constructor
 ·intro hv
  unfold AE at hv;split at hv
  ·rename_i hx
   obtain ⟨n,hn⟩:=hx.choose_spec;exact ⟨n,_,_,hn,hv⟩
  ·cases hv
 ·rintro ⟨n,e,st',hn,hk⟩
  unfold AE;have hx:∃x n,exec P h F n (.loop c) st=some x:=⟨(e,st'),n,hn⟩
  rw [dif_pos hx];obtain ⟨m,hm⟩:=hx.choose_spec;have h1:=jO (Nat.le_max_left n m) hn;have h2:=jO (Nat.le_max_right n m) hm;rw [h1] at h2;injection h2 with h2
  rw [←h2];exact hk
theorem nG:∀{l:List Nat} {st:St} {k:St→Option R} {r:R},vk C l st k=some r→∃st',tu l st=some st'∧k st'=some r
 |[],st,k,r,hv=>⟨st,rfl,hv⟩
 |id::l,st,k,r,hv=>by
  simp only [vk] at hv;split at hv
  ·rename_i kt e sz ks vs cu
   replace hv:=bz hv
   obtain ⟨hown,hv⟩:=hv;obtain ⟨xs,hxs,hv⟩:=yW hv;obtain ⟨st',h1,hk⟩:=nG (TG hv);refine ⟨st',?_,hk⟩;simp only [tu,St.Dl,St.cw,hown,cu,Option.bind_some,Ob.val,hxs,Option.map_some];exact h1
  ·rename_i e sz q e' s' xs ys cu
   replace hv:=bz hv
   obtain ⟨hown,hv⟩:=hv;obtain ⟨zs,hzs,hv⟩:=yW hv;obtain ⟨st',h1,hk⟩:=nG (nq hv);refine ⟨st',?_,hk⟩;simp only [tu,St.Dl,St.cw,hown,cu,Option.bind_some,Ob.val,hzs,Option.map_some];exact h1
  ·split at hv
   ·rename_i st1 hp
    obtain ⟨st',h1,hk⟩:=nG hv;exact ⟨st',by simp only [tu,hp,Option.bind_some];exact h1,hk⟩
   ·cases hv
theorem Kr {id:Nat} {st:St} {k:St→Option R} {r:R} (hv:Uc C h id st k=some r):∃st',h.Ub id st=some st'∧k st'=some r:=by
 unfold Uc at hv;unfold Hint.Ub;split at hv
 ·rename_i l hl
  rw [hl];exact nG hv
 ·rename_i hl
  rw [hl];exact ⟨st,rfl,hv⟩
theorem qM:∀(c:Code) {st:St} {k:Ex→St→Option R} {r:R},jy P C h F c st k=some r→∃n e st',exec P h F n c st=some (e,st')∧k e st'=some r:=by
 intro c
 induction c with
 |skip=>intro st k r hv;exact ⟨0,_,_,rfl,hv⟩
 |label l=>intro st k r hv;exact ⟨0,_,_,rfl,hv⟩
 |exit id=>intro st k r hv;exact ⟨0,_,_,rfl,hv⟩
 |ret=>intro st k r hv;exact ⟨0,_,_,rfl,hv⟩
 |region id ops draw=>
  intro st k r hv;simp only [jy] at hv;obtain ⟨st1,dQ,hv⟩:=Kr hv;cases draw with
  |true=>
   simp only [cond_true] at hv;obtain ⟨hs,hv⟩:=bz hv;obtain ⟨s,hr,hk⟩:=Dz hv;exact ⟨0, .normal,s,by simp only [exec,dQ,Option.bind_some,cond_true,hs,hr,Option.map_some],hk⟩
  |false=>
   simp only [cond_false] at hv;obtain ⟨s,hr,hk⟩:=ED hv;exact ⟨0, .normal,s,by simp [exec,dQ,hr],hk⟩
 |seq x y Oh PO=>
  intro st k r hv;simp only [jy] at hv;cases Br:find h.blk (cE x) with
  |some z=>
   simp only [Br] at hv;obtain ⟨hg,hv⟩:=dR hv;exact ⟨0,_,_,by simp only [exec,Br,hg,cond_true],hv⟩
  |none=>
  simp only [Br] at hv;obtain ⟨n,e,st1,hx,hv⟩:=Oh hv;cases e with
  |normal=>
   obtain ⟨m,e2,st2,hy,hk⟩:=PO (show jy P C h F y st1 k=some r from hv);exact ⟨max n m,e2,st2,by simp only [exec,Br,jO (Nat.le_max_left n m) hx];exact jO (Nat.le_max_right n m) hy,hk⟩
  |exit id=>exact ⟨n,_,st1,by simp only [exec,Br,hx],hv⟩
  |ret=>exact ⟨n,_,st1,by simp only [exec,Br,hx],hv⟩
 |cond c x y Oh PO=>
  intro st k r hv;simp only [jy] at hv;split at hv
  ·rename_i t hc
   cases t with
   |true=>obtain ⟨n,e,st1,hx,hk⟩:=Oh hv;exact ⟨n,e,st1,by simp only [exec,hc,cond_true];exact hx,hk⟩
   |false=>obtain ⟨n,e,st1,hx,hk⟩:=PO hv;exact ⟨n,e,st1,by simp only [exec,hc,cond_false];exact hx,hk⟩
  ·cases hv
 |block id c ih=>
  intro st k r hv;simp only [jy] at hv;obtain ⟨n,e,st1,hx,hv⟩:=ih hv;cases e with
  |normal=>exact ⟨n,_,st1,by simp only [exec,hx],hv⟩
  |ret=>exact ⟨n,_,st1,by simp only [exec,hx],hv⟩
  |exit j=>
   simp only [Lp] at hv;cases hb:Nat.beq j id with
   |true=>simp only [hb,cond_true] at hv;exact ⟨n, .normal,st1,by simp only [exec,hx,hb,cond_true],hv⟩
   |false=>simp only [hb,cond_false] at hv;exact ⟨n, .exit j,st1,by simp only [exec,hx,hb,cond_false],hv⟩
 |loop c ih=>
  intro st k r hv;simp only [jy] at hv;obtain ⟨n,e,st',hx,hk⟩:=rQ.1 hv;refine ⟨n,e,st',?_,hk⟩;simp only [exec] at hx⊢
  rwa [CQ] at hx
 |scope c ih=>
  intro st k r hv;simp only [jy] at hv;obtain ⟨n,e,st1,hx,hk⟩:=ih hv;exact ⟨n,e,st1,by simp only [exec];exact hx,hk⟩
 |rangeFunc f ps x y Oh PO=>intro st k r hv;simp [jy] at hv
 |goto l=>intro st k r hv;simp [jy] at hv
 |refuse s=>intro st k r hv;simp [jy] at hv
theorem JV {c:Code} {st:St} {k:Ex→St→Option R} {r:R} (hv:jy P C h F c (h.canon (cE c) st) (Lb P h F c k)=some r):AE P h F c st k=some r:=by
 obtain ⟨n,e,st1,hx,hk⟩:=qM c hv;cases e with
 |normal=>
  obtain ⟨m,e2,st2,hm,hk2⟩:=rQ.1 (show AE P h F c (h.canon (cE c) st1) k=some r from hk);simp only [exec,CQ] at hm;refine rQ.2 ⟨max n m+1,e2,st2,?_,hk2⟩;simp only [exec,iter];rw [jO (show n≤max n m+1 by omega) hx];exact PR (show m≤max n m+1 by omega) m (by omega) hm
 |exit j=>
  refine rQ.2 ⟨n+1, .exit j,st1,?_,hk⟩;simp only [exec,iter];rw [jO (show n≤n+1 by omega) hx]
 |ret=>
  refine rQ.2 ⟨n+1, .ret,st1,?_,hk⟩;simp only [exec,iter];rw [jO (show n≤n+1 by omega) hx]
end
section
variable {P:Program} {C:iy} {H:Nat→Hint} {dg:cL}
theorem je {f:Nat} {args:List SV} {bT:List (Nat×Ob)} {r:AV×List (Nat×Ob)} (hp:dg f args bT=none) (hv:NM P C H dg f args bT=some r):run P H dg f args bT=some r:=by
 unfold NM at hv;split at hv
 ·rename_i fn hf
  split at hv
  ·rename_i c hb
   obtain ⟨hc,hv⟩:=bz hv;obtain ⟨n,e,st,hx,he⟩:=qM c hv;exact AX hp hf hb hc hx he
  ·cases hv
 ·cases hv
theorem mN {f key:Nat} {names:List Nat} {env:List (Nat×SV)} {ob:List (Nat×Ob)} {r:AV×List (Nat×Ob)} (hv:Hw P C H dg f key names env ob=some r):nR P C H dg f key names env ob=some r:=by
 unfold Hw at hv;unfold nR;split at hv
 ·rename_i fn hf
  (try simp only [hf])
  split at hv
  ·rename_i c hb
   (try simp only [hb])
   split at hv
   ·rename_i cl k hk
    (try simp only [hk])
    exact JV hv
   ·cases hv
  ·cases hv
 ·cases hv
end
section
variable {R:Type}
theorem bY {p:Prop} [Decidable p] (hp:p) (x:Option R):check p x=x:=by unfold check;rw [if_pos hp]
theorem JH {α:Type} {xs:List α} {i:Int} {x:α} (h0:0≤i) (hx:xs[i.toNat]? =some x) (k:α→Option R):bS xs i k=k x:=by unfold bS;rw [if_pos h0,hx]
theorem eo {α:Type} {xs:List α} {i:Nat} {x:α} (hx:xs[i]? =some x) (k:α→Option R):bS xs (i:Int) k=k x:=JH (by omega) (by simpa using hx) k
theorem gq {α:Type} {xs:List α} {i:Nat} {x:α} (hx:xs[i]? =some x) (k:α→Option R):ec xs i k=k x:=by unfold ec;rw [hx]
theorem Pd {c:Option (AV×List (Nat×Ob))} {r:AV} (hc:c=some (r,[])) (k:AV→Option R):pQ c k=k r:=by subst hc;unfold pQ;rfl
theorem Pe {c:Option (AV×List (Nat×Ob))} {nm e sz:Nat} {r:AV} {xs:List (List AV)} (hc:c=some (r,[(nm, .row e sz xs)])) (k:AV→List (List AV)→Option R):Ci c nm e sz k=k r xs:=by
 subst hc;unfold Ci;simp [beq_iff.2]
theorem UN {α T:Type} {enc:T→α} (inj:∀a b,enc a=enc b→a=b) (d:T) (k:T→Option R):cD enc (enc d) k=k d:=by
 unfold cD;have hx:∃x,enc x=enc d:=⟨d,rfl⟩
 rw [dif_pos hx,inj _ _ hx.choose_spec]
end
end Go.AM
