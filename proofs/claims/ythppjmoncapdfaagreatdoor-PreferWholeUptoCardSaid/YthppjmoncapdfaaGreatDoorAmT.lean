/- THE ABSTRACT MACHINE, TYPED. -/
import Derived.Test.YthppjmoncapdfaaGreatDoorAmFin
set_option linter.all false
namespace Go.AM
open Go.RowKit
structure FF where
 T:Type
 enc:T→List AV
structure sk where
 T:Type
 enc:T→AV
def BB {α:Type 1}:List (Nat×α)→Nat→Option α
 |[],_=>none
 |(j,v)::l,i=>cond (Nat.beq j i) (some v) (BB l i)
structure mG where
 elem:TypeId→Option FF
 val:TypeId→Option sk
 res:Nat→Option sk
 ptr:Option FF:=none
def Tc {T:Type} (enc:T→List AV):Option T→AV
 |some x=> .ref (enc x)
 |none=> .DZ
def dY (K V:sk) (l:List (K.T×V.T)):List AV×List AV:=(l.map fun p=>K.enc p.1,l.map fun p=>V.enc p.2)
section
variable {R:Type}
@[irreducible] def check (p:Prop) [Decidable p] (x:Option R):Option R:=if p then x else none
@[irreducible] def bw {α:Type} (xs:List α) (i:Int) (k:α→Option R):Option R:=
 if 0≤i then match xs[i.toNat]? with
  |some x=>k x
  |none=>none
 else none
@[irreducible] def gj {α:Type} (xs:List α) (i:Nat) (k:α→Option R):Option R:=
 match xs[i]? with
 |some x=>k x
 |none=>none
@[irreducible] def wQ (c:Option (AV×List (Nat×Ob))) (k:AV→Option R):Option R:=
 match c with
 |some (r,[])=>k r
 |_=>none
@[irreducible] def Iv (c:Option (AV×List (Nat×Ob))) (nm e sz:Nat) (k:AV→List (List AV)→Option R):Option R:=
 match c with
 |some (r,[(V7, .row e' sz' xs)])=>bif Nat.beq nm V7&&Nat.beq e e'&&Nat.beq sz sz' then k r xs else none
 |_=>none
@[irreducible] def LC (x:Option (Option AV)) (k:AV→Option R) (z:Option R):Option R:=
 match x with
 |some (some v)=>k v
 |some none=>z
 |none=>none
@[irreducible] def Uq (x:Option (List AV×List AV)) (k:List AV×List AV→Option R):Option R:=
 match x with
 |some p=>k p
 |none=>none
@[irreducible] noncomputable def s9 {α T:Type} (enc:T→α) (c:α) (k:T→Option R):Option R:=
 open Classical in if hx : ∃ d, enc d = c then k hx.choose else none
@[irreducible] def vM (c:Option (AV×List (Nat×Ob))) (k:AV→List (Nat×Ob)→Option R):Option R:=
 match c with
 |some (r,l)=>k r l
 |none=>none
@[irreducible] def oy (nm:Nat) (l:List (Nat×Ob)) (k:Ob→List (Nat×Ob)→Option R):Option R:=
 match l with
 |(V7,o)::l=>bif Nat.beq nm V7 then k o l else none
 |[]=>none
@[irreducible] def Np (l:List (Nat×Ob)) (k:Option R):Option R:=
 match l with
 |[]=>k
 |_=>none
@[irreducible] noncomputable def Ej (o o':Ob) (k:Option R):Option R:=open Classical in if o=o' then k else none
@[irreducible] def Po (e sz:Nat) (o:Ob) (k:List (List AV)→Option R):Option R:=
 match o with
 | .row e' sz' xs=>bif Nat.beq e e'&&Nat.beq sz sz' then k xs else none
 |_=>none
@[irreducible] def Pn (kt et:Nat) (o:Ob) (k:List AV×List AV→Option R):Option R:=
 match o with
 | .mp k' e' ks vs=>bif Nat.beq kt k'&&Nat.beq et e' then k (ks,vs) else none
 |_=>none
@[irreducible] def Zg (o:Ob) (k:List AV→Option R):Option R:=
 match o with
 | .lp xs=>k xs
 |_=>none
@[irreducible] def Ym (a:AV) (k:List AV→Option R):Option R:=
 match a with
 | .ref cs=>k cs
 |_=>none
@[irreducible] def hasK (x:Option (Option Nat)) (k:Bool→Option R):Option R:=
 match x with
 |some r=>k r.isSome
 |none=>none
@[irreducible] def SH (x:Option (List UInt8)) (k:List UInt8→Option R):Option R:=
 match x with
 |some b=>k b
 |none=>none
def ab0 (key:AV) (ks:List AV) (vs:List (Option (List (List AV)))):Option (List (List AV)×List (Option (List (List AV)))):=
 match qb key ks with
 |some (some i)=>match vs[i]? with
  |some (some xs)=>some (xs,vs.set i none)
  |_=>none
 |some none=>some ([],vs)
 |none=>none
@[irreducible] def acF (x:Option (List (List AV)×List (Option (List (List AV))))) (k:List (List AV)→List (Option (List (List AV)))→Option R):Option R:=
 match x with
 |some p=>k p.1 p.2
 |none=>none
@[irreducible] def Wq (x:Option (List AV×List (Option (List (List AV))))) (k:List AV×List (Option (List (List AV)))→Option R):Option R:=
 match x with
 |some p=>k p
 |none=>none
@[irreducible] def Su (x:Option (List (List (List AV)))) (k:List (List (List AV))→Option R):Option R:=
 match x with
 |some l=>k l
 |none=>none
@[irreducible] def Ri (ys:List (Option (List (List AV)))) (i:Nat) (k:List (List AV)→Option R):Option R:=
 match ys[i]? with
 |some (some zs)=>k zs
 |_=>none
def IJ (K:sk) (E:FF) (l:List (K.T×Option (List E.T))):List AV×List (Option (List (List AV))):=(l.map fun p=>K.enc p.1,l.map fun p=>p.2.map (List.map E.enc))
def qc {α:Type} (c:Option α) (k:α→Option R):Option R:=
 match c with
 |some r=>k r
 |none=>none
noncomputable def PW (C:mG) (e:TypeId) (c:List AV) (k:List AV→Option R):Option R:=
 match C.elem e with
 |some d=>s9 d.enc c fun x=>k (d.enc x)
 |none=>k c
noncomputable def NS (C:mG) (e:TypeId) (c:List (List AV)) (k:List (List AV)→Option R):Option R:=
 match C.elem e with
 |some d=>s9 (List.map d.enc) c fun x=>k (x.map d.enc)
 |none=>k c
noncomputable def valK (C:mG) (t:TypeId) (c:AV) (k:AV→Option R):Option R:=
 match C.val t with
 |some d=>s9 d.enc c fun x=>k (d.enc x)
 |none=>k c
noncomputable def abO (C:mG) (kt et:TypeId) (p:List AV×List AV) (k:List AV×List AV→Option R):Option R:=
 match C.val kt,C.val et with
 |some K,some V=>s9 (dY K V) p fun l=>k (dY K V l)
 |_,_=>k p
noncomputable def mrK (C:mG) (kt e:TypeId) (p:List AV×List (Option (List (List AV)))) (k:List AV×List (Option (List (List AV)))→Option R):Option R:=
 match C.val kt,C.elem e with
 |some K,some E=>s9 (IJ K E) p fun l=>k (IJ K E l)
 |_,_=>k p
noncomputable def QX (C:mG) (e:TypeId) (ys:List (Option (List (List AV)))) (k:List (Option (List (List AV)))→Option R):Option R:=
 match C.elem e with
 |some d=>s9 (List.map (Option.map (List.map d.enc))) ys fun y=>k (y.map (Option.map (List.map d.enc)))
 |none=>k ys
noncomputable def mpK (C:mG) (kt e:TypeId) (sz:Nat) (p:List AV×List AV) (k:List AV×List AV→Option R):Option R:=
 match C.val kt,C.elem e with
 |some K,some E=>s9 (dY K ⟨List E.T,fun x=> .eH sz (x.map E.enc)⟩) p fun l=>k (dY K ⟨List E.T,fun x=> .eH sz (x.map E.enc)⟩ l)
 |_,_=>k p
noncomputable def UB (C:mG) (o o':Ob) (k:Ob→Option R):Option R:=
 match o with
 | .row e sz _=>Po e sz o' fun xs=>NS C e xs fun xs=>k (.row e sz xs)
 | .mp kt et _ _=>Pn kt et o' fun p=>abO C kt et p fun p=>k (.mp kt et p.1 p.2)
 | .lp _=>Zg o' fun xs=>k (.lp xs)
 |o=>Ej o' o (k o)
@[irreducible] def asBox (t:TypeId) (o:Ob) (k:List AV→Option R):Option R:=
 match o with
 | .box t' cells=>match om cells with
  |some cs=>bif Nat.beq t t' then k cs else none
  |none=>none
 |_=>none
noncomputable def boxK (C:mG) (o o':Ob) (k:Ob→Option R):Option R:=
 match o with
 | .box t _=>asBox t o' fun cs=>match C.elem t with
  |some d=>s9 d.enc cs fun x=>k (.box t ((d.enc x).map .pv))
  |none=>none
 |_=>none
noncomputable def IG (C:mG) (keep bx:List Nat):List (Nat×Ob)→List (Nat×Ob)→(List (Nat×Ob)→Option R)→Option R
 |[],l',k=>Np l' (k [])
 |(nm,o)::l,l',k=>oy nm l' fun o' l''=>bif keep.contains nm then Ej o' o (IG C keep bx l l'' fun os=>k ((nm,o)::os)) else bif bx.contains nm then boxK C o o' fun o2=>IG C keep bx l l'' fun os=>k ((nm,o2)::os) else UB C o o' fun o2=>IG C keep bx l l'' fun os=>k ((nm,o2)::os)
noncomputable def K6 (C:mG) (g:Nat) (c:AV) (k:AV→Option R):Option R:=
 match C.res g with
 |some d=>s9 d.enc c fun x=>k (d.enc x)
 |none=>k c
noncomputable def S0 (C:mG) (a:AV) (k:AV→Option R):Option R:=
 Ym a fun cs=>match C.ptr with
  |some d=>s9 d.enc cs fun x=>k (.ref (d.enc x))
  |none=>k (.ref cs)
def wu (lo:Option SV) (dflt:Nat) (hi:Nat) (k:Nat→Option R):Option R:=
 match lo with
 |none=>k dflt
 |some (.pv (.int _ i))=>check (0≤i∧i≤hi) (k i.toNat)
 |some _=>none
noncomputable def zR:List (Nat×Ob)→List (Nat×Ob)→Option R→Option R
 |[],l',k=>Np l' k
 |(nm,o)::l,l',k=>oy nm l' fun o' l''=>Ej o' o (zR l l'' k)
noncomputable def Mm (P:Program) (C:mG) (h:Hint) (F:dQ) (st:St) (c:Call) (f:Operand) (k:AV→Option R):Option R:=
 match tW P h st c f with
 |some (g,args)=>
  bif distinct (lg st args)&&Nat.blt (lg st args).length 10000&&args.all (SV.closed (lg st args)) then
   match lU st (lg st args) (qS (jK (lg st args))) (jK (lg st args)) with
   |some cD=>vM (F g (args.map (SV.tL (qS (jK (lg st args))))) cD) fun r l=>zR cD l (K6 C g r fun r=>bif r.kN then k r else none)
   |none=>none
  else none
 |none=>none
noncomputable def abN (C:mG) (st:St) (v:SV) (k:AV→Option R):Option R:=
 match v with
 | .at id (.nr i)=>match st.ob id with
  |some (.rn _ _ _ e' s' _ ys)=>Ri ys i fun zs=>NS C e' zs fun zs=>k (.eH s' zs)
  |_=>none
 | .ag [.r id]=>match st.ob id with
  |some (.rn e sz q _ s' xs ys)=>Su (pO ys) fun l=>NS C e (wL q s' xs l) fun m=>k (.agg [.eH sz m])
  |_=>qc (mK st v) k
 |v=>qc (mK st v) k
noncomputable def DV (P:Program) (C:mG) (st:St):List Operand→List TypeId→(List AV→Option R)→Option R
 |[],_,k=>k []
 |x::xs,ts,k=>match bq P (ts.headD 0) st x with
  |some v=>abN C st v fun a=>DV P C st xs ts.tail fun l=>k (a::l)
  |none=>none
noncomputable def u7 (P:Program) (C:mG) (h:Hint) (F:dQ) (o:Oper) (st:St) (k:SV→Option R):Option R:=
 match o.op with
 | .pick c a b=>match bq P 0 st c with
  |some (.pv (.bool t))=>bif t then qc (bq P o.type st a) k else qc (bq P o.type st b) k
  |_=>none
 | .nilCheck x=>match bq P 0 st x with
  |some (.pv a)=>S0 C a fun a=>k (.pv a)
  |_=>qc (e9 P o st) k
 | .indexAddr t x ix=>match P.underlying t with
  |some (.array n e)=>qc (Cm P st n e x ix) k
  |_=>match isSlice P t,bq P t st x,bq P 0 st ix with
  |some (e,s),some (.pv (.eH sz xs)),some (.pv (.int _ i))=>bif Nat.beq s sz then bw xs i fun c=>PW C e c fun c=>k (.cp c) else none
  |some (_,s),some (.row id),some (.pv (.int _ i))=>match st.ob id with
   |some (.row _ sz xs)=>bif Nat.beq s sz then check (0≤i∧i.toNat<xs.length) (k (.rp id sz i.toNat 0)) else none
   |some (.rn _ sz _ _ _ xs _)=>bif Nat.beq s sz then check (0≤i∧i.toNat<xs.length) (k (.rp id sz i.toNat 0)) else none
   |_=>none
  |some (_,s),some (.sub id sz lo hi),some (.pv (.int _ i))=>bif Nat.beq s sz then check (0≤i∧i.toNat<hi-lo) (k (.rp id sz (lo+i.toNat) 0)) else none
  |_,_,_=>none
 | .index t x ix=>match P.underlying t,bq P t st x,bq P 0 st ix with
  |some .string,some (.pv (.str s)),some (.pv (.int _ i))=>bw s i fun b=>k (.pv (.int .u8 b.toNat))
  |_,_,_=>none
 | .load t x=>bif o.dst.any h.take.contains then none else match bq P 0 st x with
  |some (.rp id sz i off)=>match st.ob id with
   |some (.row e sz' xs)=>bif Nat.beq sz sz' then gj xs i fun c=>PW C e c fun c=>qc (iS P t (c.drop off)) fun v=>k (.pv v) else none
   |some (.rn _ sz' q _ _ xs _)=>bif Nat.beq sz sz'&&Nat.beq off q&&(CP P t==some false) then check (i<xs.length) (k (.at id (.nr i))) else none
   |_=>none
  |_=>qc (e9 P o st) k
 | .binOp op t x y _=>match (bq P t st x).bind iW,(bq P t st y).bind iW with
  |some (.int ka a),some (.int kb b)=>match op with
   | .quo=>bif ka==kb then check (b≠0) (k (.pv (.int ka (ka.wrap (a.tdiv b))))) else none
   | .rem=>bif ka==kb then check (b≠0) (k (.pv (.int ka (a.tmod b)))) else none
   | .shl=>check (0≤b) (k (.pv (.int ka (ka.wrap (a *2^ min b.toNat ka.bits)))))
   | .shr=>check (0≤b) (k (.pv (.int ka (a.fdiv (2^ min b.toNat ka.bits)))))
   |_=>qc (e9 P o st) k
  |some (.str a),some (.str b)=>match op with
   | .add=>check (a.length+b.length≤9223372036854775807) (k (.pv (.str (a++b))))
   |_=>qc (e9 P o st) k
  |_,_=>qc (e9 P o st) k
 | .slice t x lo hi none=>match P.underlying t,bq P t st x,nG P st lo,nG P st hi with
  |some .string,some (.pv (.str s)),some lo,some hi=>wu hi s.length s.length fun h=>wu lo 0 h fun l=>k (.pv (.str ((s.take h).drop l)))
  |some (.slice _),some (.pv (.eH sz xs)),some lo,some hi=>match isSlice P t with
   |some (_,s)=>bif Nat.beq s sz then wu hi xs.length xs.length fun h=>wu lo 0 h fun l=>k (.pv (.eH sz ((xs.take h).drop l))) else none
   |none=>none
  |some (.slice _),some (.row id),some lo,some hi=>match isSlice P t,st.ob id with
   |some (_,s),some (.row _ sz xs)=>bif Nat.beq s sz then wu hi xs.length xs.length fun h=>wu lo 0 h fun l=>k (.sub id sz l h) else none
   |_,_=>none
  |some (.slice _),some (.sub id sz a b),some lo,some hi=>match isSlice P t with
   |some (_,s)=>bif Nat.beq s sz then wu hi (b-a) (b-a) fun h=>wu lo 0 h fun l=>k (.sub id sz (a+l) (a+h)) else none
   |none=>none
  |_,_,_,_=>none
 | .slice t x none (some hi) (some mx)=>match bq P t st x with
  |some (.row id)=>match st.ob id,isSlice P t,bq P 0 st hi,bq P 0 st mx with
   |some (.row _ sz xs),some (_,s),some (.pv (.int _ a)),some (.pv (.int _ b))=>bif Nat.beq s sz then check (a=(xs.length:Int)∧b=(xs.length:Int)) (k (.at id .full)) else none
   |_,_,_,_=>none
  |_=>none
 | .convert src dst x=>match P.underlying src,P.underlying dst with
  |some (.slice e),some .string=>match P.underlying e,lq P e,(bq P src st x).bind (elems st) with
   |some (.int .u8),some 1,some (1,xs)=>SH (bytesOf xs) fun b=>k (.pv (.str b))
   |_,_,_=>none
  |_,_=>qc (e9 P o st) k
 | .lookup t x kx ok=>bif qj h x&& !ok then none else match P.underlying t with
  |some (.map kt et)=>match (bq P t st x).bind (F7 st),(bq P kt st kx).bind iW with
   |some ks,some key=>bif ok&&jO P kt key&&(qa P et).isSome then hasK (qb key ks) fun b=>k (.two .any b) else none
   |_,_=>match (bq P t st x).bind (maps st),(bq P kt st kx).bind iW with
   |some (ks,vs),some key=>bif jO P kt key then LC (Ua key ks vs) (fun v=>valK C et v fun v=>k (.pv (found ok v true))) (qc (qa P et) fun z=>k (.pv (found ok z false))) else none
   |_,_=>none
  |_=>none
 | .call c=>match c.callee with
  | .value f=>bif o.dst.any h.owns.contains then none else bif o.dst.any h.stay.contains&&wide st c f then Mm P C h F st c f fun r=>k (.pv r) else
   bif wide st c f||c.args.toList.any (fun x=>(oK h st x).isSome) then none else
   bif c.args.toList.any (vC st) then
    match bq P 0 st f with
    |some (.pv (.fn g caps))=>DV P C st c.args.toList c.argTypes.toList fun vs=>wQ (F g ((vs++caps).map .pv) []) fun r=>K6 C g r fun r=>bif r.plain&&r.kN then k (.pv r) else none
    |_=>none
   else
   match bq P 0 st f,jI P st c.args.toList c.argTypes.toList with
   |some (.pv (.fn g caps)),some vs=>wQ (F g ((vs++caps).map .pv) []) fun r=>K6 C g r fun r=>bif (!(c.args.toList.any (kT st))||r.plain)&&r.kN then k (.pv r) else none
   |_,_=>none
  |_=>qc (xm P c st) k
 |_=>qc (ec P h F o st) k
noncomputable def Bb (P:Program) (C:mG) (st:St) (t:TypeId) (m kx x:Operand) (k:St→Option R):Option R:=
 match P.underlying t with
 |some (.map kt et)=>match TV P st et x with
  |some st'=>match bq P t st' m,(bq P kt st' kx).bind iW,(bq P et st' x).bind iW with
   |some (.row id),some key,some v=>match st'.ob id with
    |some (.mp k' e' ks vs)=>bif jO P kt key&&v.Gd then
      Uq (Cr key v ks vs) fun p=>abO C kt et p fun p=>k { st' with ob:=put st'.ob id (some (.mp k' e' p.1 p.2)) }
     else none
    |_=>none
   |_,_,_=>none
  |none=>none
 |_=>none
noncomputable def Cp (P:Program) (C:mG) (st:St) (t:TypeId) (m kx:Operand) (k:St→Option R):Option R:=
 match P.underlying t with
 |some (.map kt et)=>match bq P t st m,(bq P kt st kx).bind iW with
  |some (.row id),some key=>match st.ob id with
   |some (.mp k' e' ks vs)=>bif jO P kt key then
     Uq (mdel key ks vs) fun p=>abO C kt et p fun p=>k { st with ob:=put st.ob id (some (.mp k' e' p.1 p.2)) }
    else none
   |_=>none
  |_,_=>none
 |_=>none
noncomputable def Ue (P:Program) (C:mG) (st:St) (t:TypeId) (m kx:Operand) (d:Nat) (k:St→Option R):Option R:=
 match LH P st t m kx with
 |some (et,id,key,k',e,sz,ks,vs)=>bif Nat.beq id d then none else match qa P et,isSlice P et with
  |some (.eH _ []),some (e',s)=>bif Nat.beq e e'&&Nat.beq s sz&&Nat.blt 0 s then
    acF (ab0 key ks vs) fun xs vs'=>NS C e xs fun xs=>mrK C k' e (ks,vs') fun p=>
     k ((St.new { st with ob:=put st.ob id (some (.mr k' e sz p.1 p.2)) } d (.row e sz xs)).set (some d) (.row d))
   else none
  |_,_=>none
 |none=>none
noncomputable def V1 (P:Program) (C:mG) (st:St) (t:TypeId) (m kx x:Operand) (k:St→Option R):Option R:=
 match LH P st t m kx with
 |some (et,id,key,k',e,sz,ks,vs)=>match x with
  | .const (.slice none 0 0)=>match isSlice P et with
   |some (e',s)=>bif Nat.beq e e'&&Nat.beq s sz&&Nat.blt 0 s then
     Wq (Cr key (some []) ks vs) fun p=>mrK C k' e p fun p=>k { st with ob:=put st.ob id (some (.mr k' e sz p.1 p.2)) }
    else none
   |none=>none
  |x=>match bq P et st x with
   |some (.row j)=>match st.ob j with
    |some (.row e' s xs)=>bif Nat.beq e e'&&Nat.beq s sz&&Nat.blt j 10000 then
      Wq (Cr key (some xs) ks vs) fun p=>mrK C k' e p fun p=>k { (st.dm j) with ob:=put (st.dm j).ob id (some (.mr k' e sz p.1 p.2)) }
     else none
    |_=>none
   |_=>none
 |none=>none
noncomputable def EU (P:Program) (C:mG) (h:Hint) (F:dQ) (st:St) (c:Call) (f:Operand) (d:Option Nat) (k:St→Option R):Option R:=
 match (bq P 0 st f).bind fnSV,tM P h st c.args.toList c.argTypes.toList with
 |some (g,pre,caps),some vs=>
  let args:=pre++(vs++caps)
  let ids:=kL st 200 (args.flatMap SV.ids) []
  let mv:=lV (d.any h.stay.contains) st (qi args)
  let m:=jW mv 0 ids
  let names:=m.map (·.2)
  let ρ:=qS m
  bif distinct ids&&Nat.blt ids.length 10000&&args.all (SV.closed ids) then
   match lU st ids ρ m with
   |some cD=>vM (F g (args.map (SV.tL ρ)) cD) fun r l=>IG C ((m.filter fun p=>h.keep.contains p.1).map (·.2)) ((m.filter fun p=>h.bx.contains p.1).map (·.2)) cD l fun gm=>K6 C g r fun r=>match oq names (qS (swap m)) m gm with
    |some back=>bif r.kN then
      let st1:=kQ (ids.filter mv) st
      k (St.set { env:=st1.env,ob:=fun i=>(find back i).orElse fun _=>st1.ob i } d (.pv r)) else none
    |none=>none
   |none=>none
  else none
 |_,_=>none
noncomputable def Iu (P:Program) (C:mG) (h:Hint) (F:dQ) (st:St) (c:Call) (f:Operand) (d:Option Nat) (k:St→Option R):Option R:=
 match d with
 |some d=>match bq P 0 st f,rQ P (w8 h d).isSome st c.args.toList c.argTypes.toList with
  |some (.pv (.fn g caps)),some vs=>wQ (F g ((vs++caps).map .pv) []) fun r=>K6 C (bif (w8 h d).isSome then g+1000000 else g) r fun r=>match r with
   | .mu [.mu [.self e, .eH sz xs]]=>bif (w8 h d).isSome then none else k ((st.new d (.row e sz xs)).set (some d) (.row d))
   | .agg cs=>match w8 h d with
    |some []=>k (st.set (some d) (.pv (.agg cs)))
    |some l=>match sQ cs l with
     |some ks=>bif l.all (fun x=>Nat.blt x.1 10000) then k ((uF h.nest l st).set (some d) (.ag ks)) else none
     |none=>none
    |none=>none
   |_=>none
  |_,_=>none
 |none=>none
noncomputable def Kw (P:Program) (C:mG) (st:St) (t:TypeId) (x:Operand) (d:Nat) (k:St→Option R):Option R:=
 match bq P 0 st x,CP P t with
 |some (.rp id sz i off),some false=>match st.ob id with
  |some (.rn e sz' q e' s' xs ys)=>bif Nat.beq sz sz'&&Nat.beq off q&& !(Nat.beq id d)&&Nat.blt id 10000 then
    Ri ys i fun zs=>NS C e' zs fun zs=>QX C e' (ys.set i none) fun ys=>
     k ((St.new { st with ob:=put st.ob id (some (.rn e sz' q e' s' xs ys)) } d (.row e' s' zs)).set (some d) (.row d))
   else none
  |_=>none
 |_,_=>none
noncomputable def Up (P:Program) (C:mG) (st:St) (t:TypeId) (id sz i off j:Nat) (k:St→Option R):Option R:=
 match CP P t,lq P t,st.ob id,st.ob j with
 |some false,some 1,some (.rn e sz' q e' s' xs ys),some (.row e2 s2 zs)=>
  bif Nat.beq sz sz'&&Nat.beq off q&&Nat.blt id 10000&&Nat.blt j 10000&&Nat.beq e' e2&&Nat.beq s' s2&& !(Nat.beq id j) then
   check (i<ys.length) (QX C e' (ys.set i (some zs)) fun ys=>k { (st.dm j).dm (id+40000) with ob:=put ((st.dm j).dm (id+40000)).ob id (some (.rn e sz' q e' s' xs ys)) })
  else none
 |_,_,_,_=>none
noncomputable def UD (P:Program) (C:mG) (h:Hint) (F:dQ) (o:Oper) (st:St) (k:St→Option R):Option R:=
 match o.op with
 | .makeSlice t l c=>match o.dst,isSlice P t,(bq P 0 st l).bind iW,(bq P 0 st c).bind iW with
  |some d,some (e,s),some (.int _ l),some (.int _ c)=>match zeroCells P e,P.info? e with
   |some z,some i=>bif Nat.blt 0 s&&Nat.beq z.length s then check (0≤l∧l≤c∧i.bytes *c.toNat≤281474976710656∧c≤9223372036854775807)
     (k ((st.new d (.row e s (List.replicate l.toNat z))).set (some d) (.row d))) else none
   |_,_=>none
  |_,_,_,_=>none
 | .store t x y=>match o.dst,bq P 0 st x,bq P t st y with
  |none,some (.rp id sz i off),some (.pv v)=>match st.ob id,lq P t with
   |some (.row e sz' xs),some n=>bif Nat.beq sz sz'&&Nat.beq v.cells.length n&&v.Gd then
     gj xs i fun c=>PW C e c fun c=>bif Nat.ble (off+n) c.length then k { st with ob:=put st.ob id (some (.row e sz' (xs.set i (c.take off++v.cells++c.drop (off+n))))) } else none
    else none
   |_,_=>none
  |none,some (.rp id sz i off),some (.row j)=>Up P C st t id sz i off j k
  |none,some (.ptr id off),some (.sub j sz 0 n)=>qc (Vh P st t id off j sz n) k
  |none,some a,some v=>qc (storeAt P t st a v) k
  |_,_,_=>none
 | .load t x=>bif o.dst.any h.take.contains then
   match o.dst with
   |some d=>Kw P C st t x d k
   |none=>none
  else u7 P C h F o st fun v=>k (st.set o.dst v)
 | .call c=>match c.callee with
  | .builtin .append=>match o.dst,c.args.toList,c.argTypes.toList with
   |some d,[x,y],[t,t']=>match isSlice P t,bq P t st x,bq P t' st y with
    |some (e,s),some (.row id),some y=>match st.ob id,elems st y,P.info? e with
     |some (.row e' sz xs),some (sz',ys),some i=>
      bif Nat.beq t t'&&Nat.beq e e'&&Nat.beq s sz&&Nat.beq sz sz'&&Nat.blt 0 sz&&(i.zero.map (fun z=>z.cells.size)==some sz)&&iT id then
       check ((xs.length+ys.length) *i.bytes≤140737488355328∧xs.length+ys.length≤4611686018427387904) (k ((st.new id (.row e sz (xs++ys))).set (some d) (.row id)))
      else none
     |some (.rn e' sz q e2 s2 xs zs),some (sz',ys),some i=>
      bif Nat.beq t t'&&Nat.beq e e'&&Nat.beq s sz&&Nat.beq sz sz'&&Nat.blt 0 sz&&(i.zero.map (fun z=>z.cells.size)==some sz)&&iT id&&ys.all (qz q) then
       check ((xs.length+ys.length) *i.bytes≤140737488355328∧xs.length+ys.length≤4611686018427387904) (QX C e2 (zs++ys.map fun _=>some []) fun zs=>
        k ((st.new id (.rn e sz q e2 s2 (xs++ys.map fun c=>c.set q .hole) zs)).set (some d) (.row id)))
      else none
     |_,_,_=>none
    |some (e,s),some (.at id .full),some y=>match st.ob id,elems st y,P.info? e with
     |some (.row e' sz xs),some (sz',ys),some i=>
      bif Nat.beq t t'&&Nat.beq e e'&&Nat.beq s sz&&Nat.beq sz sz'&&Nat.blt 0 sz&&(i.zero.map (fun z=>z.cells.size)==some sz)&&iT id&& !ys.isEmpty then
       check ((xs.length+ys.length) *i.bytes≤140737488355328∧xs.length+ys.length≤4611686018427387904) (k ((st.new id (.row e sz (xs++ys))).set (some d) (.row id)))
      else none
     |_,_,_=>none
    |_,_,_=>none
   |_,_,_=>none
  | .builtin .delete=>match o.dst,c.args.toList,c.argTypes.toList with
   |none,[m,kx],t::_=>Cp P C st t m kx k
   |_,_,_=>none
  | .builtin .clear=>match o.dst,c.args.toList,c.argTypes.toList with
   |none,[x],[t]=>match isSlice P t,bq P t st x with
    |some (e,s),some (.sub id sz lo hi)=>match st.ob id,zeroCells P e with
     |some (.row e' sz' xs),some z=>bif Nat.beq s sz&&Nat.beq sz sz'&&Nat.beq z.length sz&&Nat.beq e e'&&Nat.blt 0 sz then
       check (hi≤xs.length) (k { st with ob:=put st.ob id (some (.row e' sz' (xs.take lo++List.replicate (hi-lo) z++xs.drop hi))) }) else none
     |_,_=>none
    |_,_=>none
   |_,_,_=>none
  | .value f=>bif o.dst.any h.owns.contains then Iu P C h F st c f o.dst k else bif o.dst.any h.stay.contains&&wide st c f then u7 P C h F o st fun v=>k (st.set o.dst v) else bif wide st c f then EU P C h F st c f o.dst k else bif c.args.toList.any (fun x=>(oK h st x).isSome) then
    match bq P 0 st f,Ba P h st c.args.toList c.argTypes.toList with
    |some (.pv (.fn g caps)),some (vs,[id])=>match st.ob id with
     |some (.row e sz xs)=>Iv (F g (vs++caps.map .pv) [(10000, .row e sz xs)]) 10000 e sz fun r xs'=>K6 C g r fun r=>NS C e xs' fun xs'=>match r with
       | .self n=>bif iT id then check (n≤xs'.length) (k ((st.new id (.row e sz (xs'.take n))).set o.dst (.row id))) else none
       |r=>bif r.plain then k (St.set { st with ob:=put st.ob id (some (.row e sz xs')) } o.dst (.pv r)) else none
     |_=>none
    |_,_=>none
   else bif c.args.toList.any (vC st) then u7 P C h F o st fun v=>k (st.set o.dst v)
   else bif c.args.toList.any (kT st) then
    match bq P 0 st f,jI P st c.args.toList c.argTypes.toList with
    |some (.pv (.fn g caps)),some vs=>wQ (F g ((vs++caps).map .pv) []) fun r=>K6 C g r fun r=>bif r.plain&&r.kN then k (st.set o.dst (.pv r)) else
      match mS.jv st c.args.toList with
      |some st'=>match bq P 0 st' f,jI P st' c.args.toList c.argTypes.toList with
       |some (.pv (.fn g' Vc)),some vs'=>bif c.args.toList.any (kT st') then none else wQ (F g' ((vs'++Vc).map .pv) []) fun r=>K6 C g' r fun r=>bif r.kN then k (st'.set o.dst (.pv r)) else none
       |_,_=>none
      |none=>none
    |_,_=>none
   else u7 P C h F o st fun v=>k (st.set o.dst v)
  |_=>u7 P C h F o st fun v=>k (st.set o.dst v)
 | .mapUpdate t m kx x=>match o.dst with
  |none=>bif qj h m then V1 P C st t m kx x k else Bb P C st t m kx x k
  |some _=>none
 | .insert t m kx x=>match o.dst with
  |none=>bif qj h m then V1 P C st t m kx x k else Bb P C st t m kx x k
  |some _=>none
 | .lookup t m kx ok=>bif qj h m&& !ok then
   match o.dst with
   |some d=>Ue P C st t m kx d k
   |none=>none
  else u7 P C h F o st fun v=>k (st.set o.dst v)
 | .range t x=>match o.dst,P.underlying t,(bq P t st x).bind iW with
  |some d,some .string,some (.str s)=>k ((st.new d (.it s 0)).set (some d) (.ptr d 0))
  |_,_,_=>none
 | .next x true=>match o.dst,bq P 0 st x with
  |some d,some (.ptr id 0)=>match st.ob id with
   |some (.it s pos)=>bif Nat.blt pos s.length then
     k (St.set { st with ob:=put st.ob id (some (.it s (pos+(Utf8.decode ⟨s.toArray⟩ pos).2))) } (some d) (.pv (.mu [.bool true, .int .i64 pos, .int .i32 (Utf8.decode ⟨s.toArray⟩ pos).1])))
    else k (st.set (some d) (.pv (.mu [.bool false])))
   |_=>none
  |_,_=>none
 | .assign _| .buildSlice _ _ _| .box _ _| .alloc _| .makeMap _ _| .makeFunc _ _ _| .build _ _=>qc (step0 P h F o st) k
 |_=>u7 P C h F o st fun v=>k (st.set o.dst v)
noncomputable def stepT (P:Program) (C:mG) (h:Hint) (F:dQ) (o:Oper) (st:St) (k:St→Option R):Option R:=qc (nT (D9 h o) st) fun st=>UD P C h F o st k
def WW (ops:Array Oper) (o:Oper) (st:St) (k:Bool→St→Option R):Option R:=
 match o.guard with
 |none=>k true st
 |some (j,want)=>match (ops[j]?).bind (·.dst) with
  |some d=>match st.env d with
   |some (.pv (.bool true))=>k want st
   |some (.pv (.bool false))=>k (!want) st
   |some .undef=>k false st
   |_=>none
  |none=>none
def guards (ops:Array Oper) (i:Nat):Bool:=ops.toList.any fun o=>match o.guard,o.op with
 |some (j,_),_=>Nat.beq j i
 |none,_=>false
def JV (b:Bool) (d:Option Nat) (st:St) (k:St→Option R):Option R:=
 bif b then
  match d with
  |some d=>match st.env d with
   |some (.pv (.bool t))=>bif t then k (st.set (some d) (.pv (.bool true))) else k (st.set (some d) (.pv (.bool false)))
   |_=>k st
  |none=>k st
 else k st
noncomputable def Eh (P:Program) (C:mG) (h:Hint) (F:dQ) (ops:Array Oper):Nat→List Oper→St→(St→Option R)→Option R
 |_,[],st,k=>k st
 |i,o::l,st,k=>WW ops o st fun b st=>bif b then stepT P C h F o st fun st=>JV (guards ops i) o.dst st fun st=>Eh P C h F ops (i+1) l st k
   else Eh P C h F ops (i+1) l (st.set o.dst .undef) k
noncomputable def xy (P:Program) (C:mG) (h:Hint) (F:dQ) (ops:Array Oper):Nat→List Oper→List (Nat×gu)→St→(St→Option R)→Option R
 |_,[],_,st,k=>k st
 |i,o::l,prev,st,k=>WW ops o st fun b st=>bif b then
    bif isF h st o&&(D9 h o).isEmpty then
     u7 P C h F o st fun v=>bif wB ops prev i ((u6 P h ops o st).fill st (st.set o.dst v)) then
      JV (guards ops i) o.dst (st.set o.dst v) fun st'=>xy P C h F ops (i+1) l ((i,(u6 P h ops o st).fill st (st.set o.dst v))::prev) st' k else none
    else stepT P C h F o st fun st'=>bif wB ops prev i ((uc P h ops o st).fill st st') then
      JV (guards ops i) o.dst st' fun st2=>xy P C h F ops (i+1) l ((i,(uc P h ops o st).fill st st')::prev) st2 k else none
   else bif wB ops prev i ((tq ops o).fill st (st.set o.dst .undef)) then xy P C h F ops (i+1) l ((i,(tq ops o).fill st (st.set o.dst .undef))::prev) (st.set o.dst .undef) k else none
@[irreducible] noncomputable def F6 (P:Program) (h:Hint) (F:dQ) (c:Code) (st:St) (k:Ex→St→Option R):Option R:=
 open Classical in if hx : ∃ x n, exec P h F n (.loop c) st = some x then k hx.choose.1 hx.choose.2 else none
def seqK (rb:St→(Ex→St→Option R)→Option R) (k:Ex→St→Option R):Ex→St→Option R:=fun e st=>match e with
 | .normal=>rb st k
 |e=>k e st
def SF (id:Nat) (k:Ex→St→Option R):Ex→St→Option R:=fun e st=>match e with
 | .exit j=>bif Nat.beq j id then k .normal st else k (.exit j) st
 |e=>k e st
noncomputable def Sq (P:Program) (h:Hint) (F:dQ) (c:Code) (k:Ex→St→Option R):Ex→St→Option R:=fun e st=>match e with
 | .normal=>F6 P h F c (h.canon (dN c) st) k
 |e=>k e st
noncomputable def Bf (C:mG):List Nat→St→(St→Option R)→Option R
 |[],st,k=>k st
 |id::l,st,k=>match st.ob id with
  |some (.mr kt e sz ks vs)=>bif xk id then
    Su (pO vs) fun xs=>mpK C kt e sz (ks,xs.map (.eH sz)) fun p=>
     Bf C l { env:=fun i=>(st.env i).map (SV.dD id (.mp p.1 p.2)),ob:=put (fun i=>(st.ob i).map (Ob.dD id (.mp p.1 p.2))) id none } k
   else none
  |some (.rn e sz q e' s' xs ys)=>bif xk id then
    Su (pO ys) fun zs=>NS C e (wL q s' xs zs) fun xs'=>
     Bf C l { env:=fun i=>(st.env i).map (SV.dD id (.eH sz xs')),ob:=put (fun i=>(st.ob i).map (Ob.dD id (.eH sz xs'))) id none } k
   else none
  |_=>match st.JA id with
   |some st'=>Bf C l st' k
   |none=>none
noncomputable def acu (C:mG) (h:Hint) (id:Nat) (st:St) (k:St→Option R):Option R:=
 match find h.ox id with
 |some l=>Bf C l st k
 |none=>k st
noncomputable def oF (P:Program) (C:mG) (h:Hint) (F:dQ):Code→St→(Ex→St→Option R)→Option R
 | .skip,st,k=>k .normal st
 | .label _,st,k=>k .normal st
 | .region id ops draw,st,k=>acu C h id st fun st=>
  bif draw then
   bif sC 0 ops.toList then xy P C h F ops 0 ops.toList [] (rR (wN ops.toList) st) (k .normal) else none
  else Eh P C h F ops 0 ops.toList st (k .normal)
 | .seq a b,st,k=>match find h.blk (dN a) with
  |some x=>check (x.1 st=true) (k (exOf (x.2 st).1) (x.2 st).2)
  |none=>oF P C h F a st (seqK (oF P C h F b) k)
 | .cond c a b,st,k=>match bq P 0 st c with
  |some (.pv (.bool t))=>bif t then oF P C h F a st k else oF P C h F b st k
  |_=>none
 | .block id c,st,k=>oF P C h F c st (SF id k)
 | .loop c,st,k=>F6 P h F c (h.canon (dN c) st) k
 | .exit id,st,k=>k (.exit id) st
 | .ret,st,k=>k .ret st
 | .scope c,st,k=>oF P C h F c st k
 |_,_,_=>none
noncomputable def DK (P:Program) (C:mG) (h:Hint) (F:dQ) (key:Nat):Code→(Ex→St→Option R)→Option (Code×(Ex→St→Option R))
 | .seq a b,k=>match find h.blk (dN a) with
  |some _=>none
  |none=>match DK P C h F key a (seqK (oF P C h F b) k) with
   |some x=>some x
   |none=>DK P C h F key b k
 | .cond _ a b,k=>match DK P C h F key a k with
  |some x=>some x
  |none=>DK P C h F key b k
 | .block id c,k=>DK P C h F key c (SF id k)
 | .loop c,k=>bif Nat.beq (dN c) key then some (c,k) else DK P C h F key c (Sq P h F c k)
 | .scope c,k=>DK P C h F key c k
 |_,_=>none
end
noncomputable def Zo (P:Program) (C:mG) (H:Nat→Hint) (fk:dQ) (f:Nat) (args:List SV) (cD:List (Nat×Ob)):Option (AV×List (Nat×Ob)):=
 match P.funcs[f]? with
 |some fn=>match fn.body with
  |some c=>bif Nat.ble args.length fn.ntmps&&(cD.map (·.1)).all (fun i=> !(xk i)) then oF P C (H f) (run P H fk) c { env:=find (yu 0 args),ob:=find cD } (ZO P (H f).own fn (cD.map (·.1))) else none
  |none=>none
 |none=>none
noncomputable def qq (P:Program) (C:mG) (H:Nat→Hint) (fk:dQ) (f key:Nat) (names:List Nat) (env:List (Nat×SV)) (ob:List (Nat×Ob)):Option (AV×List (Nat×Ob)):=
 match P.funcs[f]? with
 |some fn=>match fn.body with
  |some c=>match DK P C (H f) (run P H fk) key c (ZO P (H f).own fn names) with
   |some (cl,k)=>F6 P (H f) (run P H fk) cl { env:=find env,ob:=find ob } k
   |none=>none
  |none=>none
 |none=>none
noncomputable def Ux (P:Program) (C:mG) (H:Nat→Hint) (fk:dQ) (f key:Nat) (names:List Nat) (env:List (Nat×SV)) (ob:List (Nat×Ob)):Option (AV×List (Nat×Ob)):=
 match P.funcs[f]? with
 |some fn=>match fn.body with
  |some c=>match DK P C (H f) (run P H fk) key c (ZO P (H f).own fn names) with
   |some (cl,k)=>oF P C (H f) (run P H fk) cl ((H f).canon (dN cl) { env:=find env,ob:=find ob }) (Sq P (H f) (run P H fk) cl k)
   |none=>none
  |none=>none
 |none=>none
section
variable {R:Type} {P:Program} {C:mG} {h:Hint} {F:dQ}
theorem fm {α:Type} {c:Option α} {k:α→Option R} {r:R} (hv:qc c k=some r):∃x,c=some x∧k x=some r:=by
 cases c with
 |none=>simp [qc] at hv
 |some x=>exact ⟨x,rfl,hv⟩
theorem gx {p:Prop} [Decidable p] {x:Option R} {r:R} (hv:check p x=some r):p∧x=some r:=by
 unfold check at hv;split at hv
 ·exact ⟨‹_›,hv⟩
 ·cases hv
theorem Lv {α:Type} {xs:List α} {i:Int} {k:α→Option R} {r:R} (hv:bw xs i k=some r):0≤i∧∃x,xs[i.toNat]? =some x∧k x=some r:=by
 unfold bw at hv;split at hv
 ·rename_i h0
  split at hv
  ·rename_i x hx;exact ⟨h0,x,hx,hv⟩
  ·cases hv
 ·cases hv
theorem Lw {α:Type} {xs:List α} {i:Nat} {k:α→Option R} {r:R} (hv:gj xs i k=some r):∃x,xs[i]? =some x∧k x=some r:=by
 unfold gj at hv;split at hv
 ·rename_i x hx;exact ⟨x,hx,hv⟩
 ·cases hv
theorem uX {c:Option (AV×List (Nat×Ob))} {k:AV→Option R} {r:R} (hv:wQ c k=some r):∃x,c=some (x,[])∧k x=some r:=by
 unfold wQ at hv;split at hv
 ·rename_i x;exact ⟨x,rfl,hv⟩
 ·cases hv
theorem SN {c:Option (AV×List (Nat×Ob))} {nm e sz:Nat} {k:AV→List (List AV)→Option R} {r:R} (hv:Iv c nm e sz k=some r):∃x xs,c=some (x,[(nm, .row e sz xs)])∧k x xs=some r:=by
 unfold Iv at hv;split at hv
 ·rename_i x V7 e' sz' xs
  replace hv:=bU hv
  obtain ⟨hb,hv⟩:=hv;simp only [aF] at hb;have h1:=beq_iff.1 hb.1.1;have h2:=beq_iff.1 hb.1.2;have h3:=beq_iff.1 hb.2;subst h1 h2 h3;exact ⟨x,xs,rfl,hv⟩
 ·cases hv
theorem qo {α T:Type} {enc:T→α} {c:α} {k:T→Option R} {r:R} (hv:s9 enc c k=some r):∃d,enc d=c∧k d=some r:=by
 unfold s9 at hv;split at hv
 ·rename_i hx;exact ⟨_,hx.choose_spec,hv⟩
 ·cases hv
theorem Cb {e:TypeId} {c:List AV} {k:List AV→Option R} {r:R} (hv:PW C e c k=some r):k c=some r:=by
 unfold PW at hv;split at hv
 ·obtain ⟨x,rfl,hk⟩:=qo hv;exact hk
 ·exact hv
theorem sK {e:TypeId} {c:List (List AV)} {k:List (List AV)→Option R} {r:R} (hv:NS C e c k=some r):k c=some r:=by
 unfold NS at hv;split at hv
 ·obtain ⟨x,rfl,hk⟩:=qo hv;exact hk
 ·exact hv
theorem qT {g:Nat} {c:AV} {k:AV→Option R} {r:R} (hv:K6 C g c k=some r):k c=some r:=by
 unfold K6 at hv;split at hv
 ·obtain ⟨x,rfl,hk⟩:=qo hv;exact hk
 ·exact hv
theorem YC {t:TypeId} {c:AV} {k:AV→Option R} {r:R} (hv:valK C t c k=some r):k c=some r:=by
 unfold valK at hv;split at hv
 ·obtain ⟨x,rfl,hk⟩:=qo hv;exact hk
 ·exact hv
theorem E8 {kt et:TypeId} {c:List AV×List AV} {k:List AV×List AV→Option R} {r:R} (hv:abO C kt et c k=some r):k c=some r:=by
 unfold abO at hv;split at hv
 ·obtain ⟨x,rfl,hk⟩:=qo hv;exact hk
 ·exact hv
theorem T5 {x:Option (Option AV)} {k:AV→Option R} {z:Option R} {r:R} (hv:LC x k z=some r):(∃v,x=some (some v)∧k v=some r)∨(x=some none∧z=some r):=by
 unfold LC at hv;split at hv
 ·exact .inl ⟨_,rfl,hv⟩
 ·exact .inr ⟨rfl,hv⟩
 ·cases hv
theorem LQ {x:Option (List AV×List AV)} {k:List AV×List AV→Option R} {r:R} (hv:Uq x k=some r):∃p,x=some p∧k p=some r:=by
 unfold Uq at hv;split at hv
 ·exact ⟨_,rfl,hv⟩
 ·cases hv
theorem Ir {c:Option (AV×List (Nat×Ob))} {k:AV→List (Nat×Ob)→Option R} {r:R} (hv:vM c k=some r):∃x l,c=some (x,l)∧k x l=some r:=by
 unfold vM at hv;split at hv
 ·exact ⟨_,_,rfl,hv⟩
 ·cases hv
theorem Ez {nm:Nat} {l:List (Nat×Ob)} {k:Ob→List (Nat×Ob)→Option R} {r:R} (hv:oy nm l k=some r):∃o l',l=(nm,o)::l'∧k o l'=some r:=by
 unfold oy at hv;split at hv
 ·replace hv:=bU hv
  obtain ⟨hb,hv⟩:=hv;have:=beq_iff.1 hb;subst this;exact ⟨_,_,rfl,hv⟩
 ·cases hv
theorem LJ {l:List (Nat×Ob)} {k:Option R} {r:R} (hv:Np l k=some r):l=[]∧k=some r:=by
 unfold Np at hv;split at hv
 ·exact ⟨rfl,hv⟩
 ·cases hv
theorem CD {o o':Ob} {k:Option R} {r:R} (hv:Ej o o' k=some r):o=o'∧k=some r:=by
 unfold Ej at hv;split at hv
 ·exact ⟨‹_›,hv⟩
 ·cases hv
theorem Sx {e sz:Nat} {o:Ob} {k:List (List AV)→Option R} {r:R} (hv:Po e sz o k=some r):∃xs,o= .row e sz xs∧k xs=some r:=by
 unfold Po at hv;split at hv
 ·replace hv:=bU hv
  obtain ⟨hb,hv⟩:=hv;simp only [aF] at hb;have h1:=beq_iff.1 hb.1;have h2:=beq_iff.1 hb.2;subst h1 h2;exact ⟨_,rfl,hv⟩
 ·cases hv
theorem Sw {kt et:Nat} {o:Ob} {k:List AV×List AV→Option R} {r:R} (hv:Pn kt et o k=some r):∃p,o= .mp kt et p.1 p.2∧k p=some r:=by
 unfold Pn at hv;split at hv
 ·replace hv:=bU hv
  obtain ⟨hb,hv⟩:=hv;simp only [aF] at hb;have h1:=beq_iff.1 hb.1;have h2:=beq_iff.1 hb.2;subst h1 h2;exact ⟨(_,_),rfl,hv⟩
 ·cases hv
theorem XJ {x:Option (Option Nat)} {k:Bool→Option R} {r:R} (hv:hasK x k=some r):∃q,x=some q∧k q.isSome=some r:=by
 unfold hasK at hv;split at hv
 ·exact ⟨_,rfl,hv⟩
 ·cases hv
theorem Pw {x:Option (List UInt8)} {k:List UInt8→Option R} {r:R} (hv:SH x k=some r):∃b,x=some b∧k b=some r:=by
 unfold SH at hv;split at hv
 ·exact ⟨_,rfl,hv⟩
 ·cases hv
theorem UM {x:Option (List (List AV)×List (Option (List (List AV))))} {k:List (List AV)→List (Option (List (List AV)))→Option R} {r:R} (hv:acF x k=some r):∃p,x=some p∧k p.1 p.2=some r:=by
 unfold acF at hv;split at hv
 ·exact ⟨_,rfl,hv⟩
 ·cases hv
theorem JE {x:Option (List AV×List (Option (List (List AV))))} {k:List AV×List (Option (List (List AV)))→Option R} {r:R} (hv:Wq x k=some r):∃p,x=some p∧k p=some r:=by
 unfold Wq at hv;split at hv
 ·exact ⟨_,rfl,hv⟩
 ·cases hv
theorem EJ {x:Option (List (List (List AV)))} {k:List (List (List AV))→Option R} {r:R} (hv:Su x k=some r):∃l,x=some l∧k l=some r:=by
 unfold Su at hv;split at hv
 ·exact ⟨_,rfl,hv⟩
 ·cases hv
theorem LM {ys:List (Option (List (List AV)))} {i:Nat} {k:List (List AV)→Option R} {r:R} (hv:Ri ys i k=some r):∃zs,ys[i]? =some (some zs)∧k zs=some r:=by
 unfold Ri at hv;split at hv
 ·rename_i zs h;exact ⟨zs,h,hv⟩
 ·cases hv
theorem Ct {e:TypeId} {ys:List (Option (List (List AV)))} {k:List (Option (List (List AV)))→Option R} {r:R} (hv:QX C e ys k=some r):k ys=some r:=by
 unfold QX at hv;split at hv
 ·obtain ⟨x,rfl,hk⟩:=qo hv;exact hk
 ·exact hv
theorem Jm {kt e:TypeId} {c:List AV×List (Option (List (List AV)))} {k:List AV×List (Option (List (List AV)))→Option R} {r:R} (hv:mrK C kt e c k=some r):k c=some r:=by
 unfold mrK at hv;split at hv
 ·obtain ⟨x,rfl,hk⟩:=qo hv;exact hk
 ·exact hv
theorem abY {kt e:TypeId} {sz:Nat} {c:List AV×List AV} {k:List AV×List AV→Option R} {r:R} (hv:mpK C kt e sz c k=some r):k c=some r:=by
 unfold mpK at hv;split at hv
 ·obtain ⟨x,rfl,hk⟩:=qo hv;exact hk
 ·exact hv
theorem RM {o o':Ob} {k:Ob→Option R} {r:R} (hv:UB C o o' k=some r):k o'=some r:=by
 unfold UB at hv;split at hv
 ·obtain ⟨xs,rfl,hk⟩:=Sx hv;exact sK hk
 ·obtain ⟨p,rfl,hk⟩:=Sw hv;exact E8 hk
 ·unfold Zg at hv;split at hv<;>first|exact hv|cases hv
 ·obtain ⟨rfl,hk⟩:=CD hv;exact hk
theorem H9:∀{l:List SV} {cs:List AV},om l=some cs→l=cs.map .pv
 |[],cs,h=>by simp only [om,aG] at h;subst h;rfl
 |s::l,cs,h=>by
  cases s with
  |pv v=>
   simp only [om,bS] at h;obtain ⟨vs,hv,rfl⟩:=h;rw [H9 hv];rfl
  |_=>simp [om] at h
theorem Xf {o o':Ob} {k:Ob→Option R} {r:R} (hv:boxK C o o' k=some r):k o'=some r:=by
 unfold boxK at hv;split at hv
 ·unfold asBox at hv
  split at hv
  ·split at hv
   ·rename_i cs hcs
    replace hv:=bU hv
    obtain ⟨hb,hv⟩:=hv;have:=beq_iff.1 hb;subst this;split at hv
    ·obtain ⟨x,e,hv⟩:=qo hv
     rw [H9 hcs,←e];exact hv
    ·cases hv
   ·cases hv
  ·cases hv
 ·cases hv
theorem yB {keep bx:List Nat}:∀{l l':List (Nat×Ob)} {k:List (Nat×Ob)→Option R} {r:R},IG C keep bx l l' k=some r→k l'=some r
 |[],l',k,r,hv=>by
  simp only [IG] at hv;obtain ⟨rfl,hk⟩:=LJ hv;exact hk
 |(nm,o)::l,l',k,r,hv=>by
  simp only [IG] at hv
  replace hv:=Ez hv
  obtain ⟨o',l'',rfl,hv⟩:=hv;cases hkp:keep.contains nm with
  |true=>
   rw [hkp] at hv;obtain ⟨e,hv⟩:=CD hv;subst e;exact yB (k:=fun os=>k ((nm,o')::os)) hv
  |false=>
   rw [hkp] at hv;simp only [aj] at hv;cases Sb:bx.contains nm with
   |true=>
    rw [Sb] at hv;simp only [ai] at hv;exact yB (k:=fun os=>k ((nm,o')::os)) (Xf hv)
   |false=>
   rw [Sb] at hv;simp only [aj] at hv;exact yB (k:=fun os=>k ((nm,o')::os)) (RM hv)
theorem Yn {a:AV} {k:List AV→Option R} {r:R} (hv:Ym a k=some r):∃cs,a= .ref cs∧k cs=some r:=by
 unfold Ym at hv;split at hv
 ·exact ⟨_,rfl,hv⟩
 ·cases hv
theorem PO {a:AV} {k:AV→Option R} {r:R} (hv:S0 C a k=some r):∃cs,a= .ref cs∧k (.ref cs)=some r:=by
 unfold S0 at hv;obtain ⟨cs,e,hv⟩:=Yn hv;refine ⟨cs,e,?_⟩;split at hv
 ·obtain ⟨x,e2,hv⟩:=qo hv;rw [←e2];exact hv
 ·exact hv
theorem Bu:∀{l l':List (Nat×Ob)} {k:Option R} {r:R},zR l l' k=some r→l'=l∧k=some r
 |[],l',k,r,hv=>by
  simp only [zR] at hv;obtain ⟨e,hk⟩:=LJ hv;exact ⟨e,hk⟩
 |(nm,o)::l,l',k,r,hv=>by
  simp only [zR] at hv;obtain ⟨o',l2,e1,h1⟩:=Ez hv;obtain ⟨e2,h2⟩:=CD h1;obtain ⟨e3,h3⟩:=Bu h2;exact ⟨by rw [e1,e2,e3],h3⟩
theorem Mn {st:St} {c:Call} {f:Operand} {k:AV→Option R} {r:R} (hv:Mm P C h F st c f k=some r):∃v,sw P h F st c f=some v∧k v=some r:=by
 unfold Mm at hv;split at hv
 ·rename_i g args ha
  obtain ⟨hb,hv⟩:=bU hv;split at hv
  ·rename_i cD hl
   obtain ⟨x,l,hx,hv⟩:=Ir hv;obtain ⟨e,h2⟩:=Bu hv;subst e;obtain ⟨Hi,h3⟩:=bU (qT h2);refine ⟨x,?_,h3⟩;simp only [sw,ha,hb,ai,hl,hx,Ek,Hi,q7]
  ·cases hv
 ·cases hv
theorem ng {lo:Option SV} {d hi:Nat} {k:Nat→Option R} {r:R} (hv:wu lo d hi k=some r):∃n,iz lo d hi=some n∧k n=some r:=by
 unfold wu at hv;split at hv
 ·exact ⟨d,rfl,hv⟩
 ·rename_i q i
  obtain ⟨hc,hk⟩:=gx hv;exact ⟨i.toNat,by simp [iz,hc],hk⟩
 ·cases hv
theorem TY {st:St} {v:SV} {k:AV→Option R} {r:R} (hv:abN C st v k=some r):∃x,mK st v=some x∧k x=some r:=by
 unfold abN at hv;split at hv
 ·rename_i id i
  split at hv
  ·rename_i e sz q e' s' xs ys dG
   obtain ⟨zs,hz,hv⟩:=LM hv;exact ⟨_,by simp only [mK,dG,hz],sK hv⟩
  ·cases hv
 ·rename_i id
  split at hv
  ·rename_i e sz q e' s' xs ys dG
   obtain ⟨l,hl,hv⟩:=EJ hv;exact ⟨_,by simp only [mK,j6,dG,fD,Ob.val,hl,cS],sK hv⟩
  ·exact fm hv
 ·exact fm hv
theorem BD {st:St}:∀{xs:List Operand} {ts:List TypeId} {k:List AV→Option R} {r:R},DV P C st xs ts k=some r→∃vs,jI P st xs ts=some vs∧k vs=some r
 |[],_,k,r,hv=>⟨[],rfl,hv⟩
 |x::xs,ts,k,r,hv=>by
  simp only [DV] at hv;split at hv
  ·rename_i v hx
   obtain ⟨a,ha,hv⟩:=TY hv;obtain ⟨vs,hvs,hv⟩:=BD hv;exact ⟨_,by simp only [jI,hx,fD,ha,hvs],hv⟩
  ·cases hv
theorem Sn {st:St}:∀{xs:List Operand},xs.any (vC st)=true→xs.any (kT st)=true:=by
 intro xs h;obtain ⟨x,hx,h1⟩:=j9.1 h;refine j9.2 ⟨x,hx,?_⟩;cases x with
 |tmp i=>
  simp only [vC] at h1;simp only [kT];cases hi:st.env i with
  |none=>rw [hi] at h1;cases h1
  |some s=>rw [hi] at h1;cases s<;>first|rfl|exact absurd h1 Bool.false_ne_true
 |_=>cases h1
theorem DO {o:Oper} {st:St} {k:SV→Option R} {r:R} (hv:u7 P C h F o st k=some r):∃v,ec P h F o st=some v∧k v=some r:=by
 unfold u7 at hv;split at hv
 ·rename_i c x y ho
  split at hv
  ·rename_i t hc
   cases t with
   |true=>
    obtain ⟨v,hx,hk⟩:=fm hv;exact ⟨v,by simp [ec,e9,ho,hc,hx],hk⟩
   |false=>
    obtain ⟨v,hx,hk⟩:=fm hv;exact ⟨v,by simp [ec,e9,ho,hc,hx],hk⟩
  ·cases hv
 ·rename_i x ho
  split at hv
  ·rename_i a hx
   obtain ⟨cs,rfl,hk⟩:=PO hv;exact ⟨_,by simp only [ec,e9,ho,hx],hk⟩
  ·obtain ⟨v,hp,hk⟩:=fm hv
   exact ⟨v,by simp only [ec,ho];exact hp,hk⟩
 ·rename_i t x ix ho
  split at hv
  ·rename_i n e hu
   obtain ⟨v,hx,hk⟩:=fm hv;exact ⟨v,by simp [ec,e9,ho,hu,hx],hk⟩
  ·rename_i hna
   have hp:ec P h F o st=wV P st t x ix:=by
    simp only [ec,ho,e9]
   rw [hp];split at hv
   ·rename_i e s sz xs q i hs hx hi
    replace hv:=bU hv
    obtain ⟨hb,hv⟩:=hv;have:=beq_iff.1 hb;subst this;obtain ⟨h0,c,hc,hk⟩:=Lv hv;exact ⟨_,by simp [wV,hs,hx,hi,h0,hc],Cb hk⟩
   ·rename_i e s id q i hs hx hi
    split at hv
    ·rename_i e' sz xs dG
     replace hv:=bU hv
     obtain ⟨hb,hv⟩:=hv;have:=beq_iff.1 hb;subst this;obtain ⟨hc,hk⟩:=gx hv;exact ⟨_,by simp [wV,hs,hx,hi,dG,hc],hk⟩
    ·rename_i e' sz _ _ _ xs _ dG
     replace hv:=bU hv
     obtain ⟨hb,hv⟩:=hv;have:=beq_iff.1 hb;subst this;obtain ⟨hc,hk⟩:=gx hv;exact ⟨_,by simp [wV,hs,hx,hi,dG,hc],hk⟩
    ·cases hv
   ·rename_i e s id sz lo hi' q i hs hx hi
    replace hv:=bU hv
    obtain ⟨hb,hv⟩:=hv;have:=beq_iff.1 hb;subst this;obtain ⟨hc,hk⟩:=gx hv;exact ⟨_,by simp [wV,hs,hx,hi,hc],hk⟩
   ·cases hv
 ·rename_i t x ix ho
  split at hv
  ·rename_i s q i hu hx hi
   obtain ⟨h0,b,hb,hk⟩:=Lv hv;exact ⟨_,by simp [ec,e9,ho,hu,hx,hi,h0,hb],hk⟩
  ·cases hv
 ·rename_i t x ho
  cases KJ:o.dst.any h.take.contains with
  |true=>rw [KJ] at hv;cases hv
  |false=>
  rw [KJ] at hv;simp only [aj] at hv;have hfp:ec P h F o st=e9 P o st:=by simp only [ec,ho,KJ,aj]
  rw [hfp];split at hv
  ·rename_i id sz i off hx
   split at hv
   ·rename_i e sz' xs dG
    replace hv:=bU hv
    obtain ⟨hb,hv⟩:=hv;have:=beq_iff.1 hb;subst this;obtain ⟨c,hc,hv⟩:=Lw hv
    replace hv:=Cb hv
    obtain ⟨v,ht,hk⟩:=fm hv;exact ⟨_,by simp [e9,ho,hx,dG,hc,ht],hk⟩
   ·rename_i e sz' q e' s' xs ys dG
    replace hv:=bU hv
    obtain ⟨hb,hv⟩:=hv;simp only [aF] at hb;obtain ⟨⟨b1,b2⟩,b3⟩:=hb;have e1:=beq_iff.1 b1;have e2:=beq_iff.1 b2;have e3:CP P t=some false:=by simpa using b3
    subst e1 e2;obtain ⟨hc,hk⟩:=gx hv;exact ⟨_,by simp [e9,ho,hx,dG,hc,e3],hk⟩
   ·cases hv
  ·obtain ⟨v,ht,hk⟩:=fm hv
   exact ⟨v,ht,hk⟩
 ·rename_i op t x y t' ho
  have dflt:qc (e9 P o st) (fun v=>k v)=some r→∃v,ec P h F o st=some v∧k v=some r:=fun hv=>by
   obtain ⟨v,ht,hk⟩:=fm hv;exact ⟨v,by simp only [ec,ho];exact ht,hk⟩
  split at hv
  ·rename_i ka a kb b hx hy
   split at hv
   ·replace hv:=bU hv
    obtain ⟨hb,hv⟩:=hv;have hk:ka=kb:=by simpa using hb
    subst hk;obtain ⟨hc,hk⟩:=gx hv;exact ⟨_,by simp [ec,e9,ho,hx,hy,bin,E5,hc],hk⟩
   ·replace hv:=bU hv
    obtain ⟨hb,hv⟩:=hv;have hk:ka=kb:=by simpa using hb
    subst hk;obtain ⟨hc,hk⟩:=gx hv;exact ⟨_,by simp [ec,e9,ho,hx,hy,bin,E5,hc],hk⟩
   ·obtain ⟨hc,hk⟩:=gx hv
    have:¬b<0:=by omega
    exact ⟨_,by simp [ec,e9,ho,hx,hy,bin,AI,this],hk⟩
   ·obtain ⟨hc,hk⟩:=gx hv
    have:¬b<0:=by omega
    exact ⟨_,by simp [ec,e9,ho,hx,hy,bin,AI,this],hk⟩
   ·exact dflt hv
  ·rename_i a b hx hy
   split at hv
   ·obtain ⟨hc,hk⟩:=gx hv
    exact ⟨_,by simp [ec,e9,ho,hx,hy,bin,UE,hc],hk⟩
   ·exact dflt hv
  ·exact dflt hv
 ·rename_i t x lo hi ho
  split at hv
  ·rename_i s lv KY hu hx hlo hhi
   obtain ⟨n,hn,hv⟩:=ng hv;obtain ⟨m,hm,hk⟩:=ng hv;exact ⟨_,by simp [ec,e9,ho,hu,hx,hlo,hhi,hn,hm],hk⟩
  ·rename_i e sz xs lv KY hu hx hlo hhi
   split at hv
   ·rename_i e' s hs
    replace hv:=bU hv
    obtain ⟨hb,hv⟩:=hv;have:=beq_iff.1 hb;subst this;obtain ⟨n,hn,hv⟩:=ng hv;obtain ⟨m,hm,hk⟩:=ng hv;exact ⟨_,by simp [ec,e9,ho,hu,hx,hlo,hhi,hs,hn,hm],hk⟩
   ·cases hv
  ·rename_i e id lv KY hu hx hlo hhi
   split at hv
   ·rename_i e' s e2 sz xs hs dG
    replace hv:=bU hv
    obtain ⟨hb,hv⟩:=hv;have:=beq_iff.1 hb;subst this;obtain ⟨n,hn,hv⟩:=ng hv;obtain ⟨m,hm,hk⟩:=ng hv;exact ⟨_,by simp [ec,e9,ho,hu,hx,hlo,hhi,hs,dG,hn,hm],hk⟩
   ·cases hv
  ·rename_i e id sz a b lv KY hu hx hlo hhi
   split at hv
   ·rename_i e' s hs
    replace hv:=bU hv
    obtain ⟨hb,hv⟩:=hv;have:=beq_iff.1 hb;subst this;obtain ⟨n,hn,hv⟩:=ng hv;obtain ⟨m,hm,hk⟩:=ng hv;exact ⟨_,by simp [ec,e9,ho,hu,hx,hlo,hhi,hs,hn,hm],hk⟩
   ·cases hv
  ·cases hv
 ·rename_i t x hi mx ho
  split at hv
  ·rename_i id hx
   split at hv
   ·rename_i e2 sz xs e s ka va kb vb dG hs hh hm
    replace hv:=bU hv
    obtain ⟨hb,hv⟩:=hv;have:=beq_iff.1 hb;subst this;obtain ⟨hc,hk⟩:=gx hv;exact ⟨_,by simp only [ec,e9,ho,Vr,hx,dG,hs,hh,hm];rw [au ⟨trivial,hc⟩],hk⟩
   ·cases hv
  ·cases hv
 ·rename_i src dst x ho
  split at hv
  ·rename_i e hu hd
   split at hv
   ·rename_i xs he hs hx
    obtain ⟨b,hb,hk⟩:=Pw hv;exact ⟨_,by simp [ec,e9,ho,hu,hd,he,hs,hx,hb],hk⟩
   ·cases hv
  ·obtain ⟨v,ht,hk⟩:=fm hv
   exact ⟨v,by simp only [ec,ho];exact ht,hk⟩
 ·rename_i t x kx ok ho
  cases hrm:(qj h x&& !ok) with
  |true=>rw [hrm] at hv;cases hv
  |false=>
  rw [hrm] at hv;simp only [aj] at hv;split at hv
  ·rename_i kt et hu
   split at hv
   ·rename_i ks key hx hk
    obtain ⟨hok,hv⟩:=bU hv;obtain ⟨q,hq,hv⟩:=XJ hv;exact ⟨_,by simp only [ec,e9,ho,hrm,aj,hu,hx,hk,hok,ai,hq,cS],hv⟩
   ·rename_i hno
    split at hv
    ·rename_i ks vs key hx hk
     have hnk:(bq P t st x).bind (F7 st)=none:=by
      cases hkk:(bq P t st x).bind (F7 st) with
      |none=>rfl
      |some ks'=>exact (hno ks' key hkk hk).elim
     obtain ⟨hok,hv⟩:=bU hv;rcases T5 hv with ⟨v,hg,hv⟩|⟨hg,hv⟩
     ·exact ⟨_,by simp only [ec,e9,ho,hrm,aj,hu,hnk,hx,hk,hok,ai,hg],YC hv⟩
     ·obtain ⟨z,hz,hv⟩:=fm hv
      exact ⟨_,by simp only [ec,e9,ho,hrm,aj,hu,hnk,hx,hk,hok,ai,hg,hz,cS],hv⟩
    ·cases hv
  ·cases hv
 ·rename_i c ho
  split at hv
  ·rename_i f hc
   cases how:o.dst.any h.owns.contains with
   |true=>rw [how] at hv;cases hv
   |false=>
   rw [how] at hv;simp only [aj] at hv;cases hro:(o.dst.any h.stay.contains&&wide st c f) with
   |true=>
    rw [hro] at hv;simp only [ai] at hv;obtain ⟨v,hx,hk⟩:=Mn hv;refine ⟨.pv v,?_,hk⟩;simp only [ec,ho,hc];rw [how,hro,hx];rfl
   |false=>
   rw [hro] at hv;simp only [aj] at hv;cases mU:(wide st c f||c.args.toList.any (fun x=>(oK h st x).isSome)) with
   |true=>rw [mU] at hv;cases hv
   |false=>
   rw [mU] at hv;simp only [aj] at hv;cases hag:c.args.toList.any (vC st) with
   |true=>
    rw [hag] at hv;simp only [ai] at hv;have E0:=Sn hag;split at hv
    ·rename_i g caps hf
     obtain ⟨vs,hvs,hv⟩:=BD hv;obtain ⟨r',hx,hv⟩:=uX hv;obtain ⟨hp,hk⟩:=bU (qT hv);refine ⟨.pv r',?_,hk⟩;rw [aF] at hp;simp only [ec,ho,hc,hf,hvs,hx];rw [how,hro,mU];simp only [aj,E0,hp.1,hp.2,ic,iY,q7,ai]
    ·cases hv
   |false=>
   rw [hag] at hv;simp only [aj] at hv;split at hv
   ·rename_i g caps vs hf hvs
    obtain ⟨r',hx,hv⟩:=uX hv;obtain ⟨hb,hk⟩:=bU (qT hv);refine ⟨.pv r',?_,hk⟩;simp only [ec,ho,hc,hf,hvs,hx];rw [how,hro,mU,hb];rfl
   ·cases hv
  ·rename_i hc
   obtain ⟨v,ht,hk⟩:=fm hv;refine ⟨v,?_,hk⟩;simp only [ec,ho];exact ht
 ·exact fm hv
theorem zh {st:St} {t:TypeId} {m kx x:Operand} {k:St→Option R} {r:R} (hv:Bb P C st t m kx x k=some r):∃st',w5 P st t m kx x=some st'∧k st'=some r:=by
 unfold Bb at hv;split at hv
 ·rename_i kt et hu
  split at hv
  ·rename_i st1 h1
   split at hv
   ·rename_i id key v hm hk hx
    split at hv
    ·rename_i k' e' ks vs dG
     obtain ⟨hc,hv⟩:=bU hv;obtain ⟨p,hp,hv⟩:=LQ hv
     replace hv:=E8 hv
     exact ⟨_,by simp only [w5,hu,h1,hm,hk,hx,dG,hc,ai,hp],hv⟩
    ·cases hv
   ·cases hv
  ·cases hv
 ·cases hv
theorem E7 {st:St} {t:TypeId} {m kx:Operand} {k:St→Option R} {r:R} (hv:Cp P C st t m kx k=some r):∃st',wZ P st t m kx=some st'∧k st'=some r:=by
 unfold Cp at hv;split at hv
 ·rename_i kt et hu
  split at hv
  ·rename_i id key hm hk
   split at hv
   ·rename_i k' e' ks vs dG
    obtain ⟨hc,hv⟩:=bU hv;obtain ⟨p,hp,hv⟩:=LQ hv
    replace hv:=E8 hv
    exact ⟨_,by simp only [wZ,hu,hm,hk,dG,hc,ai,hp],hv⟩
   ·cases hv
  ·cases hv
 ·cases hv
theorem GK {st:St} {c:Call} {f:Operand} {d:Option Nat} {k:St→Option R} {r:R} (hv:EU P C h F st c f d k=some r):∃st',jL P h F st c f d=some st'∧k st'=some r:=by
 unfold EU at hv;split at hv
 ·rename_i g caps vs hf hvs
  simp only [] at hv
  replace hv:=bU hv
  obtain ⟨hb,hv⟩:=hv;split at hv
  ·rename_i cD hl
   obtain ⟨r',l,hx,hv⟩:=Ir hv
   replace hv:=qT (yB hv)
   split at hv
   ·rename_i back wU
    replace hv:=bU hv
    obtain ⟨Hi,hk⟩:=hv;refine ⟨_,?_,hk⟩;simp only [jL,hf,hvs,hb,ai,hl,hx,wU,Hi]
   ·cases hv
  ·cases hv
 ·cases hv
theorem Gc {st:St} {t:TypeId} {m kx x:Operand} {k:St→Option R} {r:R} (hv:V1 P C st t m kx x k=some r):∃st',Ud P st t m kx x=some st'∧k st'=some r:=by
 unfold V1 at hv;split at hv
 ·rename_i et id key k' e sz ks vs hmk
  split at hv
  ·split at hv
   ·rename_i e' s hs
    replace hv:=bU hv
    obtain ⟨hb,hv⟩:=hv;simp only [aF] at hb;have e1:=beq_iff.1 hb.1.1;have e2:=beq_iff.1 hb.1.2;have e3:0<s:=by simpa [cr] using hb.2
    obtain ⟨p,hp,hv⟩:=JE hv;refine ⟨_,?_,Jm hv⟩;simp only [Ud,hmk,hs];rw [au ⟨e1,e2,e3⟩];simp only [hp]
   ·cases hv
  ·rename_i hnc
   split at hv
   ·rename_i j hx
    split at hv
    ·rename_i e' s xs dG
     replace hv:=bU hv
     obtain ⟨hb,hv⟩:=hv;simp only [aF] at hb;have e1:=beq_iff.1 hb.1.1;have e2:=beq_iff.1 hb.1.2;have e3:j<10000:=by simpa [cr] using hb.2
     obtain ⟨p,hp,hv⟩:=JE hv;refine ⟨_,?_,Jm hv⟩;cases x with
     |tmp i=>
      simp only [Ud,hmk,hx,dG];rw [au ⟨e1,e2,e3⟩];simp only [hp]
     |const v=>
      simp only [bq] at hx;cases hc:ofConst P et v<;>simp [hc] at hx
     |func f=>simp [bq] at hx
     |global g=>simp [bq] at hx
    ·cases hv
   ·cases hv
 ·cases hv
theorem Ng {st:St} {t:TypeId} {m kx:Operand} {d:Nat} {k:St→Option R} {r:R} (hv:Ue P C st t m kx d k=some r):∃st',LI P st t m kx d=some st'∧k st'=some r:=by
 unfold Ue at hv;split at hv
 ·rename_i et id key k' e sz ks vs hmk
  cases ze:Nat.beq id d with
  |true=>rw [ze] at hv;cases hv
  |false=>
  rw [ze] at hv;simp only [aj] at hv;split at hv
  ·rename_i s0 e' s hz hs
   replace hv:=bU hv
   obtain ⟨hb,hv⟩:=hv;simp only [aF] at hb;have e1:=beq_iff.1 hb.1.1;have e2:=beq_iff.1 hb.1.2;have e3:0<s:=by simpa [cr] using hb.2
   obtain ⟨p,hp,hv⟩:=UM hv
   replace hv:=Jm (sK hv)
   obtain ⟨_,_,_,_,dG,_⟩:=Ah hmk;unfold ab0 at hp;split at hp
   ·rename_i i hf
    split at hp
    ·rename_i xs hvi
     injection hp with hp;subst hp
     refine ⟨_,?_,hv⟩;simp only [LI,hmk,ze,aj,hf,hvi]
    ·cases hp
   ·rename_i hf
    injection hp with hp;subst hp
    refine ⟨_,?_,hv⟩;simp only [LI,hmk,ze,aj,hf,hz,hs];rw [au ⟨e1,e2,e3⟩];have:put st.ob id (some (.mr k' e sz ks vs))=st.ob:=by
     funext i
     by_cases e:id=i
     ·subst e;rw [cu,dG]
     ·rw [bl _ _ e]
    simp only [this]
   ·cases hp
  ·cases hv
 ·cases hv
theorem KM {st:St} {c:Call} {f:Operand} {d:Option Nat} {k:St→Option R} {r:R} (hv:Iu P C h F st c f d k=some r):∃st',kW P h F st c f d=some st'∧k st'=some r:=by
 unfold Iu at hv;split at hv
 ·rename_i d
  split at hv
  ·rename_i g caps vs hf hvs
   obtain ⟨x,hx,hv⟩:=uX hv
   replace hv:=qT hv
   split at hv
   ·cases hn:(w8 h d).isSome with
    |true=>rw [hn] at hv;cases hv
    |false=>
     rw [hn] at hv hvs;exact ⟨_,by simp only [kW,hn,hf,hvs,hx,aj],hv⟩
   ·split at hv
    ·rename_i hl
     rw [hl] at hvs;exact ⟨_,by simp only [kW,hl,hf,hvs,hx],hv⟩
    ·rename_i l hne hl
     split at hv
     ·rename_i ks hks
      obtain ⟨hb,hv⟩:=bU hv;rw [hl] at hvs;cases l with
      |nil=>exact absurd rfl hne
      |cons x0 l0=>exact ⟨_,by simp only [kW,hl,hf,hvs,hx,hks,hb,ai],hv⟩
     ·cases hv
    ·cases hv
   ·cases hv
  ·cases hv
 ·cases hv
theorem Kx {st:St} {t:TypeId} {x:Operand} {d:Nat} {k:St→Option R} {r:R} (hv:Kw P C st t x d k=some r):∃st',wj P st t x d=some st'∧k st'=some r:=by
 unfold Kw at hv;split at hv
 ·rename_i id sz i off hx ha
  split at hv
  ·rename_i e sz' q e' s' xs ys dG
   obtain ⟨hb,hv⟩:=bU hv;obtain ⟨zs,hz,hv⟩:=LM hv;have hk:=Ct (sK hv);exact ⟨_,by simp only [wj,hx,ha,dG,hz,hb,ai],hk⟩
  ·cases hv
 ·cases hv
theorem NI {st:St} {t:TypeId} {id sz i off j:Nat} {k:St→Option R} {r:R} (hv:Up P C st t id sz i off j k=some r):∃st',Gn P st t id sz i off j=some st'∧k st'=some r:=by
 unfold Up at hv;split at hv
 ·rename_i e sz' q e' s' xs ys e2 s2 zs ha hs dG GU
  obtain ⟨hb,hv⟩:=bU hv;obtain ⟨hi,hv⟩:=gx hv;have hk:=Ct hv;refine ⟨_,?_,hk⟩;unfold Gn;simp only [ha,hs,dG,GU];have hi':Nat.blt i ys.length=true:=cr.mpr hi;have hb':(Nat.beq sz sz'&&Nat.beq off q&&Nat.blt id 10000&&Nat.blt j 10000&&Nat.beq e' e2&&Nat.beq s' s2&&Nat.blt i ys.length&& !(Nat.beq id j))=true:=by
   simp only [aF] at hb⊢;exact ⟨⟨hb.1,hi'⟩,hb.2⟩
  rw [hb'];rfl
 ·cases hv
theorem NZ {o:Oper} {st:St} {k:St→Option R} {r:R} (hv:UD P C h F o st k=some r):∃st',step0 P h F o st=some st'∧k st'=some r:=by
 have ofF:(u7 P C h F o st fun v=>k (st.set o.dst v))=some r→∃st',step0 P h F o st=some st'∧k st'=some r:=fun hv=>by
  obtain ⟨v,hf,hk⟩:=DO hv;exact ⟨_,by simp only [step0,hf],hk⟩
 unfold UD at hv;split at hv
 ·rename_i t l c ho
  have hf:ec P h F o st=none:=by simp [ec,e9,ho]
  split at hv
  ·rename_i d e s kl l' kc c' hd hs hl hc
   split at hv
   ·rename_i z i hz hi
    replace hv:=bU hv
    obtain ⟨hb,hv⟩:=hv;simp only [aF] at hb;obtain ⟨fU,hk⟩:=gx hv;have h1:0<s:=by simpa [cr] using hb.1
    have h2:z.length=s:=beq_iff.1 hb.2;exact ⟨_,by simp only [step0,hf,mS,hd,ho,hs,hl,hc,hz,hi];rw [au ⟨h1,h2,fU⟩],hk⟩
   ·cases hv
  ·cases hv
 ·rename_i t x y ho
  have hf:ec P h F o st=none:=by simp [ec,e9,ho]
  split at hv
  ·rename_i id sz i off v hd hx hy
   split at hv
   ·rename_i e sz' xs n dG hsz
    replace hv:=bU hv
    obtain ⟨hb,hv⟩:=hv;simp only [aF] at hb;have h1:=beq_iff.1 hb.1.1;subst h1;have h2:=beq_iff.1 hb.1.2;obtain ⟨c,hc,hv⟩:=Lw hv
    replace hv:=bU (Cb hv)
    obtain ⟨hle,hk⟩:=hv;refine ⟨_,?_,hk⟩;simp only [step0,hf,mS,hd,ho,hx,hy,storeAt,dG,hsz,hc];rw [au ⟨trivial,h2,cV hle,hb.2⟩]
   ·cases hv
  ·rename_i id sz i off j hd hx hy
   obtain ⟨st',hs,hk⟩:=NI hv;exact ⟨st',by simp only [step0,hf,mS,hd,ho,hx,hy];exact hs,hk⟩
  ·rename_i id off j sz n hd hx hy
   obtain ⟨st',hs,hk⟩:=fm hv;exact ⟨st',by simp only [step0,hf,mS,hd,ho,hx,hy];exact hs,hk⟩
  ·rename_i a v hn1 hn2 hn3 hd hx hy
   obtain ⟨st',hs,hk⟩:=fm hv;refine ⟨st',?_,hk⟩;have:mS P h F o st=storeAt P t st a v:=by
    simp only [mS,hd,ho,hx,hy]
   simp only [step0,hf];rw [this];exact hs
  ·cases hv
 ·rename_i t x ho
  cases KJ:o.dst.any h.take.contains with
  |false=>rw [KJ] at hv;exact ofF hv
  |true=>
   rw [KJ] at hv;simp only [ai] at hv;split at hv
   ·rename_i d hd
    rw [hd] at KJ;simp only [xJ] at KJ;obtain ⟨st',hs,hk⟩:=Kx hv;refine ⟨st',?_,hk⟩;have hf:ec P h F o st=none:=by simp only [ec,ho,hd,xJ,KJ,ai]
    simp only [step0,hf,mS,ho,hd,KJ,ai];exact hs
   ·cases hv
 ·rename_i c ho
  split at hv
  ·rename_i hc
   have hf:ec P h F o st=none:=by
    simp only [ec,ho,hc,xm]
   split at hv
   ·rename_i d x y t t' hd hargs tT
    split at hv
    ·rename_i e s id sy hs hx hy
     split at hv
     ·rename_i e' sz xs sz' ys i dG hel hi
      replace hv:=bU hv
      obtain ⟨hb,hv⟩:=hv;simp only [aF] at hb;obtain ⟨⟨⟨⟨⟨⟨b1,b2⟩,b3⟩,b4⟩,b5⟩,b6⟩,b7⟩:=hb;have e1:=beq_iff.1 b1;have e2:=beq_iff.1 b2;have e3:=beq_iff.1 b3;have e4:=beq_iff.1 b4;have e5:0<sz:=by simpa [cr] using b5
      have e6:i.zero.map (fun z=>z.cells.size)=some sz:=by simpa using b6
      obtain ⟨fU,hk⟩:=gx hv;refine ⟨_,?_,hk⟩;simp only [step0,hf,mS,ho,hc,hd,hargs,tT,hs,hx,hy,dG,hel,hi];rw [au ⟨e1,e2,e3,e4,e5,fU.1,fU.2,e6,b7⟩]
     ·rename_i e' sz q e2x s2x xs zs sz' ys i dG hel hi
      replace hv:=bU hv
      obtain ⟨hb,hv⟩:=hv;simp only [aF] at hb;obtain ⟨⟨⟨⟨⟨⟨⟨b1,b2⟩,b3⟩,b4⟩,b5⟩,b6⟩,b7⟩,b8⟩:=hb;have e1:=beq_iff.1 b1;have e2:=beq_iff.1 b2;have e3:=beq_iff.1 b3;have e4:=beq_iff.1 b4;have e5:0<sz:=by simpa [cr] using b5
      have e6:i.zero.map (fun z=>z.cells.size)=some sz:=by simpa using b6
      obtain ⟨fU,hk⟩:=gx hv;refine ⟨_,?_,Ct hk⟩;simp only [step0,hf,mS,ho,hc,hd,hargs,tT,hs,hx,hy,dG,hel,hi];rw [au ⟨e1,e2,e3,e4,e5,fU.1,fU.2,e6,b7,b8⟩]
     ·cases hv
    ·rename_i e s id sy hs hx hy
     split at hv
     ·rename_i e' sz xs sz' ys i dG hel hi
      replace hv:=bU hv
      obtain ⟨hb,hv⟩:=hv;simp only [aF,gV] at hb;obtain ⟨⟨⟨⟨⟨⟨⟨b1,b2⟩,b3⟩,b4⟩,b5⟩,b6⟩,b7⟩,b8⟩:=hb;have e1:=beq_iff.1 b1;have e2:=beq_iff.1 b2;have e3:=beq_iff.1 b3;have e4:=beq_iff.1 b4;have e5:0<sz:=by simpa [cr] using b5
      have e6:i.zero.map (fun z=>z.cells.size)=some sz:=by simpa using b6
      obtain ⟨fU,hk⟩:=gx hv;refine ⟨_,?_,hk⟩;simp only [step0,hf,mS,ho,hc,hd,hargs,tT,hs,hx,hy,dG,hel,hi];rw [au ⟨e1,e2,e3,e4,e5,fU.1,fU.2,e6,b7,b8⟩]
     ·cases hv
    ·cases hv
   ·cases hv
  ·rename_i hc
   have hf:ec P h F o st=none:=by simp only [ec,ho,hc,xm]
   split at hv
   ·rename_i m kx t ts hd hargs tT
    obtain ⟨st',h1,hk⟩:=E7 hv;exact ⟨st',by simp only [step0,hf,mS,ho,hc,hd,hargs,tT];exact h1,hk⟩
   ·cases hv
  ·rename_i hc
   have hf:ec P h F o st=none:=by simp only [ec,ho,hc,xm]
   split at hv
   ·rename_i x t hd hargs tT
    split at hv
    ·rename_i e s id sz lo hi hs hx
     split at hv
     ·rename_i e' sz' xs z dG hz
      replace hv:=bU hv
      obtain ⟨hb,hv⟩:=hv;simp only [aF] at hb;obtain ⟨⟨⟨⟨b1,b2⟩,b3⟩,b4⟩,b5⟩:=hb;have e1:=beq_iff.1 b1;have e2:=beq_iff.1 b2;have e3:=beq_iff.1 b3;have e4:=beq_iff.1 b4;have e5:0<sz:=by simpa [cr] using b5
      obtain ⟨hle,hk⟩:=gx hv;refine ⟨_,?_,hk⟩;simp only [step0,hf,mS,ho,hc,hd,hargs,tT,hs,hx,dG,hz];rw [au ⟨e1,e2,e3,hle,e4,e5⟩]
     ·cases hv
    ·cases hv
   ·cases hv
  ·rename_i f hc
   cases how:o.dst.any h.owns.contains with
   |true=>
    rw [how] at hv;simp only [ai] at hv;have hf:ec P h F o st=none:=by simp only [ec,ho,hc,how,ai]
    obtain ⟨st',h1,hk⟩:=KM hv;exact ⟨st',by simp only [step0,hf];cases hd:o.dst<;>(simp only [mS,ho,hc,hd];rw [hd] at how;rw [how,←hd];exact h1),hk⟩
   |false=>
   rw [how] at hv;simp only [aj] at hv;have how0:∀d,o.dst=d→d.any h.owns.contains=false:=fun d hd=>hd▸how
   cases hro:(o.dst.any h.stay.contains&&wide st c f) with
   |true=>rw [hro] at hv;exact ofF hv
   |false=>
   rw [hro] at hv;simp only [aj] at hv;cases XR:wide st c f with
   |true=>
    rw [XR] at hv;simp only [ai] at hv;have hf:ec P h F o st=none:=by simp only [ec,ho,hc];rw [how,hro,XR];rfl
    obtain ⟨st',h1,hk⟩:=GK hv;exact ⟨st',by simp only [step0,hf];cases hd:o.dst<;>(simp only [mS,ho,hc,hd];rw [hd] at hro how;rw [how,hro,XR,←hd];exact h1),hk⟩
   |false=>
   have hro0:∀(d:Option Nat),(d.any h.stay.contains&&false)=false:=fun d=>by simp
   rw [XR] at hv;simp only [aj] at hv;cases mU:c.args.toList.any (fun x=>(oK h st x).isSome) with
   |true=>
    rw [mU] at hv;simp only [ai] at hv;have hf:ec P h F o st=none:=by simp only [ec,ho,hc];rw [how,hro,mU];simp
    split at hv
    ·rename_i g caps vs id hfn hvs
     split at hv
     ·rename_i e sz xs dG
      obtain ⟨r',xs',hx,hv⟩:=SN hv
      replace hv:=sK (qT hv)
      have hstep:∀st2,pR P h F st c f o.dst=some st2→step0 P h F o st=some st2:=fun st2 h2=>by
       simp only [step0,hf];cases hd:o.dst<;>(simp only [mS,ho,hc,hd];rw [how0 _ hd,XR,mU,hro0];simp only [ai,aj];rw [←hd];exact h2)
      split at hv
      ·rename_i n
       replace hv:=bU hv
       obtain ⟨hb,hv⟩:=hv;obtain ⟨hn,hk⟩:=gx hv;refine ⟨_,hstep _ ?_,hk⟩;simp only [pR,hfn,hvs,dG,hx,beq_iff.2 (rfl:e=e),beq_iff.2 (rfl:sz=sz),beq_iff.2 (rfl:10000=10000),q7,ai,hb,jA hn]
      ·rename_i Hi
       replace hv:=bU hv
       obtain ⟨hb,hk⟩:=hv;refine ⟨_,hstep _ ?_,hk⟩;simp only [pR,hfn,hvs,dG,hx,beq_iff.2 (rfl:e=e),beq_iff.2 (rfl:sz=sz),beq_iff.2 (rfl:10000=10000),q7,ai,hb]
     ·cases hv
    ·cases hv
   |false=>
   have I5:(wide st c f||c.args.toList.any (fun x=>(oK h st x).isSome))=false:=by rw [XR,mU];rfl
   rw [mU] at hv;simp only [aj] at hv;cases hag:c.args.toList.any (vC st) with
   |true=>rw [hag] at hv;exact ofF hv
   |false=>
   rw [hag] at hv;simp only [aj] at hv;cases E0:c.args.toList.any (kT st) with
   |true=>
    simp only [E0,ai] at hv;split at hv
    ·rename_i g caps vs hfn hvs
     obtain ⟨r',hx,hv⟩:=uX hv
     replace hv:=qT hv
     cases hp:(r'.plain&&r'.kN) with
     |true=>
      simp only [hp,ai] at hv;refine ⟨_,?_,hv⟩;rw [aF] at hp;simp only [step0,ec,ho,hc];rw [how,hro,I5];simp only [hfn,hvs,hx,hp.1,hp.2,Bool.true_or,Bool.or_true,fG,ai,aj]
     |false=>
      simp only [hp,aj] at hv;split at hv
      ·rename_i st1 gp
       split at hv
       ·rename_i g' Vc vs' hfn' aan
        cases hrow:c.args.toList.any (kT st1) with
        |true=>rw [hrow] at hv;cases hv
        |false=>
         rw [hrow] at hv;simp only [aj] at hv;obtain ⟨r2,hx2,hv⟩:=uX hv
         replace hv:=bU (qT hv)
         obtain ⟨Hi,hv⟩:=hv;refine ⟨_,?_,hv⟩;have hf:ec P h F o st=none:=by
          simp only [ec,ho,hc];rw [how,hro,I5];simp only [aj,hfn,hvs,hx,hp,E0,ic,xK,iY]
         simp only [step0,hf];cases hd:o.dst<;>(simp only [mS,ho,hc,hd];rw [how0 _ hd,XR,mU,hro0];simp only [aj,gp,hfn',aan,hx2,hrow,Hi,ic,xK])
       ·cases hv
      ·cases hv
    ·cases hv
   |false=>simp only [E0,aj] at hv;exact ofF hv
  ·exact ofF hv
 ·rename_i t m kx x ho
  split at hv
  ·rename_i hd
   cases hrm:qj h m with
   |true=>
    rw [hrm] at hv;obtain ⟨st',h1,hk⟩:=Gc hv;exact ⟨st',by simp only [step0,mS,ec,e9,ho,hd];rw [hrm];exact h1,hk⟩
   |false=>
    rw [hrm] at hv;obtain ⟨st',h1,hk⟩:=zh hv;exact ⟨st',by simp only [step0,mS,ec,e9,ho,hd];rw [hrm];exact h1,hk⟩
  ·cases hv
 ·rename_i t m kx x ho
  split at hv
  ·rename_i hd
   cases hrm:qj h m with
   |true=>
    rw [hrm] at hv;obtain ⟨st',h1,hk⟩:=Gc hv;exact ⟨st',by simp only [step0,mS,ec,e9,ho,hd];rw [hrm];exact h1,hk⟩
   |false=>
    rw [hrm] at hv;obtain ⟨st',h1,hk⟩:=zh hv;exact ⟨st',by simp only [step0,mS,ec,e9,ho,hd];rw [hrm];exact h1,hk⟩
  ·cases hv
 ·rename_i t m kx ok ho
  cases hrm:(qj h m&& !ok) with
  |true=>
   rw [hrm] at hv;simp only [ai] at hv;have hrm':=hrm;simp only [aF,gV] at hrm;obtain ⟨hr1,rfl⟩:=hrm;split at hv
   ·rename_i d hd
    obtain ⟨st',h1,hk⟩:=Ng hv;refine ⟨st',?_,hk⟩;have hf:ec P h F o st=none:=by simp only [ec,ho];rw [hrm'];rfl
    simp only [step0,hf,mS,ho,hd];rw [hr1];exact h1
   ·cases hv
  |false=>rw [hrm] at hv;exact ofF hv
 ·rename_i t x ho
  split at hv
  ·rename_i d s hd hu hx
   refine ⟨_,?_,hv⟩;simp only [step0,mS,ec,e9,ho,hd,hu,hx]
  ·cases hv
 ·rename_i x ho
  split at hv
  ·rename_i d id hd hx
   split at hv
   ·rename_i s pos dG
    have hf:ec P h F o st=none:=by simp only [ec,e9,ho]
    cases hp:Nat.blt pos s.length with
    |true=>
     rw [hp] at hv;refine ⟨_,?_,hv⟩;have hp':pos<s.length:=by simpa [cr] using hp
     simp only [step0,hf,mS,ho,hd,hx,dG];rw [au hp']
    |false=>
     rw [hp] at hv;refine ⟨_,?_,hv⟩;have hp':¬pos<s.length:=fun h=>by rw [←cr] at h;rw [h] at hp;cases hp
     simp only [step0,hf,mS,ho,hd,hx,dG];rw [ak hp']
   ·cases hv
  ·cases hv
 ·exact fm hv
 ·exact fm hv
 ·exact fm hv
 ·exact fm hv
 ·exact fm hv
 ·exact fm hv
 ·exact fm hv
 ·exact ofF hv
theorem GA {o:Oper} {st:St} {k:St→Option R} {r:R} (hv:stepT P C h F o st k=some r):∃st',step P h F o st=some st'∧k st'=some r:=by
 unfold stepT at hv;obtain ⟨st1,h1,hv⟩:=fm hv;obtain ⟨st2,h2,hk⟩:=NZ hv;exact ⟨st2,by simp only [step,h1,fD,h2],hk⟩
theorem GF {ops:Array Oper} {o:Oper} {st:St} {k:Bool→St→Option R} {r:R} (hv:WW ops o st k=some r):∃b,p8 ops o st=some b∧k b st=some r:=by
 unfold WW at hv;unfold p8;split at hv
 ·rename_i hg;exact ⟨true,by simp [hg],hv⟩
 ·rename_i j want hg
  (try simp only [hg])
  split at hv
  ·rename_i d hd
   (try simp only [hd])
   split at hv
   ·rename_i he;exact ⟨want,by simp [he],hv⟩
   ·rename_i he;exact ⟨!want,by simp only [he];cases want<;>rfl,hv⟩
   ·rename_i he;exact ⟨false,by simp [he],hv⟩
   ·cases hv
  ·cases hv
theorem RL {st:St} {d:Nat} {v:SV} (he:st.env d=some v):st.set (some d) v=st:=by
 obtain ⟨env,ob⟩:=st;simp only [St.set,St.mk.injEq,fO]
 funext i
 by_cases e:d=i
 ·subst e;rw [cu];exact he.symm
 ·rw [bl _ _ e]
theorem yY {b:Bool} {d:Option Nat} {st:St} {k:St→Option R} {r:R} (hv:JV b d st k=some r):k st=some r:=by
 unfold JV at hv;cases b with
 |false=>exact hv
 |true=>
  simp only [ai] at hv;split at hv
  ·rename_i d'
   split at hv
   ·rename_i t he
    cases t with
    |true=>simp only [ai] at hv;rwa [RL he] at hv
    |false=>simp only [aj] at hv;rwa [RL he] at hv
   ·exact hv
  ·exact hv
theorem K7 {ops:Array Oper}:∀{l:List Oper} {i:Nat} {st:St} {k:St→Option R} {r:R},Eh P C h F ops i l st k=some r→∃s,qk P h F ops l st=some s∧k s=some r:=by
 intro l
 induction l with
 |nil=>intro i st k r hv;exact ⟨st,rfl,hv⟩
 |cons o l ih=>
  intro i st k r hv;simp only [Eh] at hv;obtain ⟨b,hw,hv⟩:=GF hv;cases b with
  |true=>
   simp only [ai] at hv;obtain ⟨st1,hs,hv⟩:=GA hv;obtain ⟨s,hr,hk⟩:=ih (yY hv);exact ⟨s,by simp [qk,hw,hs,hr],hk⟩
  |false=>
   simp only [aj] at hv;obtain ⟨s,hr,hk⟩:=ih hv;exact ⟨s,by simp [qk,hw,hr],hk⟩
theorem JN {ops:Array Oper}:∀{l:List Oper} {i:Nat} {prev:List (Nat×gu)} {st:St} {k:St→Option R} {r:R},xy P C h F ops i l prev st k=some r→∃s,jX P h F ops i l prev st=some s∧k s=some r:=by
 intro l
 induction l with
 |nil=>intro i prev st k r hv;exact ⟨st,rfl,hv⟩
 |cons o l ih=>
  intro i prev st k r hv;simp only [xy] at hv
  replace hv:=GF hv
  obtain ⟨b,hw,hv⟩:=hv;cases b with
  |true=>
   simp only [ai] at hv;cases hF:(isF h st o&&(D9 h o).isEmpty) with
   |true=>
    simp only [hF,ai] at hv;obtain ⟨v,hf,hv⟩:=DO hv;obtain ⟨hc,hv⟩:=bU hv;obtain ⟨s,hr,hk⟩:=ih (yY hv);exact ⟨s,by simp only [jX,hw,ai,hF,hf,hc];exact hr,hk⟩
   |false=>
    simp only [hF,aj] at hv;obtain ⟨st1,hs,hv⟩:=GA hv;obtain ⟨hc,hv⟩:=bU hv;obtain ⟨s,hr,hk⟩:=ih (yY hv);exact ⟨s,by simp only [jX,hw,ai,hF,aj,hs,hc];exact hr,hk⟩
  |false=>
   simp only [aj] at hv;obtain ⟨hc,hv⟩:=bU hv;obtain ⟨s,hr,hk⟩:=ih hv;exact ⟨s,by simp only [jX,hw,aj,hc,ai];exact hr,hk⟩
theorem MD {α:Type} (m:Nat→Option α):∀(l:List Nat) (i:Nat),find (sV m l) i=if i∈l then m i else none:=by
 intro l
 induction l with
 |nil=>intro i;simp [sV,find]
 |cons j l ih=>
  intro i;simp only [sV];cases hj:m j with
  |none=>
   simp only [ih,aD];by_cases e:i=j
   ·subst e;simp [hj]
   ·simp [e]
  |some v=>
   simp only [find];cases hb:Nat.beq j i with
   |true=>have:=beq_iff.1 hb;subst this;simp [hj]
   |false=>
    have hne:¬i=j:=fun e=>by subst e;simp [beq_iff.2] at hb
    simp only [aj,ih,aD,hne,false_or]
theorem PD (h:Hint) (key:Nat) (st:St):h.canon key (h.canon key st)=h.canon key st:=by
 unfold Hint.canon;split
 ·rename_i vars obs hf
  simp only [St.mk.injEq];constructor<;>(funext i;simp only [MD];split<;>rfl)
 ·rfl
theorem Jc {key:Nat} {f:St→Option (Ex×St)} {n:Nat} {st:St}:iter h key f n (h.canon key st)=iter h key f n st:=by
 cases n with
 |zero=>rfl
 |succ n=>simp only [iter,PD]
theorem XY {c:Code} {n m:Nat} (hm:n≤m) {key:Nat}:∀(q:Nat) {q':Nat} {st:St} {x:Ex×St},q≤q'→iter h key (exec P h F n c) q st=some x→iter h key (exec P h F m c) q' st=some x:=by
 intro q
 induction q with
 |zero=>intro q' st x _ hv;simp [iter] at hv
 |succ q ih=>
  intro q' st x hq hv;obtain ⟨q'',rfl⟩:∃q'',q'=q''+1:=⟨q'-1,by omega⟩
  simp only [iter] at hv⊢;split at hv
  ·rename_i st1 hc
   rw [pS hm hc];exact ih (by omega) hv
  ·rename_i hne
   rw [pS hm hv];obtain ⟨e,s⟩:=x;cases e with
   |normal=>exact absurd hv (hne s)
   |exit j=>rfl
   |ret=>rfl
theorem wW {c:Code} {st:St} {k:Ex→St→Option R} {r:R}:F6 P h F c st k=some r↔∃n e st',exec P h F n (.loop c) st=some (e,st')∧k e st'=some r:=by
 constructor
 ·intro hv
  unfold F6 at hv;split at hv
  ·rename_i hx
   obtain ⟨n,hn⟩:=hx.choose_spec;exact ⟨n,_,_,hn,hv⟩
  ·cases hv
 ·rintro ⟨n,e,st',hn,hk⟩
  unfold F6;have hx:∃x n,exec P h F n (.loop c) st=some x:=⟨(e,st'),n,hn⟩
  rw [lF hx];obtain ⟨m,hm⟩:=hx.choose_spec;have h1:=pS (rj n m) hn;have h2:=pS (rq n m) hm;rw [h1] at h2;injection h2 with h2
  rw [←h2];exact hk
theorem sW:∀{l:List Nat} {st:St} {k:St→Option R} {r:R},Bf C l st k=some r→∃st',yQ l st=some st'∧k st'=some r
 |[],st,k,r,hv=>⟨st,rfl,hv⟩
 |id::l,st,k,r,hv=>by
  simp only [Bf] at hv;split at hv
  ·rename_i kt e sz ks vs dG
   replace hv:=bU hv
   obtain ⟨hown,hv⟩:=hv;obtain ⟨xs,hxs,hv⟩:=EJ hv;obtain ⟨st',h1,hk⟩:=sW (abY hv);refine ⟨st',?_,hk⟩;simp only [yQ,St.JA,St.dD,hown,dG,fD,Ob.val,hxs,cS];exact h1
  ·rename_i e sz q e' s' xs ys dG
   replace hv:=bU hv
   obtain ⟨hown,hv⟩:=hv;obtain ⟨zs,hzs,hv⟩:=EJ hv;obtain ⟨st',h1,hk⟩:=sW (sK hv);refine ⟨st',?_,hk⟩;simp only [yQ,St.JA,St.dD,hown,dG,fD,Ob.val,hzs,cS];exact h1
  ·split at hv
   ·rename_i st1 hp
    obtain ⟨st',h1,hk⟩:=sW hv;exact ⟨st',by simp only [yQ,hp,fD];exact h1,hk⟩
   ·cases hv
theorem Rq {id:Nat} {st:St} {k:St→Option R} {r:R} (hv:acu C h id st k=some r):∃st',h.acs id st=some st'∧k st'=some r:=by
 unfold acu at hv;unfold Hint.acs;split at hv
 ·rename_i l hl
  rw [hl];exact sW hv
 ·rename_i hl
  rw [hl];exact ⟨st,rfl,hv⟩
theorem vP:∀(c:Code) {st:St} {k:Ex→St→Option R} {r:R},oF P C h F c st k=some r→∃n e st',exec P h F n c st=some (e,st')∧k e st'=some r:=by
 intro c
 induction c with
 |skip=>intro st k r hv;exact ⟨0,_,_,rfl,hv⟩
 |label l=>intro st k r hv;exact ⟨0,_,_,rfl,hv⟩
 |exit id=>intro st k r hv;exact ⟨0,_,_,rfl,hv⟩
 |ret=>intro st k r hv;exact ⟨0,_,_,rfl,hv⟩
 |region id ops draw=>
  intro st k r hv;simp only [oF] at hv;obtain ⟨st1,gp,hv⟩:=Rq hv;cases draw with
  |true=>
   simp only [ai] at hv;obtain ⟨hs,hv⟩:=bU hv;obtain ⟨s,hr,hk⟩:=JN hv;exact ⟨0, .normal,s,by simp only [exec,gp,fD,ai,hs,hr,cS],hk⟩
  |false=>
   simp only [aj] at hv;obtain ⟨s,hr,hk⟩:=K7 hv;exact ⟨0, .normal,s,by simp [exec,gp,hr],hk⟩
 |seq x y VD XU=>
  intro st k r hv;simp only [oF] at hv;cases Hg:find h.blk (dN x) with
  |some z=>
   simp only [Hg] at hv;obtain ⟨hg,hv⟩:=gx hv;exact ⟨0,_,_,by simp only [exec,Hg,hg,ai],hv⟩
  |none=>
  simp only [Hg] at hv;obtain ⟨n,e,st1,hx,hv⟩:=VD hv;cases e with
  |normal=>
   obtain ⟨m,e2,st2,hy,hk⟩:=XU (show oF P C h F y st1 k=some r from hv);exact ⟨max n m,e2,st2,by simp only [exec,Hg,pS (rj n m) hx];exact pS (rq n m) hy,hk⟩
  |exit id=>exact ⟨n,_,st1,by simp only [exec,Hg,hx],hv⟩
  |ret=>exact ⟨n,_,st1,by simp only [exec,Hg,hx],hv⟩
 |cond c x y VD XU=>
  intro st k r hv;simp only [oF] at hv;split at hv
  ·rename_i t hc
   cases t with
   |true=>obtain ⟨n,e,st1,hx,hk⟩:=VD hv;exact ⟨n,e,st1,by simp only [exec,hc,ai];exact hx,hk⟩
   |false=>obtain ⟨n,e,st1,hx,hk⟩:=XU hv;exact ⟨n,e,st1,by simp only [exec,hc,aj];exact hx,hk⟩
  ·cases hv
 |block id c ih=>
  intro st k r hv;simp only [oF] at hv;obtain ⟨n,e,st1,hx,hv⟩:=ih hv;cases e with
  |normal=>exact ⟨n,_,st1,by simp only [exec,hx],hv⟩
  |ret=>exact ⟨n,_,st1,by simp only [exec,hx],hv⟩
  |exit j=>
   simp only [SF] at hv;cases hb:Nat.beq j id with
   |true=>simp only [hb,ai] at hv;exact ⟨n, .normal,st1,by simp only [exec,hx,hb,ai],hv⟩
   |false=>simp only [hb,aj] at hv;exact ⟨n, .exit j,st1,by simp only [exec,hx,hb,aj],hv⟩
 |loop c ih=>
  intro st k r hv;simp only [oF] at hv;obtain ⟨n,e,st',hx,hk⟩:=wW.1 hv;refine ⟨n,e,st',?_,hk⟩;simp only [exec] at hx⊢
  rwa [Jc] at hx
 |scope c ih=>
  intro st k r hv;simp only [oF] at hv;obtain ⟨n,e,st1,hx,hk⟩:=ih hv;exact ⟨n,e,st1,by simp only [exec];exact hx,hk⟩
 |rangeFunc f ps x y VD XU=>intro st k r hv;simp [oF] at hv
 |goto l=>intro st k r hv;simp [oF] at hv
 |refuse s=>intro st k r hv;simp [oF] at hv
theorem QA {c:Code} {st:St} {k:Ex→St→Option R} {r:R} (hv:oF P C h F c (h.canon (dN c) st) (Sq P h F c k)=some r):F6 P h F c st k=some r:=by
 obtain ⟨n,e,st1,hx,hk⟩:=vP c hv;cases e with
 |normal=>
  obtain ⟨m,e2,st2,hm,hk2⟩:=wW.1 (show F6 P h F c (h.canon (dN c) st1) k=some r from hk);simp only [exec,Jc] at hm;refine wW.2 ⟨max n m+1,e2,st2,?_,hk2⟩;simp only [exec,iter];rw [pS (show n≤max n m+1 by omega) hx];exact XY (show m≤max n m+1 by omega) m (by omega) hm
 |exit j=>
  refine wW.2 ⟨n+1, .exit j,st1,?_,hk⟩;simp only [exec,iter];rw [pS (show n≤n+1 by omega) hx]
 |ret=>
  refine wW.2 ⟨n+1, .ret,st1,?_,hk⟩;simp only [exec,iter];rw [pS (show n≤n+1 by omega) hx]
end
section
variable {P:Program} {C:mG} {H:Nat→Hint} {fk:dQ}
theorem mP {f:Nat} {args:List SV} {cD:List (Nat×Ob)} {r:AV×List (Nat×Ob)} (hp:fk f args cD=none) (hv:Zo P C H fk f args cD=some r):run P H fk f args cD=some r:=by
 unfold Zo at hv;split at hv
 ·rename_i fn hf
  split at hv
  ·rename_i c hb
   obtain ⟨hc,hv⟩:=bU hv;obtain ⟨n,e,st,hx,he⟩:=vP c hv;exact Gt hp hf hb hc hx he
  ·cases hv
 ·cases hv
theorem oH {f key:Nat} {names:List Nat} {env:List (Nat×SV)} {ob:List (Nat×Ob)} {r:AV×List (Nat×Ob)} (hv:Ux P C H fk f key names env ob=some r):qq P C H fk f key names env ob=some r:=by
 unfold Ux at hv;unfold qq;split at hv
 ·rename_i fn hf
  (try simp only [hf])
  split at hv
  ·rename_i c hb
   (try simp only [hb])
   split at hv
   ·rename_i cl k hk
    (try simp only [hk])
    exact QA hv
   ·cases hv
  ·cases hv
 ·cases hv
end
section
variable {R:Type}
theorem bp {p:Prop} [Decidable p] (hp:p) (x:Option R):check p x=x:=by unfold check;rw [au hp]
theorem IU {α:Type} {xs:List α} {i:Int} {x:α} (h0:0≤i) (hx:xs[i.toNat]? =some x) (k:α→Option R):bw xs i k=k x:=by unfold bw;rw [au h0,hx]
theorem gW {α:Type} {xs:List α} {i:Nat} {x:α} (hx:xs[i]? =some x) (k:α→Option R):bw xs (i:Int) k=k x:=IU (by omega) (by simpa using hx) k
theorem iD {α:Type} {xs:List α} {i:Nat} {x:α} (hx:xs[i]? =some x) (k:α→Option R):gj xs i k=k x:=by unfold gj;rw [hx]
theorem Xi {c:Option (AV×List (Nat×Ob))} {r:AV} (hc:c=some (r,[])) (k:AV→Option R):wQ c k=k r:=by subst hc;unfold wQ;rfl
theorem Xj {c:Option (AV×List (Nat×Ob))} {nm e sz:Nat} {r:AV} {xs:List (List AV)} (hc:c=some (r,[(nm, .row e sz xs)])) (k:AV→List (List AV)→Option R):Iv c nm e sz k=k r xs:=by
 subst hc;unfold Iv;simp [beq_iff.2]
theorem asE_pos {α T:Type} {enc:T→α} (inj:∀a b,enc a=enc b→a=b) (d:T) (k:T→Option R):s9 enc (enc d) k=k d:=by
 unfold s9;have hx:∃x,enc x=enc d:=⟨d,rfl⟩
 rw [lF hx,inj _ _ hx.choose_spec]
end
end Go.AM
