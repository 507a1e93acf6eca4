/- THE ABSTRACT MACHINE, TYPED. -/
import Derived.Test.YthphfjcnkinkpaaGreatDoorAmFin
set_option linter.all false
namespace Go.AM
open Go.RowKit
structure Gk where
 T:Type
 enc:T->List AV
structure xU where
 T:Type
 enc:T->AV
def HJ {q:Type 1}:List (Nat×q)->Nat->Option q
 |[],_=>none
 |(j,v)::l,i=>cond (Nat.beq j i) (some v) (HJ l i)
structure CodO where
 T:Type
 enc:T->AV×List (Nat×Ob)
structure mW where
 elem:TypeId->Option Gk
 val:TypeId->Option xU
 res:Nat->Option xU
 ptr:Option Gk:=none
 out:Nat->Option CodO:=λ_=>none
def fI (K V:xU) (l:List (K.T×V.T)):List AV×List AV:=(l.map λp=>K.enc p.1,l.map λp=>V.enc p.2)
section
variable {R:Type}
@[irreducible] def check (p:Prop) [Decidable p] (x:Option R):Option R:=if p then x else none
@[irreducible] def bq {l:Type} (xs:List l) (i:Int) (k:l->Option R):Option R:=
 if 0<=i then match xs[i.toNat]? with
  |some x=>k x
  |none=>none
 else none
@[irreducible] def eC {l:Type} (xs:List l) (i:Nat) (k:l->Option R):Option R:=
 match xs[i]? with
 |some x=>k x
 |none=>none
@[irreducible] def yH (c:Option (AV×List (Nat×Ob))) (k:AV->Option R):Option R:=
 match c with
 |some (r,[])=>k r
 |_=>none
@[irreducible] def HA (c:Option (AV×List (Nat×Ob))) (nm e sz:Nat) (k:AV->List (List AV)->Option R):Option R:=
 match c with
 |some (r,[(l, .row w q xs)])=>bif Nat.beq nm l&&Nat.beq e w&&Nat.beq sz q then k r xs else none
 |_=>none
@[irreducible] def NB (x:Option (Option AV)) (k:AV->Option R) (z:Option R):Option R:=
 match x with
 |some (some v)=>k v
 |some none=>z
 |none=>none
@[irreducible] def aae (x:Option (List AV×List AV)) (k:List AV×List AV->Option R):Option R:=
 match x with
 |some p=>k p
 |none=>none
@[irreducible] noncomputable def uJ {l T:Type} (enc:T->l) (c:l) (k:T->Option R):Option R:=
 open Classical in if q : ∃ d, enc d = c then k q.choose else none
@[irreducible] noncomputable def MC {T:Type} (enc:T->AV×List (Nat×Ob)) (c:Option (AV×List (Nat×Ob))) (k:T->Option R):Option R:=
 match c with
 |some l=>uJ enc l k
 |none=>none
noncomputable def outC (C:mW) (key:Nat) (c:Option (AV×List (Nat×Ob))) (k:AV×List (Nat×Ob)->Option R):Option R:=
 match C.out key with
 |some E=>MC E.enc c λd=>k (E.enc d)
 |none=>none
@[irreducible] def BN (c:Option (AV×List (Nat×Ob))) (k:AV->List (Nat×Ob)->Option R):Option R:=
 match c with
 |some (r,l)=>k r l
 |none=>none
@[irreducible] def vF (nm:Nat) (l:List (Nat×Ob)) (k:Ob->List (Nat×Ob)->Option R):Option R:=
 match l with
 |(q,o)::l=>bif Nat.beq nm q then k o l else none
 |[]=>none
@[irreducible] def ZY (l:List (Nat×Ob)) (k:Option R):Option R:=
 match l with
 |[]=>k
 |_=>none
@[irreducible] noncomputable def FR (o o':Ob) (k:Option R):Option R:=open Classical in if o=o' then k else none
@[irreducible] def RT (e sz:Nat) (o:Ob) (k:List (List AV)->Option R):Option R:=
 match o with
 | .row q l xs=>bif Nat.beq e q&&Nat.beq sz l then k xs else none
 |_=>none
@[irreducible] def RS (z q:Nat) (o:Ob) (k:List AV×List AV->Option R):Option R:=
 match o with
 | .mp k' l w B=>bif Nat.beq z k'&&Nat.beq q l then k (w,B) else none
 |_=>none
@[irreducible] def asLp (o:Ob) (k:List AV->Option R):Option R:=
 match o with
 | .lp xs=>k xs
 |_=>none
@[irreducible] def ptrK (a:AV) (k:List AV->Option R):Option R:=
 match a with
 | .ref l=>k l
 |_=>none
@[irreducible] def hasK (x:Option (Option Nat)) (k:Bool->Option R):Option R:=
 match x with
 |some r=>k r.isSome
 |none=>none
@[irreducible] def U6 (x:Option (List UInt8)) (k:List UInt8->Option R):Option R:=
 match x with
 |some b=>k b
 |none=>none
@[irreducible] def takeK (x:Option (List (List AV)×List (Option (List (List AV))))) (k:List (List AV)->List (Option (List (List AV)))->Option R):Option R:=
 match x with
 |some p=>k p.1 p.2
 |none=>none
@[irreducible] def putRK (x:Option (List AV×List (Option (List (List AV))))) (k:List AV×List (Option (List (List AV)))->Option R):Option R:=
 match x with
 |some p=>k p
 |none=>none
@[irreducible] def UT (x:Option (List (List (List AV)))) (k:List (List (List AV))->Option R):Option R:=
 match x with
 |some l=>k l
 |none=>none
@[irreducible] def Z7 (l:List (Option (List (List AV)))) (i:Nat) (k:List (List AV)->Option R):Option R:=
 match l[i]? with
 |some (some q)=>k q
 |_=>none
def oL {l:Type} (c:Option l) (k:l->Option R):Option R:=
 match c with
 |some r=>k r
 |none=>none
noncomputable def Su (C:mW) (e:TypeId) (c:List AV) (k:List AV->Option R):Option R:=
 match C.elem e with
 |some d=>uJ d.enc c λx=>k (d.enc x)
 |none=>k c
noncomputable def MR (C:mW) (e:TypeId) (c:List (List AV)) (k:List (List AV)->Option R):Option R:=
 match C.elem e with
 |some d=>uJ (List.map d.enc) c λx=>k (x.map d.enc)
 |none=>k c
noncomputable def valK (C:mW) (t:TypeId) (c:AV) (k:AV->Option R):Option R:=
 match C.val t with
 |some d=>uJ d.enc c λx=>k (d.enc x)
 |none=>k c
noncomputable def mapK (C:mW) (w q:TypeId) (p:List AV×List AV) (k:List AV×List AV->Option R):Option R:=
 match C.val w,C.val q with
 |some K,some V=>uJ (fI K V) p λl=>k (fI K V l)
 |_,_=>k p
noncomputable def TG (C:mW) (e:TypeId) (l:List (Option (List (List AV)))) (k:List (Option (List (List AV)))->Option R):Option R:=
 match C.elem e with
 |some d=>uJ (List.map (Option.map (List.map d.enc))) l λy=>k (y.map (Option.map (List.map d.enc)))
 |none=>k l
noncomputable def Qg (C:mW) (o l:Ob) (k:Ob->Option R):Option R:=
 match o with
 | .row e z _=>RT e z l λxs=>MR C e xs λxs=>k (.row e z xs)
 | .mp w q _ _=>RS w q l λp=>mapK C w q p λp=>k (.mp w q p.1 p.2)
 | .lp _=>asLp l λxs=>k (.lp xs)
 |o=>FR l o (k o)
@[irreducible] def asBox (t:TypeId) (o:Ob) (k:List AV->Option R):Option R:=
 match o with
 | .box q cells=>match mG cells with
  |some l=>bif Nat.beq t q then k l else none
  |none=>none
 |_=>none
@[irreducible] noncomputable def JR (t:TypeId) (pre:List SV) (sz:Nat) (o:Ob) (k:List (List AV)->Option R):Option R:=open Classical in
 if h:∃xs,o= .box t (pre++[.pv (.dD sz xs)]) then k h.choose else none
def lastOf (P:Program) (t:TypeId) (cells:List SV):Option (TypeId×Nat×List SV):=
 match mG cells with
 |some _=>none
 |none=>match cells.getLast?,(tA P 8 t).getLast? with
  |some (.pv (.dD l _)),some ty=>match isSlice P ty with
   |some (e,s)=>bif Nat.beq s l then some (e,l,cells.dropLast) else none
   |none=>none
  |_,_=>none
noncomputable def boxK (P:Program) (C:mW) (o l:Ob) (k:Ob->Option R):Option R:=
 match o with
 | .box t cells=>match lastOf P t cells with
  |some (e,q,pre)=>JR t pre q l λxs=>MR C e xs λxs=>k (.box t (pre++[.pv (.dD q xs)]))
  |none=>match C.elem t,mG cells,cells with
  |some d,some _,_::_::_=>asBox t l λw=>uJ d.enc w λx=>k (.box t ((d.enc x).map .pv))
  |_,_,_=>FR l o (k o)
 |o=>Qg C o l k
noncomputable def Sl (P:Program) (C:mW) (keep B:List Nat):List (Nat×Ob)->List (Nat×Ob)->(List (Nat×Ob)->Option R)->Option R
 |[],D,k=>ZY D (k [])
 |(w,o)::l,D,k=>vF w D λG q=>bif keep.contains w then FR G o (Sl P C keep B l q λz=>k ((w,o)::z)) else bif B.contains w then boxK P C o G λI=>Sl P C keep B l q λz=>k ((w,I)::z) else Qg C o G λI=>Sl P C keep B l q λz=>k ((w,I)::z)
noncomputable def MQ (C:mW) (g:Nat) (c:AV) (k:AV->Option R):Option R:=
 match C.res g with
 |some d=>uJ d.enc c λx=>k (d.enc x)
 |none=>k c
noncomputable def abo (C:mW) (a:AV) (k:AV->Option R):Option R:=
 ptrK a λl=>match C.ptr with
  |some d=>uJ d.enc l λx=>k (.ref (d.enc x))
  |none=>k (.ref l)
def xY (w:Option SV) (l:Nat) (q:Nat) (k:Nat->Option R):Option R:=
 match w with
 |none=>k l
 |some (.pv (.int _ i))=>check (0<=i/\i<=q) (k i.toNat)
 |some _=>none
noncomputable def EL:List (Nat×Ob)->List (Nat×Ob)->Option R->Option R
 |[],q,k=>ZY q k
 |(z,o)::l,q,k=>vF z q λB w=>FR B o (EL l w k)
noncomputable def Oz (P:Program) (C:mW) (h:Hint) (F:eE) (q:St) (c:Call) (f:Operand) (k:AV->Option R):Option R:=
 match uC P h q c f with
 |some (g,args)=>
  bif distinct (jA q args)&&Nat.blt (jA q args).length 10000&&args.all (SV.closed (jA q args)) then
   match jO q (jA q args) (iD (me (jA q args))) (me (jA q args)) with
   |some cG=>BN (F g (args.map (SV.oI (iD (me (jA q args))))) cG) λr l=>EL cG l (MQ C g r λr=>bif r.jG then k r else none)
   |none=>none
  else none
 |none=>none
noncomputable def adv (C:mW) (w:St) (v:SV) (k:AV->Option R):Option R:=
 match v with
 | .aq id (.nr i)=>match w.ob id with
  |some (.rn _ _ _ G z _ B)=>Z7 B i λD=>MR C G D λD=>k (.dD z D)
  |_=>none
 | .ag [.r id]=>match w.ob id with
  |some (.rn e I q _ z xs B)=>UT (qD B) λl=>MR C e (wP q z xs l) λm=>k (.agg [.dD I m])
  |_=>oL (nT w v) k
 |v=>oL (nT w v) k
noncomputable def Fk (P:Program) (C:mW) (q:St):List Operand->List TypeId->(List AV->Option R)->Option R
 |[],_,k=>k []
 |x::xs,w,k=>match bI P (w.headD 0) q x with
  |some v=>adv C q v λa=>Fk P C q xs w.tail λl=>k (a::l)
  |none=>none
noncomputable def yc (P:Program) (C:mW) (h:Hint) (F:eE) (o:Oper) (w:St) (k:SV->Option R):Option R:=
 match o.op with
 | .pick c a b=>match bI P 0 w c with
  |some (.pv (.bool t))=>bif t then oL (bI P o.type w a) k else oL (bI P o.type w b) k
  |_=>none
 | .nilCheck x=>match bI P 0 w x with
  |some (.pv a)=>abo C a λa=>k (.pv a)
  |_=>oL (fB P o w) k
 | .indexAddr t x N=>match P.underlying t with
  |some (.array n e)=>oL (D2 P w n e x N) k
  |_=>match isSlice P t,bI P t w x,bI P 0 w N with
  |some (e,s),some (.pv (.dD B xs)),some (.pv (.int _ i))=>bif Nat.beq s B then bq xs i λc=>Su C e c λc=>k (.cp c) else none
  |some (_,s),some (.row id),some (.pv (.int _ i))=>match w.ob id with
   |some (.row _ B xs)=>bif Nat.beq s B then check (0<=i/\i.toNat<xs.length) (k (.rp id B i.toNat 0)) else none
   |some (.rn _ B _ _ _ xs _)=>bif Nat.beq s B then check (0<=i/\i.toNat<xs.length) (k (.rp id B i.toNat 0)) else none
   |_=>none
  |some (_,s),some (.sub id B G D),some (.pv (.int _ i))=>bif Nat.beq s B then check (0<=i/\i.toNat<D-G) (k (.rp id B (G+i.toNat) 0)) else none
  |some _,some (.aq _ (.bs _)),some (.pv (.int _ _))=>oL (xB P w t x N) k
  |_,_,_=>none
 | .index t x N=>match P.underlying t,bI P t w x,bI P 0 w N with
  |some .string,some (.pv (.str s)),some (.pv (.int _ i))=>bq s i λb=>k (.pv (.int .u8 b.toNat))
  |_,_,_=>none
 | .load t x=>bif o.dst.any h.take.contains then none else match bI P 0 w x with
  |some (.rp id B i O)=>match w.ob id with
   |some (.row e L xs)=>bif Nat.beq B L then eC xs i λc=>Su C e c λc=>oL (iO P t (c.drop O)) λv=>k (.pv v) else none
   |some (.rn _ L q _ _ xs _)=>bif Nat.beq B L&&Nat.beq O q&&(Ev P t==some false) then check (i<xs.length) (k (.aq id (.nr i))) else none
   |_=>none
  |_=>oL (fB P o w) k
 | .binOp op t x y _=>match(bI P t w x).bind kM,(bI P t w y).bind kM with
  |some (.int K a),some (.int V b)=>match op with
   | .quo=>bif K==V then check (b≠0) (k (.pv (.int K (K.wrap (a.tdiv b))))) else none
   | .rem=>bif K==V then check (b≠0) (k (.pv (.int K (a.tmod b)))) else none
   | .shl=>check (0<=b) (k (.pv (.int K (K.wrap (a *2^ min b.toNat K.bits)))))
   | .shr=>check (0<=b) (k (.pv (.int K (a.fdiv (2^ min b.toNat K.bits)))))
   |_=>oL (fB P o w) k
  |some (.str a),some (.str b)=>match op with
   | .add=>check (a.length+b.length<=9223372036854775807) (k (.pv (.str (a++b))))
   |_=>oL (fB P o w) k
  |_,_=>oL (fB P o w) k
 | .slice t x G D none=>match P.underlying t,bI P t w x,nV P w G,nV P w D with
  |some .string,some (.pv (.str s)),some G,some D=>xY D s.length s.length λh=>xY G 0 h λl=>k (.pv (.str ((s.take h).drop l)))
  |some (.slice _),some (.pv (.dD B xs)),some G,some D=>match isSlice P t with
   |some (_,s)=>bif Nat.beq s B then xY D xs.length xs.length λh=>xY G 0 h λl=>k (.pv (.dD B ((xs.take h).drop l))) else none
   |none=>none
  |some (.slice _),some (.row id),some G,some D=>match isSlice P t,w.ob id with
   |some (_,s),some (.row _ B xs)=>bif Nat.beq s B then xY D xs.length xs.length λh=>xY G 0 h λl=>k (.sub id B l h) else none
   |_,_=>none
  |some (.slice _),some (.sub id B a b),some G,some D=>match isSlice P t with
   |some (_,s)=>bif Nat.beq s B then xY D (b-a) (b-a) λh=>xY G 0 h λl=>k (.sub id B (a+l) (a+h)) else none
   |none=>none
  |_,_,_,_=>none
 | .slice t x none (some D) (some mx)=>match bI P t w x with
  |some (.row id)=>match w.ob id,isSlice P t,bI P 0 w D,bI P 0 w mx with
   |some (.row _ B xs),some (_,s),some (.pv (.int _ a)),some (.pv (.int _ b))=>bif Nat.beq s B then check (a=(xs.length:Int)/\b=(xs.length:Int)) (k (.aq id .full)) else none
   |_,_,_,_=>none
  |_=>none
 | .convert src S x=>match P.underlying src,P.underlying S with
  |some (.slice e),some .string=>match P.underlying e,kZ P e,(bI P src w x).bind (elems w) with
   |some (.int .u8),some 1,some (1,xs)=>U6 (bytesOf xs) λb=>k (.pv (.str b))
   |_,_,_=>none
  |_,_=>oL (fB P o w) k
 | .lookup t x kx ok=>match P.underlying t with
  |some (.map kt U)=>match(bI P t w x).bind (maps w),(bI P kt w kx).bind kM with
   |some (ks,Q),some key=>bif om P kt key then NB (Wg key ks Q) (λv=>valK C U v λv=>k (.pv (found ok v true))) (oL (C1 P U) λz=>k (.pv (found ok z false))) else none
   |_,_=>none
  |_=>none
 | .call c=>match c.callee with
  | .value f=>bif o.dst.any h.owns.contains then none else bif o.dst.any h.stay.contains&&wide w c f then Oz P C h F w c f λr=>k (.pv r) else
   bif wide w c f||c.args.toList.any (λx=>(pE h w x).isSome) then none else
   bif c.args.toList.any (zn w) then
    match bI P 0 w f with
    |some (.pv (.fn g I))=>Fk P C w c.args.toList c.argTypes.toList λQ=>yH (F g ((Q++I).map .pv) []) λr=>MQ C g r λr=>bif r.plain&&r.jG then k (.pv r) else none
    |_=>none
   else
   match bI P 0 w f,jN P w c.args.toList c.argTypes.toList with
   |some (.pv (.fn g I)),some Q=>yH (F g ((Q++I).map .pv) []) λr=>MQ C g r λr=>bif(!(c.args.toList.any (kV w))||r.plain)&&r.jG then k (.pv r) else none
   |_,_=>none
  |_=>oL (Bb P c w) k
 |_=>oL (dW P h F o w) k
noncomputable def CO (P:Program) (C:mW) (G:St) (t:TypeId) (m D x:Operand) (k:St->Option R):Option R:=
 match P.underlying t with
 |some (.map w q)=>match V6 P G q x with
  |some l=>match bI P t l m,(bI P w l D).bind kM,(bI P q l x).bind kM with
   |some (.row id),some key,some v=>match l.ob id with
    |some (.mp k' z B I)=>bif om P w key&&v.HY then
      aae (Wj key v B I) λp=>mapK C w q p λp=>k { l with ob:=put l.ob id (some (.mp k' z p.1 p.2)) }
     else none
    |_=>none
   |_,_,_=>none
  |none=>none
 |_=>none
noncomputable def Gs (P:Program) (C:mW) (h:Hint) (F:eE) (w:St) (c:Call) (f:Operand) (d:Option Nat) (k:St->Option R):Option R:=
 match(bI P 0 w f).bind SJ,uv P h w c.args.toList c.argTypes.toList with
 |some (g,pre,B),some K=>
  let args:=pre++(K++B)
  let ids:=gB w 200 (args.flatMap SV.ids) [];let G:=gZ (d.any h.stay.contains) w (qy args);let m:=iP G 0 ids;let names:=m.map (·.2);let I:=iD m
  bif distinct ids&&Nat.blt ids.length 10000&&args.all (SV.closed ids) then
   match jO w ids I m with
   |some cG=>BN (F g (args.map (SV.oI I)) cG) λr l=>Sl P C ((m.filter λp=>h.keep.contains p.1).map (·.2)) ((m.filter λp=>h.bx.contains p.1).map (·.2)) cG l λq=>MQ C g r λr=>match mH names (iD (swap m)) m q with
    |some z=>bif r.jG then
      let D:=fD (ids.filter G) w
      k (St.set { env:=D.env,ob:=λi=>(find z i).orElse λ_=>D.ob i } d (.pv r)) else none
    |none=>none
   |none=>none
  else none
 |_,_=>none
noncomputable def Gq (C:mW) (key:Nat) (F:eE) (B:St) (g:Nat) (args:List SV) (w:Nat->Nat) (d:Option Nat) (k:St->Option R):Option R:=
 let ids:=gB B 200 (args.flatMap SV.ids) [];let m:=qu w 0 ids;let G:=m.filter λp=> !(given w p.1)
 bif distinct ids&&Nat.blt ids.length 10000&&args.all (SV.closed ids)&&(ids.all (λi=> !(given w i))||(Nat.blt ids.length 1000&&ids.all λi=> !(given w i)||iC i)) then
  match jO B ids (iD m) m with
  |some cG=>outC C (key+64 *cG.length) (F g (args.map (SV.oI (iD m))) cG) λD=>
    let z:=newNames (d.getD 0) 0 (D.2.drop G.length);let mm:=G++z
    bif Nat.ble z.length 8&&distinct (mm.map (·.1))&&distinct (mm.map (·.2))&&z.all (λx=>Nat.blt x.1 10000)&&z.all (λx=>Nat.ble 25000 x.2) then
     match mH (mm.map (·.2)) (iD (swap mm)) mm D.2 with
     |some l=>match D.1 with
      | .gU [.gU [.self 0, .qh,x]]=>bif(wk x).closed (mm.map (·.2)) then
        let q:=fD (ids.filter (λi=> !(stays w i))++z.map (·.1)) B
        k (St.set { env:=q.env,ob:=λi=>(find l i).orElse λ_=>q.ob i } d (Ld (find l) ((wk x).oI (iD (swap mm)))))
       else none
      |r=>bif r.jG then
        let q:=fD (ids.filter (λi=> !(stays w i))++z.map (·.1)) B
        k (St.set { env:=q.env,ob:=λi=>(find l i).orElse λ_=>q.ob i } d (.pv r))
       else none
     |none=>none
    else none
  |none=>none
 else none
noncomputable def Va (P:Program) (C:mW) (h:Hint) (F:eE) (B:St) (c:Call) (f:Operand) (d key:Nat) (w:List Nat) (k:St->Option R):Option R:=
 let l:=iB h.nest (mO P w d 0 c.args.toList c.argTypes.toList) B;match(bI P 0 l f).bind SJ,Dh P w d l 0 c.args.toList c.argTypes.toList with
 |some (g,pre,q),some z=>bif(mO P w d 0 c.args.toList c.argTypes.toList).all (λx=>Nat.blt x.1 10000) then
   Gq C key F l g (pre++(z++q)) (Kt l (gZ false l (wu w 0 z))) (some d) k else none
 |_,_=>none
noncomputable def J5 (P:Program) (C:mW) (h:Hint) (F:eE) (q:St) (c:Call) (f:Operand) (d:Option Nat) (k:St->Option R):Option R:=
 match d with
 |some d=>match find h.rE d with
  |some B=>Va P C h F q c f d B.1 B.2 k
  |none=>match bI P 0 q f,sA P (xF h d).isSome q c.args.toList c.argTypes.toList with
  |some (.pv (.fn g w)),some I=>yH (F g ((I++w).map .pv) []) λr=>MQ C (bif(xF h d).isSome then g+1000000 else g) r λr=>match r with
   | .gU [.gU [.self e, .dD G xs]]=>bif(xF h d).isSome then none else k ((q.new d (.row e G xs)).set (some d) (.row d))
   | .agg z=>match xF h d with
    |some []=>k (q.set (some d) (.pv (.agg z)))
    |some l=>match tC z l with
     |some D=>bif l.all (λx=>Nat.blt x.1 10000) then k ((iB h.nest l q).set (some d) (.ag D)) else none
     |none=>none
    |none=>none
   |_=>none
  |_,_=>none
 |none=>none
noncomputable def Mb (P:Program) (C:mW) (z:St) (t:TypeId) (x:Operand) (d:Nat) (k:St->Option R):Option R:=
 match bI P 0 z x,Ev P t with
 |some (.rp id K i D),some false=>match z.ob id with
  |some (.rn e l q w I xs B)=>bif Nat.beq K l&&Nat.beq D q&& !(Nat.beq id d)&&Nat.blt id 10000 then
    Z7 B i λG=>MR C w G λG=>TG C w (B.set i none) λB=>k ((St.new { z with ob:=put z.ob id (some (.rn e l q w I xs B)) } d (.row w I G)).set (some d) (.row d))
   else none
  |_=>none
 |_,_=>none
noncomputable def WA (P:Program) (C:mW) (w:St) (t:TypeId) (id L i D j:Nat) (k:St->Option R):Option R:=
 match Ev P t,kZ P t,w.ob id,w.ob j with
 |some false,some 1,some (.rn e l q B G xs z),some (.row I K N)=>
  bif Nat.beq L l&&Nat.beq D q&&Nat.blt id 10000&&Nat.blt j 10000&&Nat.beq B I&&Nat.beq G K&& !(Nat.beq id j) then
   check (i<z.length) (TG C B (z.set i (some N)) λz=>k { (w.dG j).dG (id+40000) with ob:=put ((w.dG j).dG (id+40000)).ob id (some (.rn e l q B G xs z)) })
  else none
 |_,_,_,_=>none
noncomputable def WQ (P:Program) (C:mW) (h:Hint) (F:eE) (o:Oper) (w:St) (k:St->Option R):Option R:=
 match o.op with
 | .makeSlice t l c=>match o.dst,isSlice P t,(bI P 0 w l).bind kM,(bI P 0 w c).bind kM with
  |some d,some (e,s),some (.int _ l),some (.int _ c)=>match zeroCells P e,P.info? e with
   |some z,some i=>bif Nat.blt 0 s&&Nat.beq z.length s then check (0<=l/\l<=c/\i.bytes *c.toNat<=281474976710656/\c<=9223372036854775807)
     (k ((w.new d (.row e s (List.replicate l.toNat z))).set (some d) (.row d))) else none
   |_,_=>none
  |_,_,_,_=>none
 | .store t x y=>match o.dst,bI P 0 w x,bI P t w y with
  |none,some (.rp id B i G),some (.pv v)=>match w.ob id,kZ P t with
   |some (.row e D xs),some n=>bif Nat.beq B D&&Nat.beq v.cells.length n&&v.HY then
     eC xs i λc=>Su C e c λc=>bif Nat.ble (G+n) c.length then k { w with ob:=put w.ob id (some (.row e D (xs.set i (c.take G++v.cells++c.drop (G+n))))) } else none
    else none
   |_,_=>none
  |none,some (.rp id B i G),some (.row j)=>WA P C w t id B i G j k
  |none,some (.ptr id G),some (.sub j B 0 n)=>oL (Xm P w t id G j B n) k
  |none,some a,some v=>oL (storeAt P t w a v) k
  |_,_,_=>none
 | .load t x=>bif o.dst.any h.take.contains then
   match o.dst with
   |some d=>Mb P C w t x d k
   |none=>none
  else yc P C h F o w λv=>k (w.set o.dst v)
 | .call c=>match c.callee with
  | .builtin .append=>match o.dst,c.args.toList,c.argTypes.toList with
   |some d,[x,y],[t,S]=>match isSlice P t,bI P t w x,bI P S w y with
    |some (e,s),some (.row id),some y=>match w.ob id,elems w y,P.info? e with
     |some (.row O B xs),some (D,I),some i=>
      bif Nat.beq t S&&Nat.beq e O&&Nat.beq s B&&Nat.beq B D&&Nat.blt 0 B&&(i.zero.map (λz=>z.cells.size)==some B)&&gC id then
       check ((xs.length+I.length) *i.bytes<=140737488355328/\xs.length+I.length<=4611686018427387904) (k ((w.new id (.row e B (xs++I))).set (some d) (.row id)))
      else none
     |some (.rn O B q e2 s2 xs zs),some (D,I),some i=>
      bif Nat.beq t S&&Nat.beq e O&&Nat.beq s B&&Nat.beq B D&&Nat.blt 0 B&&(i.zero.map (λz=>z.cells.size)==some B)&&gC id&&I.all (qF q) then
       check ((xs.length+I.length) *i.bytes<=140737488355328/\xs.length+I.length<=4611686018427387904) (TG C e2 (zs++I.map λ_=>some []) λzs=>k ((w.new id (.rn e B q e2 s2 (xs++I.map λc=>c.set q .hole) zs)).set (some d) (.row id)))
      else none
     |_,_,_=>none
    |some (e,s),some (.aq id .full),some y=>match w.ob id,elems w y,P.info? e with
     |some (.row O B xs),some (D,I),some i=>
      bif Nat.beq t S&&Nat.beq e O&&Nat.beq s B&&Nat.beq B D&&Nat.blt 0 B&&(i.zero.map (λz=>z.cells.size)==some B)&&gC id&& !I.isEmpty then
       check ((xs.length+I.length) *i.bytes<=140737488355328/\xs.length+I.length<=4611686018427387904) (k ((w.new id (.row e B (xs++I))).set (some d) (.row id)))
      else none
     |_,_,_=>none
    |_,_,_=>none
   |_,_,_=>none
  | .builtin .clear=>match o.dst,c.args.toList,c.argTypes.toList with
   |none,[x],[t]=>match isSlice P t,bI P t w x with
    |some (e,s),some (.sub id B lo U)=>match w.ob id,zeroCells P e with
     |some (.row O D xs),some z=>bif Nat.beq s B&&Nat.beq B D&&Nat.beq z.length B&&Nat.beq e O&&Nat.blt 0 B then
       check (U<=xs.length) (k { w with ob:=put w.ob id (some (.row O D (xs.take lo++List.replicate (U-lo) z++xs.drop U))) }) else none
     |_,_=>none
    |none,_=>match Fp P w t x with
     |some K=>k K
     |none=>none
    |_,_=>none
   |_,_,_=>none
  | .value f=>bif o.dst.any h.owns.contains then J5 P C h F w c f o.dst k else bif o.dst.any h.stay.contains&&wide w c f then yc P C h F o w λv=>k (w.set o.dst v) else bif wide w c f then Gs P C h F w c f o.dst k else bif c.args.toList.any (λx=>(pE h w x).isSome) then
    match bI P 0 w f,Fl P h w c.args.toList c.argTypes.toList with
    |some (.pv (.fn g L)),some (vs,[id])=>match w.ob id with
     |some (.row e B xs)=>HA (F g (vs++L.map .pv) [(10000, .row e B xs)]) 10000 e B λr N=>MQ C g r λr=>MR C e N λN=>match r with
       | .self n=>bif gC id then check (n<=N.length) (k ((w.new id (.row e B (N.take n))).set o.dst (.row id))) else none
       |r=>bif r.plain then k (St.set { w with ob:=put w.ob id (some (.row e B N)) } o.dst (.pv r)) else none
     |_=>none
    |_,_=>none
   else bif c.args.toList.any (zn w) then yc P C h F o w λv=>k (w.set o.dst v)
   else bif c.args.toList.any (kV w) then
    match bI P 0 w f,jN P w c.args.toList c.argTypes.toList with
    |some (.pv (.fn g L)),some vs=>yH (F g ((vs++L).map .pv) []) λr=>MQ C g r λr=>bif r.plain&&r.jG then k (w.set o.dst (.pv r)) else
      match ni.jH w c.args.toList with
      |some K=>match bI P 0 K f,jN P K c.args.toList c.argTypes.toList with
       |some (.pv (.fn g' Q)),some vs'=>bif c.args.toList.any (kV K) then none else yH (F g' ((vs'++Q).map .pv) []) λr=>MQ C g' r λr=>bif r.jG then k (K.set o.dst (.pv r)) else none
       |_,_=>none
      |none=>none
    |_,_=>none
   else yc P C h F o w λv=>k (w.set o.dst v)
  |_=>yc P C h F o w λv=>k (w.set o.dst v)
 | .mapUpdate t m V x=>match o.dst with
  |none=>CO P C w t m V x k
  |some _=>none
 | .insert t m V x=>match o.dst with
  |none=>CO P C w t m V x k
  |some _=>none
 | .assign _| .buildSlice _ _ _| .box _ _| .alloc _| .makeMap _ _| .makeFunc _ _ _| .build _ _=>oL (step0 P h F o w) k
 |_=>yc P C h F o w λv=>k (w.set o.dst v)
noncomputable def PR (C:mW) (l:St) (t:Nat) (k:St->Option R):Option R:=
 match l.env t with
 |some (.ag [.r id])=>match l.ob id with
  |some (.rn e z q I B xs D)=>bif iC id then
    UT (qD D) λG=>MR C e (wP q B xs G) λw=>k { env:=λi=>(l.env i).map (SV.dr id (.dD z w)),ob:=put (λi=>(l.ob i).map (Ob.dr id (.dD z w))) id none }
   else none
  |_=>oL (qw l t) k
 |_=>oL (qw l t) k
noncomputable def GM (C:mW):List Nat->St->(St->Option R)->Option R
 |[],q,k=>k q
 |t::l,q,k=>PR C q t λq=>GM C l q k
noncomputable def stepT (P:Program) (C:mW) (h:Hint) (F:eE) (o:Oper) (l:St) (k:St->Option R):Option R:=GM C (FE h o) l λl=>WQ P C h F o l k
def YY (w:Array Oper) (o:Oper) (q:St) (k:Bool->St->Option R):Option R:=
 match o.guard with
 |none=>k true q
 |some (j,l)=>match(w[j]?).bind (·.dst) with
  |some d=>match q.env d with
   |some (.pv (.bool true))=>k l q
   |some (.pv (.bool false))=>k (!l) q
   |some .undef=>k false q
   |_=>none
  |none=>none
def guards (l:Array Oper) (i:Nat):Bool:=l.toList.any λo=>match o.guard,o.op with
 |some (j,_),_=>Nat.beq j i
 |none,_=>false
def LB (b:Bool) (d:Option Nat) (l:St) (k:St->Option R):Option R:=
 bif b then
  match d with
  |some d=>match l.env d with
   |some (.pv (.bool t))=>bif t then k (l.set (some d) (.pv (.bool true))) else k (l.set (some d) (.pv (.bool false)))
   |_=>k l
  |none=>k l
 else k l
noncomputable def Ji (P:Program) (C:mW) (h:Hint) (F:eE) (w:Array Oper):Nat->List Oper->St->(St->Option R)->Option R
 |_,[],q,k=>k q
 |i,o::l,q,k=>YY w o q λb q=>bif b then stepT P C h F o q λq=>LB (guards w i) o.dst q λq=>Ji P C h F w (i+1) l q k
   else Ji P C h F w (i+1) l (q.set o.dst .undef) k
noncomputable def Cl (P:Program) (C:mW) (h:Hint) (F:eE) (q:Array Oper):Nat->List Oper->List (Nat×ga)->St->(St->Option R)->Option R
 |_,[],_,w,k=>k w
 |i,o::l,z,w,k=>YY q o w λb w=>bif b then
    bif isF h w o&&(FE h o).isEmpty then
     yc P C h F o w λv=>bif yb q z i ((wj P h q o w).fill w (w.set o.dst v)) then
      LB (guards q i) o.dst (w.set o.dst v) λB=>Cl P C h F q (i+1) l ((i,(wj P h q o w).fill w (w.set o.dst v))::z) B k else none
    else stepT P C h F o w λB=>bif yb q z i ((uK P h q o w).fill w B) then
      LB (guards q i) o.dst B λD=>Cl P C h F q (i+1) l ((i,(uK P h q o w).fill w B)::z) D k else none
   else bif yb q z i ((tN q o).fill w (w.set o.dst .undef)) then Cl P C h F q (i+1) l ((i,(tN q o).fill w (w.set o.dst .undef))::z) (w.set o.dst .undef) k else none
@[irreducible] noncomputable def KD (P:Program) (h:Hint) (F:eE) (c:Code) (st:St) (k:Ex->St->Option R):Option R:=
 open Classical in if l : ∃ x n, exec P h F n (.loop c) st = some x then k l.choose.1 l.choose.2 else none
def seqK (q:St->(Ex->St->Option R)->Option R) (k:Ex->St->Option R):Ex->St->Option R:=λe l=>match e with
 | .normal=>q l k
 |e=>k e l
def U3 (id:Nat) (k:Ex->St->Option R):Ex->St->Option R:=λe l=>match e with
 | .exit j=>bif Nat.beq j id then k .normal l else k (.exit j) l
 |e=>k e l
noncomputable def UR (P:Program) (h:Hint) (F:eE) (c:Code) (k:Ex->St->Option R):Ex->St->Option R:=λe l=>match e with
 | .normal=>KD P h F c (h.canon (fk c) l) k
 |e=>k e l
noncomputable def FF (C:mW):List Nat->St->(St->Option R)->Option R
 |[],w,k=>k w
 |id::l,w,k=>match w.ob id with
  |some (.rn e D q L G xs I)=>bif iC id then
    UT (qD I) λK=>MR C e (wP q G xs K) λz=>FF C l { env:=λi=>(w.env i).map (SV.dr id (.dD D z)),ob:=put (λi=>(w.ob i).map (Ob.dr id (.dD D z))) id none } k
   else none
  |_=>match w.PU id with
   |some B=>FF C l B k
   |none=>none
noncomputable def ad3 (C:mW) (h:Hint) (id:Nat) (q:St) (k:St->Option R):Option R:=
 match find h.mU id with
 |some l=>FF C l q k
 |none=>k q
noncomputable def sS (P:Program) (C:mW) (h:Hint) (F:eE):Code->St->(Ex->St->Option R)->Option R
 | .skip,l,k=>k .normal l
 | .label _,l,k=>k .normal l
 | .region id q w,l,k=>ad3 C h id l λl=>
  bif w then
   bif td 0 q.toList then Cl P C h F q 0 q.toList [] (sB (yE q.toList) l) (k .normal) else none
  else Ji P C h F q 0 q.toList l (k .normal)
 | .seq a b,l,k=>match find h.blk (fk a) with
  |some x=>check (x.1 l=true) (k (exOf (x.2 l).1) (x.2 l).2)
  |none=>sS P C h F a l (seqK (sS P C h F b) k)
 | .cond c a b,l,k=>match bI P 0 l c with
  |some (.pv (.bool t))=>bif t then sS P C h F a l k else sS P C h F b l k
  |_=>none
 | .block id c,l,k=>sS P C h F c l (U3 id k)
 | .loop c,l,k=>KD P h F c (h.canon (fk c) l) k
 | .exit id,l,k=>k (.exit id) l
 | .ret,l,k=>k .ret l
 | .scope c,l,k=>sS P C h F c l k
 |_,_,_=>none
noncomputable def E7 (P:Program) (C:mW) (h:Hint) (F:eE) (key:Nat):Code->(Ex->St->Option R)->Option (Code×(Ex->St->Option R))
 | .seq a b,k=>match find h.blk (fk a) with
  |some _=>none
  |none=>match E7 P C h F key a (seqK (sS P C h F b) k) with
   |some x=>some x
   |none=>E7 P C h F key b k
 | .cond _ a b,k=>match E7 P C h F key a k with
  |some x=>some x
  |none=>E7 P C h F key b k
 | .block id c,k=>E7 P C h F key c (U3 id k)
 | .loop c,k=>bif Nat.beq (fk c) key then some (c,k) else E7 P C h F key c (UR P h F c k)
 | .scope c,k=>E7 P C h F key c k
 |_,_=>none
end
noncomputable def aa3 (P:Program) (C:mW) (H:Nat->Hint) (gM:eE) (f:Nat) (args:List SV) (cG:List (Nat×Ob)):Option (AV×List (Nat×Ob)):=
 match P.funcs[f]? with
 |some fn=>match fn.body with
  |some c=>bif Nat.ble args.length fn.ntmps&&(cG.map (·.1)).all (λi=> !(iC i)||giv i) then sS P C (H f) (run P H gM) c { env:=find (zW 0 args),ob:=find cG } (abw P (H f).own fn ((cG.map (·.1)).filter λi=> !(iC i))) else none
  |none=>none
 |none=>none
noncomputable def A5 (P:Program) (C:mW) (H:Nat->Hint) (gM:eE) (f key:Nat) (names:List Nat) (l:List (Nat×SV)) (w:List (Nat×Ob)):Option (AV×List (Nat×Ob)):=
 match P.funcs[f]? with
 |some fn=>match fn.body with
  |some c=>match E7 P C (H f) (run P H gM) key c (abw P (H f).own fn names) with
   |some (q,k)=>KD P (H f) (run P H gM) q { env:=find l,ob:=find w } k
   |none=>none
  |none=>none
 |none=>none
noncomputable def WL (P:Program) (C:mW) (H:Nat->Hint) (gM:eE) (f key:Nat) (names:List Nat) (q:List (Nat×SV)) (w:List (Nat×Ob)):Option (AV×List (Nat×Ob)):=
 match P.funcs[f]? with
 |some fn=>match fn.body with
  |some c=>match E7 P C (H f) (run P H gM) key c (abw P (H f).own fn names) with
   |some (l,k)=>sS P C (H f) (run P H gM) l ((H f).canon (fk l) { env:=find q,ob:=find w }) (UR P (H f) (run P H gM) l k)
   |none=>none
  |none=>none
 |none=>none
section
variable {R:Type} {P:Program} {C:mW} {h:Hint} {F:eE}
def eS {q:Type} {c:Option q} {k:q->Option R} {r:R} (l:oL c k=some r):∃x,c=some x/\k x=some r:=by cases c with
 |none=>simp[oL] at l
 |some x=>exact⟨x,rfl,l⟩
theorem gq {p:Prop} [Decidable p] {x:Option R} {r:R} (l:check p x=some r):p/\x=some r:=by simp_all[check]
def Nt {l:Type} {xs:List l} {i:Int} {k:l->Option R} {r:R} (q:bq xs i k=some r):0<=i/\∃x,xs[i.toNat]? =some x/\k x=some r:=by grind[bq]
def Nu {l:Type} {xs:List l} {i:Nat} {k:l->Option R} {r:R} (q:eC xs i k=some r):∃x,xs[i]? =some x/\k x=some r:=by grind[eC]
def vU {c:Option (AV×List (Nat×Ob))} {k:AV->Option R} {r:R} (l:yH c k=some r):∃x,c=some (x,[])/\k x=some r:=by unfold yH at l;grind
def Vc {c:Option (AV×List (Nat×Ob))} {w e z:Nat} {k:AV->List (List AV)->Option R} {r:R} (l:HA c w e z k=some r):∃x xs,c=some (x,[(w, .row e z xs)])/\k x xs=some r:=by
 unfold HA at l;split at l
 .replace l:=cv l;obtain⟨q,l⟩:=l;simp only[aU] at q;have B:=beq_iff.1 q.1.1;have D:=beq_iff.1 q.1.2;have G:=beq_iff.1 q.2;grind
 simp_all
def rX {q T:Type} {enc:T->q} {c:q} {k:T->Option R} {r:R} (l:uJ enc c k=some r):∃d,enc d=c/\k d=some r:=by
 unfold uJ at l;split at l
 .grind
 simp_all
def DW {e:TypeId} {c:List AV} {k:List AV->Option R} {r:R} (l:Su C e c k=some r):k c=some r:=by
 unfold Su at l;split at l
 .obtain⟨x,rfl,q⟩:=rX l;omega
 omega
theorem rA {e:TypeId} {c:List (List AV)} {k:List (List AV)->Option R} {r:R} (l:MR C e c k=some r):k c=some r:=by
 unfold MR at l;split at l
 .obtain⟨x,rfl,q⟩:=rX l;omega
 omega
def rz {g:Nat} {c:AV} {k:AV->Option R} {r:R} (l:MQ C g c k=some r):k c=some r:=by
 unfold MQ at l;split at l
 .obtain⟨x,rfl,q⟩:=rX l;omega
 omega
def aar {t:TypeId} {c:AV} {k:AV->Option R} {r:R} (l:valK C t c k=some r):k c=some r:=by
 unfold valK at l;split at l
 .obtain⟨x,rfl,q⟩:=rX l;omega
 omega
def NF {w q:TypeId} {c:List AV×List AV} {k:List AV×List AV->Option R} {r:R} (l:mapK C w q c k=some r):k c=some r:=by
 unfold mapK at l;split at l
 .obtain⟨x,rfl,z⟩:=rX l;omega
 omega
def Wc {x:Option (Option AV)} {k:AV->Option R} {z:Option R} {r:R} (l:NB x k z=some r):(∃v,x=some (some v)/\k v=some r)\/(x=some none/\z=some r):=by unfold NB at l;grind
def aaf {x:Option (List AV×List AV)} {k:List AV×List AV->Option R} {r:R} (l:aae x k=some r):∃p,x=some p/\k p=some r:=by unfold aae at l;grind
def J4 {c:Option (AV×List (Nat×Ob))} {k:AV->List (Nat×Ob)->Option R} {r:R} (q:BN c k=some r):∃x l,c=some (x,l)/\k x l=some r:=by unfold BN at q;grind
def Gi {z:Nat} {l:List (Nat×Ob)} {k:Ob->List (Nat×Ob)->Option R} {r:R} (q:vF z l k=some r):∃o w,l=(z,o)::w/\k o w=some r:=by
 unfold vF at q;split at q
 .replace q:=cv q;obtain⟨B,q⟩:=q;have:=beq_iff.1 B;grind
 simp_all
theorem NJ {l:List (Nat×Ob)} {k:Option R} {r:R} (q:ZY l k=some r):l=[]/\k=some r:=by unfold ZY at q;grind
def Az {o l:Ob} {k:Option R} {r:R} (q:FR o l k=some r):o=l/\k=some r:=by simp_all[FR]
def UX {e q:Nat} {o:Ob} {k:List (List AV)->Option R} {r:R} (l:RT e q o k=some r):∃xs,o= .row e q xs/\k xs=some r:=by
 unfold RT at l;split at l
 .replace l:=cv l;simp_all
 simp_all
def UW {z w:Nat} {o:Ob} {k:List AV×List AV->Option R} {r:R} (l:RS z w o k=some r):∃p,o= .mp z w p.1 p.2/\k p=some r:=by
 unfold RS at l;split at l
 .replace l:=cv l;obtain⟨q,l⟩:=l;simp only[aU] at q;have B:=beq_iff.1 q.1;have D:=beq_iff.1 q.2;grind
 simp_all
def R1 {x:Option (List UInt8)} {k:List UInt8->Option R} {r:R} (l:U6 x k=some r):∃b,x=some b/\k b=some r:=by unfold U6 at l;grind
def Gl {x:Option (List (List (List AV)))} {k:List (List (List AV))->Option R} {r:R} (q:UT x k=some r):∃l,x=some l/\k l=some r:=by unfold UT at q;grind
theorem NP {l:List (Option (List (List AV)))} {i:Nat} {k:List (List AV)->Option R} {r:R} (w:Z7 l i k=some r):∃q,l[i]? =some (some q)/\k q=some r:=by grind[Z7]
def D8 {e:TypeId} {q:List (Option (List (List AV)))} {k:List (Option (List (List AV)))->Option R} {r:R} (l:TG C e q k=some r):k q=some r:=by
 unfold TG at l;split at l
 .obtain⟨x,rfl,w⟩:=rX l;omega
 omega
def Il {o w:Ob} {k:Ob->Option R} {r:R} (l:Qg C o w k=some r):k w=some r:=by
 unfold Qg at l;split at l
 .obtain⟨xs,rfl,q⟩:=UX l;exact rA q
 .obtain⟨p,rfl,q⟩:=UW l;exact NF q
 .unfold asLp at l;grind
 .obtain⟨rfl,q⟩:=Az l;omega
theorem JP:∀{l:List SV} {q:List AV},mG l=some q->l=q.map .pv
 |[],q,h=>by simp_all[mG]
 |s::l,q,h=>by cases s with
  |pv v=>simp[mG,cL] at h;obtain⟨z,w,rfl⟩:=h;rw[JP w];rfl
  |_=>simp[mG] at h
def Zc {o q:Ob} {k:Ob->Option R} {r:R} (l:boxK P C o q k=some r):k q=some r:=by
 unfold boxK at l;split at l
 .split at l
  .unfold JR at l;split at l
   .rename_i h;have:=rA l;rw[<-h.choose_spec] at this;exact this
   .cases l
  split at l
  .unfold asBox at l;split at l
   .split at l
    .replace l:=cv l;obtain⟨w,l⟩:=l;have:=beq_iff.1 w;obtain⟨x,e,l⟩:=rX l;grind[JP]
    .simp_all
   .simp_all
  .obtain⟨rfl,z⟩:=Az l;exact z
 .exact Il l
def Ac {keep D:List Nat}:∀{l B:List (Nat×Ob)} {k:List (Nat×Ob)->Option R} {r:R},Sl P C keep D l B k=some r->k B=some r
 |[],B,k,r,q=>by obtain⟨rfl,K⟩:=NJ q;omega
 |(L,o)::l,B,k,r,q=>by replace q:=Gi q;obtain⟨N,I,rfl,q⟩:=q;cases z:keep.contains _ with
  |true=>rw[z] at q;obtain⟨e,q⟩:=Az q;subst e;exact Ac (k:=λG=>k _) q
  |false=>
   rw[z] at q;cases w:D.contains _ with
   |true=>rw[w] at q;simp at q;exact Ac (k:=λG=>k _) (Zc q)
   |false=>
   rw[w] at q;simp at q;exact Ac (k:=λG=>k _) (Il q)
def aad {a:AV} {k:List AV->Option R} {r:R} (q:ptrK a k=some r):∃l,a= .ref l/\k l=some r:=by unfold ptrK at q;grind
def Sk {a:AV} {k:AV->Option R} {r:R} (l:abo C a k=some r):∃q,a= .ref q/\k (.ref q)=some r:=by
 obtain⟨q,e,l⟩:=aad l;refine⟨q,e,?_⟩;split at l
 .obtain⟨x,w,l⟩:=rX l;simp_all
 omega
def Dg:∀{l q:List (Nat×Ob)} {k:Option R} {r:R},EL l q k=some r->q=l/\k=some r
 |[],q,k,r,w=>by grind[EL,NJ]
 |(L,o)::l,q,k,r,w=>by obtain⟨N,K,e1,z⟩:=Gi w;obtain⟨D,B⟩:=Az z;obtain⟨G,I⟩:=Dg B;simp_all
theorem OA {z:St} {c:Call} {f:Operand} {k:AV->Option R} {r:R} (q:Oz P C h F z c f k=some r):∃v,s9 P h F z c f=some v/\k v=some r:=by
 unfold Oz at q;split at q
 .rename_i g args G;obtain⟨I,q⟩:=cv q;split at q
  .rename_i cG K;obtain⟨x,l,L,q⟩:=J4 q;obtain⟨e,B⟩:=Dg q;subst e;obtain⟨w,D⟩:=cv (rz B);refine⟨x,?_,D⟩;simp[s9,G,I,au,K,L,FT,w,rI]
  simp_all
 simp_all
theorem oT {w:Option SV} {d q:Nat} {k:Nat->Option R} {r:R} (l:xY w d q k=some r):∃n,gX w d q=some n/\k n=some r:=by
 unfold xY at l;split at l
 .exact⟨d,rfl,l⟩
 .grind[gq,gX]
 simp_all
def V7 {w:St} {v:SV} {k:AV->Option R} {r:R} (q:adv C w v k=some r):∃x,nT w v=some x/\k x=some r:=by
 unfold adv at q;split at q
 .grind[NP,nT,rA]
 .split at q
  .obtain⟨l,z,q⟩:=Gl q;exact⟨_,by simp_all[nT,ku,Ob.val],rA q⟩
  .exact eS q
 .exact eS q
def Dt {z:St}:∀{xs:List Operand} {q:List TypeId} {k:List AV->Option R} {r:R},Fk P C z xs q k=some r->∃w,jN P z xs q=some w/\k w=some r
 |[],_,k,r,l=>⟨[],rfl,l⟩
 |x::xs,q,k,r,l=>by
  simp[Fk] at l;split at l
  .obtain⟨a,D,l⟩:=V7 l;obtain⟨w,B,l⟩:=Dt l;simp_all[jN]
  simp_all
def UQ {q:St}:∀{xs:List Operand},xs.any (zn q)=true->xs.any (kV q)=true:=by intro xs h;obtain⟨x,w,l⟩:=nE.1 h;cases x with
 |tmp i=>simp[zn] at l;simp[kV];grind
 |_=>cases l
theorem Fb {o:Oper} {L:St} {k:SV->Option R} {r:R} (l:yc P C h F o L k=some r):∃v,dW P h F o L=some v/\k v=some r:=by
 unfold yc at l;split at l
 .rename_i c x y D;split at l
  .rename_i t I;cases t with
   |true=>simp_all[eS,dW,fB]
   |false=>simp_all[eS,dW,fB]
  simp_all
 .rename_i x D;split at l
  .rename_i a B;obtain⟨cs,rfl,w⟩:=Sk l;simp_all[dW,fB]
  simp_all[eS,dW]
 .rename_i t x ix D;split at l
  .simp_all[eS,dW,fB]
  .rename_i hna;have hp:dW P h F o L=xB P L t x ix:=by
    simp only[dW,D,fB]
   rw[hp];split at l
   .rename_i e s V xs q i Q B U;replace l:=cv l;obtain⟨G,l⟩:=l;have:=beq_iff.1 G;subst this;obtain⟨h0,c,I,w⟩:=Nt l;exact⟨_,by simp[xB,Q,B,U,h0,I],DW w⟩
   .rename_i e s id q i Q B U;split at l
    .rename_i e' V xs K;replace l:=cv l;obtain⟨G,l⟩:=l;have:=beq_iff.1 G;subst this;obtain⟨I,w⟩:=gq l;exact⟨_,by simp[xB,Q,B,U,K,I],w⟩
    .rename_i e' V _ _ _ xs _ K;replace l:=cv l;obtain⟨G,l⟩:=l;have:=beq_iff.1 G;subst this;obtain⟨I,w⟩:=gq l;exact⟨_,by simp[xB,Q,B,U,K,I],w⟩
    simp_all
   .rename_i e s id V lo hi' q i Q B U;replace l:=cv l;grind[beq_iff,gq,xB]
   .exact eS l
   .cases l
 .rename_i t x ix D;split at l
  .rename_i s q i S B U;obtain⟨h0,b,G,w⟩:=Nt l;simp_all[dW,fB]
  simp_all
 .rename_i t x D;cases VF:o.dst.any h.take.contains with
  |true=>simp_all
  |false=>
  rw[VF] at l;simp only[aA] at l;have hfp:dW P h F o L=fB P o L:=by simp only[dW,D,VF,aA]
  rw[hfp];split at l
  .rename_i id V i off B;split at l
   .rename_i e sz' xs K;replace l:=cv l;obtain⟨G,l⟩:=l;have:=beq_iff.1 G;subst this;obtain⟨c,I,l⟩:=Nu l;replace l:=DW l;obtain⟨v,ht,w⟩:=eS l;simp_all[fB]
   .rename_i e sz' q e' s' xs ys K;replace l:=cv l;obtain⟨G,l⟩:=l;simp only[aU] at G;obtain⟨⟨b1,b2⟩,b3⟩:=G;have e1:=beq_iff.1 b1;have e2:=beq_iff.1 b2;have e3:Ev P t=some false:=by simpa using b3
    subst e1 e2;obtain⟨I,w⟩:=gq l;exact⟨_,by simp[fB,D,B,K,I,e3],w⟩
   simp_all
  simp_all[eS]
 .rename_i op t x y t' D;have dflt:oL (fB P o L) (λv=>k v)=some r->∃v,dW P h F o L=some v/\k v=some r:=λl=>by
   simp_all[eS,dW]
  split at l
  .rename_i ka a kb b B hy;split at l
   .replace l:=cv l;obtain⟨G,l⟩:=l;have w:ka=kb:=by simpa using G
    subst w;obtain⟨I,w⟩:=gq l;exact⟨_,by simp[dW,fB,D,B,hy,bin,GB,I],w⟩
   .replace l:=cv l;obtain⟨G,l⟩:=l;have w:ka=kb:=by simpa using G
    subst w;obtain⟨I,w⟩:=gq l;exact⟨_,by simp[dW,fB,D,B,hy,bin,GB,I],w⟩
   .obtain⟨I,w⟩:=gq l
    have:¬b<0:=af
    exact⟨_,by simp[dW,fB,D,B,hy,bin,Cr,this],w⟩
   .obtain⟨I,w⟩:=gq l
    have:¬b<0:=af
    exact⟨_,by simp[dW,fB,D,B,hy,bin,Cr,this],w⟩
   simp_all
  .rename_i a b B hy;split at l
   .obtain⟨I,w⟩:=gq l;exact⟨_,by simp[dW,fB,D,B,hy,bin,WR,I],w⟩
   .exact dflt l
  simp_all
 .rename_i t x lo U D;split at l
  .rename_i s lv hv' S B O N;obtain⟨n,hn,l⟩:=oT l;obtain⟨m,hm,w⟩:=oT l;exact⟨_,by simp[dW,fB,D,S,B,O,N,hn,hm],w⟩
  .rename_i e V xs lv hv' S B O N;split at l
   .rename_i e' s Q;replace l:=cv l;obtain⟨G,l⟩:=l;have:=beq_iff.1 G;subst this;obtain⟨n,hn,l⟩:=oT l;obtain⟨m,hm,w⟩:=oT l;exact⟨_,by simp[dW,fB,D,S,B,O,N,Q,hn,hm],w⟩
   simp_all
  .rename_i e id lv hv' S B O N;split at l
   .rename_i e' s e2 V xs Q K;replace l:=cv l;obtain⟨G,l⟩:=l;have:=beq_iff.1 G;subst this;obtain⟨n,hn,l⟩:=oT l;obtain⟨m,hm,w⟩:=oT l;simp_all[dW,fB]
   simp_all
  .rename_i e id V a b lv hv' S B O N;split at l
   .rename_i e' s Q;replace l:=cv l;grind[beq_iff,oT,dW,fB]
   simp_all
  simp_all
 .rename_i t x U mx D;split at l
  .rename_i id B;split at l
   .rename_i e2 V xs e s ka va kb vb K Q hh hm;replace l:=cv l;obtain⟨G,l⟩:=l;have:=beq_iff.1 G;subst this;obtain⟨I,w⟩:=gq l;simp_all[dW,fB,XA,aB,trivial]
   simp_all
  simp_all
 .rename_i src dst x D;split at l
  .rename_i e S hd;split at l
   .rename_i xs he Q B;obtain⟨b,G,w⟩:=R1 l;simp_all[dW,fB]
   simp_all
  simp_all[eS,dW]
 .rename_i t x kx ok D;split at l
  .rename_i kt et S;split at l
   .rename_i ks vs key B w;obtain⟨hok,l⟩:=cv l;rcases Wc l with⟨v,hg,l⟩|⟨hg,l⟩
    .exact⟨_,by simp only[dW,fB,D,S,B,w,hok,au,hg],aar l⟩
    .obtain⟨z,hz,l⟩:=eS l;exact⟨_,by simp only[dW,fB,D,S,B,w,hok,au,hg,hz,e9],l⟩
   simp_all
  simp_all
 .rename_i c D;split at l
  .rename_i f I;cases how:o.dst.any h.owns.contains with
   |true=>simp_all
   |false=>
   rw[how] at l;simp only[aA] at l;cases hro:(o.dst.any h.stay.contains&&wide L c f) with
   |true=>rw[hro] at l;simp only[au] at l;grind[OA,dW]
   |false=>
   rw[hro] at l;simp only[aA] at l;cases href:(wide L c f||c.args.toList.any (λx=>(pE h L x).isSome)) with
   |true=>grind
   |false=>
   rw[href] at l;simp only[aA] at l;cases hag:c.args.toList.any (zn L) with
   |true=>
    rw[hag] at l;simp only[au] at l;have VA:=UQ hag;split at l
    .rename_i g caps hf;obtain⟨vs,hvs,l⟩:=Dt l;obtain⟨r',B,l⟩:=vU l;obtain⟨hp,w⟩:=cv (rz l);refine⟨_,?_,w⟩;simp only[dW,D,I,hf,hvs,B];grind
    simp_all
   |false=>
   rw[hag] at l;simp only[aA] at l;split at l
   .rename_i g caps vs hf hvs;obtain⟨r',B,l⟩:=vU l;obtain⟨G,w⟩:=cv (rz l);refine⟨_,?_,w⟩;simp[dW,D,I,hf,hvs];grind
   simp_all
  simp_all[eS,dW]
 .exact eS l
def A8 {z:St} {t:TypeId} {m w x:Operand} {k:St->Option R} {r:R} (l:CO P C z t m w x k=some r):∃q,yS P z t m w x=some q/\k q=some r:=by
 unfold CO at l;split at l
 .split at l
  .split at l
   .split at l
    .obtain⟨B,l⟩:=cv l;obtain⟨p,D,l⟩:=aaf l;replace l:=NF l;simp_all[yS]
    simp_all
   simp_all
  simp_all
 simp_all
def IE {K:St} {c:Call} {f:Operand} {d:Option Nat} {k:St->Option R} {r:R} (q:Gs P C h F K c f d k=some r):∃z,jT P h F K c f d=some z/\k z=some r:=by
 unfold Gs at q;split at q
 .rename_i g I V N D;replace q:=cv q;obtain⟨L,q⟩:=q;split at q
  .rename_i cG Q;obtain⟨U,l,S,q⟩:=J4 q;replace q:=rz (Ac q);split at q
   .rename_i G w;replace q:=cv q;obtain⟨B,O⟩:=q;refine⟨_,?_,O⟩;simp only[jT,N,D,L,au,Q,S,w,B]
   simp_all
  simp_all
 simp_all
def ZC {T:Type} {enc:T->AV×List (Nat×Ob)} {c:Option (AV×List (Nat×Ob))} {k:T->Option R} {r:R} (l:MC enc c k=some r):∃d,c=some (enc d)/\k d=some r:=by
 unfold MC at l;split at l
 .obtain⟨d,e,q⟩:=rX l;grind
 simp_all
def Z6 {key:Nat} {c:Option (AV×List (Nat×Ob))} {k:AV×List (Nat×Ob)->Option R} {r:R} (l:outC C key c k=some r):∃q,c=some q/\k q=some r:=by
 unfold outC at l;split at l
 .obtain⟨d,w,z⟩:=ZC l;simp_all
 simp_all
def JZ {O:St} {key g:Nat} {args:List SV} {N:Nat->Nat} {d:Option Nat} {k:St->Option R} {r:R} (l:Gq C key F O g args N d k=some r):∃z,ki F O g args N d=some z/\k z=some r:=by
 unfold Gq at l;simp only[] at l;obtain⟨I,l⟩:=cv l;split at l
 .rename_i cG K;obtain⟨⟨S,D⟩,L,l⟩:=Z6 l;simp only[] at l;obtain⟨w,l⟩:=cv l;split at l
  .rename_i G q;split at l
   .rename_i x;obtain⟨B,l⟩:=cv l;exact⟨_,by simp only[ki,I,au,K,L,w,q,B],l⟩
   .obtain⟨Q,l⟩:=cv l;simp only[ki,I,K,L,w];simp_all
  simp_all
 simp_all
theorem R7 {D:St} {c:Call} {f:Operand} {d key:Nat} {B:List Nat} {k:St->Option R} {r:R} (q:Va P C h F D c f d key B k=some r):∃l,Dk P h F D c f d B=some l/\k l=some r:=by
 unfold Va at q;simp at q;split at q
 .rename_i g pre z N K w;obtain⟨I,q⟩:=cv q;obtain⟨l,L,G⟩:=JZ q;exact⟨_,by simp[Dk,K,w,I,au];omega,G⟩
 simp_all
def Mq {K:St} {c:Call} {f:Operand} {d:Option Nat} {k:St->Option R} {r:R} (q:J5 P C h F K c f d k=some r):∃z,iA P h F K c f d=some z/\k z=some r:=by
 unfold J5 at q;split at q
 .rename_i d;split at q
  .grind[R7,iA]
  rename_i B;split at q
  .rename_i g G vs N w;obtain⟨x,Q,q⟩:=vU q;replace q:=rz q;split at q
   .cases S:(xF h d).isSome with
    |true=>simp_all
    |false=>simp_all[iA]
   .split at q
    .simp_all[iA]
    .rename_i l O I;split at q
     .rename_i U D;obtain⟨L,q⟩:=cv q;rw[I] at w;cases l with
      |nil=>simp_all
      |cons x0 V=>exact⟨_,by simp only[iA,B,I,N,w,Q,D,L,au],q⟩
     simp_all
    simp_all
   simp_all
  simp_all
 simp_all
def Mc {B:St} {t:TypeId} {x:Operand} {d:Nat} {k:St->Option R} {r:R} (l:Mb P C B t x d k=some r):∃w,xP P B t x d=some w/\k w=some r:=by
 unfold Mb at l;split at l
 .rename_i id U i N K D;split at l
  .rename_i e O q Q S xs V z;obtain⟨G,l⟩:=cv l;obtain⟨zs,L,l⟩:=NP l;have I:=D8 (rA l);exact⟨_,by simp[xP,K,D,z,L,G,au],I⟩
  simp_all
 simp_all
def P0 {z:St} {t:TypeId} {id B i q j:Nat} {k:St->Option R} {r:R} (l:WA P C z t id B i q j k=some r):∃w,Ia P z t id B i q j=some w/\k w=some r:=by
 unfold WA at l;split at l
 .obtain⟨I,l⟩:=cv l;obtain⟨D,l⟩:=gq l;have K:=D8 l;unfold Ia;have G :=cK.mpr D;grind
 simp_all
def Qj {o:Oper} {Q:St} {k:St->Option R} {r:R} (w:WQ P C h F o Q k=some r):∃B,step0 P h F o Q=some B/\k B=some r:=by
 have ofF:(yc P C h F o Q λv=>k (Q.set o.dst v))=some r->∃B,step0 P h F o Q=some B/\k B=some r:=λw=>by obtain⟨v,N,I⟩:=Fb w;exact⟨_,by simp only[step0,N],I⟩
 unfold WQ at w;split at w
 .rename_i t l c K;have N:dW P h F o Q=none:=by simp[dW,fB,K]
  split at w
  .rename_i d e s kl l' kc c' G hs hl U;split at w
   .rename_i z i hz hi;replace w:=cv w;obtain⟨S,w⟩:=w;simp only[aU] at S;obtain⟨D,I⟩:=gq w;have h1:0<s:=by simpa[cK] using S.1
    have h2:z.length=s:=beq_iff.1 S.2;exact⟨_,by simp only[step0,N,ni,G,K,hs,hl,U,hz,hi];rw[aB ⟨h1,h2,D⟩],I⟩
   .cases w
  .cases w
 .rename_i t x y K;have N:dW P h F o Q=none:=by simp[dW,fB,K]
  split at w
  .rename_i id sz i off v G hx hy;split at w
   .rename_i e sz' xs n O hsz;replace w:=cv w;obtain⟨S,w⟩:=w;simp only[aU] at S;have h1:=beq_iff.1 S.1.1;subst h1;have h2:=beq_iff.1 S.1.2;obtain⟨c,U,w⟩:=Nu w;replace w:=cv (DW w);obtain⟨hle,I⟩:=w;refine⟨_,?_,I⟩;simp only[step0,N,ni,G,K,hx,hy,storeAt,O,hsz,U];rw[aB ⟨trivial,h2,fF hle,S.2⟩]
   .cases w
  .rename_i id sz i off j G hx hy;obtain⟨B,hs,I⟩:=P0 w;exact⟨B,by simp only[step0,N,ni,G,K,hx,hy];exact hs,I⟩
  .rename_i id off j sz n G hx hy;obtain⟨B,hs,I⟩:=eS w;exact⟨B,by simp only[step0,N,ni,G,K,hx,hy];exact hs,I⟩
  .rename_i a v hn1 hn2 hn3 G hx hy;obtain⟨B,hs,I⟩:=eS w;refine⟨B,?_,I⟩
   have:ni P h F o Q=storeAt P t Q a v:=by simp only[ni,G,K,hx,hy]
   simp only[step0,N];rw[this];exact hs
  .cases w
 .rename_i t x K;cases VF:o.dst.any h.take.contains with
  |false=>simp_all
  |true=>
   rw[VF] at w;simp only[au] at w;split at w
   .rename_i d G;rw[G] at VF;simp only[uQ] at VF;obtain⟨B,hs,I⟩:=Mc w;refine⟨B,?_,I⟩;have N:dW P h F o Q=none:=by simp only[dW,K,G,uQ,VF,au]
    simp only[step0,N,ni,K,G,VF,au];exact hs
   .cases w
 .rename_i c K;split at w
  .rename_i U;have N:dW P h F o Q=none:=by
    simp only[dW,K,U,Bb]
   split at w
   .rename_i d x y t t' G L O3;split at w
    .rename_i e s id sy hs hx hy;split at w
     .rename_i e' sz xs sz' ys i O hel hi;replace w:=cv w;obtain⟨S,w⟩:=w;simp only[aU] at S;obtain⟨⟨⟨⟨⟨⟨b1,b2⟩,b3⟩,b4⟩,b5⟩,b6⟩,b7⟩:=S;have e1:=beq_iff.1 b1;have e2:=beq_iff.1 b2;have e3:=beq_iff.1 b3;have e4:=beq_iff.1 b4;have e5:0<sz:=by simpa[cK] using b5
      have e6:i.zero.map (λz=>z.cells.size)=some sz:=by simpa using b6
      obtain⟨D,I⟩:=gq w;refine⟨_,?_,I⟩;simp only[step0,N,ni,K,U,G,L,O3,hs,hx,hy,O,hel,hi];rw[aB ⟨e1,e2,e3,e4,e5,D.1,D.2,e6,b7⟩]
     .rename_i e' sz q e2x s2x xs zs sz' ys i O hel hi;replace w:=cv w;obtain⟨S,w⟩:=w;simp only[aU] at S;obtain⟨⟨⟨⟨⟨⟨⟨b1,b2⟩,b3⟩,b4⟩,b5⟩,b6⟩,b7⟩,b8⟩:=S;have e1:=beq_iff.1 b1;have e2:=beq_iff.1 b2;have e3:=beq_iff.1 b3;have e4:=beq_iff.1 b4;have e5:0<sz:=by simpa[cK] using b5
      have e6:i.zero.map (λz=>z.cells.size)=some sz:=by simpa using b6
      obtain⟨D,I⟩:=gq w;refine⟨_,?_,D8 I⟩;simp only[step0,N,ni,K,U,G,L,O3,hs,hx,hy,O,hel,hi];rw[aB ⟨e1,e2,e3,e4,e5,D.1,D.2,e6,b7,b8⟩]
     .cases w
    .rename_i e s id sy hs hx hy;split at w
     .rename_i e' sz xs sz' ys i O hel hi;replace w:=cv w;obtain⟨S,w⟩:=w;simp only[aU,jw] at S;obtain⟨⟨⟨⟨⟨⟨⟨b1,b2⟩,b3⟩,b4⟩,b5⟩,b6⟩,b7⟩,b8⟩:=S;have e1:=beq_iff.1 b1;have e2:=beq_iff.1 b2;have e3:=beq_iff.1 b3;have e4:=beq_iff.1 b4;have e5:0<sz:=by simpa[cK] using b5
      have e6:i.zero.map (λz=>z.cells.size)=some sz:=by simpa using b6
      obtain⟨D,I⟩:=gq w;refine⟨_,?_,I⟩;simp only[step0,N,ni,K,U,G,L,O3,hs,hx,hy,O,hel,hi];rw[aB ⟨e1,e2,e3,e4,e5,D.1,D.2,e6,b7,b8⟩]
     .cases w
    .cases w
   .cases w
  .rename_i U;have N:dW P h F o Q=none:=by simp only[dW,K,U,Bb]
   split at w
   .rename_i x t G L O3;split at w
    .rename_i e s id sz lo hi hs hx;split at w
     .rename_i e' sz' xs z O hz;replace w:=cv w;obtain⟨S,w⟩:=w;simp only[aU] at S;obtain⟨⟨⟨⟨b1,b2⟩,b3⟩,b4⟩,b5⟩:=S;have e1:=beq_iff.1 b1;have e2:=beq_iff.1 b2;have e3:=beq_iff.1 b3;have e4:=beq_iff.1 b4;have e5:0<sz:=by simpa[cK] using b5
      obtain⟨hle,I⟩:=gq w;refine⟨_,?_,I⟩;simp only[step0,N,ni,K,U,G,L,O3,hs,hx,O,hz];rw[aB ⟨e1,e2,e3,hle,e4,e5⟩]
     .cases w
    .rename_i hs;split at w
     .rename_i B hm;exact⟨B,by simp only[step0,N,ni,K,U,G,L,O3,hs];exact hm,w⟩
     simp_all
    .cases w
   .cases w
  .rename_i f U;cases how:o.dst.any h.owns.contains with
   |true=>
    rw[how] at w;simp only[au] at w;have N:dW P h F o Q=none:=by simp only[dW,K,U,how,au]
    obtain⟨B,h1,I⟩:=Mq w;exact⟨B,by simp only[step0,N];cases G:o.dst<;>(simp only[ni,K,U,G];rw[G] at how;rw[how,<-G];exact h1),I⟩
   |false=>
   rw[how] at w;simp only[aA] at w;have how0:∀d,o.dst=d->d.any h.owns.contains=false:=λd G=>G▸how
   cases hro:(o.dst.any h.stay.contains&&wide Q c f) with
   |true=>rw[hro] at w;exact ofF w
   |false=>
   rw[hro] at w;simp only[aA] at w;cases ZL:wide Q c f with
   |true=>
    rw[ZL] at w;simp only[au] at w;have N:dW P h F o Q=none:=by simp only[dW,K,U];rw[how,hro,ZL];rfl
    obtain⟨B,h1,I⟩:=IE w;exact⟨B,by simp only[step0,N];cases G:o.dst<;>(simp only[ni,K,U,G];rw[G] at hro how;rw[how,hro,ZL,<-G];exact h1),I⟩
   |false=>
   have hro0:∀(d:Option Nat),(d.any h.stay.contains&&false)=false:=λd=>by simp
   rw[ZL] at w;simp only[aA] at w;cases V:c.args.toList.any (λx=>(pE h Q x).isSome) with
   |true=>
    rw[V] at w;simp only[au] at w;have N:dW P h F o Q=none:=by simp only[dW,K,U];rw[how,hro,V];simp
    split at w
    .rename_i g caps vs id hfn hvs;split at w
     .rename_i e sz xs O;obtain⟨r',xs',hx,w⟩:=Vc w;replace w:=rA (rz w);have hstep:∀st2,qe P h F Q c f o.dst=some st2->step0 P h F o Q=some st2:=λst2 h2=>by
       simp only[step0,N];cases G:o.dst<;>(simp only[ni,K,U,G];rw[how0 _ G,ZL,V,hro0];simp only[au,aA];rw[<-G];exact h2)
      split at w
      .rename_i n;replace w:=cv w;obtain⟨S,w⟩:=w;obtain⟨hn,I⟩:=gq w;refine⟨_,hstep _ ?_,I⟩;simp only[qe,hfn,hvs,O,hx,beq_iff.2 (rfl:e=e),beq_iff.2 (rfl:sz=sz),beq_iff.2 (rfl:10000=10000),rI,au,S,uT hn]
      .rename_i hns;replace w:=cv w;obtain⟨S,I⟩:=w;refine⟨_,hstep _ ?_,I⟩;simp only[qe,hfn,hvs,O,hx,beq_iff.2 (rfl:e=e),beq_iff.2 (rfl:sz=sz),beq_iff.2 (rfl:10000=10000),rI,au,S]
     .cases w
    .cases w
   |false=>
   have href0:(wide Q c f||c.args.toList.any (λx=>(pE h Q x).isSome))=false:=by rw[ZL,V];rfl
   rw[V] at w;simp only[aA] at w;cases hag:c.args.toList.any (zn Q) with
   |true=>rw[hag] at w;exact ofF w
   |false=>
   rw[hag] at w;simp only[aA] at w;cases VA:c.args.toList.any (kV Q) with
   |true=>
    simp only[VA,au] at w;split at w
    .rename_i g caps vs hfn hvs;obtain⟨r',hx,w⟩:=vU w;replace w:=rz w;cases hp:(r'.plain&&r'.jG) with
     |true=>simp only[hp,au] at w;refine⟨_,?_,w⟩;rw[aU] at hp;simp only[step0,dW,K,U];rw[how,hro,href0];simp only[hfn,hvs,hx,hp.1,hp.2,uP,Bool.or_true,iz,au,aA]
     |false=>
      simp only[hp,aA] at w;split at w
      .rename_i st1 oD;split at w
       .rename_i g' caps' vs' hfn' hvs';cases hrow:c.args.toList.any (kV st1) with
        |true=>simp_all
        |false=>
         rw[hrow] at w;simp only[aA] at w;obtain⟨r2,hx2,w⟩:=vU w;replace w:=cv (rz w);obtain⟨hns,w⟩:=w;refine⟨_,?_,w⟩;have N:dW P h F o Q=none:=by simp only[dW,K,U];rw[how,hro,href0];simp only[aA,hfn,hvs,hx,hp,VA,dM,rJ,pO]
         simp only[step0,N];cases G:o.dst<;>(simp only[ni,K,U,G];rw[how0 _ G,ZL,V,hro0];simp only[aA,oD,hfn',hvs',hx2,hrow,hns,dM,rJ])
       simp_all
      simp_all
    simp_all
   |false=>simp_all
  simp_all
 .rename_i t m kx x K;split at w
  .rename_i G;obtain⟨B,h1,I⟩:=A8 w;exact⟨B,by simp only[step0,ni,dW,fB,K,G];exact h1,I⟩
  .cases w
 .rename_i t m kx x K;split at w
  .rename_i G;obtain⟨B,h1,I⟩:=A8 w;exact⟨B,by simp only[step0,ni,dW,fB,K,G];exact h1,I⟩
  .cases w
 .exact eS w
 .exact eS w
 .exact eS w
 .exact eS w
 .exact eS w
 .exact eS w
 .exact eS w
 simp_all
def PS {z:St} {t:Nat} {k:St->Option R} {r:R} (l:PR C z t k=some r):∃q,qw z t=some q/\k q=some r:=by
 unfold PR at l;split at l
 .split at l
  .obtain⟨w,l⟩:=cv l;obtain⟨D,B,l⟩:=Gl l;refine⟨_,?_,rA l⟩;simp_all[qw,St.dr,Ob.val]
  .exact eS l
 .exact eS l
def B7:∀{l:List Nat} {w:St} {k:St->Option R} {r:R},GM C l w k=some r->∃z,mT l w=some z/\k z=some r
 |[],w,k,r,q=>⟨w,rfl,q⟩
 |t::l,w,k,r,q=>by obtain⟨B,G,q⟩:=PS q;obtain⟨D,I,q⟩:=B7 q;simp_all[mT]
theorem Ir {o:Oper} {w:St} {k:St->Option R} {r:R} (q:stepT P C h F o w k=some r):∃l,step P h F o w=some l/\k l=some r:=by obtain⟨z,D,q⟩:=B7 q;obtain⟨B,G,I⟩:=Qj q;simp_all[step]
def Iw {q:Array Oper} {o:Oper} {w:St} {k:Bool->St->Option R} {r:R} (l:YY q o w k=some r):∃b,qp q o w=some b/\k b w=some r:=by
 unfold YY at l;unfold qp;split at l
 .simp_all
 .split at l
  .split at l
   .simp_all
   .exact⟨_,by simp_all,l⟩
   .simp_all
   simp_all
  simp_all
def Uj {l:St} {d:Nat} {v:SV} (w:l.env d=some v):l.set (some d) v=l:=by obtain⟨q,z⟩:=l;simp[St.set,St.mk.injEq];grind[cW,bS]
theorem AE {b:Bool} {d:Option Nat} {q:St} {k:St->Option R} {r:R} (l:LB b d q k=some r):k q=some r:=by unfold LB at l;cases b with
 |false=>exact l
 |true=>
  simp at l;split at l
  .split at l
   .rename_i t w;cases t with
    |true=>simp_all[Uj]
    |false=>simp_all[Uj]
   omega
  omega
def MS {q:Array Oper}:∀{l:List Oper} {i:Nat} {w:St} {k:St->Option R} {r:R},Ji P C h F q i l w k=some r->∃s,qS P h F q l w=some s/\k s=some r:=by intro l;induction l with
 |nil=>intro i w k r z;exact⟨w,rfl,z⟩
 |cons o l D=>intro i w k r z;obtain⟨b,B,z⟩:=Iw z;cases b with
  |true=>grind[Ir,AE,qS]
  |false=>grind[qS]
def Ls {B:Array Oper}:∀{l:List Oper} {i:Nat} {w:List (Nat×ga)} {z:St} {k:St->Option R} {r:R},Cl P C h F B i l w z k=some r->∃s,jZ P h F B i l w z=some s/\k s=some r:=by intro l;induction l with
 |nil=>intro i w z k r q;exact⟨z,rfl,q⟩
 |cons o l K=>intro i w z k r q;replace q:=Iw q;obtain⟨b,O,q⟩:=q;cases b with
  |true=>cases D:(isF h z o&&(FE h o).isEmpty) with
   |true=>simp[D] at q;obtain⟨v,S,q⟩:=Fb q;obtain⟨G,q⟩:=cv q;obtain⟨s,L,I⟩:=K (AE q);simp_all[jZ]
   |false=>simp[D] at q;obtain⟨Q,N,q⟩:=Ir q;obtain⟨G,q⟩:=cv q;obtain⟨s,L,I⟩:=K (AE q);exact⟨s,by simp[jZ,O,au,D,aA,N,G];omega,I⟩
  |false=>obtain⟨G,q⟩:=cv q;simp_all[jZ]
theorem OR {w:Type} (m:Nat->Option w):∀(l:List Nat) (i:Nat),find (vA m l) i=if i∈l then m i else none:=by intro l;induction l with
 |nil=>intro i;rfl
 |cons j l D=>intro i;simp[vA];cases B:m j with
  |none=>grind
  |some v=>simp only[find];cases z:Nat.beq j i with
   |true=>simp_all
   |false=>
    have q:¬i=j:=λe=>by simp_all
    simp_all
def Sf (h:Hint) (key:Nat) (l:St):h.canon key (h.canon key l)=h.canon key l:=by
 unfold Hint.canon;split
 .grind[St.mk.injEq,OR]
 .rfl
def KE {key:Nat} {f:St->Option (Ex×St)} {n:Nat} {l:St}:iter h key f n (h.canon key l)=iter h key f n l:=by cases n with
 |zero=>rfl
 |succ n=>simp[iter,Sf]
def ZQ {c:Code} {n m:Nat} (B:n<=m) {key:Nat}:∀(q:Nat) {l:Nat} {z:St} {x:Ex×St},q<=l->iter h key (exec P h F n c) q z=some x->iter h key (exec P h F m c) l z=some x:=by intro q;induction q with
 |zero=>simp_all[iter]
 |succ q I=>
  intro l z x D G;obtain⟨w,rfl⟩:∃w,l=w+1:=⟨l-1,af⟩
  grind[iter,tf]
def yP {c:Code} {z:St} {k:Ex->St->Option R} {r:R}:KD P h F c z k=some r↔∃n e l,exec P h F n (.loop c) z=some (e,l)/\k e l=some r:=by
 constructor
 .intro w;unfold KD at w;split at w
  .grind
  simp_all
 .rintro⟨n,e,l,q,G⟩;unfold KD;have B:∃x n,exec P h F n _ _=some x:=⟨_,n,q⟩
  obtain⟨m,I⟩:=B.choose_spec;have D:=tf (uS n m) q;grind[tf,Nat.le_max_right]
theorem yq:∀{l:List Nat} {z:St} {k:St->Option R} {r:R},FF C l z k=some r->∃w,Cc l z=some w/\k w=some r
 |[],z,k,r,q=>⟨z,rfl,q⟩
 |id::l,z,k,r,q=>by
  simp[FF] at q;split at q
  .replace q:=cv q;obtain⟨B,q⟩:=q;obtain⟨K,I,q⟩:=Gl q;obtain⟨w,D,G⟩:=yq (rA q);simp_all[Cc,St.PU,St.dr,Ob.val]
  .split at q
   .obtain⟨w,D,G⟩:=yq q;simp_all[Cc]
   simp_all
def T2 {id:Nat} {w:St} {k:St->Option R} {r:R} (q:ad3 C h id w k=some r):∃l,h.ad2 id w=some l/\k l=some r:=by
 unfold ad3 at q;unfold Hint.ad2;split at q
 .grind[yq]
 simp_all
def HC:∀(c:Code) {w:St} {k:Ex->St->Option R} {r:R},sS P C h F c w k=some r->∃n e O,exec P h F n c w=some (e,O)/\k e O=some r:=by intro c;induction c with
 |skip=>intro w k r q;exact⟨0,_,_,rfl,q⟩
 |label l=>intro w k r q;exact⟨0,_,_,rfl,q⟩
 |exit id=>intro w k r q;exact⟨0,_,_,rfl,q⟩
 |ret=>intro w k r q;exact⟨0,_,_,rfl,q⟩
 |region id ops I=>intro w k r q;simp only[sS] at q;obtain⟨Q,L,q⟩:=T2 q;cases I with
  |true=>simp only[au] at q;obtain⟨hs,q⟩:=cv q;obtain⟨s,V,K⟩:=Ls q;exact⟨0, .normal,s,by simp_all[exec,kB,au,e9],K⟩
  |false=>simp only[aA] at q;obtain⟨s,V,K⟩:=MS q;exact⟨0, .normal,s,by simp[exec,L,V],K⟩
 |seq x y D G=>
  intro w k r q;simp only[sS] at q;cases B:find h.blk (fk x) with
  |some z=>simp[B] at q;obtain⟨hg,q⟩:=gq q;exact⟨0,_,_,by simp_all[exec],q⟩
  |none=>
  simp[B] at q;obtain⟨n,e,Q,N,q⟩:=D q;cases e with
  |normal=>obtain⟨m,e2,st2,hy,K⟩:=G (q);exact⟨max n m,e2,_,by grind[exec,tf,Nat.le_max_right],K⟩
  |exit id=>exact⟨n,_,_,by simp[exec,B,N],q⟩
  |ret=>exact⟨n,_,_,by simp[exec,B,N],q⟩
 |cond c x y D G=>
  intro w k r q;simp[sS] at q;split at q
  .rename_i t hc;cases t with
   |true=>simp_all[exec]
   |false=>simp_all[exec]
  simp_all
 |block id c S=>intro w k r q;obtain⟨n,e,Q,N,q⟩:=S q;cases e with
  |normal=>exact⟨n,_,_,by simp[exec,N],q⟩
  |ret=>exact⟨n,_,_,by simp[exec,N],q⟩
  |exit j=>simp[U3] at q;cases U:Nat.beq j id with
   |true=>simp[U] at q;exact⟨n,_,_,by simp_all[exec],q⟩
   |false=>simp[U] at q;exact⟨n,_,_,by simp_all[exec],q⟩
 |loop c S=>simp_all[sS,yP,exec,KE]
 |scope c S=>assumption
 |rangeFunc f ps x y D G=>simp_all[sS]
 |goto l=>simp_all[sS]
 |refuse s=>simp_all[sS]
theorem Ti {c:Code} {B:St} {k:Ex->St->Option R} {r:R} (G:sS P C h F c (h.canon (fk c) B) (UR P h F c k)=some r):KD P h F c B k=some r:=by obtain⟨n,e,I,w,l⟩:=HC c G;cases e with
 |normal=>obtain⟨m,D,K,z,q⟩:=yP.1 (l);simp[exec,KE] at z;refine yP.2 ⟨max n m+1,D,_,?_,q⟩;simp[exec,iter];rw[tf (show n<=max n m+1 by omega) w];exact ZQ (show m<=max n m+1 by omega) m af z
 |exit j=>refine yP.2 ⟨n+1,_,_,?_,l⟩;simp[exec,iter];rw[tf (show n<=n+1 by omega) w]
 |ret=>refine yP.2 ⟨n+1,_,_,?_,l⟩;simp[exec,iter];rw[tf (show n<=n+1 by omega) w]
end
section
variable {P:Program} {C:mW} {H:Nat->Hint} {gM:eE}
def sF {f:Nat} {args:List SV} {cG:List (Nat×Ob)} {r:AV×List (Nat×Ob)} (D:gM f args cG=none) (l:aa3 P C H gM f args cG=some r):run P H gM f args cG=some r:=by
 unfold aa3 at l;split at l
 .rename_i fn B;split at l
  .rename_i c q;obtain⟨w,l⟩:=cv l;obtain⟨n,e,I,G,z⟩:=HC c l;exact Ih D B q w G z
  simp_all
 simp_all
def jF {f key:Nat} {names:List Nat} {l:List (Nat×SV)} {q:List (Nat×Ob)} {r:AV×List (Nat×Ob)} (w:WL P C H gM f key names l q=some r):A5 P C H gM f key names l q=some r:=by grind[WL,A5,Ti]
end
section
variable {R:Type}
def bW {p:Prop} [Decidable p] (l:p) (x:Option R):check p x=x:=by unfold check;simp_all
def Kq {l:Type} {xs:List l} {i:Int} {x:l} (q:0<=i) (w:xs[i.toNat]? =some x) (k:l->Option R):bq xs i k=k x:=by simp_all[bq]
theorem iI {l:Type} {xs:List l} {i:Nat} {x:l} (q:xs[i]? =some x) (k:l->Option R):bq xs (i:Int) k=k x:=Kq af (by assumption) k
def kS {l:Type} {xs:List l} {i:Nat} {x:l} (q:xs[i]? =some x) (k:l->Option R):eC xs i k=k x:=by unfold eC;rw[q]
def Zj {c:Option (AV×List (Nat×Ob))} {r:AV} (l:c=some (r,[])) (k:AV->Option R):yH c k=k r:=by subst l;unfold yH;rfl
def Zl {c:Option (AV×List (Nat×Ob))} {l e q:Nat} {r:AV} {xs:List (List AV)} (w:c=some (r,[(l, .row e q xs)])) (k:AV->List (List AV)->Option R):HA c l e q k=k r xs:=by simp_all[HA]
def asE_pos {l T:Type} {enc:T->l} (inj:∀a b,enc a=enc b->a=b) (d:T) (k:T->Option R):uJ enc (enc d) k=k d:=by
 unfold uJ;have q:∃x,enc x=enc d:=⟨d,rfl⟩
 grind
end
