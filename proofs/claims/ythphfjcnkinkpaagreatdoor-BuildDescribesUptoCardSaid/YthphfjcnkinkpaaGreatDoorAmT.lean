/- THE ABSTRACT MACHINE, TYPED. -/
import Derived.Test.YthphfjcnkinkpaaGreatDoorAmFin
set_option linter.all false
namespace Go.AM
open Go.RowKit
structure FQ where
 T:Type
 enc:T->List AV
structure xH where
 T:Type
 enc:T->AV
def Hf {q:Type 1}:List (Nat×q)->Nat->Option q
 |[],_=>none
 |(j,v)::l,i=>cond (Nat.beq j i) (some v) (Hf l i)
structure CodO where
 T:Type
 enc:T->AV×List (Nat×Ob)
structure ni where
 elem:TypeId->Option FQ
 val:TypeId->Option xH
 res:Nat->Option xH
 ptr:Option FQ:=none
 out:Nat->Option CodO:=λ_=>none
def fK (K V:xH) (l:List (K.T×V.T)):List AV×List AV:=(l.map λp=>K.enc p.1,l.map λp=>V.enc p.2)
section
variable {R:Type}
@[irreducible] def check (p:Prop) [Decidable p] (x:Option R):Option R:=if p then x else none
@[irreducible] def bf {l:Type} (xs:List l) (i:Int) (k:l->Option R):Option R:=
 if 0<=i then match xs[i.toNat]? with
  |some x=>k x
  |none=>none
 else none
@[irreducible] def dO {l:Type} (xs:List l) (i:Nat) (k:l->Option R):Option R:=
 match xs[i]? with
 |some x=>k x
 |none=>none
@[irreducible] def yj (c:Option (AV×List (Nat×Ob))) (k:AV->Option R):Option R:=
 match c with
 |some (r,[])=>k r
 |_=>none
@[irreducible] def G4 (c:Option (AV×List (Nat×Ob))) (nm e sz:Nat) (k:AV->List (List AV)->Option R):Option R:=
 match c with
 |some (r,[(l, .row w q xs)])=>bif Nat.beq nm l&&Nat.beq e w&&Nat.beq sz q then k r xs else none
 |_=>none
@[irreducible] def Nc (x:Option (Option AV)) (k:AV->Option R) (z:Option R):Option R:=
 match x with
 |some (some v)=>k v
 |some none=>z
 |none=>none
@[irreducible] def Z1 (x:Option (List AV×List AV)) (k:List AV×List AV->Option R):Option R:=
 match x with
 |some p=>k p
 |none=>none
@[irreducible] noncomputable def uE {l T:Type} (enc:T->l) (c:l) (k:T->Option R):Option R:=
 open Classical in if q : ∃ d, enc d = c then k q.choose else none
@[irreducible] noncomputable def Me {T:Type} (enc:T->AV×List (Nat×Ob)) (c:Option (AV×List (Nat×Ob))) (k:T->Option R):Option R:=
 match c with
 |some l=>uE enc l k
 |none=>none
noncomputable def outC (C:ni) (key:Nat) (c:Option (AV×List (Nat×Ob))) (k:AV×List (Nat×Ob)->Option R):Option R:=
 match C.out key with
 |some E=>Me E.enc c λd=>k (E.enc d)
 |none=>none
@[irreducible] def Bq (c:Option (AV×List (Nat×Ob))) (k:AV->List (Nat×Ob)->Option R):Option R:=
 match c with
 |some (r,l)=>k r l
 |none=>none
@[irreducible] def vw (nm:Nat) (l:List (Nat×Ob)) (k:Ob->List (Nat×Ob)->Option R):Option R:=
 match l with
 |(q,o)::l=>bif Nat.beq nm q then k o l else none
 |[]=>none
@[irreducible] def ZM (l:List (Nat×Ob)) (k:Option R):Option R:=
 match l with
 |[]=>k
 |_=>none
@[irreducible] noncomputable def Fi (o o':Ob) (k:Option R):Option R:=open Classical in if o=o' then k else none
@[irreducible] def RL (e sz:Nat) (o:Ob) (k:List (List AV)->Option R):Option R:=
 match o with
 | .row q l xs=>bif Nat.beq e q&&Nat.beq sz l then k xs else none
 |_=>none
@[irreducible] def RK (z q:Nat) (o:Ob) (k:List AV×List AV->Option R):Option R:=
 match o with
 | .mp k' l w B=>bif Nat.beq z k'&&Nat.beq q l then k (w,B) else none
 |_=>none
@[irreducible] def asLp (o:Ob) (k:List AV->Option R):Option R:=
 match o with
 | .lp xs=>k xs
 |_=>none
@[irreducible] def ptrK (a:AV) (k:List AV->Option R):Option R:=
 match a with
 | .ref l=>k l
 |_=>none
@[irreducible] def hasK (x:Option (Option Nat)) (k:Bool->Option R):Option R:=
 match x with
 |some r=>k r.isSome
 |none=>none
@[irreducible] def UX (x:Option (List UInt8)) (k:List UInt8->Option R):Option R:=
 match x with
 |some b=>k b
 |none=>none
@[irreducible] def takeK (x:Option (List (List AV)×List (Option (List (List AV))))) (k:List (List AV)->List (Option (List (List AV)))->Option R):Option R:=
 match x with
 |some p=>k p.1 p.2
 |none=>none
@[irreducible] def putRK (x:Option (List AV×List (Option (List (List AV))))) (k:List AV×List (Option (List (List AV)))->Option R):Option R:=
 match x with
 |some p=>k p
 |none=>none
@[irreducible] def UL (x:Option (List (List (List AV)))) (k:List (List (List AV))->Option R):Option R:=
 match x with
 |some l=>k l
 |none=>none
@[irreducible] def ZV (l:List (Option (List (List AV)))) (i:Nat) (k:List (List AV)->Option R):Option R:=
 match l[i]? with
 |some (some q)=>k q
 |_=>none
def oQ {l:Type} (c:Option l) (k:l->Option R):Option R:=
 match c with
 |some r=>k r
 |none=>none
noncomputable def Sf (C:ni) (e:TypeId) (c:List AV) (k:List AV->Option R):Option R:=
 match C.elem e with
 |some d=>uE d.enc c λx=>k (d.enc x)
 |none=>k c
noncomputable def Mt (C:ni) (e:TypeId) (c:List (List AV)) (k:List (List AV)->Option R):Option R:=
 match C.elem e with
 |some d=>uE (List.map d.enc) c λx=>k (x.map d.enc)
 |none=>k c
noncomputable def valK (C:ni) (t:TypeId) (c:AV) (k:AV->Option R):Option R:=
 match C.val t with
 |some d=>uE d.enc c λx=>k (d.enc x)
 |none=>k c
noncomputable def mapK (C:ni) (w q:TypeId) (p:List AV×List AV) (k:List AV×List AV->Option R):Option R:=
 match C.val w,C.val q with
 |some K,some V=>uE (fK K V) p λl=>k (fK K V l)
 |_,_=>k p
noncomputable def Ts (C:ni) (e:TypeId) (l:List (Option (List (List AV)))) (k:List (Option (List (List AV)))->Option R):Option R:=
 match C.elem e with
 |some d=>uE (List.map (Option.map (List.map d.enc))) l λy=>k (y.map (Option.map (List.map d.enc)))
 |none=>k l
noncomputable def P0 (C:ni) (o l:Ob) (k:Ob->Option R):Option R:=
 match o with
 | .row e z _=>RL e z l λxs=>Mt C e xs λxs=>k (.row e z xs)
 | .mp w q _ _=>RK w q l λp=>mapK C w q p λp=>k (.mp w q p.1 p.2)
 | .lp _=>asLp l λxs=>k (.lp xs)
 |o=>Fi l o (k o)
@[irreducible] def asBox (t:TypeId) (o:Ob) (k:List AV->Option R):Option R:=
 match o with
 | .box q cells=>match mM cells with
  |some l=>bif Nat.beq t q then k l else none
  |none=>none
 |_=>none
@[irreducible] noncomputable def Jp (t:TypeId) (pre:List SV) (sz:Nat) (o:Ob) (k:List (List AV)->Option R):Option R:=open Classical in
 if h:∃xs,o= .box t (pre++[.pv (.dG sz xs)]) then k h.choose else none
def lastOf (P:Program) (t:TypeId) (cells:List SV):Option (TypeId×Nat×List SV):=
 match mM cells with
 |some _=>none
 |none=>match cells.getLast?,(tD P 8 t).getLast? with
  |some (.pv (.dG l _)),some ty=>match isSlice P ty with
   |some (e,s)=>bif Nat.beq s l then some (e,l,cells.dropLast) else none
   |none=>none
  |_,_=>none
noncomputable def boxK (P:Program) (C:ni) (o l:Ob) (k:Ob->Option R):Option R:=
 match o with
 | .box t cells=>match lastOf P t cells with
  |some (e,q,pre)=>Jp t pre q l λxs=>Mt C e xs λxs=>k (.box t (pre++[.pv (.dG q xs)]))
  |none=>match C.elem t,mM cells,cells with
  |some d,some _,_::_::_=>asBox t l λw=>uE d.enc w λx=>k (.box t ((d.enc x).map .pv))
  |_,_,_=>Fi l o (k o)
 |o=>P0 C o l k
noncomputable def Sa (P:Program) (C:ni) (keep B:List Nat):List (Nat×Ob)->List (Nat×Ob)->(List (Nat×Ob)->Option R)->Option R
 |[],D,k=>ZM D (k [])
 |(w,o)::l,D,k=>vw w D λG q=>bif keep.contains w then Fi G o (Sa P C keep B l q λz=>k ((w,o)::z)) else bif B.contains w then boxK P C o G λI=>Sa P C keep B l q λz=>k ((w,I)::z) else P0 C o G λI=>Sa P C keep B l q λz=>k ((w,I)::z)
noncomputable def Mr (C:ni) (g:Nat) (c:AV) (k:AV->Option R):Option R:=
 match C.res g with
 |some d=>uE d.enc c λx=>k (d.enc x)
 |none=>k c
noncomputable def aa9 (C:ni) (a:AV) (k:AV->Option R):Option R:=
 ptrK a λl=>match C.ptr with
  |some d=>uE d.enc l λx=>k (.ref (d.enc x))
  |none=>k (.ref l)
def xL (w:Option SV) (l:Nat) (q:Nat) (k:Nat->Option R):Option R:=
 match w with
 |none=>k l
 |some (.pv (.int _ i))=>check (0<=i/\i<=q) (k i.toNat)
 |some _=>none
noncomputable def Ee:List (Nat×Ob)->List (Nat×Ob)->Option R->Option R
 |[],q,k=>ZM q k
 |(z,o)::l,q,k=>vw z q λB w=>Fi B o (Ee l w k)
noncomputable def Od (P:Program) (C:ni) (h:Hint) (F:eN) (q:St) (c:Call) (f:Operand) (k:AV->Option R):Option R:=
 match uA P h q c f with
 |some (g,args)=>
  bif distinct (jB q args)&&Nat.blt (jB q args).length 10000&&args.all (SV.closed (jB q args)) then
   match jP q (jB q args) (iN (mw (jB q args))) (mw (jB q args)) with
   |some cG=>Bq (F g (args.map (SV.oN (iN (mw (jB q args))))) cG) λr l=>Ee cG l (Mr C g r λr=>bif r.jJ then k r else none)
   |none=>none
  else none
 |none=>none
noncomputable def adp (C:ni) (w:St) (v:SV) (k:AV->Option R):Option R:=
 match v with
 | .aq id (.nr i)=>match w.ob id with
  |some (.rn _ _ _ G z _ B)=>ZV B i λD=>Mt C G D λD=>k (.dG z D)
  |_=>none
 | .ag [.r id]=>match w.ob id with
  |some (.rn e I q _ z xs B)=>UL (qH B) λl=>Mt C e (wG q z xs l) λm=>k (.agg [.dG I m])
  |_=>oQ (nX w v) k
 |v=>oQ (nX w v) k
noncomputable def ER (P:Program) (C:ni) (q:St):List Operand->List TypeId->(List AV->Option R)->Option R
 |[],_,k=>k []
 |x::xs,w,k=>match bP P (w.headD 0) q x with
  |some v=>adp C q v λa=>ER P C q xs w.tail λl=>k (a::l)
  |none=>none
noncomputable def xR (P:Program) (C:ni) (h:Hint) (F:eN) (o:Oper) (w:St) (k:SV->Option R):Option R:=
 match o.op with
 | .pick c a b=>match bP P 0 w c with
  |some (.pv (.bool t))=>bif t then oQ (bP P o.type w a) k else oQ (bP P o.type w b) k
  |_=>none
 | .nilCheck x=>match bP P 0 w x with
  |some (.pv a)=>aa9 C a λa=>k (.pv a)
  |_=>oQ (fB P o w) k
 | .indexAddr t x N=>match P.underlying t with
  |some (.array n e)=>oQ (Dz P w n e x N) k
  |_=>match isSlice P t,bP P t w x,bP P 0 w N with
  |some (e,s),some (.pv (.dG B xs)),some (.pv (.int _ i))=>bif Nat.beq s B then bf xs i λc=>Sf C e c λc=>k (.cp c) else none
  |some (_,s),some (.row id),some (.pv (.int _ i))=>match w.ob id with
   |some (.row _ B xs)=>bif Nat.beq s B then check (0<=i/\i.toNat<xs.length) (k (.rp id B i.toNat 0)) else none
   |some (.rn _ B _ _ _ xs _)=>bif Nat.beq s B then check (0<=i/\i.toNat<xs.length) (k (.rp id B i.toNat 0)) else none
   |_=>none
  |some (_,s),some (.sub id B G D),some (.pv (.int _ i))=>bif Nat.beq s B then check (0<=i/\i.toNat<D-G) (k (.rp id B (G+i.toNat) 0)) else none
  |some _,some (.aq _ (.bs _)),some (.pv (.int _ _))=>oQ (w8 P w t x N) k
  |_,_,_=>none
 | .index t x N=>match P.underlying t,bP P t w x,bP P 0 w N with
  |some .string,some (.pv (.str s)),some (.pv (.int _ i))=>bf s i λb=>k (.pv (.int .u8 b.toNat))
  |_,_,_=>none
 | .load t x=>bif o.dst.any h.take.contains then none else match bP P 0 w x with
  |some (.rp id B i O)=>match w.ob id with
   |some (.row e L xs)=>bif Nat.beq B L then dO xs i λc=>Sf C e c λc=>oQ (iU P t (c.drop O)) λv=>k (.pv v) else none
   |some (.rn _ L q _ _ xs _)=>bif Nat.beq B L&&Nat.beq O q&&(DZ P t==some false) then check (i<xs.length) (k (.aq id (.nr i))) else none
   |_=>none
  |_=>oQ (fB P o w) k
 | .binOp op t x y _=>match(bP P t w x).bind kR,(bP P t w y).bind kR with
  |some (.int K a),some (.int V b)=>match op with
   | .quo=>bif K==V then check (b≠0) (k (.pv (.int K (K.wrap (a.tdiv b))))) else none
   | .rem=>bif K==V then check (b≠0) (k (.pv (.int K (a.tmod b)))) else none
   | .shl=>check (0<=b) (k (.pv (.int K (K.wrap (a *2^ min b.toNat K.bits)))))
   | .shr=>check (0<=b) (k (.pv (.int K (a.fdiv (2^ min b.toNat K.bits)))))
   |_=>oQ (fB P o w) k
  |some (.str a),some (.str b)=>match op with
   | .add=>check (a.length+b.length<=9223372036854775807) (k (.pv (.str (a++b))))
   |_=>oQ (fB P o w) k
  |_,_=>oQ (fB P o w) k
 | .slice t x G D none=>match P.underlying t,bP P t w x,nZ P w G,nZ P w D with
  |some .string,some (.pv (.str s)),some G,some D=>xL D s.length s.length λh=>xL G 0 h λl=>k (.pv (.str ((s.take h).drop l)))
  |some (.slice _),some (.pv (.dG B xs)),some G,some D=>match isSlice P t with
   |some (_,s)=>bif Nat.beq s B then xL D xs.length xs.length λh=>xL G 0 h λl=>k (.pv (.dG B ((xs.take h).drop l))) else none
   |none=>none
  |some (.slice _),some (.row id),some G,some D=>match isSlice P t,w.ob id with
   |some (_,s),some (.row _ B xs)=>bif Nat.beq s B then xL D xs.length xs.length λh=>xL G 0 h λl=>k (.sub id B l h) else none
   |_,_=>none
  |some (.slice _),some (.sub id B a b),some G,some D=>match isSlice P t with
   |some (_,s)=>bif Nat.beq s B then xL D (b-a) (b-a) λh=>xL G 0 h λl=>k (.sub id B (a+l) (a+h)) else none
   |none=>none
  |_,_,_,_=>none
 | .slice t x none (some D) (some mx)=>match bP P t w x with
  |some (.row id)=>match w.ob id,isSlice P t,bP P 0 w D,bP P 0 w mx with
   |some (.row _ B xs),some (_,s),some (.pv (.int _ a)),some (.pv (.int _ b))=>bif Nat.beq s B then check (a=(xs.length:Int)/\b=(xs.length:Int)) (k (.aq id .full)) else none
   |_,_,_,_=>none
  |_=>none
 | .convert src S x=>match P.underlying src,P.underlying S with
  |some (.slice e),some .string=>match P.underlying e,lB P e,(bP P src w x).bind (elems w) with
   |some (.int .u8),some 1,some (1,xs)=>UX (bytesOf xs) λb=>k (.pv (.str b))
   |_,_,_=>none
  |_,_=>oQ (fB P o w) k
 | .lookup t x kx ok=>match P.underlying t with
  |some (.map kt U)=>match(bP P t w x).bind (maps w),(bP P kt w kx).bind kR with
   |some (ks,Q),some key=>bif oq P kt key then Nc (Wa key ks Q) (λv=>valK C U v λv=>k (.pv (found ok v true))) (oQ (CH P U) λz=>k (.pv (found ok z false))) else none
   |_,_=>none
  |_=>none
 | .call c=>match c.callee with
  | .value f=>bif o.dst.any h.owns.contains then none else bif o.dst.any h.stay.contains&&wide w c f then Od P C h F w c f λr=>k (.pv r) else
   bif wide w c f||c.args.toList.any (λx=>(pK h w x).isSome) then none else
   bif c.args.toList.any (yX w) then
    match bP P 0 w f with
    |some (.pv (.fn g I))=>ER P C w c.args.toList c.argTypes.toList λQ=>yj (F g ((Q++I).map .pv) []) λr=>Mr C g r λr=>bif r.plain&&r.jJ then k (.pv r) else none
    |_=>none
   else
   match bP P 0 w f,jO P w c.args.toList c.argTypes.toList with
   |some (.pv (.fn g I)),some Q=>yj (F g ((Q++I).map .pv) []) λr=>Mr C g r λr=>bif(!(c.args.toList.any (lu w))||r.plain)&&r.jJ then k (.pv r) else none
   |_,_=>none
  |_=>oQ (AH P c w) k
 |_=>oQ (ey P h F o w) k
noncomputable def Cx (P:Program) (C:ni) (G:St) (t:TypeId) (m D x:Operand) (k:St->Option R):Option R:=
 match P.underlying t with
 |some (.map w q)=>match VZ P G q x with
  |some l=>match bP P t l m,(bP P w l D).bind kR,(bP P q l x).bind kR with
   |some (.row id),some key,some v=>match l.ob id with
    |some (.mp k' z B I)=>bif oq P w key&&v.Hv then
      Z1 (Wf key v B I) λp=>mapK C w q p λp=>k { l with ob:=put l.ob id (some (.mp k' z p.1 p.2)) }
     else none
    |_=>none
   |_,_,_=>none
  |none=>none
 |_=>none
noncomputable def FY (P:Program) (C:ni) (h:Hint) (F:eN) (w:St) (c:Call) (f:Operand) (d:Option Nat) (k:St->Option R):Option R:=
 match(bP P 0 w f).bind Sw,ur P h w c.args.toList c.argTypes.toList with
 |some (g,pre,B),some K=>
  let args:=pre++(K++B)
  let ids:=gI w 200 (args.flatMap SV.ids) [];let G:=iw (d.any h.stay.contains) w (qz args);let m:=iV G 0 ids;let names:=m.map (·.2);let I:=iN m
  bif distinct ids&&Nat.blt ids.length 10000&&args.all (SV.closed ids) then
   match jP w ids I m with
   |some cG=>Bq (F g (args.map (SV.oN I)) cG) λr l=>Sa P C ((m.filter λp=>h.keep.contains p.1).map (·.2)) ((m.filter λp=>h.bx.contains p.1).map (·.2)) cG l λq=>Mr C g r λr=>match mN names (iN (swap m)) m q with
    |some z=>bif r.jJ then
      let D:=fD (ids.filter G) w
      k (St.set { env:=D.env,ob:=λi=>(find z i).orElse λ_=>D.ob i } d (.pv r)) else none
    |none=>none
   |none=>none
  else none
 |_,_=>none
noncomputable def FX (C:ni) (key:Nat) (F:eN) (B:St) (g:Nat) (args:List SV) (w:Nat->Nat) (d:Option Nat) (k:St->Option R):Option R:=
 let ids:=gI B 200 (args.flatMap SV.ids) [];let m:=qu w 0 ids;let G:=m.filter λp=> !(given w p.1)
 bif distinct ids&&Nat.blt ids.length 10000&&args.all (SV.closed ids)&&(ids.all (λi=> !(given w i))||(Nat.blt ids.length 1000&&ids.all λi=> !(given w i)||iK i)) then
  match jP B ids (iN m) m with
  |some cG=>outC C (key+64 *cG.length) (F g (args.map (SV.oN (iN m))) cG) λD=>
    let z:=newNames (d.getD 0) 0 (D.2.drop G.length);let mm:=G++z
    bif Nat.ble z.length 8&&distinct (mm.map (·.1))&&distinct (mm.map (·.2))&&z.all (λx=>Nat.blt x.1 10000)&&z.all (λx=>Nat.ble 25000 x.2) then
     match mN (mm.map (·.2)) (iN (swap mm)) mm D.2 with
     |some l=>match D.1 with
      | .gX [.gX [.self 0, .pG,x]]=>bif(vV x).closed (mm.map (·.2)) then
        let q:=fD (ids.filter (λi=> !(stays w i))++z.map (·.1)) B
        k (St.set { env:=q.env,ob:=λi=>(find l i).orElse λ_=>q.ob i } d (KL (find l) ((vV x).oN (iN (swap mm)))))
       else none
      |r=>bif r.jJ then
        let q:=fD (ids.filter (λi=> !(stays w i))++z.map (·.1)) B
        k (St.set { env:=q.env,ob:=λi=>(find l i).orElse λ_=>q.ob i } d (.pv r))
       else none
     |none=>none
    else none
  |none=>none
 else none
noncomputable def U2 (P:Program) (C:ni) (h:Hint) (F:eN) (B:St) (c:Call) (f:Operand) (d key:Nat) (w:List Nat) (k:St->Option R):Option R:=
 let l:=iJ h.nest (mS P w d 0 c.args.toList c.argTypes.toList) B;match(bP P 0 l f).bind Sw,CN P w d l 0 c.args.toList c.argTypes.toList with
 |some (g,pre,q),some z=>bif(mS P w d 0 c.args.toList c.argTypes.toList).all (λx=>Nat.blt x.1 10000) then
   FX C key F l g (pre++(z++q)) (JW l (iw false l (vY w 0 z))) (some d) k else none
 |_,_=>none
noncomputable def JA (P:Program) (C:ni) (h:Hint) (F:eN) (q:St) (c:Call) (f:Operand) (d:Option Nat) (k:St->Option R):Option R:=
 match d with
 |some d=>match find h.rI d with
  |some B=>U2 P C h F q c f d B.1 B.2 k
  |none=>match bP P 0 q f,sD P (xk h d).isSome q c.args.toList c.argTypes.toList with
  |some (.pv (.fn g w)),some I=>yj (F g ((I++w).map .pv) []) λr=>Mr C (bif(xk h d).isSome then g+1000000 else g) r λr=>match r with
   | .gX [.gX [.self e, .dG G xs]]=>bif(xk h d).isSome then none else k ((q.new d (.row e G xs)).set (some d) (.row d))
   | .agg z=>match xk h d with
    |some []=>k (q.set (some d) (.pv (.agg z)))
    |some l=>match tF z l with
     |some D=>bif l.all (λx=>Nat.blt x.1 10000) then k ((iJ h.nest l q).set (some d) (.ag D)) else none
     |none=>none
    |none=>none
   |_=>none
  |_,_=>none
 |none=>none
noncomputable def LN (P:Program) (C:ni) (z:St) (t:TypeId) (x:Operand) (d:Nat) (k:St->Option R):Option R:=
 match bP P 0 z x,DZ P t with
 |some (.rp id K i D),some false=>match z.ob id with
  |some (.rn e l q w I xs B)=>bif Nat.beq K l&&Nat.beq D q&& !(Nat.beq id d)&&Nat.blt id 10000 then
    ZV B i λG=>Mt C w G λG=>Ts C w (B.set i none) λB=>k ((St.new { z with ob:=put z.ob id (some (.rn e l q w I xs B)) } d (.row w I G)).set (some d) (.row d))
   else none
  |_=>none
 |_,_=>none
noncomputable def Ww (P:Program) (C:ni) (w:St) (t:TypeId) (id L i D j:Nat) (k:St->Option R):Option R:=
 match DZ P t,lB P t,w.ob id,w.ob j with
 |some false,some 1,some (.rn e l q B G xs z),some (.row I K N)=>
  bif Nat.beq L l&&Nat.beq D q&&Nat.blt id 10000&&Nat.blt j 10000&&Nat.beq B I&&Nat.beq G K&& !(Nat.beq id j) then
   check (i<z.length) (Ts C B (z.set i (some N)) λz=>k { (w.dH j).dH (id+40000) with ob:=put ((w.dH j).dH (id+40000)).ob id (some (.rn e l q B G xs z)) })
  else none
 |_,_,_,_=>none
noncomputable def WL (P:Program) (C:ni) (h:Hint) (F:eN) (o:Oper) (w:St) (k:St->Option R):Option R:=
 match o.op with
 | .makeSlice t l c=>match o.dst,isSlice P t,(bP P 0 w l).bind kR,(bP P 0 w c).bind kR with
  |some d,some (e,s),some (.int _ l),some (.int _ c)=>match zeroCells P e,P.info? e with
   |some z,some i=>bif Nat.blt 0 s&&Nat.beq z.length s then check (0<=l/\l<=c/\i.bytes *c.toNat<=281474976710656/\c<=9223372036854775807)
     (k ((w.new d (.row e s (List.replicate l.toNat z))).set (some d) (.row d))) else none
   |_,_=>none
  |_,_,_,_=>none
 | .store t x y=>match o.dst,bP P 0 w x,bP P t w y with
  |none,some (.rp id B i G),some (.pv v)=>match w.ob id,lB P t with
   |some (.row e D xs),some n=>bif Nat.beq B D&&Nat.beq v.cells.length n&&v.Hv then
     dO xs i λc=>Sf C e c λc=>bif Nat.ble (G+n) c.length then k { w with ob:=put w.ob id (some (.row e D (xs.set i (c.take G++v.cells++c.drop (G+n))))) } else none
    else none
   |_,_=>none
  |none,some (.rp id B i G),some (.row j)=>Ww P C w t id B i G j k
  |none,some (.ptr id G),some (.sub j B 0 n)=>oQ (Xi P w t id G j B n) k
  |none,some a,some v=>oQ (storeAt P t w a v) k
  |_,_,_=>none
 | .load t x=>bif o.dst.any h.take.contains then
   match o.dst with
   |some d=>LN P C w t x d k
   |none=>none
  else xR P C h F o w λv=>k (w.set o.dst v)
 | .call c=>match c.callee with
  | .builtin .append=>match o.dst,c.args.toList,c.argTypes.toList with
   |some d,[x,y],[t,S]=>match isSlice P t,bP P t w x,bP P S w y with
    |some (e,s),some (.row id),some y=>match w.ob id,elems w y,P.info? e with
     |some (.row O B xs),some (D,I),some i=>
      bif Nat.beq t S&&Nat.beq e O&&Nat.beq s B&&Nat.beq B D&&Nat.blt 0 B&&(i.zero.map (λz=>z.cells.size)==some B)&&gJ id then
       check ((xs.length+I.length) *i.bytes<=140737488355328/\xs.length+I.length<=4611686018427387904) (k ((w.new id (.row e B (xs++I))).set (some d) (.row id)))
      else none
     |some (.rn O B q e2 s2 xs zs),some (D,I),some i=>
      bif Nat.beq t S&&Nat.beq e O&&Nat.beq s B&&Nat.beq B D&&Nat.blt 0 B&&(i.zero.map (λz=>z.cells.size)==some B)&&gJ id&&I.all (qJ q) then
       check ((xs.length+I.length) *i.bytes<=140737488355328/\xs.length+I.length<=4611686018427387904) (Ts C e2 (zs++I.map λ_=>some []) λzs=>k ((w.new id (.rn e B q e2 s2 (xs++I.map λc=>c.set q .hole) zs)).set (some d) (.row id)))
      else none
     |_,_,_=>none
    |some (e,s),some (.aq id .full),some y=>match w.ob id,elems w y,P.info? e with
     |some (.row O B xs),some (D,I),some i=>
      bif Nat.beq t S&&Nat.beq e O&&Nat.beq s B&&Nat.beq B D&&Nat.blt 0 B&&(i.zero.map (λz=>z.cells.size)==some B)&&gJ id&& !I.isEmpty then
       check ((xs.length+I.length) *i.bytes<=140737488355328/\xs.length+I.length<=4611686018427387904) (k ((w.new id (.row e B (xs++I))).set (some d) (.row id)))
      else none
     |_,_,_=>none
    |_,_,_=>none
   |_,_,_=>none
  | .builtin .clear=>match o.dst,c.args.toList,c.argTypes.toList with
   |none,[x],[t]=>match isSlice P t,bP P t w x with
    |some (e,s),some (.sub id B lo U)=>match w.ob id,zeroCells P e with
     |some (.row O D xs),some z=>bif Nat.beq s B&&Nat.beq B D&&Nat.beq z.length B&&Nat.beq e O&&Nat.blt 0 B then
       check (U<=xs.length) (k { w with ob:=put w.ob id (some (.row O D (xs.take lo++List.replicate (U-lo) z++xs.drop U))) }) else none
     |_,_=>none
    |none,_=>match EU P w t x with
     |some K=>k K
     |none=>none
    |_,_=>none
   |_,_,_=>none
  | .value f=>bif o.dst.any h.owns.contains then JA P C h F w c f o.dst k else bif o.dst.any h.stay.contains&&wide w c f then xR P C h F o w λv=>k (w.set o.dst v) else bif wide w c f then FY P C h F w c f o.dst k else bif c.args.toList.any (λx=>(pK h w x).isSome) then
    match bP P 0 w f,ES P h w c.args.toList c.argTypes.toList with
    |some (.pv (.fn g L)),some (vs,[id])=>match w.ob id with
     |some (.row e B xs)=>G4 (F g (vs++L.map .pv) [(10000, .row e B xs)]) 10000 e B λr N=>Mr C g r λr=>Mt C e N λN=>match r with
       | .self n=>bif gJ id then check (n<=N.length) (k ((w.new id (.row e B (N.take n))).set o.dst (.row id))) else none
       |r=>bif r.plain then k (St.set { w with ob:=put w.ob id (some (.row e B N)) } o.dst (.pv r)) else none
     |_=>none
    |_,_=>none
   else bif c.args.toList.any (yX w) then xR P C h F o w λv=>k (w.set o.dst v)
   else bif c.args.toList.any (lu w) then
    match bP P 0 w f,jO P w c.args.toList c.argTypes.toList with
    |some (.pv (.fn g L)),some vs=>yj (F g ((vs++L).map .pv) []) λr=>Mr C g r λr=>bif r.plain&&r.jJ then k (w.set o.dst (.pv r)) else
      match nC.jK w c.args.toList with
      |some K=>match bP P 0 K f,jO P K c.args.toList c.argTypes.toList with
       |some (.pv (.fn g' Q)),some vs'=>bif c.args.toList.any (lu K) then none else yj (F g' ((vs'++Q).map .pv) []) λr=>Mr C g' r λr=>bif r.jJ then k (K.set o.dst (.pv r)) else none
       |_,_=>none
      |none=>none
    |_,_=>none
   else xR P C h F o w λv=>k (w.set o.dst v)
  |_=>xR P C h F o w λv=>k (w.set o.dst v)
 | .mapUpdate t m V x=>match o.dst with
  |none=>Cx P C w t m V x k
  |some _=>none
 | .insert t m V x=>match o.dst with
  |none=>Cx P C w t m V x k
  |some _=>none
 | .assign _| .buildSlice _ _ _| .box _ _| .alloc _| .makeMap _ _| .makeFunc _ _ _| .build _ _=>oQ (step0 P h F o w) k
 |_=>xR P C h F o w λv=>k (w.set o.dst v)
noncomputable def Px (C:ni) (l:St) (t:Nat) (k:St->Option R):Option R:=
 match l.env t with
 |some (.ag [.r id])=>match l.ob id with
  |some (.rn e z q I B xs D)=>bif iK id then
    UL (qH D) λG=>Mt C e (wG q B xs G) λw=>k { env:=λi=>(l.env i).map (SV.dy id (.dG z w)),ob:=put (λi=>(l.ob i).map (Ob.dy id (.dG z w))) id none }
   else none
  |_=>oQ (qx l t) k
 |_=>oQ (qx l t) k
noncomputable def Gk (C:ni):List Nat->St->(St->Option R)->Option R
 |[],q,k=>k q
 |t::l,q,k=>Px C q t λq=>Gk C l q k
noncomputable def stepT (P:Program) (C:ni) (h:Hint) (F:eN) (o:Oper) (l:St) (k:St->Option R):Option R:=Gk C (E7 h o) l λl=>WL P C h F o l k
def YR (w:Array Oper) (o:Oper) (q:St) (k:Bool->St->Option R):Option R:=
 match o.guard with
 |none=>k true q
 |some (j,l)=>match(w[j]?).bind (·.dst) with
  |some d=>match q.env d with
   |some (.pv (.bool true))=>k l q
   |some (.pv (.bool false))=>k (!l) q
   |some .undef=>k false q
   |_=>none
  |none=>none
def guards (l:Array Oper) (i:Nat):Bool:=l.toList.any λo=>match o.guard,o.op with
 |some (j,_),_=>Nat.beq j i
 |none,_=>false
def K5 (b:Bool) (d:Option Nat) (l:St) (k:St->Option R):Option R:=
 bif b then
  match d with
  |some d=>match l.env d with
   |some (.pv (.bool t))=>bif t then k (l.set (some d) (.pv (.bool true))) else k (l.set (some d) (.pv (.bool false)))
   |_=>k l
  |none=>k l
 else k l
noncomputable def IP (P:Program) (C:ni) (h:Hint) (F:eN) (w:Array Oper):Nat->List Oper->St->(St->Option R)->Option R
 |_,[],q,k=>k q
 |i,o::l,q,k=>YR w o q λb q=>bif b then stepT P C h F o q λq=>K5 (guards w i) o.dst q λq=>IP P C h F w (i+1) l q k
   else IP P C h F w (i+1) l (q.set o.dst .undef) k
noncomputable def B0 (P:Program) (C:ni) (h:Hint) (F:eN) (q:Array Oper):Nat->List Oper->List (Nat×gw)->St->(St->Option R)->Option R
 |_,[],_,w,k=>k w
 |i,o::l,z,w,k=>YR q o w λb w=>bif b then
    bif isF h w o&&(E7 h o).isEmpty then
     xR P C h F o w λv=>bif xQ q z i ((vU P h q o w).fill w (w.set o.dst v)) then
      K5 (guards q i) o.dst (w.set o.dst v) λB=>B0 P C h F q (i+1) l ((i,(vU P h q o w).fill w (w.set o.dst v))::z) B k else none
    else stepT P C h F o w λB=>bif xQ q z i ((uF P h q o w).fill w B) then
      K5 (guards q i) o.dst B λD=>B0 P C h F q (i+1) l ((i,(uF P h q o w).fill w B)::z) D k else none
   else bif xQ q z i ((tQ q o).fill w (w.set o.dst .undef)) then B0 P C h F q (i+1) l ((i,(tQ q o).fill w (w.set o.dst .undef))::z) (w.set o.dst .undef) k else none
@[irreducible] noncomputable def J9 (P:Program) (h:Hint) (F:eN) (c:Code) (st:St) (k:Ex->St->Option R):Option R:=
 open Classical in if l : ∃ x n, exec P h F n (.loop c) st = some x then k l.choose.1 l.choose.2 else none
def seqK (q:St->(Ex->St->Option R)->Option R) (k:Ex->St->Option R):Ex->St->Option R:=λe l=>match e with
 | .normal=>q l k
 |e=>k e l
def UT (id:Nat) (k:Ex->St->Option R):Ex->St->Option R:=λe l=>match e with
 | .exit j=>bif Nat.beq j id then k .normal l else k (.exit j) l
 |e=>k e l
noncomputable def UJ (P:Program) (h:Hint) (F:eN) (c:Code) (k:Ex->St->Option R):Ex->St->Option R:=λe l=>match e with
 | .normal=>J9 P h F c (h.canon (fk c) l) k
 |e=>k e l
noncomputable def E8 (C:ni):List Nat->St->(St->Option R)->Option R
 |[],w,k=>k w
 |id::l,w,k=>match w.ob id with
  |some (.rn e D q L G xs I)=>bif iK id then
    UL (qH I) λK=>Mt C e (wG q G xs K) λz=>E8 C l { env:=λi=>(w.env i).map (SV.dy id (.dG D z)),ob:=put (λi=>(w.ob i).map (Ob.dy id (.dG D z))) id none } k
   else none
  |_=>match w.PA id with
   |some B=>E8 C l B k
   |none=>none
noncomputable def adX (C:ni) (h:Hint) (id:Nat) (q:St) (k:St->Option R):Option R:=
 match find h.mX id with
 |some l=>E8 C l q k
 |none=>k q
noncomputable def sW (P:Program) (C:ni) (h:Hint) (F:eN):Code->St->(Ex->St->Option R)->Option R
 | .skip,l,k=>k .normal l
 | .label _,l,k=>k .normal l
 | .region id q w,l,k=>adX C h id l λl=>
  bif w then
   bif tn 0 q.toList then B0 P C h F q 0 q.toList [] (sE (yg q.toList) l) (k .normal) else none
  else IP P C h F q 0 q.toList l (k .normal)
 | .seq a b,l,k=>match find h.blk (fk a) with
  |some x=>check (x.1 l=true) (k (exOf (x.2 l).1) (x.2 l).2)
  |none=>sW P C h F a l (seqK (sW P C h F b) k)
 | .cond c a b,l,k=>match bP P 0 l c with
  |some (.pv (.bool t))=>bif t then sW P C h F a l k else sW P C h F b l k
  |_=>none
 | .block id c,l,k=>sW P C h F c l (UT id k)
 | .loop c,l,k=>J9 P h F c (h.canon (fk c) l) k
 | .exit id,l,k=>k (.exit id) l
 | .ret,l,k=>k .ret l
 | .scope c,l,k=>sW P C h F c l k
 |_,_,_=>none
noncomputable def EB (P:Program) (C:ni) (h:Hint) (F:eN) (key:Nat):Code->(Ex->St->Option R)->Option (Code×(Ex->St->Option R))
 | .seq a b,k=>match find h.blk (fk a) with
  |some _=>none
  |none=>match EB P C h F key a (seqK (sW P C h F b) k) with
   |some x=>some x
   |none=>EB P C h F key b k
 | .cond _ a b,k=>match EB P C h F key a k with
  |some x=>some x
  |none=>EB P C h F key b k
 | .block id c,k=>EB P C h F key c (UT id k)
 | .loop c,k=>bif Nat.beq (fk c) key then some (c,k) else EB P C h F key c (UJ P h F c k)
 | .scope c,k=>EB P C h F key c k
 |_,_=>none
end
noncomputable def aaL (P:Program) (C:ni) (H:Nat->Hint) (gR:eN) (f:Nat) (args:List SV) (cG:List (Nat×Ob)):Option (AV×List (Nat×Ob)):=
 match P.funcs[f]? with
 |some fn=>match fn.body with
  |some c=>bif Nat.ble args.length fn.ntmps&&(cG.map (·.1)).all (λi=> !(iK i)||giv i) then sW P C (H f) (run P H gR) c { env:=find (zz 0 args),ob:=find cG } (abf P (H f).own fn ((cG.map (·.1)).filter λi=> !(iK i))) else none
  |none=>none
 |none=>none
noncomputable def AA (P:Program) (C:ni) (H:Nat->Hint) (gR:eN) (f key:Nat) (names:List Nat) (l:List (Nat×SV)) (w:List (Nat×Ob)):Option (AV×List (Nat×Ob)):=
 match P.funcs[f]? with
 |some fn=>match fn.body with
  |some c=>match EB P C (H f) (run P H gR) key c (abf P (H f).own fn names) with
   |some (q,k)=>J9 P (H f) (run P H gR) q { env:=find l,ob:=find w } k
   |none=>none
  |none=>none
 |none=>none
noncomputable def WG (P:Program) (C:ni) (H:Nat->Hint) (gR:eN) (f key:Nat) (names:List Nat) (q:List (Nat×SV)) (w:List (Nat×Ob)):Option (AV×List (Nat×Ob)):=
 match P.funcs[f]? with
 |some fn=>match fn.body with
  |some c=>match EB P C (H f) (run P H gR) key c (abf P (H f).own fn names) with
   |some (l,k)=>sW P C (H f) (run P H gR) l ((H f).canon (fk l) { env:=find q,ob:=find w }) (UJ P (H f) (run P H gR) l k)
   |none=>none
  |none=>none
 |none=>none
section
variable {R:Type} {P:Program} {C:ni} {h:Hint} {F:eN}
def eX {q:Type} {c:Option q} {k:q->Option R} {r:R} (l:oQ c k=some r):∃x,c=some x/\k x=some r:=by cases c with
 |none=>simp[oQ] at l
 |some x=>exact⟨x,rfl,l⟩
theorem gA {p:Prop} [Decidable p] {x:Option R} {r:R} (l:check p x=some r):p/\x=some r:=by simp_all[check]
def M4 {l:Type} {xs:List l} {i:Int} {k:l->Option R} {r:R} (q:bf xs i k=some r):0<=i/\∃x,xs[i.toNat]? =some x/\k x=some r:=by grind[bf]
def M5 {l:Type} {xs:List l} {i:Nat} {k:l->Option R} {r:R} (q:dO xs i k=some r):∃x,xs[i]? =some x/\k x=some r:=by grind[dO]
def vM {c:Option (AV×List (Nat×Ob))} {k:AV->Option R} {r:R} (l:yj c k=some r):∃x,c=some (x,[])/\k x=some r:=by unfold yj at l;grind
def U4 {c:Option (AV×List (Nat×Ob))} {w e z:Nat} {k:AV->List (List AV)->Option R} {r:R} (l:G4 c w e z k=some r):∃x xs,c=some (x,[(w, .row e z xs)])/\k x xs=some r:=by
 unfold G4 at l;split at l
 .replace l:=cv l;obtain⟨q,l⟩:=l;simp only[aV] at q;have B:=beq_iff.1 q.1.1;have D:=beq_iff.1 q.1.2;have G:=beq_iff.1 q.2;grind
 simp_all
def r7 {q T:Type} {enc:T->q} {c:q} {k:T->Option R} {r:R} (l:uE enc c k=some r):∃d,enc d=c/\k d=some r:=by
 unfold uE at l;split at l
 .grind
 simp_all
def Dt {e:TypeId} {c:List AV} {k:List AV->Option R} {r:R} (l:Sf C e c k=some r):k c=some r:=by
 unfold Sf at l;split at l
 .obtain⟨x,rfl,q⟩:=r7 l;omega
 omega
theorem rF {e:TypeId} {c:List (List AV)} {k:List (List AV)->Option R} {r:R} (l:Mt C e c k=some r):k c=some r:=by
 unfold Mt at l;split at l
 .obtain⟨x,rfl,q⟩:=r7 l;omega
 omega
theorem rE {g:Nat} {c:AV} {k:AV->Option R} {r:R} (l:Mr C g c k=some r):k c=some r:=by
 unfold Mr at l;split at l
 .obtain⟨x,rfl,q⟩:=r7 l;omega
 omega
def aac {t:TypeId} {c:AV} {k:AV->Option R} {r:R} (l:valK C t c k=some r):k c=some r:=by
 unfold valK at l;split at l
 .obtain⟨x,rfl,q⟩:=r7 l;omega
 omega
def Nf {w q:TypeId} {c:List AV×List AV} {k:List AV×List AV->Option R} {r:R} (l:mapK C w q c k=some r):k c=some r:=by
 unfold mapK at l;split at l
 .obtain⟨x,rfl,z⟩:=r7 l;omega
 omega
def V6 {x:Option (Option AV)} {k:AV->Option R} {z:Option R} {r:R} (l:Nc x k z=some r):(∃v,x=some (some v)/\k v=some r)\/(x=some none/\z=some r):=by unfold Nc at l;grind
def Z2 {x:Option (List AV×List AV)} {k:List AV×List AV->Option R} {r:R} (l:Z1 x k=some r):∃p,x=some p/\k p=some r:=by unfold Z1 at l;grind
def Jz {c:Option (AV×List (Nat×Ob))} {k:AV->List (Nat×Ob)->Option R} {r:R} (q:Bq c k=some r):∃x l,c=some (x,l)/\k x l=some r:=by unfold Bq at q;grind
def FM {z:Nat} {l:List (Nat×Ob)} {k:Ob->List (Nat×Ob)->Option R} {r:R} (q:vw z l k=some r):∃o w,l=(z,o)::w/\k o w=some r:=by
 unfold vw at q;split at q
 .replace q:=cv q;obtain⟨B,q⟩:=q;have:=beq_iff.1 B;grind
 simp_all
theorem Nk {l:List (Nat×Ob)} {k:Option R} {r:R} (q:ZM l k=some r):l=[]/\k=some r:=by unfold ZM at q;grind
def z6 {o l:Ob} {k:Option R} {r:R} (q:Fi o l k=some r):o=l/\k=some r:=by simp_all[Fi]
def UO {e q:Nat} {o:Ob} {k:List (List AV)->Option R} {r:R} (l:RL e q o k=some r):∃xs,o= .row e q xs/\k xs=some r:=by
 unfold RL at l;split at l
 .replace l:=cv l;simp_all
 simp_all
def UN {z w:Nat} {o:Ob} {k:List AV×List AV->Option R} {r:R} (l:RK z w o k=some r):∃p,o= .mp z w p.1 p.2/\k p=some r:=by
 unfold RK at l;split at l
 .replace l:=cv l;obtain⟨q,l⟩:=l;simp only[aV] at q;have B:=beq_iff.1 q.1;have D:=beq_iff.1 q.2;grind
 simp_all
def RR {x:Option (List UInt8)} {k:List UInt8->Option R} {r:R} (l:UX x k=some r):∃b,x=some b/\k b=some r:=by unfold UX at l;grind
def FT {x:Option (List (List (List AV)))} {k:List (List (List AV))->Option R} {r:R} (q:UL x k=some r):∃l,x=some l/\k l=some r:=by unfold UL at q;grind
theorem Nq {l:List (Option (List (List AV)))} {i:Nat} {k:List (List AV)->Option R} {r:R} (w:ZV l i k=some r):∃q,l[i]? =some (some q)/\k q=some r:=by grind[ZV]
def DG {e:TypeId} {q:List (Option (List (List AV)))} {k:List (Option (List (List AV)))->Option R} {r:R} (l:Ts C e q k=some r):k q=some r:=by
 unfold Ts at l;split at l
 .obtain⟨x,rfl,w⟩:=r7 l;omega
 omega
def HI {o w:Ob} {k:Ob->Option R} {r:R} (l:P0 C o w k=some r):k w=some r:=by
 unfold P0 at l;split at l
 .obtain⟨xs,rfl,q⟩:=UO l;exact rF q
 .obtain⟨p,rfl,q⟩:=UN l;exact Nf q
 .unfold asLp at l;grind
 .obtain⟨rfl,q⟩:=z6 l;omega
theorem Jn:∀{l:List SV} {q:List AV},mM l=some q->l=q.map .pv
 |[],q,h=>by simp_all[mM]
 |s::l,q,h=>by cases s with
  |pv v=>simp[mM,cH] at h;obtain⟨z,w,rfl⟩:=h;rw[Jn w];rfl
  |_=>simp[mM] at h
def Y3 {o q:Ob} {k:Ob->Option R} {r:R} (l:boxK P C o q k=some r):k q=some r:=by
 unfold boxK at l;split at l
 .split at l
  .unfold Jp at l;split at l
   .rename_i h;have:=rF l;rw[<-h.choose_spec] at this;exact this
   .cases l
  split at l
  .unfold asBox at l;split at l
   .split at l
    .replace l:=cv l;obtain⟨w,l⟩:=l;have:=beq_iff.1 w;obtain⟨x,e,l⟩:=r7 l;grind[Jn]
    .simp_all
   .simp_all
  .obtain⟨rfl,z⟩:=z6 l;exact z
 .exact HI l
def zI {keep D:List Nat}:∀{l B:List (Nat×Ob)} {k:List (Nat×Ob)->Option R} {r:R},Sa P C keep D l B k=some r->k B=some r
 |[],B,k,r,q=>by obtain⟨rfl,K⟩:=Nk q;omega
 |(L,o)::l,B,k,r,q=>by replace q:=FM q;obtain⟨N,I,rfl,q⟩:=q;cases z:keep.contains _ with
  |true=>rw[z] at q;obtain⟨e,q⟩:=z6 q;subst e;exact zI (k:=λG=>k _) q
  |false=>
   rw[z] at q;cases w:D.contains _ with
   |true=>rw[w] at q;simp at q;exact zI (k:=λG=>k _) (Y3 q)
   |false=>
   rw[w] at q;simp at q;exact zI (k:=λG=>k _) (HI q)
def Z0 {a:AV} {k:List AV->Option R} {r:R} (q:ptrK a k=some r):∃l,a= .ref l/\k l=some r:=by unfold ptrK at q;grind
def R9 {a:AV} {k:AV->Option R} {r:R} (l:aa9 C a k=some r):∃q,a= .ref q/\k (.ref q)=some r:=by
 obtain⟨q,e,l⟩:=Z0 l;refine⟨q,e,?_⟩;split at l
 .obtain⟨x,w,l⟩:=r7 l;simp_all
 omega
def CM:∀{l q:List (Nat×Ob)} {k:Option R} {r:R},Ee l q k=some r->q=l/\k=some r
 |[],q,k,r,w=>by grind[Ee,Nk]
 |(L,o)::l,q,k,r,w=>by obtain⟨N,K,e1,z⟩:=FM w;obtain⟨D,B⟩:=z6 z;obtain⟨G,I⟩:=CM B;simp_all
theorem Oe {z:St} {c:Call} {f:Operand} {k:AV->Option R} {r:R} (q:Od P C h F z c f k=some r):∃v,tf P h F z c f=some v/\k v=some r:=by
 unfold Od at q;split at q
 .rename_i g args G;obtain⟨I,q⟩:=cv q;split at q
  .rename_i cG K;obtain⟨x,l,L,q⟩:=Jz q;obtain⟨e,B⟩:=CM q;subst e;obtain⟨w,D⟩:=cv (rE B);refine⟨x,?_,D⟩;simp[tf,G,I,ak,K,L,Fj,w,rM]
  simp_all
 simp_all
theorem oZ {w:Option SV} {d q:Nat} {k:Nat->Option R} {r:R} (l:xL w d q k=some r):∃n,ij w d q=some n/\k n=some r:=by
 unfold xL at l;split at l
 .exact⟨d,rfl,l⟩
 .grind[gA,ij]
 simp_all
def V0 {w:St} {v:SV} {k:AV->Option R} {r:R} (q:adp C w v k=some r):∃x,nX w v=some x/\k x=some r:=by
 unfold adp at q;split at q
 .grind[Nq,nX,rF]
 .split at q
  .obtain⟨l,z,q⟩:=FT q;exact⟨_,by simp_all[nX,kq,Ob.val],rF q⟩
  .exact eX q
 .exact eX q
def CW {z:St}:∀{xs:List Operand} {q:List TypeId} {k:List AV->Option R} {r:R},ER P C z xs q k=some r->∃w,jO P z xs q=some w/\k w=some r
 |[],_,k,r,l=>⟨[],rfl,l⟩
 |x::xs,q,k,r,l=>by
  simp[ER] at l;split at l
  .obtain⟨a,D,l⟩:=V0 l;obtain⟨w,B,l⟩:=CW l;simp_all[jO]
  simp_all
def UI {q:St}:∀{xs:List Operand},xs.any (yX q)=true->xs.any (lu q)=true:=by intro xs h;obtain⟨x,w,l⟩:=nJ.1 h;cases x with
 |tmp i=>simp[yX] at l;simp[lu];grind
 |_=>cases l
def EF {o:Oper} {L:St} {k:SV->Option R} {r:R} (l:xR P C h F o L k=some r):∃v,ey P h F o L=some v/\k v=some r:=by
 unfold xR at l;split at l
 .rename_i c x y D;split at l
  .rename_i t I;cases t with
   |true=>simp_all[eX,ey,fB]
   |false=>simp_all[eX,ey,fB]
  simp_all
 .rename_i x D;split at l
  .rename_i a B;obtain⟨cs,rfl,w⟩:=R9 l;simp_all[ey,fB]
  simp_all[eX,ey]
 .rename_i t x ix D;split at l
  .simp_all[eX,ey,fB]
  .rename_i hna;have hp:ey P h F o L=w8 P L t x ix:=by
    simp only[ey,D,fB]
   rw[hp];split at l
   .rename_i e s V xs q i Q B U;replace l:=cv l;obtain⟨G,l⟩:=l;have:=beq_iff.1 G;subst this;obtain⟨h0,c,I,w⟩:=M4 l;exact⟨_,by simp[w8,Q,B,U,h0,I],Dt w⟩
   .rename_i e s id q i Q B U;split at l
    .rename_i e' V xs K;replace l:=cv l;obtain⟨G,l⟩:=l;have:=beq_iff.1 G;subst this;obtain⟨I,w⟩:=gA l;exact⟨_,by simp[w8,Q,B,U,K,I],w⟩
    .rename_i e' V _ _ _ xs _ K;replace l:=cv l;obtain⟨G,l⟩:=l;have:=beq_iff.1 G;subst this;obtain⟨I,w⟩:=gA l;exact⟨_,by simp[w8,Q,B,U,K,I],w⟩
    simp_all
   .rename_i e s id V lo hi' q i Q B U;replace l:=cv l;grind[beq_iff,gA,w8]
   .exact eX l
   .cases l
 .rename_i t x ix D;split at l
  .rename_i s q i S B U;obtain⟨h0,b,G,w⟩:=M4 l;simp_all[ey,fB]
  simp_all
 .rename_i t x D;cases Rt:o.dst.any h.take.contains with
  |true=>simp_all
  |false=>
  rw[Rt] at l;simp only[aA] at l;have hfp:ey P h F o L=fB P o L:=by simp only[ey,D,Rt,aA]
  rw[hfp];split at l
  .rename_i id V i off B;split at l
   .rename_i e sz' xs K;replace l:=cv l;obtain⟨G,l⟩:=l;have:=beq_iff.1 G;subst this;obtain⟨c,I,l⟩:=M5 l;replace l:=Dt l;obtain⟨v,ht,w⟩:=eX l;simp_all[fB]
   .rename_i e sz' q e' s' xs ys K;replace l:=cv l;obtain⟨G,l⟩:=l;simp only[aV] at G;obtain⟨⟨b1,b2⟩,b3⟩:=G;have e1:=beq_iff.1 b1;have e2:=beq_iff.1 b2;have e3:DZ P t=some false:=by simpa using b3
    subst e1 e2;obtain⟨I,w⟩:=gA l;exact⟨_,by simp[fB,D,B,K,I,e3],w⟩
   simp_all
  simp_all[eX]
 .rename_i op t x y t' D;have dflt:oQ (fB P o L) (λv=>k v)=some r->∃v,ey P h F o L=some v/\k v=some r:=λl=>by
   simp_all[eX,ey]
  split at l
  .rename_i ka a kb b B hy;split at l
   .replace l:=cv l;obtain⟨G,l⟩:=l;have w:ka=kb:=by simpa using G
    subst w;obtain⟨I,w⟩:=gA l;exact⟨_,by simp[ey,fB,D,B,hy,bin,Ga,I],w⟩
   .replace l:=cv l;obtain⟨G,l⟩:=l;have w:ka=kb:=by simpa using G
    subst w;obtain⟨I,w⟩:=gA l;exact⟨_,by simp[ey,fB,D,B,hy,bin,Ga,I],w⟩
   .obtain⟨I,w⟩:=gA l
    have:¬b<0:=af
    exact⟨_,by simp[ey,fB,D,B,hy,bin,B6,this],w⟩
   .obtain⟨I,w⟩:=gA l
    have:¬b<0:=af
    exact⟨_,by simp[ey,fB,D,B,hy,bin,B6,this],w⟩
   simp_all
  .rename_i a b B hy;split at l
   .obtain⟨I,w⟩:=gA l;exact⟨_,by simp[ey,fB,D,B,hy,bin,WM,I],w⟩
   .exact dflt l
  simp_all
 .rename_i t x lo U D;split at l
  .rename_i s lv Vw S B O N;obtain⟨n,hn,l⟩:=oZ l;obtain⟨m,hm,w⟩:=oZ l;exact⟨_,by simp[ey,fB,D,S,B,O,N,hn,hm],w⟩
  .rename_i e V xs lv Vw S B O N;split at l
   .rename_i e' s Q;replace l:=cv l;obtain⟨G,l⟩:=l;have:=beq_iff.1 G;subst this;obtain⟨n,hn,l⟩:=oZ l;obtain⟨m,hm,w⟩:=oZ l;exact⟨_,by simp[ey,fB,D,S,B,O,N,Q,hn,hm],w⟩
   simp_all
  .rename_i e id lv Vw S B O N;split at l
   .rename_i e' s e2 V xs Q K;replace l:=cv l;obtain⟨G,l⟩:=l;have:=beq_iff.1 G;subst this;obtain⟨n,hn,l⟩:=oZ l;obtain⟨m,hm,w⟩:=oZ l;simp_all[ey,fB]
   simp_all
  .rename_i e id V a b lv Vw S B O N;split at l
   .rename_i e' s Q;replace l:=cv l;grind[beq_iff,oZ,ey,fB]
   simp_all
  simp_all
 .rename_i t x U mx D;split at l
  .rename_i id B;split at l
   .rename_i e2 V xs e s ka va kb vb K Q hh hm;replace l:=cv l;obtain⟨G,l⟩:=l;have:=beq_iff.1 G;subst this;obtain⟨I,w⟩:=gA l;simp_all[ey,fB,Xr,aB,trivial]
   simp_all
  simp_all
 .rename_i src dst x D;split at l
  .rename_i e S hd;split at l
   .rename_i xs he Q B;obtain⟨b,G,w⟩:=RR l;simp_all[ey,fB]
   simp_all
  simp_all[eX,ey]
 .rename_i t x kx ok D;split at l
  .rename_i kt et S;split at l
   .rename_i ks vs key B w;obtain⟨hok,l⟩:=cv l;rcases V6 l with⟨v,hg,l⟩|⟨hg,l⟩
    .exact⟨_,by simp only[ey,fB,D,S,B,w,hok,ak,hg],aac l⟩
    .obtain⟨z,hz,l⟩:=eX l;exact⟨_,by simp only[ey,fB,D,S,B,w,hok,ak,hg,hz,ff],l⟩
   simp_all
  simp_all
 .rename_i c D;split at l
  .rename_i f I;cases how:o.dst.any h.owns.contains with
   |true=>simp_all
   |false=>
   rw[how] at l;simp only[aA] at l;cases hro:(o.dst.any h.stay.contains&&wide L c f) with
   |true=>rw[hro] at l;simp only[ak] at l;grind[Oe,ey]
   |false=>
   rw[hro] at l;simp only[aA] at l;cases href:(wide L c f||c.args.toList.any (λx=>(pK h L x).isSome)) with
   |true=>grind
   |false=>
   rw[href] at l;simp only[aA] at l;cases hag:c.args.toList.any (yX L) with
   |true=>
    rw[hag] at l;simp only[ak] at l;have Vq:=UI hag;split at l
    .rename_i g caps hf;obtain⟨vs,hvs,l⟩:=CW l;obtain⟨r',B,l⟩:=vM l;obtain⟨hp,w⟩:=cv (rE l);refine⟨_,?_,w⟩;simp only[ey,D,I,hf,hvs,B];grind
    simp_all
   |false=>
   rw[hag] at l;simp only[aA] at l;split at l
   .rename_i g caps vs hf hvs;obtain⟨r',B,l⟩:=vM l;obtain⟨G,w⟩:=cv (rE l);refine⟨_,?_,w⟩;simp[ey,D,I,hf,hvs];grind
   simp_all
  simp_all[eX,ey]
 .exact eX l
def AE {z:St} {t:TypeId} {m w x:Operand} {k:St->Option R} {r:R} (l:Cx P C z t m w x k=some r):∃q,yy P z t m w x=some q/\k q=some r:=by
 unfold Cx at l;split at l
 .split at l
  .split at l
   .split at l
    .obtain⟨B,l⟩:=cv l;obtain⟨p,D,l⟩:=Z2 l;replace l:=Nf l;simp_all[yy]
    simp_all
   simp_all
  simp_all
 simp_all
def H6 {K:St} {c:Call} {f:Operand} {d:Option Nat} {k:St->Option R} {r:R} (q:FY P C h F K c f d k=some r):∃z,jT P h F K c f d=some z/\k z=some r:=by
 unfold FY at q;split at q
 .rename_i g I V N D;replace q:=cv q;obtain⟨L,q⟩:=q;split at q
  .rename_i cG Q;obtain⟨U,l,S,q⟩:=Jz q;replace q:=rE (zI q);split at q
   .rename_i G w;replace q:=cv q;obtain⟨B,O⟩:=q;refine⟨_,?_,O⟩;simp only[jT,N,D,L,ak,Q,S,w,B]
   simp_all
  simp_all
 simp_all
def Zr {T:Type} {enc:T->AV×List (Nat×Ob)} {c:Option (AV×List (Nat×Ob))} {k:T->Option R} {r:R} (l:Me enc c k=some r):∃d,c=some (enc d)/\k d=some r:=by
 unfold Me at l;split at l
 .obtain⟨d,e,q⟩:=r7 l;grind
 simp_all
def ZU {key:Nat} {c:Option (AV×List (Nat×Ob))} {k:AV×List (Nat×Ob)->Option R} {r:R} (l:outC C key c k=some r):∃q,c=some q/\k q=some r:=by
 unfold outC at l;split at l
 .obtain⟨d,w,z⟩:=Zr l;simp_all
 simp_all
def Jy {O:St} {key g:Nat} {args:List SV} {N:Nat->Nat} {d:Option Nat} {k:St->Option R} {r:R} (l:FX C key F O g args N d k=some r):∃z,kj F O g args N d=some z/\k z=some r:=by
 unfold FX at l;simp only[] at l;obtain⟨I,l⟩:=cv l;split at l
 .rename_i cG K;obtain⟨⟨S,D⟩,L,l⟩:=ZU l;simp only[] at l;obtain⟨w,l⟩:=cv l;split at l
  .rename_i G q;split at l
   .rename_i x;obtain⟨B,l⟩:=cv l;exact⟨_,by simp only[kj,I,ak,K,L,w,q,B],l⟩
   .obtain⟨Q,l⟩:=cv l;simp only[kj,I,K,L,w];simp_all
  simp_all
 simp_all
theorem RX {D:St} {c:Call} {f:Operand} {d key:Nat} {B:List Nat} {k:St->Option R} {r:R} (q:U2 P C h F D c f d key B k=some r):∃l,CP P h F D c f d B=some l/\k l=some r:=by
 unfold U2 at q;simp at q;split at q
 .rename_i g pre z N K w;obtain⟨I,q⟩:=cv q;obtain⟨l,L,G⟩:=Jy q;exact⟨_,by simp[CP,K,w,I,ak];omega,G⟩
 simp_all
def L5 {K:St} {c:Call} {f:Operand} {d:Option Nat} {k:St->Option R} {r:R} (q:JA P C h F K c f d k=some r):∃z,iI P h F K c f d=some z/\k z=some r:=by
 unfold JA at q;split at q
 .rename_i d;split at q
  .grind[RX,iI]
  rename_i B;split at q
  .rename_i g G vs N w;obtain⟨x,Q,q⟩:=vM q;replace q:=rE q;split at q
   .cases S:(xk h d).isSome with
    |true=>simp_all
    |false=>simp_all[iI]
   .split at q
    .simp_all[iI]
    .rename_i l O I;split at q
     .rename_i U D;obtain⟨L,q⟩:=cv q;rw[I] at w;cases l with
      |nil=>simp_all
      |cons x0 V=>exact⟨_,by simp only[iI,B,I,N,w,Q,D,L,ak],q⟩
     simp_all
    simp_all
   simp_all
  simp_all
 simp_all
def LO {B:St} {t:TypeId} {x:Operand} {d:Nat} {k:St->Option R} {r:R} (l:LN P C B t x d k=some r):∃w,xD P B t x d=some w/\k w=some r:=by
 unfold LN at l;split at l
 .rename_i id U i N K D;split at l
  .rename_i e O q Q S xs V z;obtain⟨G,l⟩:=cv l;obtain⟨zs,L,l⟩:=Nq l;have I:=DG (rF l);exact⟨_,by simp[xD,K,D,z,L,G,ak],I⟩
  simp_all
 simp_all
def PG {z:St} {t:TypeId} {id B i q j:Nat} {k:St->Option R} {r:R} (l:Ww P C z t id B i q j k=some r):∃w,HA P z t id B i q j=some w/\k w=some r:=by
 unfold Ww at l;split at l
 .obtain⟨I,l⟩:=cv l;obtain⟨D,l⟩:=gA l;have K:=DG l;unfold HA;have G :=cK.mpr D;grind
 simp_all
def P4 {o:Oper} {Q:St} {k:St->Option R} {r:R} (w:WL P C h F o Q k=some r):∃B,step0 P h F o Q=some B/\k B=some r:=by
 have ofF:(xR P C h F o Q λv=>k (Q.set o.dst v))=some r->∃B,step0 P h F o Q=some B/\k B=some r:=λw=>by obtain⟨v,N,I⟩:=EF w;exact⟨_,by simp only[step0,N],I⟩
 unfold WL at w;split at w
 .rename_i t l c K;have N:ey P h F o Q=none:=by simp[ey,fB,K]
  split at w
  .rename_i d e s kl l' kc c' G hs hl U;split at w
   .rename_i z i hz hi;replace w:=cv w;obtain⟨S,w⟩:=w;simp only[aV] at S;obtain⟨D,I⟩:=gA w;have h1:0<s:=by simpa[cK] using S.1
    have h2:z.length=s:=beq_iff.1 S.2;exact⟨_,by simp only[step0,N,nC,G,K,hs,hl,U,hz,hi];rw[aB ⟨h1,h2,D⟩],I⟩
   .cases w
  .cases w
 .rename_i t x y K;have N:ey P h F o Q=none:=by simp[ey,fB,K]
  split at w
  .rename_i id sz i off v G hx hy;split at w
   .rename_i e sz' xs n O hsz;replace w:=cv w;obtain⟨S,w⟩:=w;simp only[aV] at S;have h1:=beq_iff.1 S.1.1;subst h1;have h2:=beq_iff.1 S.1.2;obtain⟨c,U,w⟩:=M5 w;replace w:=cv (Dt w);obtain⟨hle,I⟩:=w;refine⟨_,?_,I⟩;simp only[step0,N,nC,G,K,hx,hy,storeAt,O,hsz,U];rw[aB ⟨trivial,h2,fF hle,S.2⟩]
   .cases w
  .rename_i id sz i off j G hx hy;obtain⟨B,hs,I⟩:=PG w;exact⟨B,by simp only[step0,N,nC,G,K,hx,hy];exact hs,I⟩
  .rename_i id off j sz n G hx hy;obtain⟨B,hs,I⟩:=eX w;exact⟨B,by simp only[step0,N,nC,G,K,hx,hy];exact hs,I⟩
  .rename_i a v hn1 hn2 hn3 G hx hy;obtain⟨B,hs,I⟩:=eX w;refine⟨B,?_,I⟩
   have:nC P h F o Q=storeAt P t Q a v:=by simp only[nC,G,K,hx,hy]
   simp only[step0,N];rw[this];exact hs
  .cases w
 .rename_i t x K;cases Rt:o.dst.any h.take.contains with
  |false=>simp_all
  |true=>
   rw[Rt] at w;simp only[ak] at w;split at w
   .rename_i d G;rw[G] at Rt;simp only[uK] at Rt;obtain⟨B,hs,I⟩:=LO w;refine⟨B,?_,I⟩;have N:ey P h F o Q=none:=by simp only[ey,K,G,uK,Rt,ak]
    simp only[step0,N,nC,K,G,Rt,ak];exact hs
   .cases w
 .rename_i c K;split at w
  .rename_i U;have N:ey P h F o Q=none:=by
    simp only[ey,K,U,AH]
   split at w
   .rename_i d x y t t' G L OI;split at w
    .rename_i e s id sy hs hx hy;split at w
     .rename_i e' sz xs sz' ys i O hel hi;replace w:=cv w;obtain⟨S,w⟩:=w;simp only[aV] at S;obtain⟨⟨⟨⟨⟨⟨b1,b2⟩,b3⟩,b4⟩,b5⟩,b6⟩,b7⟩:=S;have e1:=beq_iff.1 b1;have e2:=beq_iff.1 b2;have e3:=beq_iff.1 b3;have e4:=beq_iff.1 b4;have e5:0<sz:=by simpa[cK] using b5
      have e6:i.zero.map (λz=>z.cells.size)=some sz:=by simpa using b6
      obtain⟨D,I⟩:=gA w;refine⟨_,?_,I⟩;simp only[step0,N,nC,K,U,G,L,OI,hs,hx,hy,O,hel,hi];rw[aB ⟨e1,e2,e3,e4,e5,D.1,D.2,e6,b7⟩]
     .rename_i e' sz q e2x s2x xs zs sz' ys i O hel hi;replace w:=cv w;obtain⟨S,w⟩:=w;simp only[aV] at S;obtain⟨⟨⟨⟨⟨⟨⟨b1,b2⟩,b3⟩,b4⟩,b5⟩,b6⟩,b7⟩,b8⟩:=S;have e1:=beq_iff.1 b1;have e2:=beq_iff.1 b2;have e3:=beq_iff.1 b3;have e4:=beq_iff.1 b4;have e5:0<sz:=by simpa[cK] using b5
      have e6:i.zero.map (λz=>z.cells.size)=some sz:=by simpa using b6
      obtain⟨D,I⟩:=gA w;refine⟨_,?_,DG I⟩;simp only[step0,N,nC,K,U,G,L,OI,hs,hx,hy,O,hel,hi];rw[aB ⟨e1,e2,e3,e4,e5,D.1,D.2,e6,b7,b8⟩]
     .cases w
    .rename_i e s id sy hs hx hy;split at w
     .rename_i e' sz xs sz' ys i O hel hi;replace w:=cv w;obtain⟨S,w⟩:=w;simp only[aV,jx] at S;obtain⟨⟨⟨⟨⟨⟨⟨b1,b2⟩,b3⟩,b4⟩,b5⟩,b6⟩,b7⟩,b8⟩:=S;have e1:=beq_iff.1 b1;have e2:=beq_iff.1 b2;have e3:=beq_iff.1 b3;have e4:=beq_iff.1 b4;have e5:0<sz:=by simpa[cK] using b5
      have e6:i.zero.map (λz=>z.cells.size)=some sz:=by simpa using b6
      obtain⟨D,I⟩:=gA w;refine⟨_,?_,I⟩;simp only[step0,N,nC,K,U,G,L,OI,hs,hx,hy,O,hel,hi];rw[aB ⟨e1,e2,e3,e4,e5,D.1,D.2,e6,b7,b8⟩]
     .cases w
    .cases w
   .cases w
  .rename_i U;have N:ey P h F o Q=none:=by simp only[ey,K,U,AH]
   split at w
   .rename_i x t G L OI;split at w
    .rename_i e s id sz lo hi hs hx;split at w
     .rename_i e' sz' xs z O hz;replace w:=cv w;obtain⟨S,w⟩:=w;simp only[aV] at S;obtain⟨⟨⟨⟨b1,b2⟩,b3⟩,b4⟩,b5⟩:=S;have e1:=beq_iff.1 b1;have e2:=beq_iff.1 b2;have e3:=beq_iff.1 b3;have e4:=beq_iff.1 b4;have e5:0<sz:=by simpa[cK] using b5
      obtain⟨hle,I⟩:=gA w;refine⟨_,?_,I⟩;simp only[step0,N,nC,K,U,G,L,OI,hs,hx,O,hz];rw[aB ⟨e1,e2,e3,hle,e4,e5⟩]
     .cases w
    .rename_i hs;split at w
     .rename_i B hm;exact⟨B,by simp only[step0,N,nC,K,U,G,L,OI,hs];exact hm,w⟩
     simp_all
    .cases w
   .cases w
  .rename_i f U;cases how:o.dst.any h.owns.contains with
   |true=>
    rw[how] at w;simp only[ak] at w;have N:ey P h F o Q=none:=by simp only[ey,K,U,how,ak]
    obtain⟨B,h1,I⟩:=L5 w;exact⟨B,by simp only[step0,N];cases G:o.dst<;>(simp only[nC,K,U,G];rw[G] at how;rw[how,<-G];exact h1),I⟩
   |false=>
   rw[how] at w;simp only[aA] at w;have how0:∀d,o.dst=d->d.any h.owns.contains=false:=λd G=>G▸how
   cases hro:(o.dst.any h.stay.contains&&wide Q c f) with
   |true=>rw[hro] at w;exact ofF w
   |false=>
   rw[hro] at w;simp only[aA] at w;cases ZA:wide Q c f with
   |true=>
    rw[ZA] at w;simp only[ak] at w;have N:ey P h F o Q=none:=by simp only[ey,K,U];rw[how,hro,ZA];rfl
    obtain⟨B,h1,I⟩:=H6 w;exact⟨B,by simp only[step0,N];cases G:o.dst<;>(simp only[nC,K,U,G];rw[G] at hro how;rw[how,hro,ZA,<-G];exact h1),I⟩
   |false=>
   have hro0:∀(d:Option Nat),(d.any h.stay.contains&&false)=false:=λd=>by simp
   rw[ZA] at w;simp only[aA] at w;cases V:c.args.toList.any (λx=>(pK h Q x).isSome) with
   |true=>
    rw[V] at w;simp only[ak] at w;have N:ey P h F o Q=none:=by simp only[ey,K,U];rw[how,hro,V];simp
    split at w
    .rename_i g caps vs id hfn hvs;split at w
     .rename_i e sz xs O;obtain⟨r',xs',hx,w⟩:=U4 w;replace w:=rF (rE w);have hstep:∀st2,qg P h F Q c f o.dst=some st2->step0 P h F o Q=some st2:=λst2 h2=>by
       simp only[step0,N];cases G:o.dst<;>(simp only[nC,K,U,G];rw[how0 _ G,ZA,V,hro0];simp only[ak,aA];rw[<-G];exact h2)
      split at w
      .rename_i n;replace w:=cv w;obtain⟨S,w⟩:=w;obtain⟨hn,I⟩:=gA w;refine⟨_,hstep _ ?_,I⟩;simp only[qg,hfn,hvs,O,hx,beq_iff.2 (rfl:e=e),beq_iff.2 (rfl:sz=sz),beq_iff.2 (rfl:10000=10000),rM,ak,S,uN hn]
      .rename_i hns;replace w:=cv w;obtain⟨S,I⟩:=w;refine⟨_,hstep _ ?_,I⟩;simp only[qg,hfn,hvs,O,hx,beq_iff.2 (rfl:e=e),beq_iff.2 (rfl:sz=sz),beq_iff.2 (rfl:10000=10000),rM,ak,S]
     .cases w
    .cases w
   |false=>
   have href0:(wide Q c f||c.args.toList.any (λx=>(pK h Q x).isSome))=false:=by rw[ZA,V];rfl
   rw[V] at w;simp only[aA] at w;cases hag:c.args.toList.any (yX Q) with
   |true=>rw[hag] at w;exact ofF w
   |false=>
   rw[hag] at w;simp only[aA] at w;cases Vq:c.args.toList.any (lu Q) with
   |true=>
    simp only[Vq,ak] at w;split at w
    .rename_i g caps vs hfn hvs;obtain⟨r',hx,w⟩:=vM w;replace w:=rE w;cases hp:(r'.plain&&r'.jJ) with
     |true=>simp only[hp,ak] at w;refine⟨_,?_,w⟩;rw[aV] at hp;simp only[step0,ey,K,U];rw[how,hro,href0];simp only[hfn,hvs,hx,hp.1,hp.2,uJ,Bool.or_true,iF,ak,aA]
     |false=>
      simp only[hp,aA] at w;split at w
      .rename_i st1 oH;split at w
       .rename_i g' caps' vs' hfn' hvs';cases hrow:c.args.toList.any (lu st1) with
        |true=>simp_all
        |false=>
         rw[hrow] at w;simp only[aA] at w;obtain⟨r2,hx2,w⟩:=vM w;replace w:=cv (rE w);obtain⟨hns,w⟩:=w;refine⟨_,?_,w⟩;have N:ey P h F o Q=none:=by simp only[ey,K,U];rw[how,hro,href0];simp only[aA,hfn,hvs,hx,hp,Vq,dS,rN,pX]
         simp only[step0,N];cases G:o.dst<;>(simp only[nC,K,U,G];rw[how0 _ G,ZA,V,hro0];simp only[aA,oH,hfn',hvs',hx2,hrow,hns,dS,rN])
       simp_all
      simp_all
    simp_all
   |false=>simp_all
  simp_all
 .rename_i t m kx x K;split at w
  .rename_i G;obtain⟨B,h1,I⟩:=AE w;exact⟨B,by simp only[step0,nC,ey,fB,K,G];exact h1,I⟩
  .cases w
 .rename_i t m kx x K;split at w
  .rename_i G;obtain⟨B,h1,I⟩:=AE w;exact⟨B,by simp only[step0,nC,ey,fB,K,G];exact h1,I⟩
  .cases w
 .exact eX w
 .exact eX w
 .exact eX w
 .exact eX w
 .exact eX w
 .exact eX w
 .exact eX w
 simp_all
def Py {z:St} {t:Nat} {k:St->Option R} {r:R} (l:Px C z t k=some r):∃q,qx z t=some q/\k q=some r:=by
 unfold Px at l;split at l
 .split at l
  .obtain⟨w,l⟩:=cv l;obtain⟨D,B,l⟩:=FT l;refine⟨_,?_,rF l⟩;simp_all[qx,St.dy,Ob.val]
  .exact eX l
 .exact eX l
def BN:∀{l:List Nat} {w:St} {k:St->Option R} {r:R},Gk C l w k=some r->∃z,mW l w=some z/\k z=some r
 |[],w,k,r,q=>⟨w,rfl,q⟩
 |t::l,w,k,r,q=>by obtain⟨B,G,q⟩:=Py q;obtain⟨D,I,q⟩:=BN q;simp_all[mW]
theorem HL {o:Oper} {w:St} {k:St->Option R} {r:R} (q:stepT P C h F o w k=some r):∃l,step P h F o w=some l/\k l=some r:=by obtain⟨z,D,q⟩:=BN q;obtain⟨B,G,I⟩:=P4 q;simp_all[step]
def HP {q:Array Oper} {o:Oper} {w:St} {k:Bool->St->Option R} {r:R} (l:YR q o w k=some r):∃b,qq q o w=some b/\k b w=some r:=by
 unfold YR at l;unfold qq;split at l
 .simp_all
 .split at l
  .split at l
   .simp_all
   .exact⟨_,by simp_all,l⟩
   .simp_all
   simp_all
  simp_all
theorem T8 {l:St} {d:Nat} {v:SV} (w:l.env d=some v):l.set (some d) v=l:=by obtain⟨q,z⟩:=l;simp[St.set,St.mk.injEq];grind[de,bZ]
theorem Aa {b:Bool} {d:Option Nat} {q:St} {k:St->Option R} {r:R} (l:K5 b d q k=some r):k q=some r:=by unfold K5 at l;cases b with
 |false=>exact l
 |true=>
  simp at l;split at l
  .split at l
   .rename_i t w;cases t with
    |true=>simp_all[T8]
    |false=>simp_all[T8]
   omega
  omega
def Mv {q:Array Oper}:∀{l:List Oper} {i:Nat} {w:St} {k:St->Option R} {r:R},IP P C h F q i l w k=some r->∃s,qW P h F q l w=some s/\k s=some r:=by intro l;induction l with
 |nil=>intro i w k r z;exact⟨w,rfl,z⟩
 |cons o l D=>intro i w k r z;obtain⟨b,B,z⟩:=HP z;cases b with
  |true=>grind[HL,Aa,qW]
  |false=>grind[qW]
def KY {B:Array Oper}:∀{l:List Oper} {i:Nat} {w:List (Nat×gw)} {z:St} {k:St->Option R} {r:R},B0 P C h F B i l w z k=some r->∃s,j0 P h F B i l w z=some s/\k s=some r:=by intro l;induction l with
 |nil=>intro i w z k r q;exact⟨z,rfl,q⟩
 |cons o l K=>intro i w z k r q;replace q:=HP q;obtain⟨b,O,q⟩:=q;cases b with
  |true=>cases D:(isF h z o&&(E7 h o).isEmpty) with
   |true=>simp[D] at q;obtain⟨v,S,q⟩:=EF q;obtain⟨G,q⟩:=cv q;obtain⟨s,L,I⟩:=K (Aa q);simp_all[j0]
   |false=>simp[D] at q;obtain⟨Q,N,q⟩:=HL q;obtain⟨G,q⟩:=cv q;obtain⟨s,L,I⟩:=K (Aa q);exact⟨s,by simp[j0,O,ak,D,aA,N,G];omega,I⟩
  |false=>obtain⟨G,q⟩:=cv q;simp_all[j0]
theorem Oy {w:Type} (m:Nat->Option w):∀(l:List Nat) (i:Nat),find (vo m l) i=if i∈l then m i else none:=by intro l;induction l with
 |nil=>intro i;rfl
 |cons j l D=>intro i;simp[vo];cases B:m j with
  |none=>grind
  |some v=>simp only[find];cases z:Nat.beq j i with
   |true=>simp_all
   |false=>
    have q:¬i=j:=λe=>by simp_all
    simp_all
def R4 (h:Hint) (key:Nat) (l:St):h.canon key (h.canon key l)=h.canon key l:=by
 unfold Hint.canon;split
 .grind[St.mk.injEq,Oy]
 .rfl
def Ka {key:Nat} {f:St->Option (Ex×St)} {n:Nat} {l:St}:iter h key f n (h.canon key l)=iter h key f n l:=by cases n with
 |zero=>rfl
 |succ n=>simp[iter,R4]
def ZF {c:Code} {n m:Nat} (B:n<=m) {key:Nat}:∀(q:Nat) {l:Nat} {z:St} {x:Ex×St},q<=l->iter h key (exec P h F n c) q z=some x->iter h key (exec P h F m c) l z=some x:=by intro q;induction q with
 |zero=>simp_all[iter]
 |succ q I=>
  intro l z x D G;obtain⟨w,rfl⟩:∃w,l=w+1:=⟨l-1,af⟩
  grind[iter,tq]
def yu {c:Code} {z:St} {k:Ex->St->Option R} {r:R}:J9 P h F c z k=some r↔∃n e l,exec P h F n (.loop c) z=some (e,l)/\k e l=some r:=by
 constructor
 .intro w;unfold J9 at w;split at w
  .grind
  simp_all
 .rintro⟨n,e,l,q,G⟩;unfold J9;have B:∃x n,exec P h F n _ _=some x:=⟨_,n,q⟩
  obtain⟨m,I⟩:=B.choose_spec;have D:=tq (uM n m) q;grind[tq,Nat.le_max_right]
theorem x5:∀{l:List Nat} {z:St} {k:St->Option R} {r:R},E8 C l z k=some r->∃w,BS l z=some w/\k w=some r
 |[],z,k,r,q=>⟨z,rfl,q⟩
 |id::l,z,k,r,q=>by
  simp[E8] at q;split at q
  .replace q:=cv q;obtain⟨B,q⟩:=q;obtain⟨K,I,q⟩:=FT q;obtain⟨w,D,G⟩:=x5 (rF q);simp_all[BS,St.PA,St.dy,Ob.val]
  .split at q
   .obtain⟨w,D,G⟩:=x5 q;simp_all[BS]
   simp_all
def TM {id:Nat} {w:St} {k:St->Option R} {r:R} (q:adX C h id w k=some r):∃l,h.adW id w=some l/\k l=some r:=by
 unfold adX at q;unfold Hint.adW;split at q
 .grind[x5]
 simp_all
def G6:∀(c:Code) {w:St} {k:Ex->St->Option R} {r:R},sW P C h F c w k=some r->∃n e O,exec P h F n c w=some (e,O)/\k e O=some r:=by intro c;induction c with
 |skip=>intro w k r q;exact⟨0,_,_,rfl,q⟩
 |label l=>intro w k r q;exact⟨0,_,_,rfl,q⟩
 |exit id=>intro w k r q;exact⟨0,_,_,rfl,q⟩
 |ret=>intro w k r q;exact⟨0,_,_,rfl,q⟩
 |region id ops I=>intro w k r q;simp only[sW] at q;obtain⟨Q,L,q⟩:=TM q;cases I with
  |true=>simp only[ak] at q;obtain⟨hs,q⟩:=cv q;obtain⟨s,V,K⟩:=KY q;exact⟨0, .normal,s,by simp_all[exec,kA,ak,ff],K⟩
  |false=>simp only[aA] at q;obtain⟨s,V,K⟩:=Mv q;exact⟨0, .normal,s,by simp[exec,L,V],K⟩
 |seq x y D G=>
  intro w k r q;simp only[sW] at q;cases B:find h.blk (fk x) with
  |some z=>simp[B] at q;obtain⟨hg,q⟩:=gA q;exact⟨0,_,_,by simp_all[exec],q⟩
  |none=>
  simp[B] at q;obtain⟨n,e,Q,N,q⟩:=D q;cases e with
  |normal=>obtain⟨m,e2,st2,hy,K⟩:=G (q);exact⟨max n m,e2,_,by grind[exec,tq,Nat.le_max_right],K⟩
  |exit id=>exact⟨n,_,_,by simp[exec,B,N],q⟩
  |ret=>exact⟨n,_,_,by simp[exec,B,N],q⟩
 |cond c x y D G=>
  intro w k r q;simp[sW] at q;split at q
  .rename_i t hc;cases t with
   |true=>simp_all[exec]
   |false=>simp_all[exec]
  simp_all
 |block id c S=>intro w k r q;obtain⟨n,e,Q,N,q⟩:=S q;cases e with
  |normal=>exact⟨n,_,_,by simp[exec,N],q⟩
  |ret=>exact⟨n,_,_,by simp[exec,N],q⟩
  |exit j=>simp[UT] at q;cases U:Nat.beq j id with
   |true=>simp[U] at q;exact⟨n,_,_,by simp_all[exec],q⟩
   |false=>simp[U] at q;exact⟨n,_,_,by simp_all[exec],q⟩
 |loop c S=>simp_all[sW,yu,exec,Ka]
 |scope c S=>assumption
 |rangeFunc f ps x y D G=>simp_all[sW]
 |goto l=>simp_all[sW]
 |refuse s=>simp_all[sW]
theorem S4 {c:Code} {B:St} {k:Ex->St->Option R} {r:R} (G:sW P C h F c (h.canon (fk c) B) (UJ P h F c k)=some r):J9 P h F c B k=some r:=by obtain⟨n,e,I,w,l⟩:=G6 c G;cases e with
 |normal=>obtain⟨m,D,K,z,q⟩:=yu.1 (l);simp[exec,Ka] at z;refine yu.2 ⟨max n m+1,D,_,?_,q⟩;simp[exec,iter];rw[tq (show n<=max n m+1 by omega) w];exact ZF (show m<=max n m+1 by omega) m af z
 |exit j=>refine yu.2 ⟨n+1,_,_,?_,l⟩;simp[exec,iter];rw[tq (show n<=n+1 by omega) w]
 |ret=>refine yu.2 ⟨n+1,_,_,?_,l⟩;simp[exec,iter];rw[tq (show n<=n+1 by omega) w]
end
section
variable {P:Program} {C:ni} {H:Nat->Hint} {gR:eN}
def sI {f:Nat} {args:List SV} {cG:List (Nat×Ob)} {r:AV×List (Nat×Ob)} (D:gR f args cG=none) (l:aaL P C H gR f args cG=some r):run P H gR f args cG=some r:=by
 unfold aaL at l;split at l
 .rename_i fn B;split at l
  .rename_i c q;obtain⟨w,l⟩:=cv l;obtain⟨n,e,I,G,z⟩:=G6 c l;exact HE D B q w G z
  simp_all
 simp_all
def kX {f key:Nat} {names:List Nat} {l:List (Nat×SV)} {q:List (Nat×Ob)} {r:AV×List (Nat×Ob)} (w:WG P C H gR f key names l q=some r):AA P C H gR f key names l q=some r:=by grind[WG,AA,S4]
end
section
variable {R:Type}
def bT {p:Prop} [Decidable p] (l:p) (x:Option R):check p x=x:=by unfold check;simp_all
def BD {l:Type} {xs:List l} {i:Int} {x:l} (q:0<=i) (w:xs[i.toNat]? =some x) (k:l->Option R):bf xs i k=k x:=by simp_all[bf]
def gM {l:Type} {xs:List l} {i:Nat} {x:l} (q:xs[i]? =some x) (k:l->Option R):bf xs (i:Int) k=k x:=BD af (by assumption) k
def kW {l:Type} {xs:List l} {i:Nat} {x:l} (q:xs[i]? =some x) (k:l->Option R):dO xs i k=k x:=by unfold dO;rw[q]
def Y8 {c:Option (AV×List (Nat×Ob))} {r:AV} (l:c=some (r,[])) (k:AV->Option R):yj c k=k r:=by subst l;unfold yj;rfl
def Za {c:Option (AV×List (Nat×Ob))} {l e q:Nat} {r:AV} {xs:List (List AV)} (w:c=some (r,[(l, .row e q xs)])) (k:AV->List (List AV)->Option R):G4 c l e q k=k r xs:=by simp_all[G4]
def asE_pos {l T:Type} {enc:T->l} (inj:∀a b,enc a=enc b->a=b) (d:T) (k:T->Option R):uE enc (enc d) k=k d:=by
 unfold uE;have q:∃x,enc x=enc d:=⟨d,rfl⟩
 grind
end
