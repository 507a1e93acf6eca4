/- THE ABSTRACT MACHINE, TYPED. -/
import Derived.Test.YthppjmoncapdfaaGreatDoorAmFin
set_option linter.all false
namespace Go.AM
open Go.RowKit
structure Fu where
 T:Type
 enc:T->List AV
structure r5 where
 T:Type
 enc:T->AV
def Bw {q:Type 1}:List (Nat×q)->Nat->Option q
 |[],_=>none
 |(j,v)::l,i=>cond (Nat.beq j i) (some v) (Bw l i)
structure lY where
 elem:TypeId->Option Fu
 val:TypeId->Option r5
 res:Nat->Option r5
 ptr:Option Fu:=none
def Ty {T:Type} (enc:T->List AV):Option T->AV
 |some x=> .ref (enc x)
 |none=> .DQ
def dO (K V:r5) (l:List (K.T×V.T)):List AV×List AV:=(l.map λp=>K.enc p.1,l.map λp=>V.enc p.2)
section
variable {R:Type}
@[irreducible] def check (p:Prop) [Decidable p] (x:Option R):Option R:=if p then x else none
@[irreducible] def aW {l:Type} (xs:List l) (i:Int) (k:l->Option R):Option R:=
 if 0<=i then match xs[i.toNat]? with
  |some x=>k x
  |none=>none
 else none
@[irreducible] def ek {l:Type} (xs:List l) (i:Nat) (k:l->Option R):Option R:=
 match xs[i]? with
 |some x=>k x
 |none=>none
@[irreducible] def wN (c:Option (AV×List (Nat×Ob))) (k:AV->Option R):Option R:=
 match c with
 |some (r,[])=>k r
 |_=>none
@[irreducible] def Dl (c:Option (AV×List (Nat×Ob))) (z e sz:Nat) (k:AV->List (List AV)->Option R):Option R:=
 match c with
 |some (r,[(l, .row w q xs)])=>bif Nat.beq z l&&Nat.beq e w&&Nat.beq sz q then k r xs else none
 |_=>none
@[irreducible] def Lv (x:Option (Option AV)) (k:AV->Option R) (z:Option R):Option R:=
 match x with
 |some (some v)=>k v
 |some none=>z
 |none=>none
@[irreducible] def UQ (x:Option (List AV×List AV)) (k:List AV×List AV->Option R):Option R:=
 match x with
 |some p=>k p
 |none=>none
@[irreducible] noncomputable def rU {l T:Type} (enc:T->l) (c:l) (k:T->Option R):Option R:=
 open Classical in if q : ∃ d, enc d = c then k q.choose else none
@[irreducible] def vC (c:Option (AV×List (Nat×Ob))) (k:AV->List (Nat×Ob)->Option R):Option R:=
 match c with
 |some (r,l)=>k r l
 |none=>none
@[irreducible] def nW (w:Nat) (l:List (Nat×Ob)) (k:Ob->List (Nat×Ob)->Option R):Option R:=
 match l with
 |(q,o)::l=>bif Nat.beq w q then k o l else none
 |[]=>none
@[irreducible] def Nu (l:List (Nat×Ob)) (k:Option R):Option R:=
 match l with
 |[]=>k
 |_=>none
@[irreducible] noncomputable def D9 (o o':Ob) (k:Option R):Option R:=open Classical in if o=o' then k else none
@[irreducible] def PK (e sz:Nat) (o:Ob) (k:List (List AV)->Option R):Option R:=
 match o with
 | .row q l xs=>bif Nat.beq e q&&Nat.beq sz l then k xs else none
 |_=>none
@[irreducible] def PJ (z q:Nat) (o:Ob) (k:List AV×List AV->Option R):Option R:=
 match o with
 | .mp k' l w B=>bif Nat.beq z k'&&Nat.beq q l then k (w,B) else none
 |_=>none
@[irreducible] def Zt (o:Ob) (k:List AV->Option R):Option R:=
 match o with
 | .lp xs=>k xs
 |_=>none
@[irreducible] def Yz (a:AV) (k:List AV->Option R):Option R:=
 match a with
 | .ref l=>k l
 |_=>none
@[irreducible] def hasK (x:Option (Option Nat)) (k:Bool->Option R):Option R:=
 match x with
 |some r=>k r.isSome
 |none=>none
@[irreducible] def S9 (x:Option (List UInt8)) (k:List UInt8->Option R):Option R:=
 match x with
 |some b=>k b
 |none=>none
def acJ (key:AV) (q:List AV) (l:List (Option (List (List AV)))):Option (List (List AV)×List (Option (List (List AV)))):=
 match pJ key q with
 |some (some i)=>match l[i]? with
  |some (some xs)=>some (xs,l.set i none)
  |_=>none
 |some none=>some ([],l)
 |none=>none
@[irreducible] def adl (x:Option (List (List AV)×List (Option (List (List AV))))) (k:List (List AV)->List (Option (List (List AV)))->Option R):Option R:=
 match x with
 |some p=>k p.1 p.2
 |none=>none
@[irreducible] def WQ (x:Option (List AV×List (Option (List (List AV))))) (k:List AV×List (Option (List (List AV)))->Option R):Option R:=
 match x with
 |some p=>k p
 |none=>none
@[irreducible] def SR (x:Option (List (List (List AV)))) (k:List (List (List AV))->Option R):Option R:=
 match x with
 |some l=>k l
 |none=>none
@[irreducible] def RA (l:List (Option (List (List AV)))) (i:Nat) (k:List (List AV)->Option R):Option R:=
 match l[i]? with
 |some (some q)=>k q
 |_=>none
def Ij (K:r5) (E:Fu) (l:List (K.T×Option (List E.T))):List AV×List (Option (List (List AV))):=(l.map λp=>K.enc p.1,l.map λp=>p.2.map (List.map E.enc))
def pK {l:Type} (c:Option l) (k:l->Option R):Option R:=
 match c with
 |some r=>k r
 |none=>none
noncomputable def Qf (C:lY) (e:TypeId) (c:List AV) (k:List AV->Option R):Option R:=
 match C.elem e with
 |some d=>rU d.enc c λx=>k (d.enc x)
 |none=>k c
noncomputable def NW (C:lY) (e:TypeId) (c:List (List AV)) (k:List (List AV)->Option R):Option R:=
 match C.elem e with
 |some d=>rU (List.map d.enc) c λx=>k (x.map d.enc)
 |none=>k c
noncomputable def valK (C:lY) (t:TypeId) (c:AV) (k:AV->Option R):Option R:=
 match C.val t with
 |some d=>rU d.enc c λx=>k (d.enc x)
 |none=>k c
noncomputable def acw (C:lY) (w q:TypeId) (p:List AV×List AV) (k:List AV×List AV->Option R):Option R:=
 match C.val w,C.val q with
 |some K,some V=>rU (dO K V) p λl=>k (dO K V l)
 |_,_=>k p
noncomputable def mrK (C:lY) (q e:TypeId) (p:List AV×List (Option (List (List AV)))) (k:List AV×List (Option (List (List AV)))->Option R):Option R:=
 match C.val q,C.elem e with
 |some K,some E=>rU (Ij K E) p λl=>k (Ij K E l)
 |_,_=>k p
noncomputable def Rr (C:lY) (e:TypeId) (l:List (Option (List (List AV)))) (k:List (Option (List (List AV)))->Option R):Option R:=
 match C.elem e with
 |some d=>rU (List.map (Option.map (List.map d.enc))) l λy=>k (y.map (Option.map (List.map d.enc)))
 |none=>k l
noncomputable def mpK (C:lY) (w e:TypeId) (q:Nat) (p:List AV×List AV) (k:List AV×List AV->Option R):Option R:=
 match C.val w,C.elem e with
 |some K,some E=>rU (dO K ⟨List E.T,λx=> .dK q (x.map E.enc)⟩) p λl=>k (dO K ⟨List E.T,λx=> .dK q (x.map E.enc)⟩ l)
 |_,_=>k p
noncomputable def U0 (C:lY) (o l:Ob) (k:Ob->Option R):Option R:=
 match o with
 | .row e z _=>PK e z l λxs=>NW C e xs λxs=>k (.row e z xs)
 | .mp w q _ _=>PJ w q l λp=>acw C w q p λp=>k (.mp w q p.1 p.2)
 | .lp _=>Zt l λxs=>k (.lp xs)
 |o=>D9 l o (k o)
@[irreducible] def Vt (t:TypeId) (o:Ob) (k:List AV->Option R):Option R:=
 match o with
 | .box q cells=>match lW cells with
  |some l=>bif Nat.beq t q then k l else none
  |none=>none
 |_=>none
noncomputable def boxK (C:lY) (o q:Ob) (k:Ob->Option R):Option R:=
 match o with
 | .box t _=>Vt t q λl=>match C.elem t with
  |some d=>rU d.enc l λx=>k (.box t ((d.enc x).map .pv))
  |none=>none
 |_=>none
noncomputable def Ie (C:lY) (keep B:List Nat):List (Nat×Ob)->List (Nat×Ob)->(List (Nat×Ob)->Option R)->Option R
 |[],D,k=>Nu D (k [])
 |(w,o)::l,D,k=>nW w D λG q=>bif keep.contains w then D9 G o (Ie C keep B l q λz=>k ((w,o)::z)) else bif B.contains w then boxK C o G λI=>Ie C keep B l q λz=>k ((w,I)::z) else U0 C o G λI=>Ie C keep B l q λz=>k ((w,I)::z)
noncomputable def KU (C:lY) (g:Nat) (c:AV) (k:AV->Option R):Option R:=
 match C.res g with
 |some d=>rU d.enc c λx=>k (d.enc x)
 |none=>k c
noncomputable def Tq (C:lY) (a:AV) (k:AV->Option R):Option R:=
 Yz a λl=>match C.ptr with
  |some d=>rU d.enc l λx=>k (.ref (d.enc x))
  |none=>k (.ref l)
def wg (w:Option SV) (l:Nat) (q:Nat) (k:Nat->Option R):Option R:=
 match w with
 |none=>k l
 |some (.pv (.int _ i))=>check (0<=i/\i<=q) (k i.toNat)
 |some _=>none
noncomputable def zK:List (Nat×Ob)->List (Nat×Ob)->Option R->Option R
 |[],q,k=>Nu q k
 |(z,o)::l,q,k=>nW z q λB w=>D9 B o (zK l w k)
noncomputable def Mm (P:Program) (C:lY) (h:Hint) (F:dX) (q:St) (c:Call) (f:Operand) (k:AV->Option R):Option R:=
 match tK P h q c f with
 |some (g,args)=>
  bif distinct (kM q args)&&Nat.blt (kM q args).length 10000&&args.all (SV.closed (kM q args)) then
   match lE q (kM q args) (qI (jA (kM q args))) (jA (kM q args)) with
   |some cF=>vC (F g (args.map (SV.tC (qI (jA (kM q args))))) cF) λr l=>zK cF l (KU C g r λr=>bif r.kF then k r else none)
   |none=>none
  else none
 |none=>none
noncomputable def acv (C:lY) (w:St) (v:SV) (k:AV->Option R):Option R:=
 match v with
 | .aq id (.nr i)=>match w.ob id with
  |some (.rn _ _ _ G z _ B)=>RA B i λD=>NW C G D λD=>k (.dK z D)
  |_=>none
 | .ag [.r id]=>match w.ob id with
  |some (.rn e I q _ z xs B)=>SR (oS B) λl=>NW C e (wG q z xs l) λm=>k (.agg [.dK I m])
  |_=>pK (mh w v) k
 |v=>pK (mh w v) k
noncomputable def DM (P:Program) (C:lY) (q:St):List Operand->List TypeId->(List AV->Option R)->Option R
 |[],_,k=>k []
 |x::xs,w,k=>match bz P (w.headD 0) q x with
  |some v=>acv C q v λa=>DM P C q xs w.tail λl=>k (a::l)
  |none=>none
noncomputable def uU (P:Program) (C:lY) (h:Hint) (F:dX) (o:Oper) (w:St) (k:SV->Option R):Option R:=
 match o.op with
 | .pick c a b=>match bz P 0 w c with
  |some (.pv (.bool t))=>bif t then pK (bz P o.type w a) k else pK (bz P o.type w b) k
  |_=>none
 | .nilCheck x=>match bz P 0 w x with
  |some (.pv a)=>Tq C a λa=>k (.pv a)
  |_=>pK (eY P o w) k
 | .indexAddr t x Q=>match P.underlying t with
  |some (.array n e)=>pK (B8 P w n e x Q) k
  |_=>match isSlice P t,bz P t w x,bz P 0 w Q with
  |some (e,s),some (.pv (.dK B xs)),some (.pv (.int _ i))=>bif Nat.beq s B then aW xs i λc=>Qf C e c λc=>k (.cp c) else none
  |some (_,s),some (.row id),some (.pv (.int _ i))=>match w.ob id with
   |some (.row _ B xs)=>bif Nat.beq s B then check (0<=i/\i.toNat<xs.length) (k (.rp id B i.toNat 0)) else none
   |some (.rn _ B _ _ _ xs _)=>bif Nat.beq s B then check (0<=i/\i.toNat<xs.length) (k (.rp id B i.toNat 0)) else none
   |_=>none
  |some (_,s),some (.sub id B G D),some (.pv (.int _ i))=>bif Nat.beq s B then check (0<=i/\i.toNat<D-G) (k (.rp id B (G+i.toNat) 0)) else none
  |_,_,_=>none
 | .index t x Q=>match P.underlying t,bz P t w x,bz P 0 w Q with
  |some .string,some (.pv (.str s)),some (.pv (.int _ i))=>aW s i λb=>k (.pv (.int .u8 b.toNat))
  |_,_,_=>none
 | .load t x=>bif o.dst.any h.take.contains then none else match bz P 0 w x with
  |some (.rp id B i N)=>match w.ob id with
   |some (.row e L xs)=>bif Nat.beq B L then ek xs i λc=>Qf C e c λc=>pK (iG P t (c.drop N)) λv=>k (.pv v) else none
   |some (.rn _ L q _ _ xs _)=>bif Nat.beq B L&&Nat.beq N q&&(CJ P t==some false) then check (i<xs.length) (k (.aq id (.nr i))) else none
   |_=>none
  |_=>pK (eY P o w) k
 | .binOp op t x y _=>match(bz P t w x).bind iJ,(bz P t w y).bind iJ with
  |some (.int K a),some (.int kb b)=>match op with
   | .quo=>bif K==kb then check (b≠0) (k (.pv (.int K (K.wrap (a.tdiv b))))) else none
   | .rem=>bif K==kb then check (b≠0) (k (.pv (.int K (a.tmod b)))) else none
   | .shl=>check (0<=b) (k (.pv (.int K (K.wrap (a *2^ min b.toNat K.bits)))))
   | .shr=>check (0<=b) (k (.pv (.int K (a.fdiv (2^ min b.toNat K.bits)))))
   |_=>pK (eY P o w) k
  |some (.str a),some (.str b)=>match op with
   | .add=>check (a.length+b.length<=9223372036854775807) (k (.pv (.str (a++b))))
   |_=>pK (eY P o w) k
  |_,_=>pK (eY P o w) k
 | .slice t x G D none=>match P.underlying t,bz P t w x,nh P w G,nh P w D with
  |some .string,some (.pv (.str s)),some G,some D=>wg D s.length s.length λh=>wg G 0 h λl=>k (.pv (.str ((s.take h).drop l)))
  |some (.slice _),some (.pv (.dK B xs)),some G,some D=>match isSlice P t with
   |some (_,s)=>bif Nat.beq s B then wg D xs.length xs.length λh=>wg G 0 h λl=>k (.pv (.dK B ((xs.take h).drop l))) else none
   |none=>none
  |some (.slice _),some (.row id),some G,some D=>match isSlice P t,w.ob id with
   |some (_,s),some (.row _ B xs)=>bif Nat.beq s B then wg D xs.length xs.length λh=>wg G 0 h λl=>k (.sub id B l h) else none
   |_,_=>none
  |some (.slice _),some (.sub id B a b),some G,some D=>match isSlice P t with
   |some (_,s)=>bif Nat.beq s B then wg D (b-a) (b-a) λh=>wg G 0 h λl=>k (.sub id B (a+l) (a+h)) else none
   |none=>none
  |_,_,_,_=>none
 | .slice t x none (some D) (some mx)=>match bz P t w x with
  |some (.row id)=>match w.ob id,isSlice P t,bz P 0 w D,bz P 0 w mx with
   |some (.row _ B xs),some (_,s),some (.pv (.int _ a)),some (.pv (.int _ b))=>bif Nat.beq s B then check (a=(xs.length:Int)/\b=(xs.length:Int)) (k (.aq id .full)) else none
   |_,_,_,_=>none
  |_=>none
 | .convert src U x=>match P.underlying src,P.underlying U with
  |some (.slice e),some .string=>match P.underlying e,kN P e,(bz P src w x).bind (elems w) with
   |some (.int .u8),some 1,some (1,xs)=>S9 (bytesOf xs) λb=>k (.pv (.str b))
   |_,_,_=>none
  |_,_=>pK (eY P o w) k
 | .lookup t x kx ok=>bif pT h x&& !ok then none else match P.underlying t with
  |some (.map S V)=>match(bz P t w x).bind (FW w),(bz P S w kx).bind iJ with
   |some ks,some key=>bif ok&&jE P S key&&(pH P V).isSome then hasK (pJ key ks) λb=>k (.two .any b) else none
   |_,_=>match(bz P t w x).bind (maps w),(bz P S w kx).bind iJ with
   |some (ks,O),some key=>bif jE P S key then Lv (Uu key ks O) (λv=>valK C V v λv=>k (.pv (found ok v true))) (pK (pH P V) λz=>k (.pv (found ok z false))) else none
   |_,_=>none
  |_=>none
 | .call c=>match c.callee with
  | .value f=>bif o.dst.any h.owns.contains then none else bif o.dst.any h.stay.contains&&wide w c f then Mm P C h F w c f λr=>k (.pv r) else
   bif wide w c f||c.args.toList.any (λx=>(ou h w x).isSome) then none else
   bif c.args.toList.any (vZ w) then
    match bz P 0 w f with
    |some (.pv (.fn g I))=>DM P C w c.args.toList c.argTypes.toList λO=>wN (F g ((O++I).map .pv) []) λr=>KU C g r λr=>bif r.plain&&r.kF then k (.pv r) else none
    |_=>none
   else
   match bz P 0 w f,jx P w c.args.toList c.argTypes.toList with
   |some (.pv (.fn g I)),some O=>wN (F g ((O++I).map .pv) []) λr=>KU C g r λr=>bif(!(c.args.toList.any (kK w))||r.plain)&&r.kF then k (.pv r) else none
   |_,_=>none
  |_=>pK (xb P c w) k
 |_=>pK (ew P h F o w) k
noncomputable def A7 (P:Program) (C:lY) (G:St) (t:TypeId) (m D x:Operand) (k:St->Option R):Option R:=
 match P.underlying t with
 |some (.map w q)=>match Um P G q x with
  |some l=>match bz P t l m,(bz P w l D).bind iJ,(bz P q l x).bind iJ with
   |some (.row id),some key,some v=>match l.ob id with
    |some (.mp k' z B I)=>bif jE P w key&&v.F6 then
      UQ (Cf key v B I) λp=>acw C w q p λp=>k { l with ob:=put l.ob id (some (.mp k' z p.1 p.2)) }
     else none
    |_=>none
   |_,_,_=>none
  |none=>none
 |_=>none
noncomputable def Cc (P:Program) (C:lY) (l:St) (t:TypeId) (m D:Operand) (k:St->Option R):Option R:=
 match P.underlying t with
 |some (.map q z)=>match bz P t l m,(bz P q l D).bind iJ with
  |some (.row id),some key=>match l.ob id with
   |some (.mp k' w B G)=>bif jE P q key then
     UQ (mdel key B G) λp=>acw C q z p λp=>k { l with ob:=put l.ob id (some (.mp k' w p.1 p.2)) }
    else none
   |_=>none
  |_,_=>none
 |_=>none
noncomputable def Uy (P:Program) (C:lY) (l:St) (t:TypeId) (m G:Operand) (d:Nat) (k:St->Option R):Option R:=
 match LA P l t m G with
 |some (z,id,key,k',e,q,B,I)=>bif Nat.beq id d then none else match pH P z,isSlice P z with
  |some (.dK _ []),some (D,s)=>bif Nat.beq e D&&Nat.beq s q&&Nat.blt 0 s then
    adl (acJ key B I) λxs w=>NW C e xs λxs=>mrK C k' e (B,w) λp=>k ((St.new { l with ob:=put l.ob id (some (.mr k' e q p.1 p.2)) } d (.row e q xs)).set (some d) (.row d))
   else none
  |_,_=>none
 |none=>none
noncomputable def WD (P:Program) (C:lY) (l:St) (t:TypeId) (m G x:Operand) (k:St->Option R):Option R:=
 match LA P l t m G with
 |some (z,id,key,k',e,q,B,D)=>match x with
  | .const (.slice none 0 0)=>match isSlice P z with
   |some (w,s)=>bif Nat.beq e w&&Nat.beq s q&&Nat.blt 0 s then
     WQ (Cf key (some []) B D) λp=>mrK C k' e p λp=>k { l with ob:=put l.ob id (some (.mr k' e q p.1 p.2)) }
    else none
   |none=>none
  |x=>match bz P z l x with
   |some (.row j)=>match l.ob j with
    |some (.row w s xs)=>bif Nat.beq e w&&Nat.beq s q&&Nat.blt j 10000 then
      WQ (Cf key (some xs) B D) λp=>mrK C k' e p λp=>k { (l.dG j) with ob:=put (l.dG j).ob id (some (.mr k' e q p.1 p.2)) }
     else none
    |_=>none
   |_=>none
 |none=>none
noncomputable def EK (P:Program) (C:lY) (h:Hint) (F:dX) (w:St) (c:Call) (f:Operand) (d:Option Nat) (k:St->Option R):Option R:=
 match(bz P 0 w f).bind fnSV,tD P h w c.args.toList c.argTypes.toList with
 |some (g,pre,z),some I=>
  let args:=pre++(I++z)
  let ids:=kB w 200 (args.flatMap SV.ids) [];let D:=lF (d.any h.stay.contains) w (pS args);let m:=jK D 0 ids;let names:=m.map (·.2);let G:=qI m
  bif distinct ids&&Nat.blt ids.length 10000&&args.all (SV.closed ids) then
   match lE w ids G m with
   |some cF=>vC (F g (args.map (SV.tC G)) cF) λr l=>Ie C ((m.filter λp=>h.keep.contains p.1).map (·.2)) ((m.filter λp=>h.bx.contains p.1).map (·.2)) cF l λq=>KU C g r λr=>match nR names (qI (swap m)) m q with
    |some back=>bif r.kF then
      let B:=kH (ids.filter D) w
      k (St.set { env:=B.env,ob:=λi=>(find back i).orElse λ_=>B.ob i } d (.pv r)) else none
    |none=>none
   |none=>none
  else none
 |_,_=>none
noncomputable def HW (P:Program) (C:lY) (h:Hint) (F:dX) (w:St) (c:Call) (f:Operand) (d:Option Nat) (k:St->Option R):Option R:=
 match d with
 |some d=>match bz P 0 w f,rF P (w5 h d).isSome w c.args.toList c.argTypes.toList with
  |some (.pv (.fn g q)),some G=>wN (F g ((G++q).map .pv) []) λr=>KU C (bif(w5 h d).isSome then g+1000000 else g) r λr=>match r with
   | .lR [.lR [.self e, .dK D xs]]=>bif(w5 h d).isSome then none else k ((w.new d (.row e D xs)).set (some d) (.row d))
   | .agg z=>match w5 h d with
    |some []=>k (w.set (some d) (.pv (.agg z)))
    |some l=>match sI z l with
     |some B=>bif l.all (λx=>Nat.blt x.1 10000) then k ((uv h.nest l w).set (some d) (.ag B)) else none
     |none=>none
    |none=>none
   |_=>none
  |_,_=>none
 |none=>none
noncomputable def Kn (P:Program) (C:lY) (z:St) (t:TypeId) (x:Operand) (d:Nat) (k:St->Option R):Option R:=
 match bz P 0 z x,CJ P t with
 |some (.rp id K i D),some false=>match z.ob id with
  |some (.rn e l q w I xs B)=>bif Nat.beq K l&&Nat.beq D q&& !(Nat.beq id d)&&Nat.blt id 10000 then
    RA B i λG=>NW C w G λG=>Rr C w (B.set i none) λB=>k ((St.new { z with ob:=put z.ob id (some (.rn e l q w I xs B)) } d (.row w I G)).set (some d) (.row d))
   else none
  |_=>none
 |_,_=>none
noncomputable def UP (P:Program) (C:lY) (w:St) (t:TypeId) (id K i D j:Nat) (k:St->Option R):Option R:=
 match CJ P t,kN P t,w.ob id,w.ob j with
 |some false,some 1,some (.rn e l q B G xs z),some (.row I s2 L)=>
  bif Nat.beq K l&&Nat.beq D q&&Nat.blt id 10000&&Nat.blt j 10000&&Nat.beq B I&&Nat.beq G s2&& !(Nat.beq id j) then
   check (i<z.length) (Rr C B (z.set i (some L)) λz=>k { (w.dG j).dG (id+40000) with ob:=put ((w.dG j).dG (id+40000)).ob id (some (.rn e l q B G xs z)) })
  else none
 |_,_,_,_=>none
noncomputable def U2 (P:Program) (C:lY) (h:Hint) (F:dX) (o:Oper) (w:St) (k:St->Option R):Option R:=
 match o.op with
 | .makeSlice t l c=>match o.dst,isSlice P t,(bz P 0 w l).bind iJ,(bz P 0 w c).bind iJ with
  |some d,some (e,s),some (.int _ l),some (.int _ c)=>match zeroCells P e,P.info? e with
   |some z,some i=>bif Nat.blt 0 s&&Nat.beq z.length s then check (0<=l/\l<=c/\i.bytes *c.toNat<=281474976710656/\c<=9223372036854775807)
     (k ((w.new d (.row e s (List.replicate l.toNat z))).set (some d) (.row d))) else none
   |_,_=>none
  |_,_,_,_=>none
 | .store t x y=>match o.dst,bz P 0 w x,bz P t w y with
  |none,some (.rp id B i G),some (.pv v)=>match w.ob id,kN P t with
   |some (.row e D xs),some n=>bif Nat.beq B D&&Nat.beq v.cells.length n&&v.F6 then
     ek xs i λc=>Qf C e c λc=>bif Nat.ble (G+n) c.length then k { w with ob:=put w.ob id (some (.row e D (xs.set i (c.take G++v.cells++c.drop (G+n))))) } else none
    else none
   |_,_=>none
  |none,some (.rp id B i G),some (.row j)=>UP P C w t id B i G j k
  |none,some (.ptr id G),some (.sub j B 0 n)=>pK (VE P w t id G j B n) k
  |none,some a,some v=>pK (storeAt P t w a v) k
  |_,_,_=>none
 | .load t x=>bif o.dst.any h.take.contains then
   match o.dst with
   |some d=>Kn P C w t x d k
   |none=>none
  else uU P C h F o w λv=>k (w.set o.dst v)
 | .call c=>match c.callee with
  | .builtin .append=>match o.dst,c.args.toList,c.argTypes.toList with
   |some d,[x,y],[t,U]=>match isSlice P t,bz P t w x,bz P U w y with
    |some (e,s),some (.row id),some y=>match w.ob id,elems w y,P.info? e with
     |some (.row Q B xs),some (D,I),some i=>
      bif Nat.beq t U&&Nat.beq e Q&&Nat.beq s B&&Nat.beq B D&&Nat.blt 0 B&&(i.zero.map (λz=>z.cells.size)==some B)&&iI id then
       check ((xs.length+I.length) *i.bytes<=140737488355328/\xs.length+I.length<=4611686018427387904) (k ((w.new id (.row e B (xs++I))).set (some d) (.row id)))
      else none
     |some (.rn Q B q e2 s2 xs zs),some (D,I),some i=>
      bif Nat.beq t U&&Nat.beq e Q&&Nat.beq s B&&Nat.beq B D&&Nat.blt 0 B&&(i.zero.map (λz=>z.cells.size)==some B)&&iI id&&I.all (qe q) then
       check ((xs.length+I.length) *i.bytes<=140737488355328/\xs.length+I.length<=4611686018427387904) (Rr C e2 (zs++I.map λ_=>some []) λzs=>k ((w.new id (.rn e B q e2 s2 (xs++I.map λc=>c.set q .hole) zs)).set (some d) (.row id)))
      else none
     |_,_,_=>none
    |some (e,s),some (.aq id .full),some y=>match w.ob id,elems w y,P.info? e with
     |some (.row Q B xs),some (D,I),some i=>
      bif Nat.beq t U&&Nat.beq e Q&&Nat.beq s B&&Nat.beq B D&&Nat.blt 0 B&&(i.zero.map (λz=>z.cells.size)==some B)&&iI id&& !I.isEmpty then
       check ((xs.length+I.length) *i.bytes<=140737488355328/\xs.length+I.length<=4611686018427387904) (k ((w.new id (.row e B (xs++I))).set (some d) (.row id)))
      else none
     |_,_,_=>none
    |_,_,_=>none
   |_,_,_=>none
  | .builtin .delete=>match o.dst,c.args.toList,c.argTypes.toList with
   |none,[m,N],t::_=>Cc P C w t m N k
   |_,_,_=>none
  | .builtin .clear=>match o.dst,c.args.toList,c.argTypes.toList with
   |none,[x],[t]=>match isSlice P t,bz P t w x with
    |some (e,s),some (.sub id B lo V)=>match w.ob id,zeroCells P e with
     |some (.row Q D xs),some z=>bif Nat.beq s B&&Nat.beq B D&&Nat.beq z.length B&&Nat.beq e Q&&Nat.blt 0 B then
       check (V<=xs.length) (k { w with ob:=put w.ob id (some (.row Q D (xs.take lo++List.replicate (V-lo) z++xs.drop V))) }) else none
     |_,_=>none
    |_,_=>none
   |_,_,_=>none
  | .value f=>bif o.dst.any h.owns.contains then HW P C h F w c f o.dst k else bif o.dst.any h.stay.contains&&wide w c f then uU P C h F o w λv=>k (w.set o.dst v) else bif wide w c f then EK P C h F w c f o.dst k else bif c.args.toList.any (λx=>(ou h w x).isSome) then
    match bz P 0 w f,A6 P h w c.args.toList c.argTypes.toList with
    |some (.pv (.fn g K)),some (vs,[id])=>match w.ob id with
     |some (.row e B xs)=>Dl (F g (vs++K.map .pv) [(10000, .row e B xs)]) 10000 e B λr L=>KU C g r λr=>NW C e L λL=>match r with
       | .self n=>bif iI id then check (n<=L.length) (k ((w.new id (.row e B (L.take n))).set o.dst (.row id))) else none
       |r=>bif r.plain then k (St.set { w with ob:=put w.ob id (some (.row e B L)) } o.dst (.pv r)) else none
     |_=>none
    |_,_=>none
   else bif c.args.toList.any (vZ w) then uU P C h F o w λv=>k (w.set o.dst v)
   else bif c.args.toList.any (kK w) then
    match bz P 0 w f,jx P w c.args.toList c.argTypes.toList with
    |some (.pv (.fn g K)),some vs=>wN (F g ((vs++K).map .pv) []) λr=>KU C g r λr=>bif r.plain&&r.kF then k (w.set o.dst (.pv r)) else
      match mD.jj w c.args.toList with
      |some O=>match bz P 0 O f,jx P O c.args.toList c.argTypes.toList with
       |some (.pv (.fn g' S)),some vs'=>bif c.args.toList.any (kK O) then none else wN (F g' ((vs'++S).map .pv) []) λr=>KU C g' r λr=>bif r.kF then k (O.set o.dst (.pv r)) else none
       |_,_=>none
      |none=>none
    |_,_=>none
   else uU P C h F o w λv=>k (w.set o.dst v)
  |_=>uU P C h F o w λv=>k (w.set o.dst v)
 | .mapUpdate t m N x=>match o.dst with
  |none=>bif pT h m then WD P C w t m N x k else A7 P C w t m N x k
  |some _=>none
 | .insert t m N x=>match o.dst with
  |none=>bif pT h m then WD P C w t m N x k else A7 P C w t m N x k
  |some _=>none
 | .lookup t m N ok=>bif pT h m&& !ok then
   match o.dst with
   |some d=>Uy P C w t m N d k
   |none=>none
  else uU P C h F o w λv=>k (w.set o.dst v)
 | .range t x=>match o.dst,P.underlying t,(bz P t w x).bind iJ with
  |some d,some .string,some (.str s)=>k ((w.new d (.it s 0)).set (some d) (.ptr d 0))
  |_,_,_=>none
 | .next x true=>match o.dst,bz P 0 w x with
  |some d,some (.ptr id 0)=>match w.ob id with
   |some (.it s pos)=>bif Nat.blt pos s.length then
     k (St.set { w with ob:=put w.ob id (some (.it s (pos+(Utf8.decode ⟨s.toArray⟩ pos).2))) } (some d) (.pv (.lR [.bool true, .int .i64 pos, .int .i32 (Utf8.decode ⟨s.toArray⟩ pos).1])))
    else k (w.set (some d) (.pv (.lR [.bool false])))
   |_=>none
  |_,_=>none
 | .assign _| .buildSlice _ _ _| .box _ _| .alloc _| .makeMap _ _| .makeFunc _ _ _| .build _ _=>pK (step0 P h F o w) k
 |_=>uU P C h F o w λv=>k (w.set o.dst v)
noncomputable def stepT (P:Program) (C:lY) (h:Hint) (F:dX) (o:Oper) (l:St) (k:St->Option R):Option R:=pK (nD (DY h o) l) λl=>U2 P C h F o l k
def Xo (w:Array Oper) (o:Oper) (q:St) (k:Bool->St->Option R):Option R:=
 match o.guard with
 |none=>k true q
 |some (j,l)=>match(w[j]?).bind (·.dst) with
  |some d=>match q.env d with
   |some (.pv (.bool true))=>k l q
   |some (.pv (.bool false))=>k (!l) q
   |some .undef=>k false q
   |_=>none
  |none=>none
def guards (l:Array Oper) (i:Nat):Bool:=l.toList.any λo=>match o.guard,o.op with
 |some (j,_),_=>Nat.beq j i
 |none,_=>false
def JH (b:Bool) (d:Option Nat) (l:St) (k:St->Option R):Option R:=
 bif b then
  match d with
  |some d=>match l.env d with
   |some (.pv (.bool t))=>bif t then k (l.set (some d) (.pv (.bool true))) else k (l.set (some d) (.pv (.bool false)))
   |_=>k l
  |none=>k l
 else k l
noncomputable def D7 (P:Program) (C:lY) (h:Hint) (F:dX) (w:Array Oper):Nat->List Oper->St->(St->Option R)->Option R
 |_,[],q,k=>k q
 |i,o::l,q,k=>Xo w o q λb q=>bif b then stepT P C h F o q λq=>JH (guards w i) o.dst q λq=>D7 P C h F w (i+1) l q k
   else D7 P C h F w (i+1) l (q.set o.dst .undef) k
noncomputable def xo (P:Program) (C:lY) (h:Hint) (F:dX) (q:Array Oper):Nat->List Oper->List (Nat×gi)->St->(St->Option R)->Option R
 |_,[],_,w,k=>k w
 |i,o::l,z,w,k=>Xo q o w λb w=>bif b then
    bif isF h w o&&(DY h o).isEmpty then
     uU P C h F o w λv=>bif wq q z i ((uT P h q o w).fill w (w.set o.dst v)) then
      JH (guards q i) o.dst (w.set o.dst v) λB=>xo P C h F q (i+1) l ((i,(uT P h q o w).fill w (w.set o.dst v))::z) B k else none
    else stepT P C h F o w λB=>bif wq q z i ((tN P h q o w).fill w B) then
      JH (guards q i) o.dst B λD=>xo P C h F q (i+1) l ((i,(tN P h q o w).fill w B)::z) D k else none
   else bif wq q z i ((s8 q o).fill w (w.set o.dst .undef)) then xo P C h F q (i+1) l ((i,(s8 q o).fill w (w.set o.dst .undef))::z) (w.set o.dst .undef) k else none
@[irreducible] noncomputable def FV (P:Program) (h:Hint) (F:dX) (c:Code) (st:St) (k:Ex->St->Option R):Option R:=
 open Classical in if l : ∃ x n, exec P h F n (.loop c) st = some x then k l.choose.1 l.choose.2 else none
def seqK (q:St->(Ex->St->Option R)->Option R) (k:Ex->St->Option R):Ex->St->Option R:=λe l=>match e with
 | .normal=>q l k
 |e=>k e l
def S7 (id:Nat) (k:Ex->St->Option R):Ex->St->Option R:=λe l=>match e with
 | .exit j=>bif Nat.beq j id then k .normal l else k (.exit j) l
 |e=>k e l
noncomputable def SO (P:Program) (h:Hint) (F:dX) (c:Code) (k:Ex->St->Option R):Ex->St->Option R:=λe l=>match e with
 | .normal=>FV P h F c (h.canon (dU c) l) k
 |e=>k e l
noncomputable def Ba (C:lY):List Nat->St->(St->Option R)->Option R
 |[],w,k=>k w
 |id::l,w,k=>match w.ob id with
  |some (.mr I e z G L)=>bif w8 id then
    SR (oS L) λxs=>mpK C I e z (G,xs.map (.dK z)) λp=>Ba C l { env:=λi=>(w.env i).map (SV.dL id (.mp p.1 p.2)),ob:=put (λi=>(w.ob i).map (Ob.dL id (.mp p.1 p.2))) id none } k
   else none
  |some (.rn e z q Q K xs N)=>bif w8 id then
    SR (oS N) λO=>NW C e (wG q K xs O) λB=>Ba C l { env:=λi=>(w.env i).map (SV.dL id (.dK z B)),ob:=put (λi=>(w.ob i).map (Ob.dL id (.dK z B))) id none } k
   else none
  |_=>match w.Ji id with
   |some D=>Ba C l D k
   |none=>none
noncomputable def ada (C:lY) (h:Hint) (id:Nat) (q:St) (k:St->Option R):Option R:=
 match find h.nV id with
 |some l=>Ba C l q k
 |none=>k q
noncomputable def od (P:Program) (C:lY) (h:Hint) (F:dX):Code->St->(Ex->St->Option R)->Option R
 | .skip,l,k=>k .normal l
 | .label _,l,k=>k .normal l
 | .region id q w,l,k=>ada C h id l λl=>
  bif w then
   bif sd 0 q.toList then xo P C h F q 0 q.toList [] (rG (wI q.toList) l) (k .normal) else none
  else D7 P C h F q 0 q.toList l (k .normal)
 | .seq a b,l,k=>match find h.blk (dU a) with
  |some x=>check (x.1 l=true) (k (exOf (x.2 l).1) (x.2 l).2)
  |none=>od P C h F a l (seqK (od P C h F b) k)
 | .cond c a b,l,k=>match bz P 0 l c with
  |some (.pv (.bool t))=>bif t then od P C h F a l k else od P C h F b l k
  |_=>none
 | .block id c,l,k=>od P C h F c l (S7 id k)
 | .loop c,l,k=>FV P h F c (h.canon (dU c) l) k
 | .exit id,l,k=>k (.exit id) l
 | .ret,l,k=>k .ret l
 | .scope c,l,k=>od P C h F c l k
 |_,_,_=>none
noncomputable def DB (P:Program) (C:lY) (h:Hint) (F:dX) (key:Nat):Code->(Ex->St->Option R)->Option (Code×(Ex->St->Option R))
 | .seq a b,k=>match find h.blk (dU a) with
  |some _=>none
  |none=>match DB P C h F key a (seqK (od P C h F b) k) with
   |some x=>some x
   |none=>DB P C h F key b k
 | .cond _ a b,k=>match DB P C h F key a k with
  |some x=>some x
  |none=>DB P C h F key b k
 | .block id c,k=>DB P C h F key c (S7 id k)
 | .loop c,k=>bif Nat.beq (dU c) key then some (c,k) else DB P C h F key c (SO P h F c k)
 | .scope c,k=>DB P C h F key c k
 |_,_=>none
end
noncomputable def ZB (P:Program) (C:lY) (H:Nat->Hint) (eX:dX) (f:Nat) (args:List SV) (cF:List (Nat×Ob)):Option (AV×List (Nat×Ob)):=
 match P.funcs[f]? with
 |some fn=>match fn.body with
  |some c=>bif Nat.ble args.length fn.ntmps&&(cF.map (·.1)).all (λi=> !(w8 i)) then od P C (H f) (run P H eX) c { env:=find (yf 0 args),ob:=find cF } (Z5 P (H f).own fn (cF.map (·.1))) else none
  |none=>none
 |none=>none
noncomputable def pI (P:Program) (C:lY) (H:Nat->Hint) (eX:dX) (f key:Nat) (names:List Nat) (l:List (Nat×SV)) (w:List (Nat×Ob)):Option (AV×List (Nat×Ob)):=
 match P.funcs[f]? with
 |some fn=>match fn.body with
  |some c=>match DB P C (H f) (run P H eX) key c (Z5 P (H f).own fn names) with
   |some (q,k)=>FV P (H f) (run P H eX) q { env:=find l,ob:=find w } k
   |none=>none
  |none=>none
 |none=>none
noncomputable def UX (P:Program) (C:lY) (H:Nat->Hint) (eX:dX) (f key:Nat) (names:List Nat) (q:List (Nat×SV)) (w:List (Nat×Ob)):Option (AV×List (Nat×Ob)):=
 match P.funcs[f]? with
 |some fn=>match fn.body with
  |some c=>match DB P C (H f) (run P H eX) key c (Z5 P (H f).own fn names) with
   |some (l,k)=>od P C (H f) (run P H eX) l ((H f).canon (dU l) { env:=find q,ob:=find w }) (SO P (H f) (run P H eX) l k)
   |none=>none
  |none=>none
 |none=>none
section
variable {R:Type} {P:Program} {C:lY} {h:Hint} {F:dX}
def fm {q:Type} {c:Option q} {k:q->Option R} {r:R} (l:pK c k=some r):∃x,c=some x/\k x=some r:=by cases c with
 |none=>simp[pK] at l
 |some x=>exact⟨x,rfl,l⟩
def gm {p:Prop} [Decidable p] {x:Option R} {r:R} (l:check p x=some r):p/\x=some r:=by simp_all[check]
def Lm {q:Type} {xs:List q} {i:Int} {k:q->Option R} {r:R} (l:aW xs i k=some r):0<=i/\∃x,xs[i.toNat]? =some x/\k x=some r:=by
 unfold aW at l;split at l
 .rename_i w;split at l
  .rename_i x z;exact⟨w,x,z,l⟩
  .cases l
 .cases l
def Ln {q:Type} {xs:List q} {i:Nat} {k:q->Option R} {r:R} (l:ek xs i k=some r):∃x,xs[i]? =some x/\k x=some r:=by
 unfold ek at l;split at l
 .rename_i x w;exact⟨x,w,l⟩
 .cases l
def uO {c:Option (AV×List (Nat×Ob))} {k:AV->Option R} {r:R} (l:wN c k=some r):∃x,c=some (x,[])/\k x=some r:=by
 unfold wN at l;split at l
 .rename_i x;exact⟨x,rfl,l⟩
 .cases l
def Te {c:Option (AV×List (Nat×Ob))} {w e z:Nat} {k:AV->List (List AV)->Option R} {r:R} (l:Dl c w e z k=some r):∃x xs,c=some (x,[(w, .row e z xs)])/\k x xs=some r:=by
 unfold Dl at l;split at l
 .rename_i x I L K xs;replace l:=bV l;obtain⟨q,l⟩:=l;simp only[aJ] at q;have B:=beq_iff.1 q.1.1;have D:=beq_iff.1 q.1.2;have G:=beq_iff.1 q.2;subst B D G;exact⟨x,xs,rfl,l⟩
 .cases l
def pZ {q T:Type} {enc:T->q} {c:q} {k:T->Option R} {r:R} (l:rU enc c k=some r):∃d,enc d=c/\k d=some r:=by
 unfold rU at l;split at l
 .rename_i w;exact⟨_,w.choose_spec,l⟩
 .cases l
def B1 {e:TypeId} {c:List AV} {k:List AV->Option R} {r:R} (l:Qf C e c k=some r):k c=some r:=by
 unfold Qf at l;split at l
 .obtain⟨x,rfl,q⟩:=pZ l;exact q
 .exact l
def sA {e:TypeId} {c:List (List AV)} {k:List (List AV)->Option R} {r:R} (l:NW C e c k=some r):k c=some r:=by
 unfold NW at l;split at l
 .obtain⟨x,rfl,q⟩:=pZ l;exact q
 .exact l
def qJ {g:Nat} {c:AV} {k:AV->Option R} {r:R} (l:KU C g c k=some r):k c=some r:=by
 unfold KU at l;split at l
 .obtain⟨x,rfl,q⟩:=pZ l;omega
 omega
def YP {t:TypeId} {c:AV} {k:AV->Option R} {r:R} (l:valK C t c k=some r):k c=some r:=by
 unfold valK at l;split at l
 .obtain⟨x,rfl,q⟩:=pZ l;omega
 omega
def EV {w q:TypeId} {c:List AV×List AV} {k:List AV×List AV->Option R} {r:R} (l:acw C w q c k=some r):k c=some r:=by
 unfold acw at l;split at l
 .obtain⟨x,rfl,z⟩:=pZ l;omega
 omega
def Us {x:Option (Option AV)} {k:AV->Option R} {z:Option R} {r:R} (l:Lv x k z=some r):(∃v,x=some (some v)/\k v=some r)\/(x=some none/\z=some r):=by
 unfold Lv at l;split at l
 .exact .inl ⟨_,rfl,l⟩
 .exact .inr ⟨rfl,l⟩
 .cases l
def LM {x:Option (List AV×List AV)} {k:List AV×List AV->Option R} {r:R} (l:UQ x k=some r):∃p,x=some p/\k p=some r:=by
 unfold UQ at l;split at l
 .exact⟨_,rfl,l⟩
 .cases l
def HU {c:Option (AV×List (Nat×Ob))} {k:AV->List (Nat×Ob)->Option R} {r:R} (q:vC c k=some r):∃x l,c=some (x,l)/\k x l=some r:=by
 unfold vC at q;split at q
 .exact⟨_,_,rfl,q⟩
 .cases q
def Ey {z:Nat} {l:List (Nat×Ob)} {k:Ob->List (Nat×Ob)->Option R} {r:R} (q:nW z l k=some r):∃o w,l=(z,o)::w/\k o w=some r:=by
 unfold nW at q;split at q
 .replace q:=bV q;obtain⟨B,q⟩:=q;have:=beq_iff.1 B;subst this;exact⟨_,_,rfl,q⟩
 .cases q
def LC {l:List (Nat×Ob)} {k:Option R} {r:R} (q:Nu l k=some r):l=[]/\k=some r:=by
 unfold Nu at q;split at q
 .exact⟨rfl,q⟩
 .cases q
def Cu {o q:Ob} {k:Option R} {r:R} (l:D9 o q k=some r):o=q/\k=some r:=by
 unfold D9 at l;split at l
 .exact⟨‹_›,l⟩
 .cases l
def SY {e w:Nat} {o:Ob} {k:List (List AV)->Option R} {r:R} (l:PK e w o k=some r):∃xs,o= .row e w xs/\k xs=some r:=by
 unfold PK at l;split at l
 .replace l:=bV l;obtain⟨q,l⟩:=l;simp only[aJ] at q;have z:=beq_iff.1 q.1;have B:=beq_iff.1 q.2;subst z B;exact⟨_,rfl,l⟩
 .cases l
def SX {z w:Nat} {o:Ob} {k:List AV×List AV->Option R} {r:R} (l:PJ z w o k=some r):∃p,o= .mp z w p.1 p.2/\k p=some r:=by
 unfold PJ at l;split at l
 .replace l:=bV l;obtain⟨q,l⟩:=l;simp only[aJ] at q;have B:=beq_iff.1 q.1;have D:=beq_iff.1 q.2;grind
 simp_all
def X3 {x:Option (Option Nat)} {k:Bool->Option R} {r:R} (l:hasK x k=some r):∃q,x=some q/\k q.isSome=some r:=by unfold hasK at l;grind
def PS {x:Option (List UInt8)} {k:List UInt8->Option R} {r:R} (l:S9 x k=some r):∃b,x=some b/\k b=some r:=by unfold S9 at l;grind
def Ve {x:Option (List (List AV)×List (Option (List (List AV))))} {k:List (List AV)->List (Option (List (List AV)))->Option R} {r:R} (l:adl x k=some r):∃p,x=some p/\k p.1 p.2=some r:=by
 unfold adl at l;split at l
 .exact⟨_,rfl,l⟩
 .cases l
def Jo {x:Option (List AV×List (Option (List (List AV))))} {k:List AV×List (Option (List (List AV)))->Option R} {r:R} (l:WQ x k=some r):∃p,x=some p/\k p=some r:=by
 unfold WQ at l;split at l
 .exact⟨_,rfl,l⟩
 .cases l
def EE {x:Option (List (List (List AV)))} {k:List (List (List AV))->Option R} {r:R} (q:SR x k=some r):∃l,x=some l/\k l=some r:=by
 unfold SR at q;split at q
 .exact⟨_,rfl,q⟩
 .cases q
def LJ {w:List (Option (List (List AV)))} {i:Nat} {k:List (List AV)->Option R} {r:R} (l:RA w i k=some r):∃q,w[i]? =some (some q)/\k q=some r:=by
 unfold RA at l;split at l
 .rename_i q h;exact⟨q,h,l⟩
 .cases l
def Ch {e:TypeId} {q:List (Option (List (List AV)))} {k:List (Option (List (List AV)))->Option R} {r:R} (l:Rr C e q k=some r):k q=some r:=by
 unfold Rr at l;split at l
 .obtain⟨x,rfl,w⟩:=pZ l;exact w
 .exact l
def IX {w e:TypeId} {c:List AV×List (Option (List (List AV)))} {k:List AV×List (Option (List (List AV)))->Option R} {r:R} (l:mrK C w e c k=some r):k c=some r:=by
 unfold mrK at l;split at l
 .obtain⟨x,rfl,q⟩:=pZ l;exact q
 .exact l
def acH {w e:TypeId} {z:Nat} {c:List AV×List AV} {k:List AV×List AV->Option R} {r:R} (l:mpK C w e z c k=some r):k c=some r:=by
 unfold mpK at l;split at l
 .obtain⟨x,rfl,q⟩:=pZ l;exact q
 .exact l
def R7 {o w:Ob} {k:Ob->Option R} {r:R} (l:U0 C o w k=some r):k w=some r:=by
 unfold U0 at l;split at l
 .obtain⟨xs,rfl,q⟩:=SY l;exact sA q
 .obtain⟨p,rfl,q⟩:=SX l;exact EV q
 .unfold Zt at l;grind
 .obtain⟨rfl,q⟩:=Cu l;omega
theorem HJ:∀{l:List SV} {q:List AV},lW l=some q->l=q.map .pv
 |[],q,h=>by simp_all[lW]
 |s::l,q,h=>by cases s with
  |pv v=>simp[lW,bZ] at h;obtain⟨z,w,rfl⟩:=h;rw[HJ w];rfl
  |_=>simp[lW] at h
def XB {o q:Ob} {k:Ob->Option R} {r:R} (l:boxK C o q k=some r):k q=some r:=by
 unfold boxK at l;split at l
 .unfold Vt at l;split at l
  .split at l
   .replace l:=bV l;obtain⟨w,l⟩:=l;have:=beq_iff.1 w;split at l
    .obtain⟨x,e,l⟩:=pZ l;grind[HJ]
    simp_all
   simp_all
  simp_all
 simp_all
def yq {keep K:List Nat}:∀{l G:List (Nat×Ob)} {k:List (Nat×Ob)->Option R} {r:R},Ie C keep K l G k=some r->k G=some r
 |[],G,k,r,q=>by simp only[Ie] at q;obtain⟨rfl,L⟩:=LC q;exact L
 |(B,o)::l,G,k,r,q=>by simp only[Ie] at q;replace q:=Ey q;obtain⟨I,N,rfl,q⟩:=q;cases z:keep.contains B with
  |true=>rw[z] at q;obtain⟨e,q⟩:=Cu q;subst e;exact yq (k:=λD=>k ((B,I)::D)) q
  |false=>
   rw[z] at q;simp only[aA] at q;cases w:K.contains B with
   |true=>rw[w] at q;simp only[ai] at q;exact yq (k:=λD=>k ((B,I)::D)) (XB q)
   |false=>
   rw[w] at q;simp only[aA] at q;exact yq (k:=λD=>k ((B,I)::D)) (R7 q)
def YA {a:AV} {k:List AV->Option R} {r:R} (l:Yz a k=some r):∃q,a= .ref q/\k q=some r:=by
 unfold Yz at l;split at l
 .exact⟨_,rfl,l⟩
 .cases l
def Qa {a:AV} {k:AV->Option R} {r:R} (l:Tq C a k=some r):∃q,a= .ref q/\k (.ref q)=some r:=by
 unfold Tq at l;obtain⟨q,e,l⟩:=YA l;refine⟨q,e,?_⟩;split at l
 .obtain⟨x,w,l⟩:=pZ l;rw[<-w];exact l
 .exact l
def Bo:∀{l w:List (Nat×Ob)} {k:Option R} {r:R},zK l w k=some r->w=l/\k=some r
 |[],w,k,r,q=>by simp only[zK] at q;obtain⟨e,K⟩:=LC q;exact⟨e,K⟩
 |(N,o)::l,w,k,r,q=>by simp only[zK] at q;obtain⟨O,L,e1,D⟩:=Ey q;obtain⟨z,G⟩:=Cu D;obtain⟨B,I⟩:=Bo G;exact⟨by rw[e1,z,B],I⟩
def Mn {z:St} {c:Call} {f:Operand} {k:AV->Option R} {r:R} (q:Mm P C h F z c f k=some r):∃v,r8 P h F z c f=some v/\k v=some r:=by
 unfold Mm at q;split at q
 .rename_i g args G;obtain⟨I,q⟩:=bV q;split at q
  .rename_i cF K;obtain⟨x,l,L,q⟩:=HU q;obtain⟨e,B⟩:=Bo q;subst e;obtain⟨w,D⟩:=bV (qJ B);refine⟨x,?_,D⟩;simp only[r8,G,I,ai,K,L,Ea,w,qM]
  .cases q
 .cases q
def mH {z:Option SV} {d w:Nat} {k:Nat->Option R} {r:R} (l:wg z d w k=some r):∃n,gX z d w=some n/\k n=some r:=by
 unfold wg at l;split at l
 .exact⟨d,rfl,l⟩
 .rename_i q i;obtain⟨B,D⟩:=gm l;exact⟨i.toNat,by simp[gX,B],D⟩
 .cases l
def Up {B:St} {v:SV} {k:AV->Option R} {r:R} (w:acv C B v k=some r):∃x,mh B v=some x/\k x=some r:=by
 unfold acv at w;split at w
 .rename_i id i;split at w
  .rename_i e L q D K xs N z;obtain⟨O,I,w⟩:=LJ w;exact⟨_,by simp only[mh,z,I],sA w⟩
  .cases w
 .rename_i id;split at w
  .rename_i e L q D K xs N z;obtain⟨l,G,w⟩:=EE w;exact⟨_,by simp only[mh,jU,z,fK,Ob.val,G,cR],sA w⟩
  .exact fm w
 .exact fm w
def Bz {z:St}:∀{xs:List Operand} {q:List TypeId} {k:List AV->Option R} {r:R},DM P C z xs q k=some r->∃w,jx P z xs q=some w/\k w=some r
 |[],_,k,r,l=>⟨[],rfl,l⟩
 |x::xs,q,k,r,l=>by
  simp[DM] at l;split at l
  .obtain⟨a,D,l⟩:=Up l;obtain⟨w,B,l⟩:=Bz l;simp_all[jx]
  simp_all
def SN {q:St}:∀{xs:List Operand},xs.any (vZ q)=true->xs.any (kK q)=true:=by intro xs h;obtain⟨x,w,l⟩:=mQ.1 h;cases x with
 |tmp i=>simp[vZ] at l;simp[kK];grind
 |_=>cases l
def DG {o:Oper} {O:St} {k:SV->Option R} {r:R} (l:uU P C h F o O k=some r):∃v,ew P h F o O=some v/\k v=some r:=by
 unfold uU at l;split at l
 .rename_i c x y D;split at l
  .rename_i t I;cases t with
   |true=>obtain⟨v,B,w⟩:=fm l;exact⟨v,by simp[ew,eY,D,I,B],w⟩
   |false=>obtain⟨v,B,w⟩:=fm l;exact⟨v,by simp[ew,eY,D,I,B],w⟩
  .cases l
 .rename_i x D;split at l
  .rename_i a B;obtain⟨cs,rfl,w⟩:=Qa l;exact⟨_,by simp only[ew,eY,D,B],w⟩
  .obtain⟨v,hp,w⟩:=fm l;exact⟨v,by simp only[ew,D];exact hp,w⟩
 .rename_i t x ix D;split at l
  .rename_i n e L;obtain⟨v,B,w⟩:=fm l;exact⟨v,by simp[ew,eY,D,L,B],w⟩
  .rename_i hna;have hp:ew P h F o O=wS P O t x ix:=by
    simp only[ew,D,eY]
   rw[hp];split at l
   .rename_i e s sz xs q i N B hi;replace l:=bV l;obtain⟨G,l⟩:=l;have:=beq_iff.1 G;subst this;obtain⟨h0,c,I,w⟩:=Lm l;exact⟨_,by simp[wS,N,B,hi,h0,I],B1 w⟩
   .rename_i e s id q i N B hi;split at l
    .rename_i e' sz xs K;replace l:=bV l;obtain⟨G,l⟩:=l;have:=beq_iff.1 G;subst this;obtain⟨I,w⟩:=gm l;exact⟨_,by simp[wS,N,B,hi,K,I],w⟩
    .rename_i e' sz _ _ _ xs _ K;replace l:=bV l;obtain⟨G,l⟩:=l;have:=beq_iff.1 G;subst this;obtain⟨I,w⟩:=gm l;exact⟨_,by simp[wS,N,B,hi,K,I],w⟩
    .cases l
   .rename_i e s id sz lo hi' q i N B hi;replace l:=bV l;obtain⟨G,l⟩:=l;have:=beq_iff.1 G;subst this;obtain⟨I,w⟩:=gm l;exact⟨_,by simp[wS,N,B,hi,I],w⟩
   .cases l
 .rename_i t x ix D;split at l
  .rename_i s q i L B hi;obtain⟨h0,b,G,w⟩:=Lm l;exact⟨_,by simp[ew,eY,D,L,B,hi,h0,G],w⟩
  .cases l
 .rename_i t x D;cases Yb:o.dst.any h.take.contains with
  |true=>rw[Yb] at l;cases l
  |false=>
  rw[Yb] at l;simp only[aA] at l;have hfp:ew P h F o O=eY P o O:=by simp only[ew,D,Yb,aA]
  rw[hfp];split at l
  .rename_i id sz i off B;split at l
   .rename_i e sz' xs K;replace l:=bV l;obtain⟨G,l⟩:=l;have:=beq_iff.1 G;subst this;obtain⟨c,I,l⟩:=Ln l;replace l:=B1 l;obtain⟨v,ht,w⟩:=fm l;exact⟨_,by simp[eY,D,B,K,I,ht],w⟩
   .rename_i e sz' q e' s' xs ys K;replace l:=bV l;obtain⟨G,l⟩:=l;simp only[aJ] at G;obtain⟨⟨b1,b2⟩,b3⟩:=G;have e1:=beq_iff.1 b1;have e2:=beq_iff.1 b2;have e3:CJ P t=some false:=by simpa using b3
    subst e1 e2;obtain⟨I,w⟩:=gm l;exact⟨_,by simp[eY,D,B,K,I,e3],w⟩
   .cases l
  .obtain⟨v,ht,w⟩:=fm l;exact⟨v,ht,w⟩
 .rename_i op t x y t' D;have V:pK (eY P o O) (λv=>k v)=some r->∃v,ew P h F o O=some v/\k v=some r:=λl=>by
   obtain⟨v,ht,w⟩:=fm l;exact⟨v,by simp only[ew,D];exact ht,w⟩
  split at l
  .rename_i ka a kb b B hy;split at l
   .replace l:=bV l;obtain⟨G,l⟩:=l;have w:ka=kb:=by simpa using G
    subst w;obtain⟨I,w⟩:=gm l;exact⟨_,by simp[ew,eY,D,B,hy,bin,ET,I],w⟩
   .replace l:=bV l;obtain⟨G,l⟩:=l;have w:ka=kb:=by simpa using G
    subst w;obtain⟨I,w⟩:=gm l;exact⟨_,by simp[ew,eY,D,B,hy,bin,ET,I],w⟩
   .obtain⟨I,w⟩:=gm l
    have:¬b<0:=af
    exact⟨_,by simp[ew,eY,D,B,hy,bin,AD,this],w⟩
   .obtain⟨I,w⟩:=gm l
    have:¬b<0:=af
    exact⟨_,by simp[ew,eY,D,B,hy,bin,AD,this],w⟩
   .exact V l
  .rename_i a b B hy;split at l
   .obtain⟨I,w⟩:=gm l;exact⟨_,by simp[ew,eY,D,B,hy,bin,U3,I],w⟩
   .exact V l
  .exact V l
 .rename_i t x lo hi D;split at l
  .rename_i s lv hv' L B S Q;obtain⟨n,hn,l⟩:=mH l;obtain⟨m,hm,w⟩:=mH l;exact⟨_,by simp[ew,eY,D,L,B,S,Q,hn,hm],w⟩
  .rename_i e sz xs lv hv' L B S Q;split at l
   .rename_i e' s N;replace l:=bV l;obtain⟨G,l⟩:=l;have:=beq_iff.1 G;subst this;obtain⟨n,hn,l⟩:=mH l;obtain⟨m,hm,w⟩:=mH l;exact⟨_,by simp[ew,eY,D,L,B,S,Q,N,hn,hm],w⟩
   .cases l
  .rename_i e id lv hv' L B S Q;split at l
   .rename_i e' s e2 sz xs N K;replace l:=bV l;obtain⟨G,l⟩:=l;have:=beq_iff.1 G;subst this;obtain⟨n,hn,l⟩:=mH l;obtain⟨m,hm,w⟩:=mH l;exact⟨_,by simp[ew,eY,D,L,B,S,Q,N,K,hn,hm],w⟩
   .cases l
  .rename_i e id sz a b lv hv' L B S Q;split at l
   .rename_i e' s N;replace l:=bV l;obtain⟨G,l⟩:=l;have:=beq_iff.1 G;subst this;obtain⟨n,hn,l⟩:=mH l;obtain⟨m,hm,w⟩:=mH l;exact⟨_,by simp[ew,eY,D,L,B,S,Q,N,hn,hm],w⟩
   .cases l
  .cases l
 .rename_i t x hi mx D;split at l
  .rename_i id B;split at l
   .rename_i e2 sz xs e s ka va kb vb K N hh hm;replace l:=bV l;obtain⟨G,l⟩:=l;have:=beq_iff.1 G;subst this;obtain⟨I,w⟩:=gm l;exact⟨_,by simp only[ew,eY,D,VO,B,K,N,hh,hm];rw[az ⟨trivial,I⟩],w⟩
   .cases l
  .cases l
 .rename_i src dst x D;split at l
  .rename_i e L hd;split at l
   .rename_i xs he N B;obtain⟨b,G,w⟩:=PS l;exact⟨_,by simp[ew,eY,D,L,hd,he,N,B,G],w⟩
   .cases l
  .obtain⟨v,ht,w⟩:=fm l;exact⟨v,by simp only[ew,D];exact ht,w⟩
 .rename_i t x kx ok D;cases hrm:(pT h x&& !ok) with
  |true=>rw[hrm] at l;cases l
  |false=>
  rw[hrm] at l;simp only[aA] at l;split at l
  .rename_i kt et L;split at l
   .rename_i ks key B w;obtain⟨hok,l⟩:=bV l;obtain⟨q,hq,l⟩:=X3 l;exact⟨_,by simp only[ew,eY,D,hrm,aA,L,B,w,hok,ai,hq,cR],l⟩
   .rename_i hno;split at l
    .rename_i ks vs key B w;have hnk:(bz P t O x).bind (FW O)=none:=by
      cases hkk:(bz P t O x).bind (FW O) with
      |none=>rfl
      |some ks'=>exact(hno ks' key hkk w).elim
     obtain⟨hok,l⟩:=bV l;rcases Us l with⟨v,hg,l⟩|⟨hg,l⟩
     .exact⟨_,by simp only[ew,eY,D,hrm,aA,L,hnk,B,w,hok,ai,hg],YP l⟩
     .obtain⟨z,hz,l⟩:=fm l;exact⟨_,by simp only[ew,eY,D,hrm,aA,L,hnk,B,w,hok,ai,hg,hz,cR],l⟩
    .cases l
  .cases l
 .rename_i c D;split at l
  .rename_i f I;cases how:o.dst.any h.owns.contains with
   |true=>rw[how] at l;cases l
   |false=>
   rw[how] at l;simp only[aA] at l;cases hro:(o.dst.any h.stay.contains&&wide O c f) with
   |true=>rw[hro] at l;simp only[ai] at l;obtain⟨v,B,w⟩:=Mn l;refine⟨.pv v,?_,w⟩;simp only[ew,D,I];rw[how,hro,B];rfl
   |false=>
   rw[hro] at l;simp only[aA] at l;cases U:(wide O c f||c.args.toList.any (λx=>(ou h O x).isSome)) with
   |true=>rw[U] at l;cases l
   |false=>
   rw[U] at l;simp only[aA] at l;cases hag:c.args.toList.any (vZ O) with
   |true=>
    rw[hag] at l;simp only[ai] at l;have MQ:=SN hag;split at l
    .rename_i g caps hf;obtain⟨vs,hvs,l⟩:=Bz l;obtain⟨r',B,l⟩:=uO l;obtain⟨hp,w⟩:=bV (qJ l);refine⟨.pv r',?_,w⟩;rw[aJ] at hp;simp only[ew,D,I,hf,hvs,B];rw[how,hro,U];simp only[aA,MQ,hp.1,hp.2,gC,iL,qM,ai]
    .cases l
   |false=>
   rw[hag] at l;simp only[aA] at l;split at l
   .rename_i g caps vs hf hvs;obtain⟨r',B,l⟩:=uO l;obtain⟨G,w⟩:=bV (qJ l);refine⟨.pv r',?_,w⟩;simp only[ew,D,I,hf,hvs,B];rw[how,hro,U,G];rfl
   .cases l
  .rename_i I;obtain⟨v,ht,w⟩:=fm l;refine⟨v,?_,w⟩;simp only[ew,D];exact ht
 .exact fm l
def y7 {B:St} {t:TypeId} {m z x:Operand} {k:St->Option R} {r:R} (l:A7 P C B t m z x k=some r):∃q,wY P B t m z x=some q/\k q=some r:=by
 unfold A7 at l;split at l
 .rename_i kt U N;split at l
  .rename_i Q D;split at l
   .rename_i id key v K I O;split at l
    .rename_i k' S V vs w;obtain⟨G,l⟩:=bV l;obtain⟨p,L,l⟩:=LM l;replace l:=EV l;exact⟨_,by simp only[wY,N,D,K,I,O,w,G,ai,L],l⟩
    .cases l
   .cases l
  .cases l
 .cases l
def EU {B:St} {t:TypeId} {m z:Operand} {k:St->Option R} {r:R} (l:Cc P C B t m z k=some r):∃q,wX P B t m z=some q/\k q=some r:=by
 unfold Cc at l;split at l
 .rename_i S O L;split at l
  .rename_i id key I G;split at l
   .rename_i k' N Q U w;obtain⟨D,l⟩:=bV l;obtain⟨p,K,l⟩:=LM l;replace l:=EV l;exact⟨_,by simp only[wX,L,I,G,w,D,ai,K],l⟩
   .cases l
  .cases l
 .cases l
def Gz {I:St} {c:Call} {f:Operand} {d:Option Nat} {k:St->Option R} {r:R} (q:EK P C h F I c f d k=some r):∃z,jC P h F I c f d=some z/\k z=some r:=by
 unfold EK at q;split at q
 .rename_i g G U L D;simp only[] at q;replace q:=bV q;obtain⟨K,q⟩:=q;split at q
  .rename_i cF O;obtain⟨S,l,Q,q⟩:=HU q;replace q:=qJ (yq q);split at q
   .rename_i back w;replace q:=bV q;obtain⟨B,N⟩:=q;refine⟨_,?_,N⟩;simp only[jC,L,D,K,ai,O,Q,w,B]
   .cases q
  .cases q
 .cases q
def F4 {N:St} {t:TypeId} {m L x:Operand} {k:St->Option R} {r:R} (l:WD P C N t m L x k=some r):∃B,Ux P N t m L x=some B/\k B=some r:=by
 unfold WD at l;split at l
 .rename_i Q id key k' e sz ks vs w;split at l
  .split at l
   .rename_i O s V;replace l:=bV l;obtain⟨q,l⟩:=l;simp only[aJ] at q;have e1:=beq_iff.1 q.1.1;have D:=beq_iff.1 q.1.2;have G:0<s:=by simpa[cD] using q.2
    obtain⟨p,K,l⟩:=Jo l;refine⟨_,?_,IX l⟩;simp only[Ux,w,V];rw[az ⟨e1,D,G⟩];simp only[K]
   .cases l
  .rename_i U;split at l
   .rename_i j z;split at l
    .rename_i O s xs I;replace l:=bV l;obtain⟨q,l⟩:=l;simp only[aJ] at q;have e1:=beq_iff.1 q.1.1;have D:=beq_iff.1 q.1.2;have G:j<10000:=by simpa[cD] using q.2
     obtain⟨p,K,l⟩:=Jo l;refine⟨_,?_,IX l⟩;cases x with
     |tmp i=>simp only[Ux,w,z,I];rw[az ⟨e1,D,G⟩];simp only[K]
     |const v=>simp only[bz] at z;cases S:ofConst P Q v<;>simp[S] at z
     |func f=>simp[bz] at z
     |global g=>simp[bz] at z
    .cases l
   .cases l
 .cases l
def Nl {G:St} {t:TypeId} {m N:Operand} {d:Nat} {k:St->Option R} {r:R} (l:Uy P C G t m N d k=some r):∃B,LB P G t m N d=some B/\k B=some r:=by
 unfold Uy at l;split at l
 .rename_i et id key k' e sz V vs z;cases w:Nat.beq id d with
  |true=>rw[w] at l;cases l
  |false=>
  rw[w] at l;simp only[aA] at l;split at l
  .rename_i s0 e' s U S;replace l:=bV l;obtain⟨D,l⟩:=l;simp only[aJ] at D;have e1:=beq_iff.1 D.1.1;have O:=beq_iff.1 D.1.2;have Q:0<s:=by simpa[cD] using D.2
   obtain⟨p,q,l⟩:=Ve l;replace l:=IX (sA l);obtain⟨_,_,_,_,K,_⟩:=Ab z;unfold acJ at q;split at q
   .rename_i i I;split at q
    .rename_i xs L;injection q with q;subst q;refine⟨_,?_,l⟩;simp only[LB,z,w,aA,I,L]
    .cases q
   .rename_i I;injection q with q;subst q;refine⟨_,?_,l⟩;simp only[LB,z,w,aA,I,U,S];rw[az ⟨e1,O,Q⟩]
    have:put G.ob id (some (.mr k' e sz V vs))=G.ob:=by
     funext i;by_cases e:id=i
     .subst e;rw[cu,K]
     .rw[bu _ _ e]
    simp only[this]
   .cases q
  .cases l
 .cases l
def Kz {O:St} {c:Call} {f:Operand} {d:Option Nat} {k:St->Option R} {r:R} (q:HW P C h F O c f d k=some r):∃B,kL P h F O c f d=some B/\k B=some r:=by
 unfold HW at q;split at q
 .rename_i d;split at q
  .rename_i g N V D w;obtain⟨x,L,q⟩:=uO q;replace q:=qJ q;split at q
   .cases I:(w5 h d).isSome with
    |true=>rw[I] at q;cases q
    |false=>rw[I] at q w;exact⟨_,by simp only[kL,I,D,w,L,aA],q⟩
   .split at q
    .rename_i z;rw[z] at w;exact⟨_,by simp only[kL,z,D,w,L],q⟩
    .rename_i l K z;split at q
     .rename_i S G;obtain⟨Q,q⟩:=bV q;rw[z] at w;cases l with
      |nil=>exact absurd rfl K
      |cons x0 U=>exact⟨_,by simp only[kL,z,D,w,L,G,Q,ai],q⟩
     .cases q
    .cases q
   .cases q
  .cases q
 .cases q
def Ko {B:St} {t:TypeId} {x:Operand} {d:Nat} {k:St->Option R} {r:R} (l:Kn P C B t x d k=some r):∃w,vX P B t x d=some w/\k w=some r:=by
 unfold Kn at l;split at l
 .rename_i id U i N K D;split at l
  .rename_i e O q Q S xs V z;obtain⟨G,l⟩:=bV l;obtain⟨zs,L,l⟩:=LJ l;have I:=Ch (sA l);exact⟨_,by simp only[vX,K,D,z,L,G,ai],I⟩
  .cases l
 .cases l
def NL {z:St} {t:TypeId} {id B i q j:Nat} {k:St->Option R} {r:R} (l:UP P C z t id B i q j k=some r):∃w,Gd P z t id B i q j=some w/\k w=some r:=by
 unfold UP at l;split at l
 .obtain⟨I,l⟩:=bV l;obtain⟨D,l⟩:=gm l;have K:=Ch l;unfold Gd;have G :=cD.mpr D;grind
 simp_all
def N5 {o:Oper} {S:St} {k:St->Option R} {r:R} (w:U2 P C h F o S k=some r):∃B,step0 P h F o S=some B/\k B=some r:=by
 have ofF:(uU P C h F o S λv=>k (S.set o.dst v))=some r->∃B,step0 P h F o S=some B/\k B=some r:=λw=>by obtain⟨v,N,K⟩:=DG w;exact⟨_,by simp only[step0,N],K⟩
 unfold U2 at w;split at w
 .rename_i t l c G;have N:ew P h F o S=none:=by simp[ew,eY,G]
  split at w
  .rename_i d e s kl l' kc c' D hs hl hc;split at w
   .rename_i z i hz hi;replace w:=bV w;obtain⟨V,w⟩:=w;simp only[aJ] at V;obtain⟨I,K⟩:=gm w;have h1:0<s:=by simpa[cD] using V.1
    have h2:z.length=s:=beq_iff.1 V.2;exact⟨_,by simp only[step0,N,mD,D,G,hs,hl,hc,hz,hi];rw[az ⟨h1,h2,I⟩],K⟩
   .cases w
  .cases w
 .rename_i t x y G;have N:ew P h F o S=none:=by simp[ew,eY,G]
  split at w
  .rename_i id sz i off v D U hy;split at w
   .rename_i e sz' xs n O hsz;replace w:=bV w;obtain⟨V,w⟩:=w;simp only[aJ] at V;have h1:=beq_iff.1 V.1.1;subst h1;have h2:=beq_iff.1 V.1.2;obtain⟨c,hc,w⟩:=Ln w;replace w:=bV (B1 w);obtain⟨hle,K⟩:=w;refine⟨_,?_,K⟩;simp only[step0,N,mD,D,G,U,hy,storeAt,O,hsz,hc];rw[az ⟨trivial,h2,dw hle,V.2⟩]
   .cases w
  .rename_i id sz i off j D U hy;obtain⟨B,hs,K⟩:=NL w;exact⟨B,by simp only[step0,N,mD,D,G,U,hy];exact hs,K⟩
  .rename_i id off j sz n D U hy;obtain⟨B,hs,K⟩:=fm w;exact⟨B,by simp only[step0,N,mD,D,G,U,hy];exact hs,K⟩
  .rename_i a v hn1 hn2 hn3 D U hy;obtain⟨B,hs,K⟩:=fm w;refine⟨B,?_,K⟩
   have:mD P h F o S=storeAt P t S a v:=by simp only[mD,D,G,U,hy]
   simp only[step0,N];rw[this];exact hs
  .cases w
 .rename_i t x G;cases Yb:o.dst.any h.take.contains with
  |false=>rw[Yb] at w;exact ofF w
  |true=>
   rw[Yb] at w;simp only[ai] at w;split at w
   .rename_i d D;rw[D] at Yb;simp only[xI] at Yb;obtain⟨B,hs,K⟩:=Ko w;refine⟨B,?_,K⟩;have N:ew P h F o S=none:=by simp only[ew,G,D,xI,Yb,ai]
    simp only[step0,N,mD,G,D,Yb,ai];exact hs
   .cases w
 .rename_i c G;split at w
  .rename_i hc;have N:ew P h F o S=none:=by
    simp only[ew,G,hc,xb]
   split at w
   .rename_i d x y t t' D L Bl;split at w
    .rename_i e s id sy hs U hy;split at w
     .rename_i e' sz xs sz' ys i O hel hi;replace w:=bV w;obtain⟨V,w⟩:=w;simp only[aJ] at V;obtain⟨⟨⟨⟨⟨⟨b1,b2⟩,b3⟩,b4⟩,b5⟩,b6⟩,b7⟩:=V;have e1:=beq_iff.1 b1;have e2:=beq_iff.1 b2;have e3:=beq_iff.1 b3;have e4:=beq_iff.1 b4;have e5:0<sz:=by simpa[cD] using b5
      have e6:i.zero.map (λz=>z.cells.size)=some sz:=by simpa using b6
      obtain⟨I,K⟩:=gm w;refine⟨_,?_,K⟩;simp only[step0,N,mD,G,hc,D,L,Bl,hs,U,hy,O,hel,hi];rw[az ⟨e1,e2,e3,e4,e5,I.1,I.2,e6,b7⟩]
     .rename_i e' sz q e2x s2x xs zs sz' ys i O hel hi;replace w:=bV w;obtain⟨V,w⟩:=w;simp only[aJ] at V;obtain⟨⟨⟨⟨⟨⟨⟨b1,b2⟩,b3⟩,b4⟩,b5⟩,b6⟩,b7⟩,b8⟩:=V;have e1:=beq_iff.1 b1;have e2:=beq_iff.1 b2;have e3:=beq_iff.1 b3;have e4:=beq_iff.1 b4;have e5:0<sz:=by simpa[cD] using b5
      have e6:i.zero.map (λz=>z.cells.size)=some sz:=by simpa using b6
      obtain⟨I,K⟩:=gm w;refine⟨_,?_,Ch K⟩;simp only[step0,N,mD,G,hc,D,L,Bl,hs,U,hy,O,hel,hi];rw[az ⟨e1,e2,e3,e4,e5,I.1,I.2,e6,b7,b8⟩]
     .cases w
    .rename_i e s id sy hs U hy;split at w
     .rename_i e' sz xs sz' ys i O hel hi;replace w:=bV w;obtain⟨V,w⟩:=w;simp only[aJ,iA] at V;obtain⟨⟨⟨⟨⟨⟨⟨b1,b2⟩,b3⟩,b4⟩,b5⟩,b6⟩,b7⟩,b8⟩:=V;have e1:=beq_iff.1 b1;have e2:=beq_iff.1 b2;have e3:=beq_iff.1 b3;have e4:=beq_iff.1 b4;have e5:0<sz:=by simpa[cD] using b5
      have e6:i.zero.map (λz=>z.cells.size)=some sz:=by simpa using b6
      obtain⟨I,K⟩:=gm w;refine⟨_,?_,K⟩;simp only[step0,N,mD,G,hc,D,L,Bl,hs,U,hy,O,hel,hi];rw[az ⟨e1,e2,e3,e4,e5,I.1,I.2,e6,b7,b8⟩]
     .cases w
    .cases w
   .cases w
  .rename_i hc;have N:ew P h F o S=none:=by simp only[ew,G,hc,xb]
   split at w
   .rename_i m kx t ts D L Bl;obtain⟨B,h1,K⟩:=EU w;exact⟨B,by simp only[step0,N,mD,G,hc,D,L,Bl];exact h1,K⟩
   .cases w
  .rename_i hc;have N:ew P h F o S=none:=by simp only[ew,G,hc,xb]
   split at w
   .rename_i x t D L Bl;split at w
    .rename_i e s id sz lo hi hs U;split at w
     .rename_i e' sz' xs z O hz;replace w:=bV w;obtain⟨V,w⟩:=w;simp only[aJ] at V;obtain⟨⟨⟨⟨b1,b2⟩,b3⟩,b4⟩,b5⟩:=V;have e1:=beq_iff.1 b1;have e2:=beq_iff.1 b2;have e3:=beq_iff.1 b3;have e4:=beq_iff.1 b4;have e5:0<sz:=by simpa[cD] using b5
      obtain⟨hle,K⟩:=gm w;refine⟨_,?_,K⟩;simp only[step0,N,mD,G,hc,D,L,Bl,hs,U,O,hz];rw[az ⟨e1,e2,e3,hle,e4,e5⟩]
     .cases w
    .cases w
   .cases w
  .rename_i f hc;cases how:o.dst.any h.owns.contains with
   |true=>
    rw[how] at w;simp only[ai] at w;have N:ew P h F o S=none:=by simp only[ew,G,hc,how,ai]
    obtain⟨B,h1,K⟩:=Kz w;exact⟨B,by simp only[step0,N];cases D:o.dst<;>(simp only[mD,G,hc,D];rw[D] at how;rw[how,<-D];exact h1),K⟩
   |false=>
   rw[how] at w;simp only[aA] at w;have how0:∀d,o.dst=d->d.any h.owns.contains=false:=λd D=>D▸how
   cases hro:(o.dst.any h.stay.contains&&wide S c f) with
   |true=>rw[hro] at w;exact ofF w
   |false=>
   rw[hro] at w;simp only[aA] at w;cases Yc:wide S c f with
   |true=>
    rw[Yc] at w;simp only[ai] at w;have N:ew P h F o S=none:=by simp only[ew,G,hc];rw[how,hro,Yc];rfl
    obtain⟨B,h1,K⟩:=Gz w;exact⟨B,by simp only[step0,N];cases D:o.dst<;>(simp only[mD,G,hc,D];rw[D] at hro how;rw[how,hro,Yc,<-D];exact h1),K⟩
   |false=>
   have hro0:∀(d:Option Nat),(d.any h.stay.contains&&false)=false:=λd=>by simp
   rw[Yc] at w;simp only[aA] at w;cases MU:c.args.toList.any (λx=>(ou h S x).isSome) with
   |true=>
    rw[MU] at w;simp only[ai] at w;have N:ew P h F o S=none:=by simp only[ew,G,hc];rw[how,hro,MU];simp
    split at w
    .rename_i g caps vs id hfn hvs;split at w
     .rename_i e sz xs O;obtain⟨r',xs',U,w⟩:=Te w;replace w:=sA (qJ w);have hstep:∀st2,oU P h F S c f o.dst=some st2->step0 P h F o S=some st2:=λst2 h2=>by
       simp only[step0,N];cases D:o.dst<;>(simp only[mD,G,hc,D];rw[how0 _ D,Yc,MU,hro0];simp only[ai,aA];rw[<-D];exact h2)
      split at w
      .rename_i n;replace w:=bV w;obtain⟨V,w⟩:=w;obtain⟨hn,K⟩:=gm w;refine⟨_,hstep _ ?_,K⟩;simp only[oU,hfn,hvs,O,U,beq_iff.2 (rfl:e=e),beq_iff.2 (rfl:sz=sz),beq_iff.2 (rfl:10000=10000),qM,ai,V,ij hn]
      .rename_i VU;replace w:=bV w;obtain⟨V,K⟩:=w;refine⟨_,hstep _ ?_,K⟩;simp only[oU,hfn,hvs,O,U,beq_iff.2 (rfl:e=e),beq_iff.2 (rfl:sz=sz),beq_iff.2 (rfl:10000=10000),qM,ai,V]
     .cases w
    .cases w
   |false=>
   have href0:(wide S c f||c.args.toList.any (λx=>(ou h S x).isSome))=false:=by rw[Yc,MU];rfl
   rw[MU] at w;simp only[aA] at w;cases hag:c.args.toList.any (vZ S) with
   |true=>rw[hag] at w;exact ofF w
   |false=>
   rw[hag] at w;simp only[aA] at w;cases MQ:c.args.toList.any (kK S) with
   |true=>
    simp only[MQ,ai] at w;split at w
    .rename_i g caps vs hfn hvs;obtain⟨r',U,w⟩:=uO w;replace w:=qJ w;cases hp:(r'.plain&&r'.kF) with
     |true=>simp only[hp,ai] at w;refine⟨_,?_,w⟩;rw[aJ] at hp;simp only[step0,ew,G,hc];rw[how,hro,href0];simp only[hfn,hvs,U,hp.1,hp.2,Bool.true_or,Bool.or_true,gl,ai,aA]
     |false=>
      simp only[hp,aA] at w;split at w
      .rename_i st1 s9;split at w
       .rename_i g' caps' vs' hfn' aaD;cases hrow:c.args.toList.any (kK st1) with
        |true=>rw[hrow] at w;cases w
        |false=>
         rw[hrow] at w;simp only[aA] at w;obtain⟨r2,hx2,w⟩:=uO w;replace w:=bV (qJ w);obtain⟨VU,w⟩:=w;refine⟨_,?_,w⟩;have N:ew P h F o S=none:=by simp only[ew,G,hc];rw[how,hro,href0];simp only[aA,hfn,hvs,U,hp,MQ,gC,xJ,iL]
         simp only[step0,N];cases D:o.dst<;>(simp only[mD,G,hc,D];rw[how0 _ D,Yc,MU,hro0];simp only[aA,s9,hfn',aaD,hx2,hrow,VU,gC,xJ])
       .cases w
      .cases w
    .cases w
   |false=>simp only[MQ,aA] at w;exact ofF w
  .exact ofF w
 .rename_i t m kx x G;split at w
  .rename_i D;cases Q:pT h m with
   |true=>rw[Q] at w;obtain⟨B,h1,K⟩:=F4 w;exact⟨B,by simp only[step0,mD,ew,eY,G,D];rw[Q];exact h1,K⟩
   |false=>rw[Q] at w;obtain⟨B,h1,K⟩:=y7 w;exact⟨B,by simp only[step0,mD,ew,eY,G,D];rw[Q];exact h1,K⟩
  .cases w
 .rename_i t m kx x G;split at w
  .rename_i D;cases Q:pT h m with
   |true=>rw[Q] at w;obtain⟨B,h1,K⟩:=F4 w;exact⟨B,by simp only[step0,mD,ew,eY,G,D];rw[Q];exact h1,K⟩
   |false=>rw[Q] at w;obtain⟨B,h1,K⟩:=y7 w;exact⟨B,by simp only[step0,mD,ew,eY,G,D];rw[Q];exact h1,K⟩
  .cases w
 .rename_i t m kx ok G;cases Q:(pT h m&& !ok) with
  |true=>
   rw[Q] at w;simp only[ai] at w;have hrm':=Q;simp only[aJ,iA] at Q;obtain⟨X9,rfl⟩:=Q;split at w
   .rename_i d D;obtain⟨B,h1,K⟩:=Nl w;refine⟨B,?_,K⟩;have N:ew P h F o S=none:=by simp only[ew,G];rw[hrm'];rfl
    simp only[step0,N,mD,G,D];rw[X9];exact h1
   .cases w
  |false=>rw[Q] at w;exact ofF w
 .rename_i t x G;split at w
  .rename_i d s D hu U;refine⟨_,?_,w⟩;simp only[step0,mD,ew,eY,G,D,hu,U]
  .cases w
 .rename_i x G;split at w
  .rename_i d id D U;split at w
   .rename_i s pos O;have N:ew P h F o S=none:=by simp only[ew,eY,G]
    cases hp:Nat.blt pos s.length with
    |true=>
     rw[hp] at w;refine⟨_,?_,w⟩;have hp':pos<s.length:=by simpa[cD] using hp
     simp only[step0,N,mD,G,D,U,O];rw[az hp']
    |false=>
     rw[hp] at w;refine⟨_,?_,w⟩;have hp':¬pos<s.length:=λh=>by rw[<-cD] at h;rw[h] at hp;cases hp
     simp only[step0,N,mD,G,D,U,O];rw[au hp']
   .cases w
  .cases w
 .exact fm w
 .exact fm w
 .exact fm w
 .exact fm w
 .exact fm w
 .exact fm w
 .exact fm w
 .exact ofF w
def Gp {o:Oper} {z:St} {k:St->Option R} {r:R} (q:stepT P C h F o z k=some r):∃l,step P h F o z=some l/\k l=some r:=by unfold stepT at q;obtain⟨I,B,q⟩:=fm q;obtain⟨w,D,G⟩:=N5 q;exact⟨w,by simp only[step,B,fK,D],G⟩
def Gt {z:Array Oper} {o:Oper} {D:St} {k:Bool->St->Option R} {r:R} (q:Xo z o D k=some r):∃b,pG z o D=some b/\k b D=some r:=by
 unfold Xo at q;unfold pG;split at q
 .rename_i B;exact⟨true,by simp[B],q⟩
 .rename_i j l B
  (try simp only[B])
  split at q
  .rename_i d G
   (try simp only[G])
   split at q
   .rename_i w;exact⟨l,by simp[w],q⟩
   .rename_i w;exact⟨!l,by simp only[w];cases l<;>rfl,q⟩
   .rename_i w;exact⟨false,by simp[w],q⟩
   .cases q
  .cases q
def R5 {l:St} {d:Nat} {v:SV} (w:l.env d=some v):l.set (some d) v=l:=by
 obtain⟨q,z⟩:=l;simp only[St.set,St.mk.injEq,fG];funext i;by_cases e:d=i
 .subst e;rw[cu];exact w.symm
 .rw[bu _ _ e]
def yP {b:Bool} {d:Option Nat} {w:St} {k:St->Option R} {r:R} (l:JH b d w k=some r):k w=some r:=by unfold JH at l;cases b with
 |false=>exact l
 |true=>
  simp only[ai] at l;split at l
  .rename_i z;split at l
   .rename_i t q;cases t with
    |true=>simp only[ai] at l;rwa[R5 q] at l
    |false=>simp only[aA] at l;rwa[R5 q] at l
   .exact l
  .exact l
def KV {w:Array Oper}:∀{l:List Oper} {i:Nat} {z:St} {k:St->Option R} {r:R},D7 P C h F w i l z k=some r->∃s,pV P h F w l z=some s/\k s=some r:=by intro l;induction l with
 |nil=>intro i z k r q;exact⟨z,rfl,q⟩
 |cons o l I=>intro i z k r q;simp only[D7] at q;obtain⟨b,G,q⟩:=Gt q;cases b with
  |true=>simp only[ai] at q;obtain⟨L,K,q⟩:=Gp q;obtain⟨s,D,B⟩:=I (yP q);exact⟨s,by simp[pV,G,K,D],B⟩
  |false=>simp only[aA] at q;obtain⟨s,D,B⟩:=I q;exact⟨s,by simp[pV,G,D],B⟩
def Jy {I:Array Oper}:∀{l:List Oper} {i:Nat} {w:List (Nat×gi)} {z:St} {k:St->Option R} {r:R},xo P C h F I i l w z k=some r->∃s,jL P h F I i l w z=some s/\k s=some r:=by intro l;induction l with
 |nil=>intro i w z k r q;exact⟨z,rfl,q⟩
 |cons o l N=>intro i w z k r q;simp only[xo] at q;replace q:=Gt q;obtain⟨b,L,q⟩:=q;cases b with
  |true=>simp only[ai] at q;cases K:(isF h z o&&(DY h o).isEmpty) with
   |true=>simp only[K,ai] at q;obtain⟨v,O,q⟩:=DG q;obtain⟨B,q⟩:=bV q;obtain⟨s,G,D⟩:=N (yP q);exact⟨s,by simp only[jL,L,ai,K,O,B];exact G,D⟩
   |false=>simp only[K,aA] at q;obtain⟨S,Q,q⟩:=Gp q;obtain⟨B,q⟩:=bV q;obtain⟨s,G,D⟩:=N (yP q);exact⟨s,by simp only[jL,L,ai,K,aA,Q,B];exact G,D⟩
  |false=>simp only[aA] at q;obtain⟨B,q⟩:=bV q;obtain⟨s,G,D⟩:=N q;exact⟨s,by simp only[jL,L,aA,B,ai];exact G,D⟩
def ME {D:Type} (m:Nat->Option D):∀(l:List Nat) (i:Nat),find (sM m l) i=if i∈l then m i else none:=by intro l;induction l with
 |nil=>intro i;simp[sM,find]
 |cons j l B=>intro i;simp only[sM];cases z:m j with
  |none=>
   simp only[B,aG];by_cases e:i=j
   .subst e;simp[z]
   .simp[e]
  |some v=>simp only[find];cases w:Nat.beq j i with
   |true=>have:=beq_iff.1 w;subst this;simp[z]
   |false=>
    have q:¬i=j:=λe=>by subst e;simp[beq_iff.2] at w
    simp only[aA,B,aG,q,false_or]
def P0 (h:Hint) (key:Nat) (l:St):h.canon key (h.canon key l)=h.canon key l:=by
 unfold Hint.canon;split
 .rename_i q w z;simp only[St.mk.injEq];constructor<;>(funext i;simp only[ME];split<;>rfl)
 .rfl
def IJ {key:Nat} {f:St->Option (Ex×St)} {n:Nat} {l:St}:iter h key f n (h.canon key l)=iter h key f n l:=by cases n with
 |zero=>rfl
 |succ n=>simp[iter,P0]
def Yg {c:Code} {n m:Nat} (G:n<=m) {key:Nat}:∀(q:Nat) {w:Nat} {B:St} {x:Ex×St},q<=w->iter h key (exec P h F n c) q B=some x->iter h key (exec P h F m c) w B=some x:=by intro q;induction q with
 |zero=>intro w B x _ l;simp[iter] at l
 |succ q K=>
  intro w B x N l;obtain⟨z,rfl⟩:∃z,w=z+1:=⟨w-1,af⟩
  simp only[iter] at l⊢;split at l
  .rename_i L I;rw[oW G I];exact K af l
  .rename_i D;rw[oW G l];obtain⟨e,s⟩:=x;cases e with
   |normal=>exact absurd l (D s)
   |exit j=>rfl
   |ret=>rfl
def wT {c:Code} {D:St} {k:Ex->St->Option R} {r:R}:FV P h F c D k=some r↔∃n e l,exec P h F n (.loop c) D=some (e,l)/\k e l=some r:=by
 constructor
 .intro z;unfold FV at z;split at z
  .rename_i B;obtain⟨n,w⟩:=B.choose_spec;exact⟨n,_,_,w,z⟩
  .cases z
 .rintro⟨n,e,l,w,I⟩;unfold FV;have B:∃x n,exec P h F n (.loop c) D=some x:=⟨(e,l),n,w⟩
  rw[jY B];obtain⟨m,K⟩:=B.choose_spec;have G:=oW (qQ n m) w;have q:=oW (qR n m) K;rw[G] at q;injection q with q;rw[<-q];exact I
def sO:∀{l:List Nat} {K:St} {k:St->Option R} {r:R},Ba C l K k=some r->∃z,yI l K=some z/\k z=some r
 |[],K,k,r,w=>⟨K,rfl,w⟩
 |id::l,K,k,r,w=>by
  simp only[Ba] at w;split at w
  .rename_i kt e S V vs D;replace w:=bV w;obtain⟨B,w⟩:=w;obtain⟨xs,L,w⟩:=EE w;obtain⟨z,G,I⟩:=sO (acH w);refine⟨z,?_,I⟩;simp only[yI,St.Ji,St.dL,B,D,fK,Ob.val,L,cR];exact G
  .rename_i e S q U s' xs ys D;replace w:=bV w;obtain⟨B,w⟩:=w;obtain⟨zs,N,w⟩:=EE w;obtain⟨z,G,I⟩:=sO (sA w);refine⟨z,?_,I⟩;simp only[yI,St.Ji,St.dL,B,D,fK,Ob.val,N,cR];exact G
  .split at w
   .rename_i Q O;obtain⟨z,G,I⟩:=sO w;exact⟨z,by simp only[yI,O,fK];exact G,I⟩
   .cases w
def RI {id:Nat} {B:St} {k:St->Option R} {r:R} (w:ada C h id B k=some r):∃q,h.ac9 id B=some q/\k q=some r:=by
 unfold ada at w;unfold Hint.ac9;split at w
 .rename_i l z;rw[z];exact sO w
 .rename_i z;rw[z];exact⟨B,rfl,w⟩
def vF:∀(c:Code) {D:St} {k:Ex->St->Option R} {r:R},od P C h F c D k=some r->∃n e N,exec P h F n c D=some (e,N)/\k e N=some r:=by intro c;induction c with
 |skip=>intro D k r q;exact⟨0,_,_,rfl,q⟩
 |label l=>intro D k r q;exact⟨0,_,_,rfl,q⟩
 |exit id=>intro D k r q;exact⟨0,_,_,rfl,q⟩
 |ret=>intro D k r q;exact⟨0,_,_,rfl,q⟩
 |region id ops Q=>intro D k r q;simp only[od] at q;obtain⟨w,O,q⟩:=RI q;cases Q with
  |true=>simp only[ai] at q;obtain⟨hs,q⟩:=bV q;obtain⟨s,V,I⟩:=Jy q;exact⟨0, .normal,s,by simp only[exec,O,fK,ai,hs,V,cR],I⟩
  |false=>simp only[aA] at q;obtain⟨s,V,I⟩:=KV q;exact⟨0, .normal,s,by simp[exec,O,V],I⟩
 |seq x y K L=>
  intro D k r q;simp only[od] at q;cases G:find h.blk (dU x) with
  |some z=>simp only[G] at q;obtain⟨hg,q⟩:=gm q;exact⟨0,_,_,by simp only[exec,G,hg,ai],q⟩
  |none=>
  simp only[G] at q;obtain⟨n,e,w,B,q⟩:=K q;cases e with
  |normal=>obtain⟨m,e2,st2,hy,I⟩:=L (show od P C h F y w k=some r from q);exact⟨max n m,e2,st2,by simp only[exec,G,oW (qQ n m) B];exact oW (qR n m) hy,I⟩
  |exit id=>exact⟨n,_,w,by simp only[exec,G,B],q⟩
  |ret=>exact⟨n,_,w,by simp only[exec,G,B],q⟩
 |cond c x y K L=>
  intro D k r q;simp only[od] at q;split at q
  .rename_i t hc;cases t with
   |true=>obtain⟨n,e,w,B,I⟩:=K q;exact⟨n,e,w,by simp only[exec,hc,ai];exact B,I⟩
   |false=>obtain⟨n,e,w,B,I⟩:=L q;exact⟨n,e,w,by simp only[exec,hc,aA];exact B,I⟩
  .cases q
 |block id c U=>intro D k r q;simp only[od] at q;obtain⟨n,e,w,B,q⟩:=U q;cases e with
  |normal=>exact⟨n,_,w,by simp only[exec,B],q⟩
  |ret=>exact⟨n,_,w,by simp only[exec,B],q⟩
  |exit j=>simp only[S7] at q;cases S:Nat.beq j id with
   |true=>simp only[S,ai] at q;exact⟨n, .normal,w,by simp only[exec,B,S,ai],q⟩
   |false=>simp only[S,aA] at q;exact⟨n, .exit j,w,by simp only[exec,B,S,aA],q⟩
 |loop c U=>intro D k r q;simp only[od] at q;obtain⟨n,e,N,B,I⟩:=wT.1 q;refine⟨n,e,N,?_,I⟩;simp only[exec] at B⊢;rwa[IJ] at B
 |scope c U=>intro D k r q;simp only[od] at q;obtain⟨n,e,w,B,I⟩:=U q;exact⟨n,e,w,by simp only[exec];exact B,I⟩
 |rangeFunc f ps x y K L=>intro D k r q;simp[od] at q
 |goto l=>intro D k r q;simp[od] at q
 |refuse s=>intro D k r q;simp[od] at q
def QW {c:Code} {G:St} {k:Ex->St->Option R} {r:R} (K:od P C h F c (h.canon (dU c) G) (SO P h F c k)=some r):FV P h F c G k=some r:=by obtain⟨n,e,l,z,q⟩:=vF c K;cases e with
 |normal=>obtain⟨m,I,B,D,w⟩:=wT.1 (show FV P h F c (h.canon (dU c) l) k=some r from q);simp only[exec,IJ] at D;refine wT.2 ⟨max n m+1,I,B,?_,w⟩;simp only[exec,iter];rw[oW (show n<=max n m+1 by omega) z];exact Yg (show m<=max n m+1 by omega) m af D
 |exit j=>refine wT.2 ⟨n+1, .exit j,l,?_,q⟩;simp only[exec,iter];rw[oW (show n<=n+1 by omega) z]
 |ret=>refine wT.2 ⟨n+1, .ret,l,?_,q⟩;simp only[exec,iter];rw[oW (show n<=n+1 by omega) z]
end
section
variable {P:Program} {C:lY} {H:Nat->Hint} {eX:dX}
def mw {f:Nat} {args:List SV} {cF:List (Nat×Ob)} {r:AV×List (Nat×Ob)} (D:eX f args cF=none) (l:ZB P C H eX f args cF=some r):run P H eX f args cF=some r:=by
 unfold ZB at l;split at l
 .rename_i fn B;split at l
  .rename_i c q;obtain⟨w,l⟩:=bV l;obtain⟨n,e,I,G,z⟩:=vF c l;exact Gh D B q w G z
  .cases l
 .cases l
def kC {f key:Nat} {names:List Nat} {q:List (Nat×SV)} {w:List (Nat×Ob)} {r:AV×List (Nat×Ob)} (l:UX P C H eX f key names q w=some r):pI P C H eX f key names q w=some r:=by
 unfold UX at l;unfold pI;split at l
 .rename_i fn B
  (try simp only[B])
  split at l
  .rename_i c z
   (try simp only[z])
   split at l
   .rename_i G k D
    (try simp only[D])
    exact QW l
   .cases l
  .cases l
 .cases l
end
section
variable {R:Type}
theorem bh {p:Prop} [Decidable p] (l:p) (x:Option R):check p x=x:=by unfold check;rw[az l]
def zX {l:Type} {xs:List l} {i:Int} {x:l} (q:0<=i) (w:xs[i.toNat]? =some x) (k:l->Option R):aW xs i k=k x:=by simp_all[aW]
def ey {l:Type} {xs:List l} {i:Nat} {x:l} (q:xs[i]? =some x) (k:l->Option R):aW xs (i:Int) k=k x:=zX af (by simpa using q) k
theorem gF {l:Type} {xs:List l} {i:Nat} {x:l} (q:xs[i]? =some x) (k:l->Option R):ek xs i k=k x:=by unfold ek;rw[q]
def XE {c:Option (AV×List (Nat×Ob))} {r:AV} (l:c=some (r,[])) (k:AV->Option R):wN c k=k r:=by subst l;unfold wN;rfl
def XF {c:Option (AV×List (Nat×Ob))} {l e q:Nat} {r:AV} {xs:List (List AV)} (w:c=some (r,[(l, .row e q xs)])) (k:AV->List (List AV)->Option R):Dl c l e q k=k r xs:=by subst w;unfold Dl;simp[beq_iff.2]
def asE_pos {q T:Type} {enc:T->q} (inj:∀a b,enc a=enc b->a=b) (d:T) (k:T->Option R):rU enc (enc d) k=k d:=by
 unfold rU;have l:∃x,enc x=enc d:=⟨d,rfl⟩
 rw[jY l,inj _ _ l.choose_spec]
end
