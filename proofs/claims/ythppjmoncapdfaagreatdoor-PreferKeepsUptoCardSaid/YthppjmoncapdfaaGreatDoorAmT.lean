/- THE ABSTRACT MACHINE, TYPED. -/
import Derived.Test.YthppjmoncapdfaaGreatDoorAmFin
set_option linter.all false
namespace Go.AM
open Go.RowKit
structure Ff where
 T:Type
 enc:T->List AV
structure rU where
 T:Type
 enc:T->AV
def Bl {q:Type 1}:List (Nat×q)->Nat->Option q
 |[],_=>none
 |(j,v)::l,i=>cond (Nat.beq j i) (some v) (Bl l i)
structure lX where
 elem:TypeId->Option Ff
 val:TypeId->Option rU
 res:Nat->Option rU
 ptr:Option Ff:=none
def Tp {T:Type} (enc:T->List AV):Option T->AV
 |some x=> .ref (enc x)
 |none=> .DF
def dN (K V:rU) (l:List (K.T×V.T)):List AV×List AV:=(l.map λp=>K.enc p.1,l.map λp=>V.enc p.2)
section
variable {R:Type}
@[irreducible] def check (p:Prop) [Decidable p] (x:Option R):Option R:=if p then x else none
@[irreducible] def aV {l:Type} (xs:List l) (i:Int) (k:l->Option R):Option R:=
 if 0<=i then match xs[i.toNat]? with
  |some x=>k x
  |none=>none
 else none
@[irreducible] def dY {l:Type} (xs:List l) (i:Nat) (k:l->Option R):Option R:=
 match xs[i]? with
 |some x=>k x
 |none=>none
@[irreducible] def wI (c:Option (AV×List (Nat×Ob))) (k:AV->Option R):Option R:=
 match c with
 |some (r,[])=>k r
 |_=>none
@[irreducible] def Dc (c:Option (AV×List (Nat×Ob))) (z e sz:Nat) (k:AV->List (List AV)->Option R):Option R:=
 match c with
 |some (r,[(l, .row w q xs)])=>bif Nat.beq z l&&Nat.beq e w&&Nat.beq sz q then k r xs else none
 |_=>none
@[irreducible] def Ll (x:Option (Option AV)) (k:AV->Option R) (z:Option R):Option R:=
 match x with
 |some (some v)=>k v
 |some none=>z
 |none=>none
@[irreducible] def UH (x:Option (List AV×List AV)) (k:List AV×List AV->Option R):Option R:=
 match x with
 |some p=>k p
 |none=>none
@[irreducible] noncomputable def rP {l T:Type} (enc:T->l) (c:l) (k:T->Option R):Option R:=
 open Classical in if q : ∃ d, enc d = c then k q.choose else none
@[irreducible] def vw (c:Option (AV×List (Nat×Ob))) (k:AV->List (Nat×Ob)->Option R):Option R:=
 match c with
 |some (r,l)=>k r l
 |none=>none
@[irreducible] def nU (w:Nat) (l:List (Nat×Ob)) (k:Ob->List (Nat×Ob)->Option R):Option R:=
 match l with
 |(q,o)::l=>bif Nat.beq w q then k o l else none
 |[]=>none
@[irreducible] def Nj (l:List (Nat×Ob)) (k:Option R):Option R:=
 match l with
 |[]=>k
 |_=>none
@[irreducible] noncomputable def DW (o o':Ob) (k:Option R):Option R:=open Classical in if o=o' then k else none
@[irreducible] def PA (e sz:Nat) (o:Ob) (k:List (List AV)->Option R):Option R:=
 match o with
 | .row q l xs=>bif Nat.beq e q&&Nat.beq sz l then k xs else none
 |_=>none
@[irreducible] def Pz (z q:Nat) (o:Ob) (k:List AV×List AV->Option R):Option R:=
 match o with
 | .mp k' l w B=>bif Nat.beq z k'&&Nat.beq q l then k (w,B) else none
 |_=>none
@[irreducible] def Zd (o:Ob) (k:List AV->Option R):Option R:=
 match o with
 | .lp xs=>k xs
 |_=>none
@[irreducible] def Yl (a:AV) (k:List AV->Option R):Option R:=
 match a with
 | .ref l=>k l
 |_=>none
@[irreducible] def hasK (x:Option (Option Nat)) (k:Bool->Option R):Option R:=
 match x with
 |some r=>k r.isSome
 |none=>none
@[irreducible] def SX (x:Option (List UInt8)) (k:List UInt8->Option R):Option R:=
 match x with
 |some b=>k b
 |none=>none
def acm (key:AV) (q:List AV) (l:List (Option (List (List AV)))):Option (List (List AV)×List (Option (List (List AV)))):=
 match pH key q with
 |some (some i)=>match l[i]? with
  |some (some xs)=>some (xs,l.set i none)
  |_=>none
 |some none=>some ([],l)
 |none=>none
@[irreducible] def ac0 (x:Option (List (List AV)×List (Option (List (List AV))))) (k:List (List AV)->List (Option (List (List AV)))->Option R):Option R:=
 match x with
 |some p=>k p.1 p.2
 |none=>none
@[irreducible] def WC (x:Option (List AV×List (Option (List (List AV))))) (k:List AV×List (Option (List (List AV)))->Option R):Option R:=
 match x with
 |some p=>k p
 |none=>none
@[irreducible] def SG (x:Option (List (List (List AV)))) (k:List (List (List AV))->Option R):Option R:=
 match x with
 |some l=>k l
 |none=>none
@[irreducible] def Rq (l:List (Option (List (List AV)))) (i:Nat) (k:List (List AV)->Option R):Option R:=
 match l[i]? with
 |some (some q)=>k q
 |_=>none
def HZ (K:rU) (E:Ff) (l:List (K.T×Option (List E.T))):List AV×List (Option (List (List AV))):=(l.map λp=>K.enc p.1,l.map λp=>p.2.map (List.map E.enc))
def pI {l:Type} (c:Option l) (k:l->Option R):Option R:=
 match c with
 |some r=>k r
 |none=>none
noncomputable def P7 (C:lX) (e:TypeId) (c:List AV) (k:List AV->Option R):Option R:=
 match C.elem e with
 |some d=>rP d.enc c λx=>k (d.enc x)
 |none=>k c
noncomputable def NL (C:lX) (e:TypeId) (c:List (List AV)) (k:List (List AV)->Option R):Option R:=
 match C.elem e with
 |some d=>rP (List.map d.enc) c λx=>k (x.map d.enc)
 |none=>k c
noncomputable def valK (C:lX) (t:TypeId) (c:AV) (k:AV->Option R):Option R:=
 match C.val t with
 |some d=>rP d.enc c λx=>k (d.enc x)
 |none=>k c
noncomputable def ab6 (C:lX) (w q:TypeId) (p:List AV×List AV) (k:List AV×List AV->Option R):Option R:=
 match C.val w,C.val q with
 |some K,some V=>rP (dN K V) p λl=>k (dN K V l)
 |_,_=>k p
noncomputable def mrK (C:lX) (q e:TypeId) (p:List AV×List (Option (List (List AV)))) (k:List AV×List (Option (List (List AV)))->Option R):Option R:=
 match C.val q,C.elem e with
 |some K,some E=>rP (HZ K E) p λl=>k (HZ K E l)
 |_,_=>k p
noncomputable def Rh (C:lX) (e:TypeId) (l:List (Option (List (List AV)))) (k:List (Option (List (List AV)))->Option R):Option R:=
 match C.elem e with
 |some d=>rP (List.map (Option.map (List.map d.enc))) l λy=>k (y.map (Option.map (List.map d.enc)))
 |none=>k l
noncomputable def mpK (C:lX) (w e:TypeId) (q:Nat) (p:List AV×List AV) (k:List AV×List AV->Option R):Option R:=
 match C.val w,C.elem e with
 |some K,some E=>rP (dN K ⟨List E.T,λx=> .dH q (x.map E.enc)⟩) p λl=>k (dN K ⟨List E.T,λx=> .dH q (x.map E.enc)⟩ l)
 |_,_=>k p
noncomputable def UQ (C:lX) (o l:Ob) (k:Ob->Option R):Option R:=
 match o with
 | .row e z _=>PA e z l λxs=>NL C e xs λxs=>k (.row e z xs)
 | .mp w q _ _=>Pz w q l λp=>ab6 C w q p λp=>k (.mp w q p.1 p.2)
 | .lp _=>Zd l λxs=>k (.lp xs)
 |o=>DW l o (k o)
@[irreducible] def Vj (t:TypeId) (o:Ob) (k:List AV->Option R):Option R:=
 match o with
 | .box q cells=>match lV cells with
  |some l=>bif Nat.beq t q then k l else none
  |none=>none
 |_=>none
noncomputable def boxK (C:lX) (o q:Ob) (k:Ob->Option R):Option R:=
 match o with
 | .box t _=>Vj t q λl=>match C.elem t with
  |some d=>rP d.enc l λx=>k (.box t ((d.enc x).map .pv))
  |none=>none
 |_=>none
noncomputable def HW (C:lX) (keep B:List Nat):List (Nat×Ob)->List (Nat×Ob)->(List (Nat×Ob)->Option R)->Option R
 |[],D,k=>Nj D (k [])
 |(w,o)::l,D,k=>nU w D λG q=>bif keep.contains w then DW G o (HW C keep B l q λz=>k ((w,o)::z)) else bif B.contains w then boxK C o G λI=>HW C keep B l q λz=>k ((w,I)::z) else UQ C o G λI=>HW C keep B l q λz=>k ((w,I)::z)
noncomputable def KL (C:lX) (g:Nat) (c:AV) (k:AV->Option R):Option R:=
 match C.res g with
 |some d=>rP d.enc c λx=>k (d.enc x)
 |none=>k c
noncomputable def Tg (C:lX) (a:AV) (k:AV->Option R):Option R:=
 Yl a λl=>match C.ptr with
  |some d=>rP d.enc l λx=>k (.ref (d.enc x))
  |none=>k (.ref l)
def vW (w:Option SV) (l:Nat) (q:Nat) (k:Nat->Option R):Option R:=
 match w with
 |none=>k l
 |some (.pv (.int _ i))=>check (0<=i/\i<=q) (k i.toNat)
 |some _=>none
noncomputable def zw:List (Nat×Ob)->List (Nat×Ob)->Option R->Option R
 |[],q,k=>Nj q k
 |(z,o)::l,q,k=>nU z q λB w=>DW B o (zw l w k)
noncomputable def Md (P:Program) (C:lX) (h:Hint) (F:dW) (q:St) (c:Call) (f:Operand) (k:AV->Option R):Option R:=
 match tD P h q c f with
 |some (g,args)=>
  bif distinct (kK q args)&&Nat.blt (kK q args).length 10000&&args.all (SV.closed (kK q args)) then
   match lD q (kK q args) (qG (jw (kK q args))) (jw (kK q args)) with
   |some cE=>vw (F g (args.map (SV.tj (qG (jw (kK q args))))) cE) λr l=>zw cE l (KL C g r λr=>bif r.kC then k r else none)
   |none=>none
  else none
 |none=>none
noncomputable def ab5 (C:lX) (w:St) (v:SV) (k:AV->Option R):Option R:=
 match v with
 | .at id (.nr i)=>match w.ob id with
  |some (.rn _ _ _ G z _ B)=>Rq B i λD=>NL C G D λD=>k (.dH z D)
  |_=>none
 | .ag [.r id]=>match w.ob id with
  |some (.rn e I q _ z xs B)=>SG (oQ B) λl=>NL C e (wC q z xs l) λm=>k (.agg [.dH I m])
  |_=>pI (me w v) k
 |v=>pI (me w v) k
noncomputable def DA (P:Program) (C:lX) (q:St):List Operand->List TypeId->(List AV->Option R)->Option R
 |[],_,k=>k []
 |x::xs,w,k=>match bw P (w.headD 0) q x with
  |some v=>ab5 C q v λa=>DA P C q xs w.tail λl=>k (a::l)
  |none=>none
noncomputable def uP (P:Program) (C:lX) (h:Hint) (F:dW) (o:Oper) (w:St) (k:SV->Option R):Option R:=
 match o.op with
 | .pick c a b=>match bw P 0 w c with
  |some (.pv (.bool t))=>bif t then pI (bw P o.type w a) k else pI (bw P o.type w b) k
  |_=>none
 | .nilCheck x=>match bw P 0 w x with
  |some (.pv a)=>Tg C a λa=>k (.pv a)
  |_=>pI (eU P o w) k
 | .indexAddr t x Q=>match P.underlying t with
  |some (.array n e)=>pI (B1 P w n e x Q) k
  |_=>match isSlice P t,bw P t w x,bw P 0 w Q with
  |some (e,s),some (.pv (.dH B xs)),some (.pv (.int _ i))=>bif Nat.beq s B then aV xs i λc=>P7 C e c λc=>k (.cp c) else none
  |some (_,s),some (.row id),some (.pv (.int _ i))=>match w.ob id with
   |some (.row _ B xs)=>bif Nat.beq s B then check (0<=i/\i.toNat<xs.length) (k (.rp id B i.toNat 0)) else none
   |some (.rn _ B _ _ _ xs _)=>bif Nat.beq s B then check (0<=i/\i.toNat<xs.length) (k (.rp id B i.toNat 0)) else none
   |_=>none
  |some (_,s),some (.sub id B G D),some (.pv (.int _ i))=>bif Nat.beq s B then check (0<=i/\i.toNat<D-G) (k (.rp id B (G+i.toNat) 0)) else none
  |_,_,_=>none
 | .index t x Q=>match P.underlying t,bw P t w x,bw P 0 w Q with
  |some .string,some (.pv (.str s)),some (.pv (.int _ i))=>aV s i λb=>k (.pv (.int .u8 b.toNat))
  |_,_,_=>none
 | .load t x=>bif o.dst.any h.take.contains then none else match bw P 0 w x with
  |some (.rp id B i N)=>match w.ob id with
   |some (.row e L xs)=>bif Nat.beq B L then dY xs i λc=>P7 C e c λc=>pI (iD P t (c.drop N)) λv=>k (.pv v) else none
   |some (.rn _ L q _ _ xs _)=>bif Nat.beq B L&&Nat.beq N q&&(CE P t==some false) then check (i<xs.length) (k (.at id (.nr i))) else none
   |_=>none
  |_=>pI (eU P o w) k
 | .binOp op t x y _=>match(bw P t w x).bind iH,(bw P t w y).bind iH with
  |some (.int K a),some (.int kb b)=>match op with
   | .quo=>bif K==kb then check (b≠0) (k (.pv (.int K (K.wrap (a.tdiv b))))) else none
   | .rem=>bif K==kb then check (b≠0) (k (.pv (.int K (a.tmod b)))) else none
   | .shl=>check (0<=b) (k (.pv (.int K (K.wrap (a *2^ min b.toNat K.bits)))))
   | .shr=>check (0<=b) (k (.pv (.int K (a.fdiv (2^ min b.toNat K.bits)))))
   |_=>pI (eU P o w) k
  |some (.str a),some (.str b)=>match op with
   | .add=>check (a.length+b.length<=9223372036854775807) (k (.pv (.str (a++b))))
   |_=>pI (eU P o w) k
  |_,_=>pI (eU P o w) k
 | .slice t x G D none=>match P.underlying t,bw P t w x,ng P w G,ng P w D with
  |some .string,some (.pv (.str s)),some G,some D=>vW D s.length s.length λh=>vW G 0 h λl=>k (.pv (.str ((s.take h).drop l)))
  |some (.slice _),some (.pv (.dH B xs)),some G,some D=>match isSlice P t with
   |some (_,s)=>bif Nat.beq s B then vW D xs.length xs.length λh=>vW G 0 h λl=>k (.pv (.dH B ((xs.take h).drop l))) else none
   |none=>none
  |some (.slice _),some (.row id),some G,some D=>match isSlice P t,w.ob id with
   |some (_,s),some (.row _ B xs)=>bif Nat.beq s B then vW D xs.length xs.length λh=>vW G 0 h λl=>k (.sub id B l h) else none
   |_,_=>none
  |some (.slice _),some (.sub id B a b),some G,some D=>match isSlice P t with
   |some (_,s)=>bif Nat.beq s B then vW D (b-a) (b-a) λh=>vW G 0 h λl=>k (.sub id B (a+l) (a+h)) else none
   |none=>none
  |_,_,_,_=>none
 | .slice t x none (some D) (some mx)=>match bw P t w x with
  |some (.row id)=>match w.ob id,isSlice P t,bw P 0 w D,bw P 0 w mx with
   |some (.row _ B xs),some (_,s),some (.pv (.int _ a)),some (.pv (.int _ b))=>bif Nat.beq s B then check (a=(xs.length:Int)/\b=(xs.length:Int)) (k (.at id .full)) else none
   |_,_,_,_=>none
  |_=>none
 | .convert src U x=>match P.underlying src,P.underlying U with
  |some (.slice e),some .string=>match P.underlying e,kL P e,(bw P src w x).bind (elems w) with
   |some (.int .u8),some 1,some (1,xs)=>SX (bytesOf xs) λb=>k (.pv (.str b))
   |_,_,_=>none
  |_,_=>pI (eU P o w) k
 | .lookup t x kx ok=>bif pR h x&& !ok then none else match P.underlying t with
  |some (.map S V)=>match(bw P t w x).bind (FI w),(bw P S w kx).bind iH with
   |some ks,some key=>bif ok&&jB P S key&&(pE P V).isSome then hasK (pH key ks) λb=>k (.two .any b) else none
   |_,_=>match(bw P t w x).bind (maps w),(bw P S w kx).bind iH with
   |some (ks,O),some key=>bif jB P S key then Ll (Ul key ks O) (λv=>valK C V v λv=>k (.pv (found ok v true))) (pI (pE P V) λz=>k (.pv (found ok z false))) else none
   |_,_=>none
  |_=>none
 | .call c=>match c.callee with
  | .value f=>bif o.dst.any h.owns.contains then none else bif o.dst.any h.stay.contains&&wide w c f then Md P C h F w c f λr=>k (.pv r) else
   bif wide w c f||c.args.toList.any (λx=>(oq h w x).isSome) then none else
   bif c.args.toList.any (vV w) then
    match bw P 0 w f with
    |some (.pv (.fn g I))=>DA P C w c.args.toList c.argTypes.toList λO=>wI (F g ((O++I).map .pv) []) λr=>KL C g r λr=>bif r.plain&&r.kC then k (.pv r) else none
    |_=>none
   else
   match bw P 0 w f,jt P w c.args.toList c.argTypes.toList with
   |some (.pv (.fn g I)),some O=>wI (F g ((O++I).map .pv) []) λr=>KL C g r λr=>bif(!(c.args.toList.any (kI w))||r.plain)&&r.kC then k (.pv r) else none
   |_,_=>none
  |_=>pI (wX P c w) k
 |_=>pI (eo P h F o w) k
noncomputable def AS (P:Program) (C:lX) (G:St) (t:TypeId) (m D x:Operand) (k:St->Option R):Option R:=
 match P.underlying t with
 |some (.map w q)=>match Ud P G q x with
  |some l=>match bw P t l m,(bw P w l D).bind iH,(bw P q l x).bind iH with
   |some (.row id),some key,some v=>match l.ob id with
    |some (.mp k' z B I)=>bif jB P w key&&v.FQ then
      UH (B8 key v B I) λp=>ab6 C w q p λp=>k { l with ob:=put l.ob id (some (.mp k' z p.1 p.2)) }
     else none
    |_=>none
   |_,_,_=>none
  |none=>none
 |_=>none
noncomputable def B6 (P:Program) (C:lX) (l:St) (t:TypeId) (m D:Operand) (k:St->Option R):Option R:=
 match P.underlying t with
 |some (.map q z)=>match bw P t l m,(bw P q l D).bind iH with
  |some (.row id),some key=>match l.ob id with
   |some (.mp k' w B G)=>bif jB P q key then
     UH (mdel key B G) λp=>ab6 C q z p λp=>k { l with ob:=put l.ob id (some (.mp k' w p.1 p.2)) }
    else none
   |_=>none
  |_,_=>none
 |_=>none
noncomputable def Up (P:Program) (C:lX) (l:St) (t:TypeId) (m G:Operand) (d:Nat) (k:St->Option R):Option R:=
 match Lp P l t m G with
 |some (z,id,key,k',e,q,B,I)=>bif Nat.beq id d then none else match pE P z,isSlice P z with
  |some (.dH _ []),some (D,s)=>bif Nat.beq e D&&Nat.beq s q&&Nat.blt 0 s then
    ac0 (acm key B I) λxs w=>NL C e xs λxs=>mrK C k' e (B,w) λp=>k ((St.new { l with ob:=put l.ob id (some (.mr k' e q p.1 p.2)) } d (.row e q xs)).set (some d) (.row d))
   else none
  |_,_=>none
 |none=>none
noncomputable def Wr (P:Program) (C:lX) (l:St) (t:TypeId) (m G x:Operand) (k:St->Option R):Option R:=
 match Lp P l t m G with
 |some (z,id,key,k',e,q,B,D)=>match x with
  | .const (.slice none 0 0)=>match isSlice P z with
   |some (w,s)=>bif Nat.beq e w&&Nat.beq s q&&Nat.blt 0 s then
     WC (B8 key (some []) B D) λp=>mrK C k' e p λp=>k { l with ob:=put l.ob id (some (.mr k' e q p.1 p.2)) }
    else none
   |none=>none
  |x=>match bw P z l x with
   |some (.row j)=>match l.ob j with
    |some (.row w s xs)=>bif Nat.beq e w&&Nat.beq s q&&Nat.blt j 10000 then
      WC (B8 key (some xs) B D) λp=>mrK C k' e p λp=>k { (l.dF j) with ob:=put (l.dF j).ob id (some (.mr k' e q p.1 p.2)) }
     else none
    |_=>none
   |_=>none
 |none=>none
noncomputable def Ey (P:Program) (C:lX) (h:Hint) (F:dW) (w:St) (c:Call) (f:Operand) (d:Option Nat) (k:St->Option R):Option R:=
 match(bw P 0 w f).bind fnSV,tn P h w c.args.toList c.argTypes.toList with
 |some (g,pre,z),some I=>
  let args:=pre++(I++z)
  let ids:=ku w 200 (args.flatMap SV.ids) [];let D:=lE (d.any h.stay.contains) w (pQ args);let m:=jH D 0 ids;let names:=m.map (·.2);let G:=qG m
  bif distinct ids&&Nat.blt ids.length 10000&&args.all (SV.closed ids) then
   match lD w ids G m with
   |some cE=>vw (F g (args.map (SV.tj G)) cE) λr l=>HW C ((m.filter λp=>h.keep.contains p.1).map (·.2)) ((m.filter λp=>h.bx.contains p.1).map (·.2)) cE l λq=>KL C g r λr=>match nP names (qG (swap m)) m q with
    |some back=>bif r.kC then
      let B:=kF (ids.filter D) w
      k (St.set { env:=B.env,ob:=λi=>(find back i).orElse λ_=>B.ob i } d (.pv r)) else none
    |none=>none
   |none=>none
  else none
 |_,_=>none
noncomputable def HJ (P:Program) (C:lX) (h:Hint) (F:dW) (w:St) (c:Call) (f:Operand) (d:Option Nat) (k:St->Option R):Option R:=
 match d with
 |some d=>match bw P 0 w f,rA P (wU h d).isSome w c.args.toList c.argTypes.toList with
  |some (.pv (.fn g q)),some G=>wI (F g ((G++q).map .pv) []) λr=>KL C (bif(wU h d).isSome then g+1000000 else g) r λr=>match r with
   | .lQ [.lQ [.self e, .dH D xs]]=>bif(wU h d).isSome then none else k ((w.new d (.row e D xs)).set (some d) (.row d))
   | .agg z=>match wU h d with
    |some []=>k (w.set (some d) (.pv (.agg z)))
    |some l=>match sD z l with
     |some B=>bif l.all (λx=>Nat.blt x.1 10000) then k ((um h.nest l w).set (some d) (.ag B)) else none
     |none=>none
    |none=>none
   |_=>none
  |_,_=>none
 |none=>none
noncomputable def Kf (P:Program) (C:lX) (z:St) (t:TypeId) (x:Operand) (d:Nat) (k:St->Option R):Option R:=
 match bw P 0 z x,CE P t with
 |some (.rp id K i D),some false=>match z.ob id with
  |some (.rn e l q w I xs B)=>bif Nat.beq K l&&Nat.beq D q&& !(Nat.beq id d)&&Nat.blt id 10000 then
    Rq B i λG=>NL C w G λG=>Rh C w (B.set i none) λB=>k ((St.new { z with ob:=put z.ob id (some (.rn e l q w I xs B)) } d (.row w I G)).set (some d) (.row d))
   else none
  |_=>none
 |_,_=>none
noncomputable def UG (P:Program) (C:lX) (w:St) (t:TypeId) (id K i D j:Nat) (k:St->Option R):Option R:=
 match CE P t,kL P t,w.ob id,w.ob j with
 |some false,some 1,some (.rn e l q B G xs z),some (.row I s2 L)=>
  bif Nat.beq K l&&Nat.beq D q&&Nat.blt id 10000&&Nat.blt j 10000&&Nat.beq B I&&Nat.beq G s2&& !(Nat.beq id j) then
   check (i<z.length) (Rh C B (z.set i (some L)) λz=>k { (w.dF j).dF (id+40000) with ob:=put ((w.dF j).dF (id+40000)).ob id (some (.rn e l q B G xs z)) })
  else none
 |_,_,_,_=>none
noncomputable def US (P:Program) (C:lX) (h:Hint) (F:dW) (o:Oper) (w:St) (k:St->Option R):Option R:=
 match o.op with
 | .makeSlice t l c=>match o.dst,isSlice P t,(bw P 0 w l).bind iH,(bw P 0 w c).bind iH with
  |some d,some (e,s),some (.int _ l),some (.int _ c)=>match zeroCells P e,P.info? e with
   |some z,some i=>bif Nat.blt 0 s&&Nat.beq z.length s then check (0<=l/\l<=c/\i.bytes *c.toNat<=281474976710656/\c<=9223372036854775807)
     (k ((w.new d (.row e s (List.replicate l.toNat z))).set (some d) (.row d))) else none
   |_,_=>none
  |_,_,_,_=>none
 | .store t x y=>match o.dst,bw P 0 w x,bw P t w y with
  |none,some (.rp id B i G),some (.pv v)=>match w.ob id,kL P t with
   |some (.row e D xs),some n=>bif Nat.beq B D&&Nat.beq v.cells.length n&&v.FQ then
     dY xs i λc=>P7 C e c λc=>bif Nat.ble (G+n) c.length then k { w with ob:=put w.ob id (some (.row e D (xs.set i (c.take G++v.cells++c.drop (G+n))))) } else none
    else none
   |_,_=>none
  |none,some (.rp id B i G),some (.row j)=>UG P C w t id B i G j k
  |none,some (.ptr id G),some (.sub j B 0 n)=>pI (Vt P w t id G j B n) k
  |none,some a,some v=>pI (storeAt P t w a v) k
  |_,_,_=>none
 | .load t x=>bif o.dst.any h.take.contains then
   match o.dst with
   |some d=>Kf P C w t x d k
   |none=>none
  else uP P C h F o w λv=>k (w.set o.dst v)
 | .call c=>match c.callee with
  | .builtin .append=>match o.dst,c.args.toList,c.argTypes.toList with
   |some d,[x,y],[t,U]=>match isSlice P t,bw P t w x,bw P U w y with
    |some (e,s),some (.row id),some y=>match w.ob id,elems w y,P.info? e with
     |some (.row Q B xs),some (D,I),some i=>
      bif Nat.beq t U&&Nat.beq e Q&&Nat.beq s B&&Nat.beq B D&&Nat.blt 0 B&&(i.zero.map (λz=>z.cells.size)==some B)&&iG id then
       check ((xs.length+I.length) *i.bytes<=140737488355328/\xs.length+I.length<=4611686018427387904) (k ((w.new id (.row e B (xs++I))).set (some d) (.row id)))
      else none
     |some (.rn Q B q e2 s2 xs zs),some (D,I),some i=>
      bif Nat.beq t U&&Nat.beq e Q&&Nat.beq s B&&Nat.beq B D&&Nat.blt 0 B&&(i.zero.map (λz=>z.cells.size)==some B)&&iG id&&I.all (qc q) then
       check ((xs.length+I.length) *i.bytes<=140737488355328/\xs.length+I.length<=4611686018427387904) (Rh C e2 (zs++I.map λ_=>some []) λzs=>k ((w.new id (.rn e B q e2 s2 (xs++I.map λc=>c.set q .hole) zs)).set (some d) (.row id)))
      else none
     |_,_,_=>none
    |some (e,s),some (.at id .full),some y=>match w.ob id,elems w y,P.info? e with
     |some (.row Q B xs),some (D,I),some i=>
      bif Nat.beq t U&&Nat.beq e Q&&Nat.beq s B&&Nat.beq B D&&Nat.blt 0 B&&(i.zero.map (λz=>z.cells.size)==some B)&&iG id&& !I.isEmpty then
       check ((xs.length+I.length) *i.bytes<=140737488355328/\xs.length+I.length<=4611686018427387904) (k ((w.new id (.row e B (xs++I))).set (some d) (.row id)))
      else none
     |_,_,_=>none
    |_,_,_=>none
   |_,_,_=>none
  | .builtin .delete=>match o.dst,c.args.toList,c.argTypes.toList with
   |none,[m,N],t::_=>B6 P C w t m N k
   |_,_,_=>none
  | .builtin .clear=>match o.dst,c.args.toList,c.argTypes.toList with
   |none,[x],[t]=>match isSlice P t,bw P t w x with
    |some (e,s),some (.sub id B lo V)=>match w.ob id,zeroCells P e with
     |some (.row Q D xs),some z=>bif Nat.beq s B&&Nat.beq B D&&Nat.beq z.length B&&Nat.beq e Q&&Nat.blt 0 B then
       check (V<=xs.length) (k { w with ob:=put w.ob id (some (.row Q D (xs.take lo++List.replicate (V-lo) z++xs.drop V))) }) else none
     |_,_=>none
    |_,_=>none
   |_,_,_=>none
  | .value f=>bif o.dst.any h.owns.contains then HJ P C h F w c f o.dst k else bif o.dst.any h.stay.contains&&wide w c f then uP P C h F o w λv=>k (w.set o.dst v) else bif wide w c f then Ey P C h F w c f o.dst k else bif c.args.toList.any (λx=>(oq h w x).isSome) then
    match bw P 0 w f,AR P h w c.args.toList c.argTypes.toList with
    |some (.pv (.fn g K)),some (vs,[id])=>match w.ob id with
     |some (.row e B xs)=>Dc (F g (vs++K.map .pv) [(10000, .row e B xs)]) 10000 e B λr L=>KL C g r λr=>NL C e L λL=>match r with
       | .self n=>bif iG id then check (n<=L.length) (k ((w.new id (.row e B (L.take n))).set o.dst (.row id))) else none
       |r=>bif r.plain then k (St.set { w with ob:=put w.ob id (some (.row e B L)) } o.dst (.pv r)) else none
     |_=>none
    |_,_=>none
   else bif c.args.toList.any (vV w) then uP P C h F o w λv=>k (w.set o.dst v)
   else bif c.args.toList.any (kI w) then
    match bw P 0 w f,jt P w c.args.toList c.argTypes.toList with
    |some (.pv (.fn g K)),some vs=>wI (F g ((vs++K).map .pv) []) λr=>KL C g r λr=>bif r.plain&&r.kC then k (w.set o.dst (.pv r)) else
      match mC.jf w c.args.toList with
      |some O=>match bw P 0 O f,jt P O c.args.toList c.argTypes.toList with
       |some (.pv (.fn g' S)),some vs'=>bif c.args.toList.any (kI O) then none else wI (F g' ((vs'++S).map .pv) []) λr=>KL C g' r λr=>bif r.kC then k (O.set o.dst (.pv r)) else none
       |_,_=>none
      |none=>none
    |_,_=>none
   else uP P C h F o w λv=>k (w.set o.dst v)
  |_=>uP P C h F o w λv=>k (w.set o.dst v)
 | .mapUpdate t m N x=>match o.dst with
  |none=>bif pR h m then Wr P C w t m N x k else AS P C w t m N x k
  |some _=>none
 | .insert t m N x=>match o.dst with
  |none=>bif pR h m then Wr P C w t m N x k else AS P C w t m N x k
  |some _=>none
 | .lookup t m N ok=>bif pR h m&& !ok then
   match o.dst with
   |some d=>Up P C w t m N d k
   |none=>none
  else uP P C h F o w λv=>k (w.set o.dst v)
 | .range t x=>match o.dst,P.underlying t,(bw P t w x).bind iH with
  |some d,some .string,some (.str s)=>k ((w.new d (.it s 0)).set (some d) (.ptr d 0))
  |_,_,_=>none
 | .next x true=>match o.dst,bw P 0 w x with
  |some d,some (.ptr id 0)=>match w.ob id with
   |some (.it s pos)=>bif Nat.blt pos s.length then
     k (St.set { w with ob:=put w.ob id (some (.it s (pos+(Utf8.decode ⟨s.toArray⟩ pos).2))) } (some d) (.pv (.lQ [.bool true, .int .i64 pos, .int .i32 (Utf8.decode ⟨s.toArray⟩ pos).1])))
    else k (w.set (some d) (.pv (.lQ [.bool false])))
   |_=>none
  |_,_=>none
 | .assign _| .buildSlice _ _ _| .box _ _| .alloc _| .makeMap _ _| .makeFunc _ _ _| .build _ _=>pI (step0 P h F o w) k
 |_=>uP P C h F o w λv=>k (w.set o.dst v)
noncomputable def stepT (P:Program) (C:lX) (h:Hint) (F:dW) (o:Oper) (l:St) (k:St->Option R):Option R:=pI (ny (DN h o) l) λl=>US P C h F o l k
def Xb (w:Array Oper) (o:Oper) (q:St) (k:Bool->St->Option R):Option R:=
 match o.guard with
 |none=>k true q
 |some (j,l)=>match(w[j]?).bind (·.dst) with
  |some d=>match q.env d with
   |some (.pv (.bool true))=>k l q
   |some (.pv (.bool false))=>k (!l) q
   |some .undef=>k false q
   |_=>none
  |none=>none
def guards (l:Array Oper) (i:Nat):Bool:=l.toList.any λo=>match o.guard,o.op with
 |some (j,_),_=>Nat.beq j i
 |none,_=>false
def Jz (b:Bool) (d:Option Nat) (l:St) (k:St->Option R):Option R:=
 bif b then
  match d with
  |some d=>match l.env d with
   |some (.pv (.bool t))=>bif t then k (l.set (some d) (.pv (.bool true))) else k (l.set (some d) (.pv (.bool false)))
   |_=>k l
  |none=>k l
 else k l
noncomputable def DU (P:Program) (C:lX) (h:Hint) (F:dW) (w:Array Oper):Nat->List Oper->St->(St->Option R)->Option R
 |_,[],q,k=>k q
 |i,o::l,q,k=>Xb w o q λb q=>bif b then stepT P C h F o q λq=>Jz (guards w i) o.dst q λq=>DU P C h F w (i+1) l q k
   else DU P C h F w (i+1) l (q.set o.dst .undef) k
noncomputable def w8 (P:Program) (C:lX) (h:Hint) (F:dW) (q:Array Oper):Nat->List Oper->List (Nat×fZ)->St->(St->Option R)->Option R
 |_,[],_,w,k=>k w
 |i,o::l,z,w,k=>Xb q o w λb w=>bif b then
    bif isF h w o&&(DN h o).isEmpty then
     uP P C h F o w λv=>bif wh q z i ((uO P h q o w).fill w (w.set o.dst v)) then
      Jz (guards q i) o.dst (w.set o.dst v) λB=>w8 P C h F q (i+1) l ((i,(uO P h q o w).fill w (w.set o.dst v))::z) B k else none
    else stepT P C h F o w λB=>bif wh q z i ((tG P h q o w).fill w B) then
      Jz (guards q i) o.dst B λD=>w8 P C h F q (i+1) l ((i,(tG P h q o w).fill w B)::z) D k else none
   else bif wh q z i ((sX q o).fill w (w.set o.dst .undef)) then w8 P C h F q (i+1) l ((i,(sX q o).fill w (w.set o.dst .undef))::z) (w.set o.dst .undef) k else none
@[irreducible] noncomputable def FH (P:Program) (h:Hint) (F:dW) (c:Code) (st:St) (k:Ex->St->Option R):Option R:=
 open Classical in if l : ∃ x n, exec P h F n (.loop c) st = some x then k l.choose.1 l.choose.2 else none
def seqK (q:St->(Ex->St->Option R)->Option R) (k:Ex->St->Option R):Ex->St->Option R:=λe l=>match e with
 | .normal=>q l k
 |e=>k e l
def SR (id:Nat) (k:Ex->St->Option R):Ex->St->Option R:=λe l=>match e with
 | .exit j=>bif Nat.beq j id then k .normal l else k (.exit j) l
 |e=>k e l
noncomputable def SD (P:Program) (h:Hint) (F:dW) (c:Code) (k:Ex->St->Option R):Ex->St->Option R:=λe l=>match e with
 | .normal=>FH P h F c (h.canon (dR c) l) k
 |e=>k e l
noncomputable def AY (C:lX):List Nat->St->(St->Option R)->Option R
 |[],w,k=>k w
 |id::l,w,k=>match w.ob id with
  |some (.mr I e z G L)=>bif wW id then
    SG (oQ L) λxs=>mpK C I e z (G,xs.map (.dH z)) λp=>AY C l { env:=λi=>(w.env i).map (SV.dK id (.mp p.1 p.2)),ob:=put (λi=>(w.ob i).map (Ob.dK id (.mp p.1 p.2))) id none } k
   else none
  |some (.rn e z q Q K xs N)=>bif wW id then
    SG (oQ N) λO=>NL C e (wC q K xs O) λB=>AY C l { env:=λi=>(w.env i).map (SV.dK id (.dH z B)),ob:=put (λi=>(w.ob i).map (Ob.dK id (.dH z B))) id none } k
   else none
  |_=>match w.Ja id with
   |some D=>AY C l D k
   |none=>none
noncomputable def acQ (C:lX) (h:Hint) (id:Nat) (q:St) (k:St->Option R):Option R:=
 match find h.nT id with
 |some l=>AY C l q k
 |none=>k q
noncomputable def nZ (P:Program) (C:lX) (h:Hint) (F:dW):Code->St->(Ex->St->Option R)->Option R
 | .skip,l,k=>k .normal l
 | .label _,l,k=>k .normal l
 | .region id q w,l,k=>acQ C h id l λl=>
  bif w then
   bif r5 0 q.toList then w8 P C h F q 0 q.toList [] (rB (wE q.toList) l) (k .normal) else none
  else DU P C h F q 0 q.toList l (k .normal)
 | .seq a b,l,k=>match find h.blk (dR a) with
  |some x=>check (x.1 l=true) (k (exOf (x.2 l).1) (x.2 l).2)
  |none=>nZ P C h F a l (seqK (nZ P C h F b) k)
 | .cond c a b,l,k=>match bw P 0 l c with
  |some (.pv (.bool t))=>bif t then nZ P C h F a l k else nZ P C h F b l k
  |_=>none
 | .block id c,l,k=>nZ P C h F c l (SR id k)
 | .loop c,l,k=>FH P h F c (h.canon (dR c) l) k
 | .exit id,l,k=>k (.exit id) l
 | .ret,l,k=>k .ret l
 | .scope c,l,k=>nZ P C h F c l k
 |_,_,_=>none
noncomputable def Dr (P:Program) (C:lX) (h:Hint) (F:dW) (key:Nat):Code->(Ex->St->Option R)->Option (Code×(Ex->St->Option R))
 | .seq a b,k=>match find h.blk (dR a) with
  |some _=>none
  |none=>match Dr P C h F key a (seqK (nZ P C h F b) k) with
   |some x=>some x
   |none=>Dr P C h F key b k
 | .cond _ a b,k=>match Dr P C h F key a k with
  |some x=>some x
  |none=>Dr P C h F key b k
 | .block id c,k=>Dr P C h F key c (SR id k)
 | .loop c,k=>bif Nat.beq (dR c) key then some (c,k) else Dr P C h F key c (SD P h F c k)
 | .scope c,k=>Dr P C h F key c k
 |_,_=>none
end
noncomputable def Zl (P:Program) (C:lX) (H:Nat->Hint) (eY:dW) (f:Nat) (args:List SV) (cE:List (Nat×Ob)):Option (AV×List (Nat×Ob)):=
 match P.funcs[f]? with
 |some fn=>match fn.body with
  |some c=>bif Nat.ble args.length fn.ntmps&&(cE.map (·.1)).all (λi=> !(wW i)) then nZ P C (H f) (run P H eY) c { env:=find (x6 0 args),ob:=find cE } (ZN P (H f).own fn (cE.map (·.1))) else none
  |none=>none
 |none=>none
noncomputable def pG (P:Program) (C:lX) (H:Nat->Hint) (eY:dW) (f key:Nat) (names:List Nat) (l:List (Nat×SV)) (w:List (Nat×Ob)):Option (AV×List (Nat×Ob)):=
 match P.funcs[f]? with
 |some fn=>match fn.body with
  |some c=>match Dr P C (H f) (run P H eY) key c (ZN P (H f).own fn names) with
   |some (q,k)=>FH P (H f) (run P H eY) q { env:=find l,ob:=find w } k
   |none=>none
  |none=>none
 |none=>none
noncomputable def UN (P:Program) (C:lX) (H:Nat->Hint) (eY:dW) (f key:Nat) (names:List Nat) (q:List (Nat×SV)) (w:List (Nat×Ob)):Option (AV×List (Nat×Ob)):=
 match P.funcs[f]? with
 |some fn=>match fn.body with
  |some c=>match Dr P C (H f) (run P H eY) key c (ZN P (H f).own fn names) with
   |some (l,k)=>nZ P C (H f) (run P H eY) l ((H f).canon (dR l) { env:=find q,ob:=find w }) (SD P (H f) (run P H eY) l k)
   |none=>none
  |none=>none
 |none=>none
section
variable {R:Type} {P:Program} {C:lX} {h:Hint} {F:dW}
def fk {q:Type} {c:Option q} {k:q->Option R} {r:R} (l:pI c k=some r):∃x,c=some x/\k x=some r:=by cases c with
 |none=>simp[pI] at l
 |some x=>exact⟨x,rfl,l⟩
def gi {p:Prop} [Decidable p] {x:Option R} {r:R} (l:check p x=some r):p/\x=some r:=by simp_all[check]
def La {q:Type} {xs:List q} {i:Int} {k:q->Option R} {r:R} (l:aV xs i k=some r):0<=i/\∃x,xs[i.toNat]? =some x/\k x=some r:=by
 unfold aV at l;split at l
 .rename_i w;split at l
  .rename_i x z;exact⟨w,x,z,l⟩
  .cases l
 .cases l
def Lc {q:Type} {xs:List q} {i:Nat} {k:q->Option R} {r:R} (l:dY xs i k=some r):∃x,xs[i]? =some x/\k x=some r:=by
 unfold dY at l;split at l
 .rename_i x w;exact⟨x,w,l⟩
 .cases l
def uJ {c:Option (AV×List (Nat×Ob))} {k:AV->Option R} {r:R} (l:wI c k=some r):∃x,c=some (x,[])/\k x=some r:=by
 unfold wI at l;split at l
 .rename_i x;exact⟨x,rfl,l⟩
 .cases l
def S5 {c:Option (AV×List (Nat×Ob))} {w e z:Nat} {k:AV->List (List AV)->Option R} {r:R} (l:Dc c w e z k=some r):∃x xs,c=some (x,[(w, .row e z xs)])/\k x xs=some r:=by
 unfold Dc at l;split at l
 .rename_i x I L K xs;replace l:=bU l;obtain⟨q,l⟩:=l;simp only[aI] at q;have B:=beq_iff.1 q.1.1;have D:=beq_iff.1 q.1.2;have G:=beq_iff.1 q.2;subst B D G;exact⟨x,xs,rfl,l⟩
 .cases l
def pX {q T:Type} {enc:T->q} {c:q} {k:T->Option R} {r:R} (l:rP enc c k=some r):∃d,enc d=c/\k d=some r:=by
 unfold rP at l;split at l
 .rename_i w;exact⟨_,w.choose_spec,l⟩
 .cases l
def BQ {e:TypeId} {c:List AV} {k:List AV->Option R} {r:R} (l:P7 C e c k=some r):k c=some r:=by
 unfold P7 at l;split at l
 .obtain⟨x,rfl,q⟩:=pX l;exact q
 .exact l
def sj {e:TypeId} {c:List (List AV)} {k:List (List AV)->Option R} {r:R} (l:NL C e c k=some r):k c=some r:=by
 unfold NL at l;split at l
 .obtain⟨x,rfl,q⟩:=pX l;exact q
 .exact l
def qH {g:Nat} {c:AV} {k:AV->Option R} {r:R} (l:KL C g c k=some r):k c=some r:=by
 unfold KL at l;split at l
 .obtain⟨x,rfl,q⟩:=pX l;omega
 omega
def YA {t:TypeId} {c:AV} {k:AV->Option R} {r:R} (l:valK C t c k=some r):k c=some r:=by
 unfold valK at l;split at l
 .obtain⟨x,rfl,q⟩:=pX l;omega
 omega
def EG {w q:TypeId} {c:List AV×List AV} {k:List AV×List AV->Option R} {r:R} (l:ab6 C w q c k=some r):k c=some r:=by
 unfold ab6 at l;split at l
 .obtain⟨x,rfl,z⟩:=pX l;omega
 omega
def Uj {x:Option (Option AV)} {k:AV->Option R} {z:Option R} {r:R} (l:Ll x k z=some r):(∃v,x=some (some v)/\k v=some r)\/(x=some none/\z=some r):=by
 unfold Ll at l;split at l
 .exact .inl ⟨_,rfl,l⟩
 .exact .inr ⟨rfl,l⟩
 .cases l
def LC {x:Option (List AV×List AV)} {k:List AV×List AV->Option R} {r:R} (l:UH x k=some r):∃p,x=some p/\k p=some r:=by
 unfold UH at l;split at l
 .exact⟨_,rfl,l⟩
 .cases l
def HI {c:Option (AV×List (Nat×Ob))} {k:AV->List (Nat×Ob)->Option R} {r:R} (q:vw c k=some r):∃x l,c=some (x,l)/\k x l=some r:=by
 unfold vw at q;split at q
 .exact⟨_,_,rfl,q⟩
 .cases q
def Ej {z:Nat} {l:List (Nat×Ob)} {k:Ob->List (Nat×Ob)->Option R} {r:R} (q:nU z l k=some r):∃o w,l=(z,o)::w/\k o w=some r:=by
 unfold nU at q;split at q
 .replace q:=bU q;obtain⟨B,q⟩:=q;have:=beq_iff.1 B;subst this;exact⟨_,_,rfl,q⟩
 .cases q
def Lr {l:List (Nat×Ob)} {k:Option R} {r:R} (q:Nj l k=some r):l=[]/\k=some r:=by
 unfold Nj at q;split at q
 .exact⟨rfl,q⟩
 .cases q
def Co {o q:Ob} {k:Option R} {r:R} (l:DW o q k=some r):o=q/\k=some r:=by
 unfold DW at l;split at l
 .exact⟨‹_›,l⟩
 .cases l
def SL {e w:Nat} {o:Ob} {k:List (List AV)->Option R} {r:R} (l:PA e w o k=some r):∃xs,o= .row e w xs/\k xs=some r:=by
 unfold PA at l;split at l
 .replace l:=bU l;obtain⟨q,l⟩:=l;simp only[aI] at q;have z:=beq_iff.1 q.1;have B:=beq_iff.1 q.2;subst z B;exact⟨_,rfl,l⟩
 .cases l
def SJ {z w:Nat} {o:Ob} {k:List AV×List AV->Option R} {r:R} (l:Pz z w o k=some r):∃p,o= .mp z w p.1 p.2/\k p=some r:=by
 unfold Pz at l;split at l
 .replace l:=bU l;obtain⟨q,l⟩:=l;simp only[aI] at q;have B:=beq_iff.1 q.1;have D:=beq_iff.1 q.2;grind
 simp_all
def XR {x:Option (Option Nat)} {k:Bool->Option R} {r:R} (l:hasK x k=some r):∃q,x=some q/\k q.isSome=some r:=by unfold hasK at l;grind
def PF {x:Option (List UInt8)} {k:List UInt8->Option R} {r:R} (l:SX x k=some r):∃b,x=some b/\k b=some r:=by unfold SX at l;grind
def U3 {x:Option (List (List AV)×List (Option (List (List AV))))} {k:List (List AV)->List (Option (List (List AV)))->Option R} {r:R} (l:ac0 x k=some r):∃p,x=some p/\k p.1 p.2=some r:=by
 unfold ac0 at l;split at l
 .exact⟨_,rfl,l⟩
 .cases l
def Jf {x:Option (List AV×List (Option (List (List AV))))} {k:List AV×List (Option (List (List AV)))->Option R} {r:R} (l:WC x k=some r):∃p,x=some p/\k p=some r:=by
 unfold WC at l;split at l
 .exact⟨_,rfl,l⟩
 .cases l
def Er {x:Option (List (List (List AV)))} {k:List (List (List AV))->Option R} {r:R} (q:SG x k=some r):∃l,x=some l/\k l=some r:=by
 unfold SG at q;split at q
 .exact⟨_,rfl,q⟩
 .cases q
def Lz {w:List (Option (List (List AV)))} {i:Nat} {k:List (List AV)->Option R} {r:R} (l:Rq w i k=some r):∃q,w[i]? =some (some q)/\k q=some r:=by
 unfold Rq at l;split at l
 .rename_i q h;exact⟨q,h,l⟩
 .cases l
def Ca {e:TypeId} {q:List (Option (List (List AV)))} {k:List (Option (List (List AV)))->Option R} {r:R} (l:Rh C e q k=some r):k q=some r:=by
 unfold Rh at l;split at l
 .obtain⟨x,rfl,w⟩:=pX l;exact w
 .exact l
def IN {w e:TypeId} {c:List AV×List (Option (List (List AV)))} {k:List AV×List (Option (List (List AV)))->Option R} {r:R} (l:mrK C w e c k=some r):k c=some r:=by
 unfold mrK at l;split at l
 .obtain⟨x,rfl,q⟩:=pX l;exact q
 .exact l
def acj {w e:TypeId} {z:Nat} {c:List AV×List AV} {k:List AV×List AV->Option R} {r:R} (l:mpK C w e z c k=some r):k c=some r:=by
 unfold mpK at l;split at l
 .obtain⟨x,rfl,q⟩:=pX l;exact q
 .exact l
def RV {o w:Ob} {k:Ob->Option R} {r:R} (l:UQ C o w k=some r):k w=some r:=by
 unfold UQ at l;split at l
 .obtain⟨xs,rfl,q⟩:=SL l;exact sj q
 .obtain⟨p,rfl,q⟩:=SJ l;exact EG q
 .unfold Zd at l;grind
 .obtain⟨rfl,q⟩:=Co l;omega
theorem Hy:∀{l:List SV} {q:List AV},lV l=some q->l=q.map .pv
 |[],q,h=>by simp_all[lV]
 |s::l,q,h=>by cases s with
  |pv v=>simp[lV,bY] at h;obtain⟨z,w,rfl⟩:=h;rw[Hy w];rfl
  |_=>simp[lV] at h
def Xp {o q:Ob} {k:Ob->Option R} {r:R} (l:boxK C o q k=some r):k q=some r:=by
 unfold boxK at l;split at l
 .unfold Vj at l;split at l
  .split at l
   .replace l:=bU l;obtain⟨w,l⟩:=l;have:=beq_iff.1 w;split at l
    .obtain⟨x,e,l⟩:=pX l;grind[Hy]
    simp_all
   simp_all
  simp_all
 simp_all
def yf {keep K:List Nat}:∀{l G:List (Nat×Ob)} {k:List (Nat×Ob)->Option R} {r:R},HW C keep K l G k=some r->k G=some r
 |[],G,k,r,q=>by simp only[HW] at q;obtain⟨rfl,L⟩:=Lr q;exact L
 |(B,o)::l,G,k,r,q=>by simp only[HW] at q;replace q:=Ej q;obtain⟨I,N,rfl,q⟩:=q;cases z:keep.contains B with
  |true=>rw[z] at q;obtain⟨e,q⟩:=Co q;subst e;exact yf (k:=λD=>k ((B,I)::D)) q
  |false=>
   rw[z] at q;simp only[az] at q;cases w:K.contains B with
   |true=>rw[w] at q;simp only[ai] at q;exact yf (k:=λD=>k ((B,I)::D)) (Xp q)
   |false=>
   rw[w] at q;simp only[az] at q;exact yf (k:=λD=>k ((B,I)::D)) (RV q)
def Ym {a:AV} {k:List AV->Option R} {r:R} (l:Yl a k=some r):∃q,a= .ref q/\k q=some r:=by
 unfold Yl at l;split at l
 .exact⟨_,rfl,l⟩
 .cases l
def P0 {a:AV} {k:AV->Option R} {r:R} (l:Tg C a k=some r):∃q,a= .ref q/\k (.ref q)=some r:=by
 unfold Tg at l;obtain⟨q,e,l⟩:=Ym l;refine⟨q,e,?_⟩;split at l
 .obtain⟨x,w,l⟩:=pX l;rw[<-w];exact l
 .exact l
def Be:∀{l w:List (Nat×Ob)} {k:Option R} {r:R},zw l w k=some r->w=l/\k=some r
 |[],w,k,r,q=>by simp only[zw] at q;obtain⟨e,K⟩:=Lr q;exact⟨e,K⟩
 |(N,o)::l,w,k,r,q=>by simp only[zw] at q;obtain⟨O,L,e1,D⟩:=Ej q;obtain⟨z,G⟩:=Co D;obtain⟨B,I⟩:=Be G;exact⟨by rw[e1,z,B],I⟩
def Me {z:St} {c:Call} {f:Operand} {k:AV->Option R} {r:R} (q:Md P C h F z c f k=some r):∃v,rY P h F z c f=some v/\k v=some r:=by
 unfold Md at q;split at q
 .rename_i g args G;obtain⟨I,q⟩:=bU q;split at q
  .rename_i cE K;obtain⟨x,l,L,q⟩:=HI q;obtain⟨e,B⟩:=Be q;subst e;obtain⟨w,D⟩:=bU (qH B);refine⟨x,?_,D⟩;simp only[rY,G,I,ai,K,L,DX,w,qK]
  .cases q
 .cases q
def mG {z:Option SV} {d w:Nat} {k:Nat->Option R} {r:R} (l:vW z d w k=some r):∃n,gW z d w=some n/\k n=some r:=by
 unfold vW at l;split at l
 .exact⟨d,rfl,l⟩
 .rename_i q i;obtain⟨B,D⟩:=gi l;exact⟨i.toNat,by simp[gW,B],D⟩
 .cases l
def Ug {B:St} {v:SV} {k:AV->Option R} {r:R} (w:ab5 C B v k=some r):∃x,me B v=some x/\k x=some r:=by
 unfold ab5 at w;split at w
 .rename_i id i;split at w
  .rename_i e L q D K xs N z;obtain⟨O,I,w⟩:=Lz w;exact⟨_,by simp only[me,z,I],sj w⟩
  .cases w
 .rename_i id;split at w
  .rename_i e L q D K xs N z;obtain⟨l,G,w⟩:=Er w;exact⟨_,by simp only[me,jQ,z,fH,Ob.val,G,cQ],sj w⟩
  .exact fk w
 .exact fk w
def Bn {z:St}:∀{xs:List Operand} {q:List TypeId} {k:List AV->Option R} {r:R},DA P C z xs q k=some r->∃w,jt P z xs q=some w/\k w=some r
 |[],_,k,r,l=>⟨[],rfl,l⟩
 |x::xs,q,k,r,l=>by
  simp[DA] at l;split at l
  .obtain⟨a,D,l⟩:=Ug l;obtain⟨w,B,l⟩:=Bn l;simp_all[jt]
  simp_all
def SC {q:St}:∀{xs:List Operand},xs.any (vV q)=true->xs.any (kI q)=true:=by intro xs h;obtain⟨x,w,l⟩:=mP.1 h;cases x with
 |tmp i=>simp[vV] at l;simp[kI];grind
 |_=>cases l
def Dv {o:Oper} {O:St} {k:SV->Option R} {r:R} (l:uP P C h F o O k=some r):∃v,eo P h F o O=some v/\k v=some r:=by
 unfold uP at l;split at l
 .rename_i c x y D;split at l
  .rename_i t I;cases t with
   |true=>obtain⟨v,B,w⟩:=fk l;exact⟨v,by simp[eo,eU,D,I,B],w⟩
   |false=>obtain⟨v,B,w⟩:=fk l;exact⟨v,by simp[eo,eU,D,I,B],w⟩
  .cases l
 .rename_i x D;split at l
  .rename_i a B;obtain⟨cs,rfl,w⟩:=P0 l;exact⟨_,by simp only[eo,eU,D,B],w⟩
  .obtain⟨v,hp,w⟩:=fk l;exact⟨v,by simp only[eo,D];exact hp,w⟩
 .rename_i t x ix D;split at l
  .rename_i n e L;obtain⟨v,B,w⟩:=fk l;exact⟨v,by simp[eo,eU,D,L,B],w⟩
  .rename_i hna;have hp:eo P h F o O=wN P O t x ix:=by
    simp only[eo,D,eU]
   rw[hp];split at l
   .rename_i e s sz xs q i N B hi;replace l:=bU l;obtain⟨G,l⟩:=l;have:=beq_iff.1 G;subst this;obtain⟨h0,c,I,w⟩:=La l;exact⟨_,by simp[wN,N,B,hi,h0,I],BQ w⟩
   .rename_i e s id q i N B hi;split at l
    .rename_i e' sz xs K;replace l:=bU l;obtain⟨G,l⟩:=l;have:=beq_iff.1 G;subst this;obtain⟨I,w⟩:=gi l;exact⟨_,by simp[wN,N,B,hi,K,I],w⟩
    .rename_i e' sz _ _ _ xs _ K;replace l:=bU l;obtain⟨G,l⟩:=l;have:=beq_iff.1 G;subst this;obtain⟨I,w⟩:=gi l;exact⟨_,by simp[wN,N,B,hi,K,I],w⟩
    .cases l
   .rename_i e s id sz lo hi' q i N B hi;replace l:=bU l;obtain⟨G,l⟩:=l;have:=beq_iff.1 G;subst this;obtain⟨I,w⟩:=gi l;exact⟨_,by simp[wN,N,B,hi,I],w⟩
   .cases l
 .rename_i t x ix D;split at l
  .rename_i s q i L B hi;obtain⟨h0,b,G,w⟩:=La l;exact⟨_,by simp[eo,eU,D,L,B,hi,h0,G],w⟩
  .cases l
 .rename_i t x D;cases XY:o.dst.any h.take.contains with
  |true=>rw[XY] at l;cases l
  |false=>
  rw[XY] at l;simp only[az] at l;have hfp:eo P h F o O=eU P o O:=by simp only[eo,D,XY,az]
  rw[hfp];split at l
  .rename_i id sz i off B;split at l
   .rename_i e sz' xs K;replace l:=bU l;obtain⟨G,l⟩:=l;have:=beq_iff.1 G;subst this;obtain⟨c,I,l⟩:=Lc l;replace l:=BQ l;obtain⟨v,ht,w⟩:=fk l;exact⟨_,by simp[eU,D,B,K,I,ht],w⟩
   .rename_i e sz' q e' s' xs ys K;replace l:=bU l;obtain⟨G,l⟩:=l;simp only[aI] at G;obtain⟨⟨b1,b2⟩,b3⟩:=G;have e1:=beq_iff.1 b1;have e2:=beq_iff.1 b2;have e3:CE P t=some false:=by simpa using b3
    subst e1 e2;obtain⟨I,w⟩:=gi l;exact⟨_,by simp[eU,D,B,K,I,e3],w⟩
   .cases l
  .obtain⟨v,ht,w⟩:=fk l;exact⟨v,ht,w⟩
 .rename_i op t x y t' D;have V:pI (eU P o O) (λv=>k v)=some r->∃v,eo P h F o O=some v/\k v=some r:=λl=>by
   obtain⟨v,ht,w⟩:=fk l;exact⟨v,by simp only[eo,D];exact ht,w⟩
  split at l
  .rename_i ka a kb b B hy;split at l
   .replace l:=bU l;obtain⟨G,l⟩:=l;have w:ka=kb:=by simpa using G
    subst w;obtain⟨I,w⟩:=gi l;exact⟨_,by simp[eo,eU,D,B,hy,bin,EE,I],w⟩
   .replace l:=bU l;obtain⟨G,l⟩:=l;have w:ka=kb:=by simpa using G
    subst w;obtain⟨I,w⟩:=gi l;exact⟨_,by simp[eo,eU,D,B,hy,bin,EE,I],w⟩
   .obtain⟨I,w⟩:=gi l
    have:¬b<0:=af
    exact⟨_,by simp[eo,eU,D,B,hy,bin,An,this],w⟩
   .obtain⟨I,w⟩:=gi l
    have:¬b<0:=af
    exact⟨_,by simp[eo,eU,D,B,hy,bin,An,this],w⟩
   .exact V l
  .rename_i a b B hy;split at l
   .obtain⟨I,w⟩:=gi l;exact⟨_,by simp[eo,eU,D,B,hy,bin,UT,I],w⟩
   .exact V l
  .exact V l
 .rename_i t x lo hi D;split at l
  .rename_i s lv hv' L B S Q;obtain⟨n,hn,l⟩:=mG l;obtain⟨m,hm,w⟩:=mG l;exact⟨_,by simp[eo,eU,D,L,B,S,Q,hn,hm],w⟩
  .rename_i e sz xs lv hv' L B S Q;split at l
   .rename_i e' s N;replace l:=bU l;obtain⟨G,l⟩:=l;have:=beq_iff.1 G;subst this;obtain⟨n,hn,l⟩:=mG l;obtain⟨m,hm,w⟩:=mG l;exact⟨_,by simp[eo,eU,D,L,B,S,Q,N,hn,hm],w⟩
   .cases l
  .rename_i e id lv hv' L B S Q;split at l
   .rename_i e' s e2 sz xs N K;replace l:=bU l;obtain⟨G,l⟩:=l;have:=beq_iff.1 G;subst this;obtain⟨n,hn,l⟩:=mG l;obtain⟨m,hm,w⟩:=mG l;exact⟨_,by simp[eo,eU,D,L,B,S,Q,N,K,hn,hm],w⟩
   .cases l
  .rename_i e id sz a b lv hv' L B S Q;split at l
   .rename_i e' s N;replace l:=bU l;obtain⟨G,l⟩:=l;have:=beq_iff.1 G;subst this;obtain⟨n,hn,l⟩:=mG l;obtain⟨m,hm,w⟩:=mG l;exact⟨_,by simp[eo,eU,D,L,B,S,Q,N,hn,hm],w⟩
   .cases l
  .cases l
 .rename_i t x hi mx D;split at l
  .rename_i id B;split at l
   .rename_i e2 sz xs e s ka va kb vb K N hh hm;replace l:=bU l;obtain⟨G,l⟩:=l;have:=beq_iff.1 G;subst this;obtain⟨I,w⟩:=gi l;exact⟨_,by simp only[eo,eU,D,VD,B,K,N,hh,hm];rw[au ⟨trivial,I⟩],w⟩
   .cases l
  .cases l
 .rename_i src dst x D;split at l
  .rename_i e L hd;split at l
   .rename_i xs he N B;obtain⟨b,G,w⟩:=PF l;exact⟨_,by simp[eo,eU,D,L,hd,he,N,B,G],w⟩
   .cases l
  .obtain⟨v,ht,w⟩:=fk l;exact⟨v,by simp only[eo,D];exact ht,w⟩
 .rename_i t x kx ok D;cases hrm:(pR h x&& !ok) with
  |true=>rw[hrm] at l;cases l
  |false=>
  rw[hrm] at l;simp only[az] at l;split at l
  .rename_i kt et L;split at l
   .rename_i ks key B w;obtain⟨hok,l⟩:=bU l;obtain⟨q,hq,l⟩:=XR l;exact⟨_,by simp only[eo,eU,D,hrm,az,L,B,w,hok,ai,hq,cQ],l⟩
   .rename_i hno;split at l
    .rename_i ks vs key B w;have hnk:(bw P t O x).bind (FI O)=none:=by
      cases hkk:(bw P t O x).bind (FI O) with
      |none=>rfl
      |some ks'=>exact(hno ks' key hkk w).elim
     obtain⟨hok,l⟩:=bU l;rcases Uj l with⟨v,hg,l⟩|⟨hg,l⟩
     .exact⟨_,by simp only[eo,eU,D,hrm,az,L,hnk,B,w,hok,ai,hg],YA l⟩
     .obtain⟨z,hz,l⟩:=fk l;exact⟨_,by simp only[eo,eU,D,hrm,az,L,hnk,B,w,hok,ai,hg,hz,cQ],l⟩
    .cases l
  .cases l
 .rename_i c D;split at l
  .rename_i f I;cases how:o.dst.any h.owns.contains with
   |true=>rw[how] at l;cases l
   |false=>
   rw[how] at l;simp only[az] at l;cases hro:(o.dst.any h.stay.contains&&wide O c f) with
   |true=>rw[hro] at l;simp only[ai] at l;obtain⟨v,B,w⟩:=Me l;refine⟨.pv v,?_,w⟩;simp only[eo,D,I];rw[how,hro,B];rfl
   |false=>
   rw[hro] at l;simp only[az] at l;cases U:(wide O c f||c.args.toList.any (λx=>(oq h O x).isSome)) with
   |true=>rw[U] at l;cases l
   |false=>
   rw[U] at l;simp only[az] at l;cases hag:c.args.toList.any (vV O) with
   |true=>
    rw[hag] at l;simp only[ai] at l;have ME:=SC hag;split at l
    .rename_i g caps hf;obtain⟨vs,hvs,l⟩:=Bn l;obtain⟨r',B,l⟩:=uJ l;obtain⟨hp,w⟩:=bU (qH l);refine⟨.pv r',?_,w⟩;rw[aI] at hp;simp only[eo,D,I,hf,hvs,B];rw[how,hro,U];simp only[az,ME,hp.1,hp.2,gA,iJ,qK,ai]
    .cases l
   |false=>
   rw[hag] at l;simp only[az] at l;split at l
   .rename_i g caps vs hf hvs;obtain⟨r',B,l⟩:=uJ l;obtain⟨G,w⟩:=bU (qH l);refine⟨.pv r',?_,w⟩;simp only[eo,D,I,hf,hvs,B];rw[how,hro,U,G];rfl
   .cases l
  .rename_i I;obtain⟨v,ht,w⟩:=fk l;refine⟨v,?_,w⟩;simp only[eo,D];exact ht
 .exact fk l
def yP {B:St} {t:TypeId} {m z x:Operand} {k:St->Option R} {r:R} (l:AS P C B t m z x k=some r):∃q,wS P B t m z x=some q/\k q=some r:=by
 unfold AS at l;split at l
 .rename_i kt U N;split at l
  .rename_i Q D;split at l
   .rename_i id key v K I O;split at l
    .rename_i k' S V vs w;obtain⟨G,l⟩:=bU l;obtain⟨p,L,l⟩:=LC l;replace l:=EG l;exact⟨_,by simp only[wS,N,D,K,I,O,w,G,ai,L],l⟩
    .cases l
   .cases l
  .cases l
 .cases l
def EF {B:St} {t:TypeId} {m z:Operand} {k:St->Option R} {r:R} (l:B6 P C B t m z k=some r):∃q,wR P B t m z=some q/\k q=some r:=by
 unfold B6 at l;split at l
 .rename_i S O L;split at l
  .rename_i id key I G;split at l
   .rename_i k' N Q U w;obtain⟨D,l⟩:=bU l;obtain⟨p,K,l⟩:=LC l;replace l:=EG l;exact⟨_,by simp only[wR,L,I,G,w,D,ai,K],l⟩
   .cases l
  .cases l
 .cases l
def Gm {I:St} {c:Call} {f:Operand} {d:Option Nat} {k:St->Option R} {r:R} (q:Ey P C h F I c f d k=some r):∃z,jy P h F I c f d=some z/\k z=some r:=by
 unfold Ey at q;split at q
 .rename_i g G U L D;simp only[] at q;replace q:=bU q;obtain⟨K,q⟩:=q;split at q
  .rename_i cE O;obtain⟨S,l,Q,q⟩:=HI q;replace q:=qH (yf q);split at q
   .rename_i back w;replace q:=bU q;obtain⟨B,N⟩:=q;refine⟨_,?_,N⟩;simp only[jy,L,D,K,ai,O,Q,w,B]
   .cases q
  .cases q
 .cases q
def FO {N:St} {t:TypeId} {m L x:Operand} {k:St->Option R} {r:R} (l:Wr P C N t m L x k=some r):∃B,Uo P N t m L x=some B/\k B=some r:=by
 unfold Wr at l;split at l
 .rename_i Q id key k' e sz ks vs w;split at l
  .split at l
   .rename_i O s V;replace l:=bU l;obtain⟨q,l⟩:=l;simp only[aI] at q;have e1:=beq_iff.1 q.1.1;have D:=beq_iff.1 q.1.2;have G:0<s:=by simpa[cC] using q.2
    obtain⟨p,K,l⟩:=Jf l;refine⟨_,?_,IN l⟩;simp only[Uo,w,V];rw[au ⟨e1,D,G⟩];simp only[K]
   .cases l
  .rename_i U;split at l
   .rename_i j z;split at l
    .rename_i O s xs I;replace l:=bU l;obtain⟨q,l⟩:=l;simp only[aI] at q;have e1:=beq_iff.1 q.1.1;have D:=beq_iff.1 q.1.2;have G:j<10000:=by simpa[cC] using q.2
     obtain⟨p,K,l⟩:=Jf l;refine⟨_,?_,IN l⟩;cases x with
     |tmp i=>simp only[Uo,w,z,I];rw[au ⟨e1,D,G⟩];simp only[K]
     |const v=>simp only[bw] at z;cases S:ofConst P Q v<;>simp[S] at z
     |func f=>simp[bw] at z
     |global g=>simp[bw] at z
    .cases l
   .cases l
 .cases l
def Nb {G:St} {t:TypeId} {m N:Operand} {d:Nat} {k:St->Option R} {r:R} (l:Up P C G t m N d k=some r):∃B,Lq P G t m N d=some B/\k B=some r:=by
 unfold Up at l;split at l
 .rename_i et id key k' e sz V vs z;cases w:Nat.beq id d with
  |true=>rw[w] at l;cases l
  |false=>
  rw[w] at l;simp only[az] at l;split at l
  .rename_i s0 e' s U S;replace l:=bU l;obtain⟨D,l⟩:=l;simp only[aI] at D;have e1:=beq_iff.1 D.1.1;have O:=beq_iff.1 D.1.2;have Q:0<s:=by simpa[cC] using D.2
   obtain⟨p,q,l⟩:=U3 l;replace l:=IN (sj l);obtain⟨_,_,_,_,K,_⟩:=zS z;unfold acm at q;split at q
   .rename_i i I;split at q
    .rename_i xs L;injection q with q;subst q;refine⟨_,?_,l⟩;simp only[Lq,z,w,az,I,L]
    .cases q
   .rename_i I;injection q with q;subst q;refine⟨_,?_,l⟩;simp only[Lq,z,w,az,I,U,S];rw[au ⟨e1,O,Q⟩]
    have:put G.ob id (some (.mr k' e sz V vs))=G.ob:=by
     funext i;by_cases e:id=i
     .subst e;rw[cr,K]
     .rw[br _ _ e]
    simp only[this]
   .cases q
  .cases l
 .cases l
def Kq {O:St} {c:Call} {f:Operand} {d:Option Nat} {k:St->Option R} {r:R} (q:HJ P C h F O c f d k=some r):∃B,kJ P h F O c f d=some B/\k B=some r:=by
 unfold HJ at q;split at q
 .rename_i d;split at q
  .rename_i g N V D w;obtain⟨x,L,q⟩:=uJ q;replace q:=qH q;split at q
   .cases I:(wU h d).isSome with
    |true=>rw[I] at q;cases q
    |false=>rw[I] at q w;exact⟨_,by simp only[kJ,I,D,w,L,az],q⟩
   .split at q
    .rename_i z;rw[z] at w;exact⟨_,by simp only[kJ,z,D,w,L],q⟩
    .rename_i l K z;split at q
     .rename_i S G;obtain⟨Q,q⟩:=bU q;rw[z] at w;cases l with
      |nil=>exact absurd rfl K
      |cons x0 U=>exact⟨_,by simp only[kJ,z,D,w,L,G,Q,ai],q⟩
     .cases q
    .cases q
   .cases q
  .cases q
 .cases q
def Kg {B:St} {t:TypeId} {x:Operand} {d:Nat} {k:St->Option R} {r:R} (l:Kf P C B t x d k=some r):∃w,vT P B t x d=some w/\k w=some r:=by
 unfold Kf at l;split at l
 .rename_i id U i N K D;split at l
  .rename_i e O q Q S xs V z;obtain⟨G,l⟩:=bU l;obtain⟨zs,L,l⟩:=Lz l;have I:=Ca (sj l);exact⟨_,by simp only[vT,K,D,z,L,G,ai],I⟩
  .cases l
 .cases l
def NB {z:St} {t:TypeId} {id B i q j:Nat} {k:St->Option R} {r:R} (l:UG P C z t id B i q j k=some r):∃w,FZ P z t id B i q j=some w/\k w=some r:=by
 unfold UG at l;split at l
 .obtain⟨I,l⟩:=bU l;obtain⟨D,l⟩:=gi l;have K:=Ca l;unfold FZ;have G :=cC.mpr D;grind
 simp_all
def NU {o:Oper} {S:St} {k:St->Option R} {r:R} (w:US P C h F o S k=some r):∃B,step0 P h F o S=some B/\k B=some r:=by
 have ofF:(uP P C h F o S λv=>k (S.set o.dst v))=some r->∃B,step0 P h F o S=some B/\k B=some r:=λw=>by obtain⟨v,N,K⟩:=Dv w;exact⟨_,by simp only[step0,N],K⟩
 unfold US at w;split at w
 .rename_i t l c G;have N:eo P h F o S=none:=by simp[eo,eU,G]
  split at w
  .rename_i d e s kl l' kc c' D hs hl hc;split at w
   .rename_i z i hz hi;replace w:=bU w;obtain⟨V,w⟩:=w;simp only[aI] at V;obtain⟨I,K⟩:=gi w;have h1:0<s:=by simpa[cC] using V.1
    have h2:z.length=s:=beq_iff.1 V.2;exact⟨_,by simp only[step0,N,mC,D,G,hs,hl,hc,hz,hi];rw[au ⟨h1,h2,I⟩],K⟩
   .cases w
  .cases w
 .rename_i t x y G;have N:eo P h F o S=none:=by simp[eo,eU,G]
  split at w
  .rename_i id sz i off v D U hy;split at w
   .rename_i e sz' xs n O hsz;replace w:=bU w;obtain⟨V,w⟩:=w;simp only[aI] at V;have h1:=beq_iff.1 V.1.1;subst h1;have h2:=beq_iff.1 V.1.2;obtain⟨c,hc,w⟩:=Lc w;replace w:=bU (BQ w);obtain⟨hle,K⟩:=w;refine⟨_,?_,K⟩;simp only[step0,N,mC,D,G,U,hy,storeAt,O,hsz,hc];rw[au ⟨trivial,h2,di hle,V.2⟩]
   .cases w
  .rename_i id sz i off j D U hy;obtain⟨B,hs,K⟩:=NB w;exact⟨B,by simp only[step0,N,mC,D,G,U,hy];exact hs,K⟩
  .rename_i id off j sz n D U hy;obtain⟨B,hs,K⟩:=fk w;exact⟨B,by simp only[step0,N,mC,D,G,U,hy];exact hs,K⟩
  .rename_i a v hn1 hn2 hn3 D U hy;obtain⟨B,hs,K⟩:=fk w;refine⟨B,?_,K⟩
   have:mC P h F o S=storeAt P t S a v:=by simp only[mC,D,G,U,hy]
   simp only[step0,N];rw[this];exact hs
  .cases w
 .rename_i t x G;cases XY:o.dst.any h.take.contains with
  |false=>rw[XY] at w;exact ofF w
  |true=>
   rw[XY] at w;simp only[ai] at w;split at w
   .rename_i d D;rw[D] at XY;simp only[xA] at XY;obtain⟨B,hs,K⟩:=Kg w;refine⟨B,?_,K⟩;have N:eo P h F o S=none:=by simp only[eo,G,D,xA,XY,ai]
    simp only[step0,N,mC,G,D,XY,ai];exact hs
   .cases w
 .rename_i c G;split at w
  .rename_i hc;have N:eo P h F o S=none:=by
    simp only[eo,G,hc,wX]
   split at w
   .rename_i d x y t t' D L Ba;split at w
    .rename_i e s id sy hs U hy;split at w
     .rename_i e' sz xs sz' ys i O hel hi;replace w:=bU w;obtain⟨V,w⟩:=w;simp only[aI] at V;obtain⟨⟨⟨⟨⟨⟨b1,b2⟩,b3⟩,b4⟩,b5⟩,b6⟩,b7⟩:=V;have e1:=beq_iff.1 b1;have e2:=beq_iff.1 b2;have e3:=beq_iff.1 b3;have e4:=beq_iff.1 b4;have e5:0<sz:=by simpa[cC] using b5
      have e6:i.zero.map (λz=>z.cells.size)=some sz:=by simpa using b6
      obtain⟨I,K⟩:=gi w;refine⟨_,?_,K⟩;simp only[step0,N,mC,G,hc,D,L,Ba,hs,U,hy,O,hel,hi];rw[au ⟨e1,e2,e3,e4,e5,I.1,I.2,e6,b7⟩]
     .rename_i e' sz q e2x s2x xs zs sz' ys i O hel hi;replace w:=bU w;obtain⟨V,w⟩:=w;simp only[aI] at V;obtain⟨⟨⟨⟨⟨⟨⟨b1,b2⟩,b3⟩,b4⟩,b5⟩,b6⟩,b7⟩,b8⟩:=V;have e1:=beq_iff.1 b1;have e2:=beq_iff.1 b2;have e3:=beq_iff.1 b3;have e4:=beq_iff.1 b4;have e5:0<sz:=by simpa[cC] using b5
      have e6:i.zero.map (λz=>z.cells.size)=some sz:=by simpa using b6
      obtain⟨I,K⟩:=gi w;refine⟨_,?_,Ca K⟩;simp only[step0,N,mC,G,hc,D,L,Ba,hs,U,hy,O,hel,hi];rw[au ⟨e1,e2,e3,e4,e5,I.1,I.2,e6,b7,b8⟩]
     .cases w
    .rename_i e s id sy hs U hy;split at w
     .rename_i e' sz xs sz' ys i O hel hi;replace w:=bU w;obtain⟨V,w⟩:=w;simp only[aI,iy] at V;obtain⟨⟨⟨⟨⟨⟨⟨b1,b2⟩,b3⟩,b4⟩,b5⟩,b6⟩,b7⟩,b8⟩:=V;have e1:=beq_iff.1 b1;have e2:=beq_iff.1 b2;have e3:=beq_iff.1 b3;have e4:=beq_iff.1 b4;have e5:0<sz:=by simpa[cC] using b5
      have e6:i.zero.map (λz=>z.cells.size)=some sz:=by simpa using b6
      obtain⟨I,K⟩:=gi w;refine⟨_,?_,K⟩;simp only[step0,N,mC,G,hc,D,L,Ba,hs,U,hy,O,hel,hi];rw[au ⟨e1,e2,e3,e4,e5,I.1,I.2,e6,b7,b8⟩]
     .cases w
    .cases w
   .cases w
  .rename_i hc;have N:eo P h F o S=none:=by simp only[eo,G,hc,wX]
   split at w
   .rename_i m kx t ts D L Ba;obtain⟨B,h1,K⟩:=EF w;exact⟨B,by simp only[step0,N,mC,G,hc,D,L,Ba];exact h1,K⟩
   .cases w
  .rename_i hc;have N:eo P h F o S=none:=by simp only[eo,G,hc,wX]
   split at w
   .rename_i x t D L Ba;split at w
    .rename_i e s id sz lo hi hs U;split at w
     .rename_i e' sz' xs z O hz;replace w:=bU w;obtain⟨V,w⟩:=w;simp only[aI] at V;obtain⟨⟨⟨⟨b1,b2⟩,b3⟩,b4⟩,b5⟩:=V;have e1:=beq_iff.1 b1;have e2:=beq_iff.1 b2;have e3:=beq_iff.1 b3;have e4:=beq_iff.1 b4;have e5:0<sz:=by simpa[cC] using b5
      obtain⟨hle,K⟩:=gi w;refine⟨_,?_,K⟩;simp only[step0,N,mC,G,hc,D,L,Ba,hs,U,O,hz];rw[au ⟨e1,e2,e3,hle,e4,e5⟩]
     .cases w
    .cases w
   .cases w
  .rename_i f hc;cases how:o.dst.any h.owns.contains with
   |true=>
    rw[how] at w;simp only[ai] at w;have N:eo P h F o S=none:=by simp only[eo,G,hc,how,ai]
    obtain⟨B,h1,K⟩:=Kq w;exact⟨B,by simp only[step0,N];cases D:o.dst<;>(simp only[mC,G,hc,D];rw[D] at how;rw[how,<-D];exact h1),K⟩
   |false=>
   rw[how] at w;simp only[az] at w;have how0:∀d,o.dst=d->d.any h.owns.contains=false:=λd D=>D▸how
   cases hro:(o.dst.any h.stay.contains&&wide S c f) with
   |true=>rw[hro] at w;exact ofF w
   |false=>
   rw[hro] at w;simp only[az] at w;cases XZ:wide S c f with
   |true=>
    rw[XZ] at w;simp only[ai] at w;have N:eo P h F o S=none:=by simp only[eo,G,hc];rw[how,hro,XZ];rfl
    obtain⟨B,h1,K⟩:=Gm w;exact⟨B,by simp only[step0,N];cases D:o.dst<;>(simp only[mC,G,hc,D];rw[D] at hro how;rw[how,hro,XZ,<-D];exact h1),K⟩
   |false=>
   have hro0:∀(d:Option Nat),(d.any h.stay.contains&&false)=false:=λd=>by simp
   rw[XZ] at w;simp only[az] at w;cases MK:c.args.toList.any (λx=>(oq h S x).isSome) with
   |true=>
    rw[MK] at w;simp only[ai] at w;have N:eo P h F o S=none:=by simp only[eo,G,hc];rw[how,hro,MK];simp
    split at w
    .rename_i g caps vs id hfn hvs;split at w
     .rename_i e sz xs O;obtain⟨r',xs',U,w⟩:=S5 w;replace w:=sj (qH w);have hstep:∀st2,oS P h F S c f o.dst=some st2->step0 P h F o S=some st2:=λst2 h2=>by
       simp only[step0,N];cases D:o.dst<;>(simp only[mC,G,hc,D];rw[how0 _ D,XZ,MK,hro0];simp only[ai,az];rw[<-D];exact h2)
      split at w
      .rename_i n;replace w:=bU w;obtain⟨V,w⟩:=w;obtain⟨hn,K⟩:=gi w;refine⟨_,hstep _ ?_,K⟩;simp only[oS,hfn,hvs,O,U,beq_iff.2 (rfl:e=e),beq_iff.2 (rfl:sz=sz),beq_iff.2 (rfl:10000=10000),qK,ai,V,ig hn]
      .rename_i VJ;replace w:=bU w;obtain⟨V,K⟩:=w;refine⟨_,hstep _ ?_,K⟩;simp only[oS,hfn,hvs,O,U,beq_iff.2 (rfl:e=e),beq_iff.2 (rfl:sz=sz),beq_iff.2 (rfl:10000=10000),qK,ai,V]
     .cases w
    .cases w
   |false=>
   have href0:(wide S c f||c.args.toList.any (λx=>(oq h S x).isSome))=false:=by rw[XZ,MK];rfl
   rw[MK] at w;simp only[az] at w;cases hag:c.args.toList.any (vV S) with
   |true=>rw[hag] at w;exact ofF w
   |false=>
   rw[hag] at w;simp only[az] at w;cases ME:c.args.toList.any (kI S) with
   |true=>
    simp only[ME,ai] at w;split at w
    .rename_i g caps vs hfn hvs;obtain⟨r',U,w⟩:=uJ w;replace w:=qH w;cases hp:(r'.plain&&r'.kC) with
     |true=>simp only[hp,ai] at w;refine⟨_,?_,w⟩;rw[aI] at hp;simp only[step0,eo,G,hc];rw[how,hro,href0];simp only[hfn,hvs,U,hp.1,hp.2,Bool.true_or,Bool.or_true,gd,ai,az]
     |false=>
      simp only[hp,az] at w;split at w
      .rename_i st1 TC;split at w
       .rename_i g' caps' vs' hfn' aam;cases hrow:c.args.toList.any (kI st1) with
        |true=>rw[hrow] at w;cases w
        |false=>
         rw[hrow] at w;simp only[az] at w;obtain⟨r2,hx2,w⟩:=uJ w;replace w:=bU (qH w);obtain⟨VJ,w⟩:=w;refine⟨_,?_,w⟩;have N:eo P h F o S=none:=by simp only[eo,G,hc];rw[how,hro,href0];simp only[az,hfn,hvs,U,hp,ME,gA,xB,iJ]
         simp only[step0,N];cases D:o.dst<;>(simp only[mC,G,hc,D];rw[how0 _ D,XZ,MK,hro0];simp only[az,TC,hfn',aam,hx2,hrow,VJ,gA,xB])
       .cases w
      .cases w
    .cases w
   |false=>simp only[ME,az] at w;exact ofF w
  .exact ofF w
 .rename_i t m kx x G;split at w
  .rename_i D;cases Q:pR h m with
   |true=>rw[Q] at w;obtain⟨B,h1,K⟩:=FO w;exact⟨B,by simp only[step0,mC,eo,eU,G,D];rw[Q];exact h1,K⟩
   |false=>rw[Q] at w;obtain⟨B,h1,K⟩:=yP w;exact⟨B,by simp only[step0,mC,eo,eU,G,D];rw[Q];exact h1,K⟩
  .cases w
 .rename_i t m kx x G;split at w
  .rename_i D;cases Q:pR h m with
   |true=>rw[Q] at w;obtain⟨B,h1,K⟩:=FO w;exact⟨B,by simp only[step0,mC,eo,eU,G,D];rw[Q];exact h1,K⟩
   |false=>rw[Q] at w;obtain⟨B,h1,K⟩:=yP w;exact⟨B,by simp only[step0,mC,eo,eU,G,D];rw[Q];exact h1,K⟩
  .cases w
 .rename_i t m kx ok G;cases Q:(pR h m&& !ok) with
  |true=>
   rw[Q] at w;simp only[ai] at w;have hrm':=Q;simp only[aI,iy] at Q;obtain⟨hr1,rfl⟩:=Q;split at w
   .rename_i d D;obtain⟨B,h1,K⟩:=Nb w;refine⟨B,?_,K⟩;have N:eo P h F o S=none:=by simp only[eo,G];rw[hrm'];rfl
    simp only[step0,N,mC,G,D];rw[hr1];exact h1
   .cases w
  |false=>rw[Q] at w;exact ofF w
 .rename_i t x G;split at w
  .rename_i d s D hu U;refine⟨_,?_,w⟩;simp only[step0,mC,eo,eU,G,D,hu,U]
  .cases w
 .rename_i x G;split at w
  .rename_i d id D U;split at w
   .rename_i s pos O;have N:eo P h F o S=none:=by simp only[eo,eU,G]
    cases hp:Nat.blt pos s.length with
    |true=>
     rw[hp] at w;refine⟨_,?_,w⟩;have hp':pos<s.length:=by simpa[cC] using hp
     simp only[step0,N,mC,G,D,U,O];rw[au hp']
    |false=>
     rw[hp] at w;refine⟨_,?_,w⟩;have hp':¬pos<s.length:=λh=>by rw[<-cC] at h;rw[h] at hp;cases hp
     simp only[step0,N,mC,G,D,U,O];rw[aq hp']
   .cases w
  .cases w
 .exact fk w
 .exact fk w
 .exact fk w
 .exact fk w
 .exact fk w
 .exact fk w
 .exact fk w
 .exact ofF w
def Gd {o:Oper} {z:St} {k:St->Option R} {r:R} (q:stepT P C h F o z k=some r):∃l,step P h F o z=some l/\k l=some r:=by unfold stepT at q;obtain⟨I,B,q⟩:=fk q;obtain⟨w,D,G⟩:=NU q;exact⟨w,by simp only[step,B,fH,D],G⟩
def Gg {z:Array Oper} {o:Oper} {D:St} {k:Bool->St->Option R} {r:R} (q:Xb z o D k=some r):∃b,pz z o D=some b/\k b D=some r:=by
 unfold Xb at q;unfold pz;split at q
 .rename_i B;exact⟨true,by simp[B],q⟩
 .rename_i j l B
  (try simp only[B])
  split at q
  .rename_i d G
   (try simp only[G])
   split at q
   .rename_i w;exact⟨l,by simp[w],q⟩
   .rename_i w;exact⟨!l,by simp only[w];cases l<;>rfl,q⟩
   .rename_i w;exact⟨false,by simp[w],q⟩
   .cases q
  .cases q
def RT {l:St} {d:Nat} {v:SV} (w:l.env d=some v):l.set (some d) v=l:=by
 obtain⟨q,z⟩:=l;simp only[St.set,St.mk.injEq,fD];funext i;by_cases e:d=i
 .subst e;rw[cr];exact w.symm
 .rw[br _ _ e]
def yC {b:Bool} {d:Option Nat} {w:St} {k:St->Option R} {r:R} (l:Jz b d w k=some r):k w=some r:=by unfold Jz at l;cases b with
 |false=>exact l
 |true=>
  simp only[ai] at l;split at l
  .rename_i z;split at l
   .rename_i t q;cases t with
    |true=>simp only[ai] at l;rwa[RT q] at l
    |false=>simp only[az] at l;rwa[RT q] at l
   .exact l
  .exact l
def KM {w:Array Oper}:∀{l:List Oper} {i:Nat} {z:St} {k:St->Option R} {r:R},DU P C h F w i l z k=some r->∃s,pS P h F w l z=some s/\k s=some r:=by intro l;induction l with
 |nil=>intro i z k r q;exact⟨z,rfl,q⟩
 |cons o l I=>intro i z k r q;simp only[DU] at q;obtain⟨b,G,q⟩:=Gg q;cases b with
  |true=>simp only[ai] at q;obtain⟨L,K,q⟩:=Gd q;obtain⟨s,D,B⟩:=I (yC q);exact⟨s,by simp[pS,G,K,D],B⟩
  |false=>simp only[az] at q;obtain⟨s,D,B⟩:=I q;exact⟨s,by simp[pS,G,D],B⟩
def Jp {I:Array Oper}:∀{l:List Oper} {i:Nat} {w:List (Nat×fZ)} {z:St} {k:St->Option R} {r:R},w8 P C h F I i l w z k=some r->∃s,jI P h F I i l w z=some s/\k s=some r:=by intro l;induction l with
 |nil=>intro i w z k r q;exact⟨z,rfl,q⟩
 |cons o l N=>intro i w z k r q;simp only[w8] at q;replace q:=Gg q;obtain⟨b,L,q⟩:=q;cases b with
  |true=>simp only[ai] at q;cases K:(isF h z o&&(DN h o).isEmpty) with
   |true=>simp only[K,ai] at q;obtain⟨v,O,q⟩:=Dv q;obtain⟨B,q⟩:=bU q;obtain⟨s,G,D⟩:=N (yC q);exact⟨s,by simp only[jI,L,ai,K,O,B];exact G,D⟩
   |false=>simp only[K,az] at q;obtain⟨S,Q,q⟩:=Gd q;obtain⟨B,q⟩:=bU q;obtain⟨s,G,D⟩:=N (yC q);exact⟨s,by simp only[jI,L,ai,K,az,Q,B];exact G,D⟩
  |false=>simp only[az] at q;obtain⟨B,q⟩:=bU q;obtain⟨s,G,D⟩:=N q;exact⟨s,by simp only[jI,L,az,B,ai];exact G,D⟩
def Mv {D:Type} (m:Nat->Option D):∀(l:List Nat) (i:Nat),find (sH m l) i=if i∈l then m i else none:=by intro l;induction l with
 |nil=>intro i;simp[sH,find]
 |cons j l B=>intro i;simp only[sH];cases z:m j with
  |none=>
   simp only[B,aF];by_cases e:i=j
   .subst e;simp[z]
   .simp[e]
  |some v=>simp only[find];cases w:Nat.beq j i with
   |true=>have:=beq_iff.1 w;subst this;simp[z]
   |false=>
    have q:¬i=j:=λe=>by subst e;simp[beq_iff.2] at w
    simp only[az,B,aF,q,false_or]
def PR (h:Hint) (key:Nat) (l:St):h.canon key (h.canon key l)=h.canon key l:=by
 unfold Hint.canon;split
 .rename_i q w z;simp only[St.mk.injEq];constructor<;>(funext i;simp only[Mv];split<;>rfl)
 .rfl
def IA {key:Nat} {f:St->Option (Ex×St)} {n:Nat} {l:St}:iter h key f n (h.canon key l)=iter h key f n l:=by cases n with
 |zero=>rfl
 |succ n=>simp[iter,PR]
def X3 {c:Code} {n m:Nat} (G:n<=m) {key:Nat}:∀(q:Nat) {w:Nat} {B:St} {x:Ex×St},q<=w->iter h key (exec P h F n c) q B=some x->iter h key (exec P h F m c) w B=some x:=by intro q;induction q with
 |zero=>intro w B x _ l;simp[iter] at l
 |succ q K=>
  intro w B x N l;obtain⟨z,rfl⟩:∃z,w=z+1:=⟨w-1,af⟩
  simp only[iter] at l⊢;split at l
  .rename_i L I;rw[oU G I];exact K af l
  .rename_i D;rw[oU G l];obtain⟨e,s⟩:=x;cases e with
   |normal=>exact absurd l (D s)
   |exit j=>rfl
   |ret=>rfl
def wO {c:Code} {D:St} {k:Ex->St->Option R} {r:R}:FH P h F c D k=some r↔∃n e l,exec P h F n (.loop c) D=some (e,l)/\k e l=some r:=by
 constructor
 .intro z;unfold FH at z;split at z
  .rename_i B;obtain⟨n,w⟩:=B.choose_spec;exact⟨n,_,_,w,z⟩
  .cases z
 .rintro⟨n,e,l,w,I⟩;unfold FH;have B:∃x n,exec P h F n (.loop c) D=some x:=⟨(e,l),n,w⟩
  rw[jU B];obtain⟨m,K⟩:=B.choose_spec;have G:=oU (qO n m) w;have q:=oU (qP n m) K;rw[G] at q;injection q with q;rw[<-q];exact I
def sI:∀{l:List Nat} {K:St} {k:St->Option R} {r:R},AY C l K k=some r->∃z,yu l K=some z/\k z=some r
 |[],K,k,r,w=>⟨K,rfl,w⟩
 |id::l,K,k,r,w=>by
  simp only[AY] at w;split at w
  .rename_i kt e S V vs D;replace w:=bU w;obtain⟨B,w⟩:=w;obtain⟨xs,L,w⟩:=Er w;obtain⟨z,G,I⟩:=sI (acj w);refine⟨z,?_,I⟩;simp only[yu,St.Ja,St.dK,B,D,fH,Ob.val,L,cQ];exact G
  .rename_i e S q U s' xs ys D;replace w:=bU w;obtain⟨B,w⟩:=w;obtain⟨zs,N,w⟩:=Er w;obtain⟨z,G,I⟩:=sI (sj w);refine⟨z,?_,I⟩;simp only[yu,St.Ja,St.dK,B,D,fH,Ob.val,N,cQ];exact G
  .split at w
   .rename_i Q O;obtain⟨z,G,I⟩:=sI w;exact⟨z,by simp only[yu,O,fH];exact G,I⟩
   .cases w
def Ry {id:Nat} {B:St} {k:St->Option R} {r:R} (w:acQ C h id B k=some r):∃q,h.acP id B=some q/\k q=some r:=by
 unfold acQ at w;unfold Hint.acP;split at w
 .rename_i l z;rw[z];exact sI w
 .rename_i z;rw[z];exact⟨B,rfl,w⟩
def vB:∀(c:Code) {D:St} {k:Ex->St->Option R} {r:R},nZ P C h F c D k=some r->∃n e N,exec P h F n c D=some (e,N)/\k e N=some r:=by intro c;induction c with
 |skip=>intro D k r q;exact⟨0,_,_,rfl,q⟩
 |label l=>intro D k r q;exact⟨0,_,_,rfl,q⟩
 |exit id=>intro D k r q;exact⟨0,_,_,rfl,q⟩
 |ret=>intro D k r q;exact⟨0,_,_,rfl,q⟩
 |region id ops Q=>intro D k r q;simp only[nZ] at q;obtain⟨w,O,q⟩:=Ry q;cases Q with
  |true=>simp only[ai] at q;obtain⟨hs,q⟩:=bU q;obtain⟨s,V,I⟩:=Jp q;exact⟨0, .normal,s,by simp only[exec,O,fH,ai,hs,V,cQ],I⟩
  |false=>simp only[az] at q;obtain⟨s,V,I⟩:=KM q;exact⟨0, .normal,s,by simp[exec,O,V],I⟩
 |seq x y K L=>
  intro D k r q;simp only[nZ] at q;cases G:find h.blk (dR x) with
  |some z=>simp only[G] at q;obtain⟨hg,q⟩:=gi q;exact⟨0,_,_,by simp only[exec,G,hg,ai],q⟩
  |none=>
  simp only[G] at q;obtain⟨n,e,w,B,q⟩:=K q;cases e with
  |normal=>obtain⟨m,e2,st2,hy,I⟩:=L (show nZ P C h F y w k=some r from q);exact⟨max n m,e2,st2,by simp only[exec,G,oU (qO n m) B];exact oU (qP n m) hy,I⟩
  |exit id=>exact⟨n,_,w,by simp only[exec,G,B],q⟩
  |ret=>exact⟨n,_,w,by simp only[exec,G,B],q⟩
 |cond c x y K L=>
  intro D k r q;simp only[nZ] at q;split at q
  .rename_i t hc;cases t with
   |true=>obtain⟨n,e,w,B,I⟩:=K q;exact⟨n,e,w,by simp only[exec,hc,ai];exact B,I⟩
   |false=>obtain⟨n,e,w,B,I⟩:=L q;exact⟨n,e,w,by simp only[exec,hc,az];exact B,I⟩
  .cases q
 |block id c U=>intro D k r q;simp only[nZ] at q;obtain⟨n,e,w,B,q⟩:=U q;cases e with
  |normal=>exact⟨n,_,w,by simp only[exec,B],q⟩
  |ret=>exact⟨n,_,w,by simp only[exec,B],q⟩
  |exit j=>simp only[SR] at q;cases S:Nat.beq j id with
   |true=>simp only[S,ai] at q;exact⟨n, .normal,w,by simp only[exec,B,S,ai],q⟩
   |false=>simp only[S,az] at q;exact⟨n, .exit j,w,by simp only[exec,B,S,az],q⟩
 |loop c U=>intro D k r q;simp only[nZ] at q;obtain⟨n,e,N,B,I⟩:=wO.1 q;refine⟨n,e,N,?_,I⟩;simp only[exec] at B⊢;rwa[IA] at B
 |scope c U=>intro D k r q;simp only[nZ] at q;obtain⟨n,e,w,B,I⟩:=U q;exact⟨n,e,w,by simp only[exec];exact B,I⟩
 |rangeFunc f ps x y K L=>intro D k r q;simp[nZ] at q
 |goto l=>intro D k r q;simp[nZ] at q
 |refuse s=>intro D k r q;simp[nZ] at q
def QJ {c:Code} {G:St} {k:Ex->St->Option R} {r:R} (K:nZ P C h F c (h.canon (dR c) G) (SD P h F c k)=some r):FH P h F c G k=some r:=by obtain⟨n,e,l,z,q⟩:=vB c K;cases e with
 |normal=>obtain⟨m,I,B,D,w⟩:=wO.1 (show FH P h F c (h.canon (dR c) l) k=some r from q);simp only[exec,IA] at D;refine wO.2 ⟨max n m+1,I,B,?_,w⟩;simp only[exec,iter];rw[oU (show n<=max n m+1 by omega) z];exact X3 (show m<=max n m+1 by omega) m af D
 |exit j=>refine wO.2 ⟨n+1, .exit j,l,?_,q⟩;simp only[exec,iter];rw[oU (show n<=n+1 by omega) z]
 |ret=>refine wO.2 ⟨n+1, .ret,l,?_,q⟩;simp only[exec,iter];rw[oU (show n<=n+1 by omega) z]
end
section
variable {P:Program} {C:lX} {H:Nat->Hint} {eY:dW}
def mu {f:Nat} {args:List SV} {cE:List (Nat×Ob)} {r:AV×List (Nat×Ob)} (D:eY f args cE=none) (l:Zl P C H eY f args cE=some r):run P H eY f args cE=some r:=by
 unfold Zl at l;split at l
 .rename_i fn B;split at l
  .rename_i c q;obtain⟨w,l⟩:=bU l;obtain⟨n,e,I,G,z⟩:=vB c l;exact F6 D B q w G z
  .cases l
 .cases l
def kz {f key:Nat} {names:List Nat} {q:List (Nat×SV)} {w:List (Nat×Ob)} {r:AV×List (Nat×Ob)} (l:UN P C H eY f key names q w=some r):pG P C H eY f key names q w=some r:=by
 unfold UN at l;unfold pG;split at l
 .rename_i fn B
  (try simp only[B])
  split at l
  .rename_i c z
   (try simp only[z])
   split at l
   .rename_i G k D
    (try simp only[D])
    exact QJ l
   .cases l
  .cases l
 .cases l
end
section
variable {R:Type}
theorem bh {p:Prop} [Decidable p] (l:p) (x:Option R):check p x=x:=by unfold check;rw[au l]
def zK {l:Type} {xs:List l} {i:Int} {x:l} (q:0<=i) (w:xs[i.toNat]? =some x) (k:l->Option R):aV xs i k=k x:=by simp_all[aV]
def ew {l:Type} {xs:List l} {i:Nat} {x:l} (q:xs[i]? =some x) (k:l->Option R):aV xs (i:Int) k=k x:=zK af (by simpa using q) k
theorem gE {l:Type} {xs:List l} {i:Nat} {x:l} (q:xs[i]? =some x) (k:l->Option R):dY xs i k=k x:=by unfold dY;rw[q]
def Xs {c:Option (AV×List (Nat×Ob))} {r:AV} (l:c=some (r,[])) (k:AV->Option R):wI c k=k r:=by subst l;unfold wI;rfl
def Xt {c:Option (AV×List (Nat×Ob))} {l e q:Nat} {r:AV} {xs:List (List AV)} (w:c=some (r,[(l, .row e q xs)])) (k:AV->List (List AV)->Option R):Dc c l e q k=k r xs:=by subst w;unfold Dc;simp[beq_iff.2]
def asE_pos {q T:Type} {enc:T->q} (inj:∀a b,enc a=enc b->a=b) (d:T) (k:T->Option R):rP enc (enc d) k=k d:=by
 unfold rP;have l:∃x,enc x=enc d:=⟨d,rfl⟩
 rw[jU l,inj _ _ l.choose_spec]
end
