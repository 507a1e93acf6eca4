/- THE ABSTRACT MACHINE, TYPED. -/
import Derived.Test.YthppjmoncapdfaaGreatDoorAmFin
set_option linter.all false
namespace Go.AM
open Go.RowKit
structure zH where
 T:Type
 enc:T->List AV
structure n9 where
 T:Type
 enc:T->AV
def wB {q:Type 1}:List (Nat×q)->Nat->Option q
 |[],_=>none
 |(j,v)::l,i=>cond (Nat.beq j i) (some v) (wB l i)
structure jF where
 elem:TypeId->Option zH
 val:TypeId->Option n9
 res:Nat->Option n9
 ptr:Option zH:=none
def JK {T:Type} (enc:T->List AV):Option T->AV
 |some x=> .ref (enc x)
 |none=> .yB
def cw (K V:n9) (l:List (K.T×V.T)):List AV×List AV:=(l.map λp=>K.enc p.1,l.map λp=>V.enc p.2)
section
variable {R:Type}
@[irreducible] def check (p:Prop) [Decidable p] (x:Option R):Option R:=if p then x else none
@[irreducible] def bF {l:Type} (xs:List l) (i:Int) (k:l->Option R):Option R:=
 if 0<=i then match xs[i.toNat]? with
  |some x=>k x
  |none=>none
 else none
@[irreducible] def fm {l:Type} (xs:List l) (i:Nat) (k:l->Option R):Option R:=
 match xs[i]? with
 |some x=>k x
 |none=>none
@[irreducible] def r9 (c:Option (AV×List (Nat×Ob))) (k:AV->Option R):Option R:=
 match c with
 |some (r,[])=>k r
 |_=>none
@[irreducible] def Bx (c:Option (AV×List (Nat×Ob))) (z e sz:Nat) (k:AV->List (List AV)->Option R):Option R:=
 match c with
 |some (r,[(l, .row w q xs)])=>bif Nat.beq z l&&Nat.beq e w&&Nat.beq sz q then k r xs else none
 |_=>none
@[irreducible] def DK (x:Option (Option AV)) (k:AV->Option R) (z:Option R):Option R:=
 match x with
 |some (some v)=>k v
 |some none=>z
 |none=>none
@[irreducible] def KH (x:Option (List AV×List AV)) (k:List AV×List AV->Option R):Option R:=
 match x with
 |some p=>k p
 |none=>none
@[irreducible] noncomputable def oO {l T:Type} (enc:T->l) (c:l) (k:T->Option R):Option R:=
 open Classical in if q : ∃ d, enc d = c then k q.choose else none
@[irreducible] def q9 (c:Option (AV×List (Nat×Ob))) (k:AV->List (Nat×Ob)->Option R):Option R:=
 match c with
 |some (r,l)=>k r l
 |none=>none
@[irreducible] def kJ (w:Nat) (l:List (Nat×Ob)) (k:Ob->List (Nat×Ob)->Option R):Option R:=
 match l with
 |(q,o)::l=>bif Nat.beq w q then k o l else none
 |[]=>none
@[irreducible] def E4 (l:List (Nat×Ob)) (k:Option R):Option R:=
 match l with
 |[]=>k
 |_=>none
@[irreducible] noncomputable def yO (o o':Ob) (k:Option R):Option R:=open Classical in if o=o' then k else none
@[irreducible] def Gz (e sz:Nat) (o:Ob) (k:List (List AV)->Option R):Option R:=
 match o with
 | .row q l xs=>bif Nat.beq e q&&Nat.beq sz l then k xs else none
 |_=>none
@[irreducible] def Gy (z q:Nat) (o:Ob) (k:List AV×List AV->Option R):Option R:=
 match o with
 | .mp k' l w B=>bif Nat.beq z k'&&Nat.beq q l then k (w,B) else none
 |_=>none
@[irreducible] def N0 (o:Ob) (k:List AV->Option R):Option R:=
 match o with
 | .lp xs=>k xs
 |_=>none
@[irreducible] def Na (a:AV) (k:List AV->Option R):Option R:=
 match a with
 | .ref l=>k l
 |_=>none
@[irreducible] def Ue (x:Option (Option Nat)) (k:Bool->Option R):Option R:=
 match x with
 |some r=>k r.isSome
 |none=>none
@[irreducible] def Jp (x:Option (List UInt8)) (k:List UInt8->Option R):Option R:=
 match x with
 |some b=>k b
 |none=>none
def P6 (key:AV) (q:List AV) (l:List (Option (List (List AV)))):Option (List (List AV)×List (Option (List (List AV)))):=
 match lR key q with
 |some (some i)=>match l[i]? with
  |some (some xs)=>some (xs,l.set i none)
  |_=>none
 |some none=>some ([],l)
 |none=>none
@[irreducible] def QB (x:Option (List (List AV)×List (Option (List (List AV))))) (k:List (List AV)->List (Option (List (List AV)))->Option R):Option R:=
 match x with
 |some p=>k p.1 p.2
 |none=>none
@[irreducible] def L1 (x:Option (List AV×List (Option (List (List AV))))) (k:List AV×List (Option (List (List AV)))->Option R):Option R:=
 match x with
 |some p=>k p
 |none=>none
@[irreducible] def Jh (x:Option (List (List (List AV)))) (k:List (List (List AV))->Option R):Option R:=
 match x with
 |some l=>k l
 |none=>none
@[irreducible] def H9 (l:List (Option (List (List AV)))) (i:Nat) (k:List (List AV)->Option R):Option R:=
 match l[i]? with
 |some (some q)=>k q
 |_=>none
def BE (K:n9) (E:zH) (l:List (K.T×Option (List E.T))):List AV×List (Option (List (List AV))):=(l.map λp=>K.enc p.1,l.map λp=>p.2.map (List.map E.enc))
def lS {l:Type} (c:Option l) (k:l->Option R):Option R:=
 match c with
 |some r=>k r
 |none=>none
noncomputable def G9 (C:jF) (e:TypeId) (c:List AV) (k:List AV->Option R):Option R:=
 match C.elem e with
 |some d=>oO d.enc c λx=>k (d.enc x)
 |none=>k c
noncomputable def Fu (C:jF) (e:TypeId) (c:List (List AV)) (k:List (List AV)->Option R):Option R:=
 match C.elem e with
 |some d=>oO (List.map d.enc) c λx=>k (x.map d.enc)
 |none=>k c
noncomputable def U5 (C:jF) (t:TypeId) (c:AV) (k:AV->Option R):Option R:=
 match C.val t with
 |some d=>oO d.enc c λx=>k (d.enc x)
 |none=>k c
noncomputable def PU (C:jF) (w q:TypeId) (p:List AV×List AV) (k:List AV×List AV->Option R):Option R:=
 match C.val w,C.val q with
 |some K,some V=>oO (cw K V) p λl=>k (cw K V l)
 |_,_=>k p
noncomputable def WD (C:jF) (q e:TypeId) (p:List AV×List (Option (List (List AV)))) (k:List AV×List (Option (List (List AV)))->Option R):Option R:=
 match C.val q,C.elem e with
 |some K,some E=>oO (BE K E) p λl=>k (BE K E l)
 |_,_=>k p
noncomputable def HW (C:jF) (e:TypeId) (l:List (Option (List (List AV)))) (k:List (Option (List (List AV)))->Option R):Option R:=
 match C.elem e with
 |some d=>oO (List.map (Option.map (List.map d.enc))) l λy=>k (y.map (Option.map (List.map d.enc)))
 |none=>k l
noncomputable def mpK (C:jF) (w e:TypeId) (q:Nat) (p:List AV×List AV) (k:List AV×List AV->Option R):Option R:=
 match C.val w,C.elem e with
 |some K,some E=>oO (cw K ⟨List E.T,λx=> .c4 q (x.map E.enc)⟩) p λl=>k (cw K ⟨List E.T,λx=> .c4 q (x.map E.enc)⟩ l)
 |_,_=>k p
noncomputable def KQ (C:jF) (o l:Ob) (k:Ob->Option R):Option R:=
 match o with
 | .row e z _=>Gz e z l λxs=>Fu C e xs λxs=>k (.row e z xs)
 | .mp w q _ _=>Gy w q l λp=>PU C w q p λp=>k (.mp w q p.1 p.2)
 | .lp _=>N0 l λxs=>k (.lp xs)
 |o=>yO l o (k o)
@[irreducible] def SE (t:TypeId) (o:Ob) (k:List AV->Option R):Option R:=
 match o with
 | .box q cells=>match kF cells with
  |some l=>bif Nat.beq t q then k l else none
  |none=>none
 |_=>none
noncomputable def Tv (C:jF) (o q:Ob) (k:Ob->Option R):Option R:=
 match o with
 | .box t _=>SE t q λl=>match C.elem t with
  |some d=>oO d.enc l λx=>k (.box t ((d.enc x).map .pv))
  |none=>none
 |_=>none
noncomputable def BC (C:jF) (keep B:List Nat):List (Nat×Ob)->List (Nat×Ob)->(List (Nat×Ob)->Option R)->Option R
 |[],D,k=>E4 D (k [])
 |(w,o)::l,D,k=>kJ w D λG q=>bif keep.contains w then yO G o (BC C keep B l q λz=>k ((w,o)::z)) else bif B.contains w then Tv C o G λI=>BC C keep B l q λz=>k ((w,I)::z) else KQ C o G λI=>BC C keep B l q λz=>k ((w,I)::z)
noncomputable def Dk (C:jF) (g:Nat) (c:AV) (k:AV->Option R):Option R:=
 match C.res g with
 |some d=>oO d.enc c λx=>k (d.enc x)
 |none=>k c
noncomputable def JD (C:jF) (a:AV) (k:AV->Option R):Option R:=
 Na a λl=>match C.ptr with
  |some d=>oO d.enc l λx=>k (.ref (d.enc x))
  |none=>k (.ref l)
def rM (w:Option SV) (l:Nat) (q:Nat) (k:Nat->Option R):Option R:=
 match w with
 |none=>k l
 |some (.pv (.int _ i))=>check (0<=i/\i<=q) (k i.toNat)
 |some _=>none
noncomputable def uS:List (Nat×Ob)->List (Nat×Ob)->Option R->Option R
 |[],q,k=>E4 q k
 |(z,o)::l,q,k=>kJ z q λB w=>yO B o (uS l w k)
noncomputable def Em (P:Program) (C:jF) (h:Hint) (F:cr) (q:St) (c:Call) (f:Operand) (k:AV->Option R):Option R:=
 match pK P h q c f with
 |some (g,args)=>
  bif distinct (iN q args)&&Nat.blt (iN q args).length 10000&&args.all (SV.closed (iN q args)) then
   match jl q (iN q args) (mP (gy (iN q args))) (gy (iN q args)) with
   |some w=>q9 (F g (args.map (SV.pq (mP (gy (iN q args))))) w) λr l=>uS w l (Dk C g r λr=>bif r.iD then k r else none)
   |none=>none
  else none
 |none=>none
noncomputable def PS (C:jF) (w:St) (v:SV) (k:AV->Option R):Option R:=
 match v with
 | .aq id (.nr i)=>match w.ob id with
  |some (.rn _ _ _ G z _ B)=>H9 B i λD=>Fu C G D λD=>k (.c4 z D)
  |_=>none
 | .ag [.r id]=>match w.ob id with
  |some (.rn e I q _ z xs B)=>Jh (lD B) λl=>Fu C e (rX q z xs l) λm=>k (.agg [.c4 I m])
  |_=>lS (jI w v) k
 |v=>lS (jI w v) k
noncomputable def yy (P:Program) (C:jF) (q:St):List Operand->List TypeId->(List AV->Option R)->Option R
 |[],_,k=>k []
 |x::xs,w,k=>match aN P (w.headD 0) q x with
  |some v=>PS C q v λa=>yy P C q xs w.tail λl=>k (a::l)
  |none=>none
noncomputable def qF (P:Program) (C:jF) (h:Hint) (F:cr) (o:Oper) (w:St) (k:SV->Option R):Option R:=
 match o.op with
 | .pick c a b=>match aN P 0 w c with
  |some (.pv (.bool t))=>bif t then lS (aN P o.type w a) k else lS (aN P o.type w b) k
  |_=>none
 | .nilCheck x=>match aN P 0 w x with
  |some (.pv a)=>JD C a λa=>k (.pv a)
  |_=>lS (c8 P o w) k
 | .indexAddr t x Q=>match P.underlying t with
  |some (.array n e)=>lS (w6 P w n e x Q) k
  |_=>match isSlice P t,aN P t w x,aN P 0 w Q with
  |some (e,s),some (.pv (.c4 B xs)),some (.pv (.int _ i))=>bif Nat.beq s B then bF xs i λc=>G9 C e c λc=>k (.cp c) else none
  |some (_,s),some (.row id),some (.pv (.int _ i))=>match w.ob id with
   |some (.row _ B xs)=>bif Nat.beq s B then check (0<=i/\i.toNat<xs.length) (k (.rp id B i.toNat 0)) else none
   |some (.rn _ B _ _ _ xs _)=>bif Nat.beq s B then check (0<=i/\i.toNat<xs.length) (k (.rp id B i.toNat 0)) else none
   |_=>none
  |some (_,s),some (.sub id B G D),some (.pv (.int _ i))=>bif Nat.beq s B then check (0<=i/\i.toNat<D-G) (k (.rp id B (G+i.toNat) 0)) else none
  |_,_,_=>none
 | .index t x Q=>match P.underlying t,aN P t w x,aN P 0 w Q with
  |some .string,some (.pv (.str s)),some (.pv (.int _ i))=>bF s i λb=>k (.pv (.int .u8 b.toNat))
  |_,_,_=>none
 | .load t x=>bif o.dst.any h.take.contains then none else match aN P 0 w x with
  |some (.rp id B i N)=>match w.ob id with
   |some (.row e L xs)=>bif Nat.beq B L then fm xs i λc=>G9 C e c λc=>lS (fL P t (c.drop N)) λv=>k (.pv v) else none
   |some (.rn _ L q _ _ xs _)=>bif Nat.beq B L&&Nat.beq N q&&(xG P t==some false) then check (i<xs.length) (k (.aq id (.nr i))) else none
   |_=>none
  |_=>lS (c8 P o w) k
 | .binOp op t x y _=>match(aN P t w x).bind fP,(aN P t w y).bind fP with
  |some (.int K a),some (.int kb b)=>match op with
   | .quo=>bif K==kb then check (b≠0) (k (.pv (.int K (K.wrap (a.tdiv b))))) else none
   | .rem=>bif K==kb then check (b≠0) (k (.pv (.int K (a.tmod b)))) else none
   | .shl=>check (0<=b) (k (.pv (.int K (K.wrap (a *2^ min b.toNat K.bits)))))
   | .shr=>check (0<=b) (k (.pv (.int K (a.fdiv (2^ min b.toNat K.bits)))))
   |_=>lS (c8 P o w) k
  |some (.str a),some (.str b)=>match op with
   | .add=>check (a.length+b.length<=9223372036854775807) (k (.pv (.str (a++b))))
   |_=>lS (c8 P o w) k
  |_,_=>lS (c8 P o w) k
 | .slice t x G D none=>match P.underlying t,aN P t w x,j8 P w G,j8 P w D with
  |some .string,some (.pv (.str s)),some G,some D=>rM D s.length s.length λh=>rM G 0 h λl=>k (.pv (.str ((s.take h).drop l)))
  |some (.slice _),some (.pv (.c4 B xs)),some G,some D=>match isSlice P t with
   |some (_,s)=>bif Nat.beq s B then rM D xs.length xs.length λh=>rM G 0 h λl=>k (.pv (.c4 B ((xs.take h).drop l))) else none
   |none=>none
  |some (.slice _),some (.row id),some G,some D=>match isSlice P t,w.ob id with
   |some (_,s),some (.row _ B xs)=>bif Nat.beq s B then rM D xs.length xs.length λh=>rM G 0 h λl=>k (.sub id B l h) else none
   |_,_=>none
  |some (.slice _),some (.sub id B a b),some G,some D=>match isSlice P t with
   |some (_,s)=>bif Nat.beq s B then rM D (b-a) (b-a) λh=>rM G 0 h λl=>k (.sub id B (a+l) (a+h)) else none
   |none=>none
  |_,_,_,_=>none
 | .slice t x none (some D) (some mx)=>match aN P t w x with
  |some (.row id)=>match w.ob id,isSlice P t,aN P 0 w D,aN P 0 w mx with
   |some (.row _ B xs),some (_,s),some (.pv (.int _ a)),some (.pv (.int _ b))=>bif Nat.beq s B then check (a=(xs.length:Int)/\b=(xs.length:Int)) (k (.aq id .full)) else none
   |_,_,_,_=>none
  |_=>none
 | .convert src U x=>match P.underlying src,P.underlying U with
  |some (.slice e),some .string=>match P.underlying e,iO P e,(aN P src w x).bind (elems w) with
   |some (.int .u8),some 1,some (1,xs)=>Jp (bytesOf xs) λb=>k (.pv (.str b))
   |_,_,_=>none
  |_,_=>lS (c8 P o w) k
 | .lookup t x kx ok=>bif lW h x&& !ok then none else match P.underlying t with
  |some (.map S V)=>match(aN P t w x).bind (z8 w),(aN P S w kx).bind fP with
   |some W,some key=>bif ok&&gF P S key&&(lQ P V).isSome then Ue (lR key W) λb=>k (.two .any b) else none
   |_,_=>match(aN P t w x).bind (maps w),(aN P S w kx).bind fP with
   |some (W,O),some key=>bif gF P S key then DK (Kr key W O) (λv=>U5 C V v λv=>k (.pv (found ok v true))) (lS (lQ P V) λz=>k (.pv (found ok z false))) else none
   |_,_=>none
  |_=>none
 | .call c=>match c.callee with
  | .value f=>bif o.dst.any h.owns.contains then none else bif o.dst.any h.stay.contains&&wide w c f then Em P C h F w c f λr=>k (.pv r) else
   bif wide w c f||c.args.toList.any (λx=>(kR h w x).isSome) then none else
   bif c.args.toList.any (rK w) then
    match aN P 0 w f with
    |some (.pv (.fn g I))=>yy P C w c.args.toList c.argTypes.toList λO=>r9 (F g ((O++I).map .pv) []) λr=>Dk C g r λr=>bif r.plain&&r.iD then k (.pv r) else none
    |_=>none
   else
   match aN P 0 w f,gw P w c.args.toList c.argTypes.toList with
   |some (.pv (.fn g I)),some O=>r9 (F g ((O++I).map .pv) []) λr=>Dk C g r λr=>bif(!(c.args.toList.any (iJ w))||r.plain)&&r.iD then k (.pv r) else none
   |_,_=>none
  |_=>lS (sH P c w) k
 |_=>lS (cz P h F o w) k
noncomputable def vP (P:Program) (C:jF) (G:St) (t:TypeId) (m D x:Operand) (k:St->Option R):Option R:=
 match P.underlying t with
 |some (.map w q)=>match Kh P G q x with
  |some l=>match aN P t l m,(aN P w l D).bind fP,(aN P q l x).bind fP with
   |some (.row id),some key,some v=>match l.ob id with
    |some (.mp k' z B I)=>bif gF P w key&&v.Af then
      KH (xg key v B I) λp=>PU C w q p λp=>k { l with ob:=put l.ob id (some (.mp k' z p.1 p.2)) }
     else none
    |_=>none
   |_,_,_=>none
  |none=>none
 |_=>none
noncomputable def xd (P:Program) (C:jF) (l:St) (t:TypeId) (m D:Operand) (k:St->Option R):Option R:=
 match P.underlying t with
 |some (.map q z)=>match aN P t l m,(aN P q l D).bind fP with
  |some (.row id),some key=>match l.ob id with
   |some (.mp k' w B G)=>bif gF P q key then
     KH (UD key B G) λp=>PU C q z p λp=>k { l with ob:=put l.ob id (some (.mp k' w p.1 p.2)) }
    else none
   |_=>none
  |_,_=>none
 |_=>none
noncomputable def Kv (P:Program) (C:jF) (l:St) (t:TypeId) (m G:Operand) (d:Nat) (k:St->Option R):Option R:=
 match DN P l t m G with
 |some (z,id,key,k',e,q,B,I)=>bif Nat.beq id d then none else match lQ P z,isSlice P z with
  |some (.c4 _ []),some (D,s)=>bif Nat.beq e D&&Nat.beq s q&&Nat.blt 0 s then
    QB (P6 key B I) λxs w=>Fu C e xs λxs=>WD C k' e (B,w) λp=>k ((St.new { l with ob:=put l.ob id (some (.mr k' e q p.1 p.2)) } d (.row e q xs)).set (some d) (.row d))
   else none
  |_,_=>none
 |none=>none
noncomputable def LO (P:Program) (C:jF) (l:St) (t:TypeId) (m G x:Operand) (k:St->Option R):Option R:=
 match DN P l t m G with
 |some (z,id,key,k',e,q,B,D)=>match x with
  | .const (.slice none 0 0)=>match isSlice P z with
   |some (w,s)=>bif Nat.beq e w&&Nat.beq s q&&Nat.blt 0 s then
     L1 (xg key (some []) B D) λp=>WD C k' e p λp=>k { l with ob:=put l.ob id (some (.mr k' e q p.1 p.2)) }
    else none
   |none=>none
  |x=>match aN P z l x with
   |some (.row j)=>match l.ob j with
    |some (.row w s xs)=>bif Nat.beq e w&&Nat.beq s q&&Nat.blt j 10000 then
      L1 (xg key (some xs) B D) λp=>WD C k' e p λp=>k { (l.bX j) with ob:=put (l.bX j).ob id (some (.mr k' e q p.1 p.2)) }
     else none
    |_=>none
   |_=>none
 |none=>none
noncomputable def zc (P:Program) (C:jF) (h:Hint) (F:cr) (z:St) (c:Call) (f:Operand) (d:Option Nat) (k:St->Option R):Option R:=
 match(aN P 0 z f).bind RE,pz P h z c.args.toList c.argTypes.toList with
 |some (g,pre,B),some K=>
  let args:=pre++(K++B)
  let ids:=iz z 200 (args.flatMap SV.ids) [];let G:=jm (d.any h.stay.contains) z (lV args);let m:=gK G 0 ids;let names:=m.map (·.2);let I:=mP m
  bif distinct ids&&Nat.blt ids.length 10000&&args.all (SV.closed ids) then
   match jl z ids I m with
   |some q=>q9 (F g (args.map (SV.pq I)) q) λr l=>BC C ((m.filter λp=>h.keep.contains p.1).map (·.2)) ((m.filter λp=>h.bx.contains p.1).map (·.2)) q l λw=>Dk C g r λr=>match kG names (mP (swap m)) m w with
    |some back=>bif r.iD then
      let D:=iG (ids.filter G) z
      k (St.set { env:=D.env,ob:=λi=>(find back i).orElse λ_=>D.ob i } d (.pv r)) else none
    |none=>none
   |none=>none
  else none
 |_,_=>none
noncomputable def Bw (P:Program) (C:jF) (h:Hint) (F:cr) (w:St) (c:Call) (f:Operand) (d:Option Nat) (k:St->Option R):Option R:=
 match d with
 |some d=>match aN P 0 w f,nG P (sD h d).isSome w c.args.toList c.argTypes.toList with
  |some (.pv (.fn g q)),some G=>r9 (F g ((G++q).map .pv) []) λr=>Dk C (bif(sD h d).isSome then g+1000000 else g) r λr=>match r with
   | .jy [.jy [.self e, .c4 D xs]]=>bif(sD h d).isSome then none else k ((w.new d (.row e D xs)).set (some d) (.row d))
   | .agg z=>match sD h d with
    |some []=>k (w.set (some d) (.pv (.agg z)))
    |some l=>match oB z l with
     |some B=>bif l.all (λx=>Nat.blt x.1 10000) then k ((qj h.nest l w).set (some d) (.ag B)) else none
     |none=>none
    |none=>none
   |_=>none
  |_,_=>none
 |none=>none
noncomputable def CL (P:Program) (C:jF) (z:St) (t:TypeId) (x:Operand) (d:Nat) (k:St->Option R):Option R:=
 match aN P 0 z x,xG P t with
 |some (.rp id K i D),some false=>match z.ob id with
  |some (.rn e l q w I xs B)=>bif Nat.beq K l&&Nat.beq D q&& !(Nat.beq id d)&&Nat.blt id 10000 then
    H9 B i λG=>Fu C w G λG=>HW C w (B.set i none) λB=>k ((St.new { z with ob:=put z.ob id (some (.rn e l q w I xs B)) } d (.row w I G)).set (some d) (.row d))
   else none
  |_=>none
 |_,_=>none
noncomputable def KG (P:Program) (C:jF) (w:St) (t:TypeId) (id K i D j:Nat) (k:St->Option R):Option R:=
 match xG P t,iO P t,w.ob id,w.ob j with
 |some false,some 1,some (.rn e l q B G xs z),some (.row I s2 L)=>
  bif Nat.beq K l&&Nat.beq D q&&Nat.blt id 10000&&Nat.blt j 10000&&Nat.beq B I&&Nat.beq G s2&& !(Nat.beq id j) then
   check (i<z.length) (HW C B (z.set i (some L)) λz=>k { (w.bX j).bX (id+40000) with ob:=put ((w.bX j).bX (id+40000)).ob id (some (.rn e l q B G xs z)) })
  else none
 |_,_,_,_=>none
noncomputable def KS (P:Program) (C:jF) (h:Hint) (F:cr) (o:Oper) (w:St) (k:St->Option R):Option R:=
 match o.op with
 | .makeSlice t l c=>match o.dst,isSlice P t,(aN P 0 w l).bind fP,(aN P 0 w c).bind fP with
  |some d,some (e,s),some (.int _ l),some (.int _ c)=>match zeroCells P e,P.info? e with
   |some z,some i=>bif Nat.blt 0 s&&Nat.beq z.length s then check (0<=l/\l<=c/\i.bytes *c.toNat<=281474976710656/\c<=9223372036854775807)
     (k ((w.new d (.row e s (List.replicate l.toNat z))).set (some d) (.row d))) else none
   |_,_=>none
  |_,_,_,_=>none
 | .store t x y=>match o.dst,aN P 0 w x,aN P t w y with
  |none,some (.rp id B i G),some (.pv v)=>match w.ob id,iO P t with
   |some (.row e D xs),some n=>bif Nat.beq B D&&Nat.beq v.cells.length n&&v.Af then
     fm xs i λc=>G9 C e c λc=>bif Nat.ble (G+n) c.length then k { w with ob:=put w.ob id (some (.row e D (xs.set i (c.take G++v.cells++c.drop (G+n))))) } else none
    else none
   |_,_=>none
  |none,some (.rp id B i G),some (.row j)=>KG P C w t id B i G j k
  |none,some (.ptr id G),some (.sub j B 0 n)=>lS (Lj P w t id G j B n) k
  |none,some a,some v=>lS (storeAt P t w a v) k
  |_,_,_=>none
 | .load t x=>bif o.dst.any h.take.contains then
   match o.dst with
   |some d=>CL P C w t x d k
   |none=>none
  else qF P C h F o w λv=>k (w.set o.dst v)
 | .call c=>match c.callee with
  | .builtin .append=>match o.dst,c.args.toList,c.argTypes.toList with
   |some d,[x,y],[t,U]=>match isSlice P t,aN P t w x,aN P U w y with
    |some (e,s),some (.row id),some y=>match w.ob id,elems w y,P.info? e with
     |some (.row Q B xs),some (D,I),some i=>
      bif Nat.beq t U&&Nat.beq e Q&&Nat.beq s B&&Nat.beq B D&&Nat.blt 0 B&&(i.zero.map (λz=>z.cells.size)==some B)&&fN id then
       check ((xs.length+I.length) *i.bytes<=140737488355328/\xs.length+I.length<=4611686018427387904) (k ((w.new id (.row e B (xs++I))).set (some d) (.row id)))
      else none
     |some (.rn Q B q e2 s2 xs zs),some (D,I),some i=>
      bif Nat.beq t U&&Nat.beq e Q&&Nat.beq s B&&Nat.beq B D&&Nat.blt 0 B&&(i.zero.map (λz=>z.cells.size)==some B)&&fN id&&I.all (mu q) then
       check ((xs.length+I.length) *i.bytes<=140737488355328/\xs.length+I.length<=4611686018427387904) (HW C e2 (zs++I.map λ_=>some []) λzs=>k ((w.new id (.rn e B q e2 s2 (xs++I.map λc=>c.set q .hole) zs)).set (some d) (.row id)))
      else none
     |_,_,_=>none
    |some (e,s),some (.aq id .full),some y=>match w.ob id,elems w y,P.info? e with
     |some (.row Q B xs),some (D,I),some i=>
      bif Nat.beq t U&&Nat.beq e Q&&Nat.beq s B&&Nat.beq B D&&Nat.blt 0 B&&(i.zero.map (λz=>z.cells.size)==some B)&&fN id&& !I.isEmpty then
       check ((xs.length+I.length) *i.bytes<=140737488355328/\xs.length+I.length<=4611686018427387904) (k ((w.new id (.row e B (xs++I))).set (some d) (.row id)))
      else none
     |_,_,_=>none
    |_,_,_=>none
   |_,_,_=>none
  | .builtin .delete=>match o.dst,c.args.toList,c.argTypes.toList with
   |none,[m,N],t::_=>xd P C w t m N k
   |_,_,_=>none
  | .builtin .clear=>match o.dst,c.args.toList,c.argTypes.toList with
   |none,[x],[t]=>match isSlice P t,aN P t w x with
    |some (e,s),some (.sub id B lo V)=>match w.ob id,zeroCells P e with
     |some (.row Q D xs),some z=>bif Nat.beq s B&&Nat.beq B D&&Nat.beq z.length B&&Nat.beq e Q&&Nat.blt 0 B then
       check (V<=xs.length) (k { w with ob:=put w.ob id (some (.row Q D (xs.take lo++List.replicate (V-lo) z++xs.drop V))) }) else none
     |_,_=>none
    |_,_=>none
   |_,_,_=>none
  | .value f=>bif o.dst.any h.owns.contains then Bw P C h F w c f o.dst k else bif o.dst.any h.stay.contains&&wide w c f then qF P C h F o w λv=>k (w.set o.dst v) else bif wide w c f then zc P C h F w c f o.dst k else bif c.args.toList.any (λx=>(kR h w x).isSome) then
    match aN P 0 w f,vO P h w c.args.toList c.argTypes.toList with
    |some (.pv (.fn g K)),some (W,[id])=>match w.ob id with
     |some (.row e B xs)=>Bx (F g (W++K.map .pv) [(10000, .row e B xs)]) 10000 e B λr L=>Dk C g r λr=>Fu C e L λL=>match r with
       | .self n=>bif fN id then check (n<=L.length) (k ((w.new id (.row e B (L.take n))).set o.dst (.row id))) else none
       |r=>bif r.plain then k (St.set { w with ob:=put w.ob id (some (.row e B L)) } o.dst (.pv r)) else none
     |_=>none
    |_,_=>none
   else bif c.args.toList.any (rK w) then qF P C h F o w λv=>k (w.set o.dst v)
   else bif c.args.toList.any (iJ w) then
    match aN P 0 w f,gw P w c.args.toList c.argTypes.toList with
    |some (.pv (.fn g K)),some W=>r9 (F g ((W++K).map .pv) []) λr=>Dk C g r λr=>bif r.plain&&r.iD then k (w.set o.dst (.pv r)) else
      match jN.gi w c.args.toList with
      |some O=>match aN P 0 O f,gw P O c.args.toList c.argTypes.toList with
       |some (.pv (.fn g' S)),some vs'=>bif c.args.toList.any (iJ O) then none else r9 (F g' ((vs'++S).map .pv) []) λr=>Dk C g' r λr=>bif r.iD then k (O.set o.dst (.pv r)) else none
       |_,_=>none
      |none=>none
    |_,_=>none
   else qF P C h F o w λv=>k (w.set o.dst v)
  |_=>qF P C h F o w λv=>k (w.set o.dst v)
 | .mapUpdate t m N x=>match o.dst with
  |none=>bif lW h m then LO P C w t m N x k else vP P C w t m N x k
  |some _=>none
 | .insert t m N x=>match o.dst with
  |none=>bif lW h m then LO P C w t m N x k else vP P C w t m N x k
  |some _=>none
 | .lookup t m N ok=>bif lW h m&& !ok then
   match o.dst with
   |some d=>Kv P C w t m N d k
   |none=>none
  else qF P C h F o w λv=>k (w.set o.dst v)
 | .range t x=>match o.dst,P.underlying t,(aN P t w x).bind fP with
  |some d,some .string,some (.str s)=>k ((w.new d (.it s 0)).set (some d) (.ptr d 0))
  |_,_,_=>none
 | .next x true=>match o.dst,aN P 0 w x with
  |some d,some (.ptr id 0)=>match w.ob id with
   |some (.it s pos)=>bif Nat.blt pos s.length then
     k (St.set { w with ob:=put w.ob id (some (.it s (pos+(Utf8.decode ⟨s.toArray⟩ pos).2))) } (some d) (.pv (.jy [.bool true, .int .i64 pos, .int .i32 (Utf8.decode ⟨s.toArray⟩ pos).1])))
    else k (w.set (some d) (.pv (.jy [.bool false])))
   |_=>none
  |_,_=>none
 | .assign _| .buildSlice _ _ _| .box _ _| .alloc _| .makeMap _ _| .makeFunc _ _ _| .build _ _=>lS (step0 P h F o w) k
 |_=>qF P C h F o w λv=>k (w.set o.dst v)
noncomputable def stepT (P:Program) (C:jF) (h:Hint) (F:cr) (o:Oper) (l:St) (k:St->Option R):Option R:=lS (kn (yF h o) l) λl=>KS P C h F o l k
def Md (w:Array Oper) (o:Oper) (q:St) (k:Bool->St->Option R):Option R:=
 match o.guard with
 |none=>k true q
 |some (j,l)=>match(w[j]?).bind (·.dst) with
  |some d=>match q.env d with
   |some (.pv (.bool true))=>k l q
   |some (.pv (.bool false))=>k (!l) q
   |some .undef=>k false q
   |_=>none
  |none=>none
def guards (l:Array Oper) (i:Nat):Bool:=l.toList.any λo=>match o.guard,o.op with
 |some (j,_),_=>Nat.beq j i
 |none,_=>false
def Cs (b:Bool) (d:Option Nat) (l:St) (k:St->Option R):Option R:=
 bif b then
  match d with
  |some d=>match l.env d with
   |some (.pv (.bool t))=>bif t then k (l.set (some d) (.pv (.bool true))) else k (l.set (some d) (.pv (.bool false)))
   |_=>k l
  |none=>k l
 else k l
noncomputable def yM (P:Program) (C:jF) (h:Hint) (F:cr) (w:Array Oper):Nat->List Oper->St->(St->Option R)->Option R
 |_,[],q,k=>k q
 |i,o::l,q,k=>Md w o q λb q=>bif b then stepT P C h F o q λq=>Cs (guards w i) o.dst q λq=>yM P C h F w (i+1) l q k
   else yM P C h F w (i+1) l (q.set o.dst .undef) k
noncomputable def sM (P:Program) (C:jF) (h:Hint) (F:cr) (q:Array Oper):Nat->List Oper->List (Nat×ey)->St->(St->Option R)->Option R
 |_,[],_,w,k=>k w
 |i,o::l,z,w,k=>Md q o w λb w=>bif b then
    bif O1 h w o&&(yF h o).isEmpty then
     qF P C h F o w λv=>bif rR q z i ((qE P h q o w).fill w (w.set o.dst v)) then
      Cs (guards q i) o.dst (w.set o.dst v) λB=>sM P C h F q (i+1) l ((i,(qE P h q o w).fill w (w.set o.dst v))::z) B k else none
    else stepT P C h F o w λB=>bif rR q z i ((pS P h q o w).fill w B) then
      Cs (guards q i) o.dst B λD=>sM P C h F q (i+1) l ((i,(pS P h q o w).fill w B)::z) D k else none
   else bif rR q z i ((oR q o).fill w (w.set o.dst .undef)) then sM P C h F q (i+1) l ((i,(oR q o).fill w (w.set o.dst .undef))::z) (w.set o.dst .undef) k else none
@[irreducible] noncomputable def z7 (P:Program) (h:Hint) (F:cr) (c:Code) (st:St) (k:Ex->St->Option R):Option R:=
 open Classical in if l : ∃ x n, exec P h F n (.loop c) st = some x then k l.choose.1 l.choose.2 else none
def WT (q:St->(Ex->St->Option R)->Option R) (k:Ex->St->Option R):Ex->St->Option R:=λe l=>match e with
 | .normal=>q l k
 |e=>k e l
def Jn (id:Nat) (k:Ex->St->Option R):Ex->St->Option R:=λe l=>match e with
 | .exit j=>bif Nat.beq j id then k .normal l else k (.exit j) l
 |e=>k e l
noncomputable def Je (P:Program) (h:Hint) (F:cr) (c:Code) (k:Ex->St->Option R):Ex->St->Option R:=λe l=>match e with
 | .normal=>z7 P h F c (h.canon (b9 c) l) k
 |e=>k e l
noncomputable def vS (C:jF):List Nat->St->(St->Option R)->Option R
 |[],w,k=>k w
 |id::l,w,k=>match w.ob id with
  |some (.mr I e z G L)=>bif sG id then
    Jh (lD L) λxs=>mpK C I e z (G,xs.map (.c4 z)) λp=>vS C l { env:=λi=>(w.env i).map (SV.bY id (.mp p.1 p.2)),ob:=put (λi=>(w.ob i).map (Ob.bY id (.mp p.1 p.2))) id none } k
   else none
  |some (.rn e z q Q K xs N)=>bif sG id then
    Jh (lD N) λO=>Fu C e (rX q K xs O) λB=>vS C l { env:=λi=>(w.env i).map (SV.bY id (.c4 z B)),ob:=put (λi=>(w.ob i).map (Ob.bY id (.c4 z B))) id none } k
   else none
  |_=>match w.Ca id with
   |some D=>vS C l D k
   |none=>none
noncomputable def Qu (C:jF) (h:Hint) (id:Nat) (q:St) (k:St->Option R):Option R:=
 match find h.kI id with
 |some l=>vS C l q k
 |none=>k q
noncomputable def kM (P:Program) (C:jF) (h:Hint) (F:cr):Code->St->(Ex->St->Option R)->Option R
 | .skip,l,k=>k .normal l
 | .label _,l,k=>k .normal l
 | .region id q w,l,k=>Qu C h id l λl=>
  bif w then
   bif om 0 q.toList then sM P C h F q 0 q.toList [] (nH (rZ q.toList) l) (k .normal) else none
  else yM P C h F q 0 q.toList l (k .normal)
 | .seq a b,l,k=>match find h.blk (b9 a) with
  |some x=>check (x.1 l=true) (k (TT (x.2 l).1) (x.2 l).2)
  |none=>kM P C h F a l (WT (kM P C h F b) k)
 | .cond c a b,l,k=>match aN P 0 l c with
  |some (.pv (.bool t))=>bif t then kM P C h F a l k else kM P C h F b l k
  |_=>none
 | .block id c,l,k=>kM P C h F c l (Jn id k)
 | .loop c,l,k=>z7 P h F c (h.canon (b9 c) l) k
 | .exit id,l,k=>k (.exit id) l
 | .ret,l,k=>k .ret l
 | .scope c,l,k=>kM P C h F c l k
 |_,_,_=>none
noncomputable def yl (P:Program) (C:jF) (h:Hint) (F:cr) (key:Nat):Code->(Ex->St->Option R)->Option (Code×(Ex->St->Option R))
 | .seq a b,k=>match find h.blk (b9 a) with
  |some _=>none
  |none=>match yl P C h F key a (WT (kM P C h F b) k) with
   |some x=>some x
   |none=>yl P C h F key b k
 | .cond _ a b,k=>match yl P C h F key a k with
  |some x=>some x
  |none=>yl P C h F key b k
 | .block id c,k=>yl P C h F key c (Jn id k)
 | .loop c,k=>bif Nat.beq (b9 c) key then some (c,k) else yl P C h F key c (Je P h F c k)
 | .scope c,k=>yl P C h F key c k
 |_,_=>none
end
noncomputable def N7 (P:Program) (C:jF) (H:Nat->Hint) (dm:cr) (f:Nat) (args:List SV) (l:List (Nat×Ob)):Option (AV×List (Nat×Ob)):=
 match P.funcs[f]? with
 |some fn=>match fn.body with
  |some c=>bif Nat.ble args.length fn.ntmps&&(l.map (·.1)).all (λi=> !(sG i)) then kM P C (H f) (run P H dm) c { env:=find (tI 0 args),ob:=find l } (Ou P (H f).own fn (l.map (·.1))) else none
  |none=>none
 |none=>none
noncomputable def mM (P:Program) (C:jF) (H:Nat->Hint) (dm:cr) (f key:Nat) (names:List Nat) (l:List (Nat×SV)) (w:List (Nat×Ob)):Option (AV×List (Nat×Ob)):=
 match P.funcs[f]? with
 |some fn=>match fn.body with
  |some c=>match yl P C (H f) (run P H dm) key c (Ou P (H f).own fn names) with
   |some (q,k)=>z7 P (H f) (run P H dm) q { env:=find l,ob:=find w } k
   |none=>none
  |none=>none
 |none=>none
noncomputable def KM (P:Program) (C:jF) (H:Nat->Hint) (dm:cr) (f key:Nat) (names:List Nat) (q:List (Nat×SV)) (w:List (Nat×Ob)):Option (AV×List (Nat×Ob)):=
 match P.funcs[f]? with
 |some fn=>match fn.body with
  |some c=>match yl P C (H f) (run P H dm) key c (Ou P (H f).own fn names) with
   |some (l,k)=>kM P C (H f) (run P H dm) l ((H f).canon (b9 l) { env:=find q,ob:=find w }) (Je P (H f) (run P H dm) l k)
   |none=>none
  |none=>none
 |none=>none
section
variable {R:Type} {P:Program} {C:jF} {h:Hint} {F:cr}
def dh {q:Type} {c:Option q} {k:q->Option R} {r:R} (l:lS c k=some r):∃x,c=some x/\k x=some r:=by cases c with
 |none=>simp[lS] at l
 |some x=>exact⟨x,rfl,l⟩
def ez {p:Prop} [Decidable p] {x:Option R} {r:R} (l:check p x=some r):p/\x=some r:=by simp_all[check]
def DA {q:Type} {xs:List q} {i:Int} {k:q->Option R} {r:R} (l:bF xs i k=some r):0<=i/\∃x,xs[i.toNat]? =some x/\k x=some r:=by
 unfold bF at l;split at l
 .rename_i w;split at l
  .rename_i x z;exact⟨w,x,z,l⟩
  .cases l
 .cases l
def DB {q:Type} {xs:List q} {i:Nat} {k:q->Option R} {r:R} (l:fm xs i k=some r):∃x,xs[i]? =some x/\k x=some r:=by
 unfold fm at l;split at l
 .rename_i x w;exact⟨x,w,l⟩
 .cases l
def qy {c:Option (AV×List (Nat×Ob))} {k:AV->Option R} {r:R} (l:r9 c k=some r):∃x,c=some (x,[])/\k x=some r:=by
 unfold r9 at l;split at l
 .rename_i x;exact⟨x,rfl,l⟩
 .cases l
def Jt {c:Option (AV×List (Nat×Ob))} {w e z:Nat} {k:AV->List (List AV)->Option R} {r:R} (l:Bx c w e z k=some r):∃x xs,c=some (x,[(w, .row e z xs)])/\k x xs=some r:=by
 unfold Bx at l;split at l
 .rename_i x I L K xs;replace l:=aZ l;obtain⟨q,l⟩:=l;simp only[aF] at q;have B:=beq_iff.1 q.1.1;have D:=beq_iff.1 q.1.2;have G:=beq_iff.1 q.2;subst B D G;exact⟨x,xs,rfl,l⟩
 .cases l
def mb {q T:Type} {enc:T->q} {c:q} {k:T->Option R} {r:R} (l:oO enc c k=some r):∃d,enc d=c/\k d=some r:=by
 unfold oO at l;split at l
 .rename_i w;exact⟨_,w.choose_spec,l⟩
 .cases l
def wY {e:TypeId} {c:List AV} {k:List AV->Option R} {r:R} (l:G9 C e c k=some r):k c=some r:=by
 unfold G9 at l;split at l
 .obtain⟨x,rfl,q⟩:=mb l;exact q
 .exact l
def ox {e:TypeId} {c:List (List AV)} {k:List (List AV)->Option R} {r:R} (l:Fu C e c k=some r):k c=some r:=by
 unfold Fu at l;split at l
 .obtain⟨x,rfl,q⟩:=mb l;exact q
 .exact l
def mQ {g:Nat} {c:AV} {k:AV->Option R} {r:R} (l:Dk C g c k=some r):k c=some r:=by
 unfold Dk at l;split at l
 .obtain⟨x,rfl,q⟩:=mb l;omega
 omega
def Nn {t:TypeId} {c:AV} {k:AV->Option R} {r:R} (l:U5 C t c k=some r):k c=some r:=by
 unfold U5 at l;split at l
 .obtain⟨x,rfl,q⟩:=mb l;omega
 omega
def zj {w q:TypeId} {c:List AV×List AV} {k:List AV×List AV->Option R} {r:R} (l:PU C w q c k=some r):k c=some r:=by
 unfold PU at l;split at l
 .obtain⟨x,rfl,z⟩:=mb l;omega
 omega
def Ko {x:Option (Option AV)} {k:AV->Option R} {z:Option R} {r:R} (l:DK x k z=some r):(∃v,x=some (some v)/\k v=some r)\/(x=some none/\z=some r):=by
 unfold DK at l;split at l
 .exact .inl ⟨_,rfl,l⟩
 .exact .inr ⟨rfl,l⟩
 .cases l
def DV {x:Option (List AV×List AV)} {k:List AV×List AV->Option R} {r:R} (l:KH x k=some r):∃p,x=some p/\k p=some r:=by
 unfold KH at l;split at l
 .exact⟨_,rfl,l⟩
 .cases l
def Bv {c:Option (AV×List (Nat×Ob))} {k:AV->List (Nat×Ob)->Option R} {r:R} (q:q9 c k=some r):∃x l,c=some (x,l)/\k x l=some r:=by
 unfold q9 at q;split at q
 .exact⟨_,_,rfl,q⟩
 .cases q
def yV {z:Nat} {l:List (Nat×Ob)} {k:Ob->List (Nat×Ob)->Option R} {r:R} (q:kJ z l k=some r):∃o w,l=(z,o)::w/\k o w=some r:=by
 unfold kJ at q;split at q
 .replace q:=aZ q;obtain⟨B,q⟩:=q;have:=beq_iff.1 B;subst this;exact⟨_,_,rfl,q⟩
 .cases q
def DP {l:List (Nat×Ob)} {k:Option R} {r:R} (q:E4 l k=some r):l=[]/\k=some r:=by
 unfold E4 at q;split at q
 .exact⟨rfl,q⟩
 .cases q
def xC {o q:Ob} {k:Option R} {r:R} (l:yO o q k=some r):o=q/\k=some r:=by
 unfold yO at l;split at l
 .exact⟨‹_›,l⟩
 .cases l
def Jk {e w:Nat} {o:Ob} {k:List (List AV)->Option R} {r:R} (l:Gz e w o k=some r):∃xs,o= .row e w xs/\k xs=some r:=by
 unfold Gz at l;split at l
 .replace l:=aZ l;obtain⟨q,l⟩:=l;simp only[aF] at q;have z:=beq_iff.1 q.1;have B:=beq_iff.1 q.2;subst z B;exact⟨_,rfl,l⟩
 .cases l
def Jj {z w:Nat} {o:Ob} {k:List AV×List AV->Option R} {r:R} (l:Gy z w o k=some r):∃p,o= .mp z w p.1 p.2/\k p=some r:=by
 unfold Gy at l;split at l
 .replace l:=aZ l;obtain⟨q,l⟩:=l;simp only[aF] at q;have B:=beq_iff.1 q.1;have D:=beq_iff.1 q.2;grind
 simp_all
def MK {x:Option (Option Nat)} {k:Bool->Option R} {r:R} (l:Ue x k=some r):∃q,x=some q/\k q.isSome=some r:=by unfold Ue at l;grind
def GH {x:Option (List UInt8)} {k:List UInt8->Option R} {r:R} (l:Jp x k=some r):∃b,x=some b/\k b=some r:=by unfold Jp at l;grind
def K0 {x:Option (List (List AV)×List (Option (List (List AV))))} {k:List (List AV)->List (Option (List (List AV)))->Option R} {r:R} (l:QB x k=some r):∃p,x=some p/\k p.1 p.2=some r:=by
 unfold QB at l;split at l
 .exact⟨_,rfl,l⟩
 .cases l
def Ce {x:Option (List AV×List (Option (List (List AV))))} {k:List AV×List (Option (List (List AV)))->Option R} {r:R} (l:L1 x k=some r):∃p,x=some p/\k p=some r:=by
 unfold L1 at l;split at l
 .exact⟨_,rfl,l⟩
 .cases l
def y8 {x:Option (List (List (List AV)))} {k:List (List (List AV))->Option R} {r:R} (q:Jh x k=some r):∃l,x=some l/\k l=some r:=by
 unfold Jh at q;split at q
 .exact⟨_,rfl,q⟩
 .cases q
def DS {w:List (Option (List (List AV)))} {i:Nat} {k:List (List AV)->Option R} {r:R} (l:H9 w i k=some r):∃q,w[i]? =some (some q)/\k q=some r:=by
 unfold H9 at l;split at l
 .rename_i q h;exact⟨q,h,l⟩
 .cases l
def xk {e:TypeId} {q:List (Option (List (List AV)))} {k:List (Option (List (List AV)))->Option R} {r:R} (l:HW C e q k=some r):k q=some r:=by
 unfold HW at l;split at l
 .obtain⟨x,rfl,w⟩:=mb l;exact w
 .exact l
def B0 {w e:TypeId} {c:List AV×List (Option (List (List AV)))} {k:List AV×List (Option (List (List AV)))->Option R} {r:R} (l:WD C w e c k=some r):k c=some r:=by
 unfold WD at l;split at l
 .obtain⟨x,rfl,q⟩:=mb l;exact q
 .exact l
def P4 {w e:TypeId} {z:Nat} {c:List AV×List AV} {k:List AV×List AV->Option R} {r:R} (l:mpK C w e z c k=some r):k c=some r:=by
 unfold mpK at l;split at l
 .obtain⟨x,rfl,q⟩:=mb l;exact q
 .exact l
def IM {o w:Ob} {k:Ob->Option R} {r:R} (l:KQ C o w k=some r):k w=some r:=by
 unfold KQ at l;split at l
 .obtain⟨xs,rfl,q⟩:=Jk l;exact ox q
 .obtain⟨p,rfl,q⟩:=Jj l;exact zj q
 .unfold N0 at l;grind
 .obtain⟨rfl,q⟩:=xC l;omega
theorem Bj:∀{l:List SV} {q:List AV},kF l=some q->l=q.map .pv
 |[],q,h=>by simp_all[kF]
 |s::l,q,h=>by cases s with
  |pv v=>simp[kF,bg] at h;obtain⟨z,w,rfl⟩:=h;rw[Bj w];rfl
  |_=>simp[kF] at h
def Mp {o q:Ob} {k:Ob->Option R} {r:R} (l:Tv C o q k=some r):k q=some r:=by
 unfold Tv at l;split at l
 .unfold SE at l;split at l
  .split at l
   .replace l:=aZ l;obtain⟨w,l⟩:=l;have:=beq_iff.1 w;split at l
    .obtain⟨x,e,l⟩:=mb l;grind[Bj]
    simp_all
   simp_all
  simp_all
 simp_all
def tM {keep K:List Nat}:∀{l G:List (Nat×Ob)} {k:List (Nat×Ob)->Option R} {r:R},BC C keep K l G k=some r->k G=some r
 |[],G,k,r,q=>by simp only[BC] at q;obtain⟨rfl,L⟩:=DP q;exact L
 |(B,o)::l,G,k,r,q=>by simp only[BC] at q;replace q:=yV q;obtain⟨I,N,rfl,q⟩:=q;cases z:keep.contains B with
  |true=>rw[z] at q;obtain⟨e,q⟩:=xC q;subst e;exact tM (k:=λD=>k ((B,I)::D)) q
  |false=>
   rw[z] at q;simp only[aj] at q;cases w:K.contains B with
   |true=>rw[w] at q;simp only[ai] at q;exact tM (k:=λD=>k ((B,I)::D)) (Mp q)
   |false=>
   rw[w] at q;simp only[aj] at q;exact tM (k:=λD=>k ((B,I)::D)) (IM q)
def Nb {a:AV} {k:List AV->Option R} {r:R} (l:Na a k=some r):∃q,a= .ref q/\k q=some r:=by
 unfold Na at l;split at l
 .exact⟨_,rfl,l⟩
 .cases l
def G4 {a:AV} {k:AV->Option R} {r:R} (l:JD C a k=some r):∃q,a= .ref q/\k (.ref q)=some r:=by
 unfold JD at l;obtain⟨q,e,l⟩:=Nb l;refine⟨q,e,?_⟩;split at l
 .obtain⟨x,w,l⟩:=mb l;rw[<-w];exact l
 .exact l
def wm:∀{l w:List (Nat×Ob)} {k:Option R} {r:R},uS l w k=some r->w=l/\k=some r
 |[],w,k,r,q=>by simp only[uS] at q;obtain⟨e,L⟩:=DP q;exact⟨e,L⟩
 |(O,o)::l,w,k,r,q=>by simp only[uS] at q;obtain⟨Q,N,z,G⟩:=yV q;obtain⟨B,I⟩:=xC G;obtain⟨D,K⟩:=wm I;exact⟨by rw[z,B,D],K⟩
def Eo {B:St} {c:Call} {f:Operand} {k:AV->Option R} {r:R} (q:Em P C h F B c f k=some r):∃v,og P h F B c f=some v/\k v=some r:=by
 unfold Em at q;split at q
 .rename_i g args I;obtain⟨K,q⟩:=aZ q;split at q
  .rename_i z L;obtain⟨x,l,N,q⟩:=Bv q;obtain⟨e,D⟩:=wm q;subst e;obtain⟨w,G⟩:=aZ (mQ D);refine⟨x,?_,G⟩;simp only[og,I,K,ai,L,N,yP,w,mW]
  .cases q
 .cases q
def jV {z:Option SV} {d w:Nat} {k:Nat->Option R} {r:R} (l:rM z d w k=some r):∃n,fq z d w=some n/\k n=some r:=by
 unfold rM at l;split at l
 .exact⟨d,rfl,l⟩
 .rename_i q i;obtain⟨B,D⟩:=ez l;exact⟨i.toNat,by simp[fq,B],D⟩
 .cases l
def Kk {B:St} {v:SV} {k:AV->Option R} {r:R} (w:PS C B v k=some r):∃x,jI B v=some x/\k x=some r:=by
 unfold PS at w;split at w
 .rename_i id i;split at w
  .rename_i e L q D K xs N z;obtain⟨O,I,w⟩:=DS w;exact⟨_,by simp only[jI,z,I],ox w⟩
  .cases w
 .rename_i id;split at w
  .rename_i e L q D K xs N z;obtain⟨l,G,w⟩:=y8 w;exact⟨_,by simp only[jI,gQ,z,dU,Ob.val,G,bW],ox w⟩
  .exact dh w
 .exact dh w
def wE {z:St}:∀{xs:List Operand} {q:List TypeId} {k:List AV->Option R} {r:R},yy P C z xs q k=some r->∃w,gw P z xs q=some w/\k w=some r
 |[],_,k,r,l=>⟨[],rfl,l⟩
 |x::xs,q,k,r,l=>by
  simp[yy] at l;split at l
  .obtain⟨a,D,l⟩:=Kk l;obtain⟨w,B,l⟩:=wE l;simp_all[gw]
  simp_all
def Jd {q:St}:∀{xs:List Operand},xs.any (rK q)=true->xs.any (iJ q)=true:=by intro xs h;obtain⟨x,w,l⟩:=List.any_eq_true.1 h;cases x with
 |tmp i=>simp[rK] at l;simp[iJ];grind
 |_=>cases l
def yq {o:Oper} {O:St} {k:SV->Option R} {r:R} (l:qF P C h F o O k=some r):∃v,cz P h F o O=some v/\k v=some r:=by
 unfold qF at l;split at l
 .rename_i c x y D;split at l
  .rename_i t I;cases t with
   |true=>obtain⟨v,B,w⟩:=dh l;exact⟨v,by simp[cz,c8,D,I,B],w⟩
   |false=>obtain⟨v,B,w⟩:=dh l;exact⟨v,by simp[cz,c8,D,I,B],w⟩
  .cases l
 .rename_i x D;split at l
  .rename_i a B;obtain⟨cs,rfl,w⟩:=G4 l;exact⟨_,by simp only[cz,c8,D,B],w⟩
  .obtain⟨v,hp,w⟩:=dh l;exact⟨v,by simp only[cz,D];exact hp,w⟩
 .rename_i t x ix D;split at l
  .rename_i n e L;obtain⟨v,B,w⟩:=dh l;exact⟨v,by simp[cz,c8,D,L,B],w⟩
  .rename_i hna;have hp:cz P h F o O=sk P O t x ix:=by
    simp only[cz,D,c8]
   rw[hp];split at l
   .rename_i e s sz xs q i N B hi;replace l:=aZ l;obtain⟨G,l⟩:=l;have:=beq_iff.1 G;subst this;obtain⟨h0,c,I,w⟩:=DA l;exact⟨_,by simp[sk,N,B,hi,h0,I],wY w⟩
   .rename_i e s id q i N B hi;split at l
    .rename_i e' sz xs K;replace l:=aZ l;obtain⟨G,l⟩:=l;have:=beq_iff.1 G;subst this;obtain⟨I,w⟩:=ez l;exact⟨_,by simp[sk,N,B,hi,K,I],w⟩
    .rename_i e' sz _ _ _ xs _ K;replace l:=aZ l;obtain⟨G,l⟩:=l;have:=beq_iff.1 G;subst this;obtain⟨I,w⟩:=ez l;exact⟨_,by simp[sk,N,B,hi,K,I],w⟩
    .cases l
   .rename_i e s id sz lo hi' q i N B hi;replace l:=aZ l;obtain⟨G,l⟩:=l;have:=beq_iff.1 G;subst this;obtain⟨I,w⟩:=ez l;exact⟨_,by simp[sk,N,B,hi,I],w⟩
   .cases l
 .rename_i t x ix D;split at l
  .rename_i s q i L B hi;obtain⟨h0,b,G,w⟩:=DA l;exact⟨_,by simp[cz,c8,D,L,B,hi,h0,G],w⟩
  .cases l
 .rename_i t x D;cases MR:o.dst.any h.take.contains with
  |true=>rw[MR] at l;cases l
  |false=>
  rw[MR] at l;simp only[aj] at l;have hfp:cz P h F o O=c8 P o O:=by simp only[cz,D,MR,aj]
  rw[hfp];split at l
  .rename_i id sz i off B;split at l
   .rename_i e sz' xs K;replace l:=aZ l;obtain⟨G,l⟩:=l;have:=beq_iff.1 G;subst this;obtain⟨c,I,l⟩:=DB l;replace l:=wY l;obtain⟨v,ht,w⟩:=dh l;exact⟨_,by simp[c8,D,B,K,I,ht],w⟩
   .rename_i e sz' q e' s' xs ys K;replace l:=aZ l;obtain⟨G,l⟩:=l;simp only[aF] at G;obtain⟨⟨b1,b2⟩,b3⟩:=G;have e1:=beq_iff.1 b1;have e2:=beq_iff.1 b2;have e3:xG P t=some false:=by simpa using b3
    subst e1 e2;obtain⟨I,w⟩:=ez l;exact⟨_,by simp[c8,D,B,K,I,e3],w⟩
   .cases l
  .obtain⟨v,ht,w⟩:=dh l;exact⟨v,ht,w⟩
 .rename_i op t x y t' D;have V:lS (c8 P o O) (λv=>k v)=some r->∃v,cz P h F o O=some v/\k v=some r:=λl=>by
   obtain⟨v,ht,w⟩:=dh l;exact⟨v,by simp only[cz,D];exact ht,w⟩
  split at l
  .rename_i ka a kb b B hy;split at l
   .replace l:=aZ l;obtain⟨G,l⟩:=l;have w:ka=kb:=by simpa using G
    subst w;obtain⟨I,w⟩:=ez l;exact⟨_,by simp[cz,c8,D,B,hy,bin,zg,I],w⟩
   .replace l:=aZ l;obtain⟨G,l⟩:=l;have w:ka=kb:=by simpa using G
    subst w;obtain⟨I,w⟩:=ez l;exact⟨_,by simp[cz,c8,D,B,hy,bin,zg,I],w⟩
   .obtain⟨I,w⟩:=ez l
    have:¬b<0:=af
    exact⟨_,by simp[cz,c8,D,B,hy,bin,vA,this],w⟩
   .obtain⟨I,w⟩:=ez l
    have:¬b<0:=af
    exact⟨_,by simp[cz,c8,D,B,hy,bin,vA,this],w⟩
   .exact V l
  .rename_i a b B hy;split at l
   .obtain⟨I,w⟩:=ez l;exact⟨_,by simp[cz,c8,D,B,hy,bin,KT,I],w⟩
   .exact V l
  .exact V l
 .rename_i t x lo hi D;split at l
  .rename_i s lv Vm L B S Q;obtain⟨n,hn,l⟩:=jV l;obtain⟨m,hm,w⟩:=jV l;exact⟨_,by simp[cz,c8,D,L,B,S,Q,hn,hm],w⟩
  .rename_i e sz xs lv Vm L B S Q;split at l
   .rename_i e' s N;replace l:=aZ l;obtain⟨G,l⟩:=l;have:=beq_iff.1 G;subst this;obtain⟨n,hn,l⟩:=jV l;obtain⟨m,hm,w⟩:=jV l;exact⟨_,by simp[cz,c8,D,L,B,S,Q,N,hn,hm],w⟩
   .cases l
  .rename_i e id lv Vm L B S Q;split at l
   .rename_i e' s e2 sz xs N K;replace l:=aZ l;obtain⟨G,l⟩:=l;have:=beq_iff.1 G;subst this;obtain⟨n,hn,l⟩:=jV l;obtain⟨m,hm,w⟩:=jV l;exact⟨_,by simp[cz,c8,D,L,B,S,Q,N,K,hn,hm],w⟩
   .cases l
  .rename_i e id sz a b lv Vm L B S Q;split at l
   .rename_i e' s N;replace l:=aZ l;obtain⟨G,l⟩:=l;have:=beq_iff.1 G;subst this;obtain⟨n,hn,l⟩:=jV l;obtain⟨m,hm,w⟩:=jV l;exact⟨_,by simp[cz,c8,D,L,B,S,Q,N,hn,hm],w⟩
   .cases l
  .cases l
 .rename_i t x hi mx D;split at l
  .rename_i id B;split at l
   .rename_i e2 sz xs e s ka va kb vb K N hh hm;replace l:=aZ l;obtain⟨G,l⟩:=l;have:=beq_iff.1 G;subst this;obtain⟨I,w⟩:=ez l;exact⟨_,by simp only[cz,c8,D,Ls,B,K,N,hh,hm];rw[ak ⟨trivial,I⟩],w⟩
   .cases l
  .cases l
 .rename_i src dst x D;split at l
  .rename_i e L hd;split at l
   .rename_i xs he N B;obtain⟨b,G,w⟩:=GH l;exact⟨_,by simp[cz,c8,D,L,hd,he,N,B,G],w⟩
   .cases l
  .obtain⟨v,ht,w⟩:=dh l;exact⟨v,by simp only[cz,D];exact ht,w⟩
 .rename_i t x kx ok D;cases W:(lW h x&& !ok) with
  |true=>rw[W] at l;cases l
  |false=>
  rw[W] at l;simp only[aj] at l;split at l
  .rename_i kt et L;split at l
   .rename_i ks key B w;obtain⟨hok,l⟩:=aZ l;obtain⟨q,hq,l⟩:=MK l;exact⟨_,by simp only[cz,c8,D,W,aj,L,B,w,hok,ai,hq,bW],l⟩
   .rename_i hno;split at l
    .rename_i ks vs key B w;have hnk:(aN P t O x).bind (z8 O)=none:=by
      cases hkk:(aN P t O x).bind (z8 O) with
      |none=>rfl
      |some ks'=>exact(hno ks' key hkk w).elim
     obtain⟨hok,l⟩:=aZ l;rcases Ko l with⟨v,hg,l⟩|⟨hg,l⟩
     .exact⟨_,by simp only[cz,c8,D,W,aj,L,hnk,B,w,hok,ai,hg],Nn l⟩
     .obtain⟨z,hz,l⟩:=dh l;exact⟨_,by simp only[cz,c8,D,W,aj,L,hnk,B,w,hok,ai,hg,hz,bW],l⟩
    .cases l
  .cases l
 .rename_i c D;split at l
  .rename_i f I;cases how:o.dst.any h.owns.contains with
   |true=>rw[how] at l;cases l
   |false=>
   rw[how] at l;simp only[aj] at l;cases hro:(o.dst.any h.stay.contains&&wide O c f) with
   |true=>rw[hro] at l;simp only[ai] at l;obtain⟨v,B,w⟩:=Eo l;refine⟨.pv v,?_,w⟩;simp only[cz,D,I];rw[how,hro,B];rfl
   |false=>
   rw[hro] at l;simp only[aj] at l;cases U:(wide O c f||c.args.toList.any (λx=>(kR h O x).isSome)) with
   |true=>rw[U] at l;cases l
   |false=>
   rw[U] at l;simp only[aj] at l;cases hag:c.args.toList.any (rK O) with
   |true=>
    rw[hag] at l;simp only[ai] at l;have JV:=Jd hag;split at l
    .rename_i g caps hf;obtain⟨vs,hvs,l⟩:=wE l;obtain⟨r',B,l⟩:=qy l;obtain⟨hp,w⟩:=aZ (mQ l);refine⟨.pv r',?_,w⟩;rw[aF] at hp;simp only[cz,D,I,hf,hvs,B];rw[how,hro,U];simp only[aj,JV,hp.1,hp.2,kW,mX,mW,ai]
    .cases l
   |false=>
   rw[hag] at l;simp only[aj] at l;split at l
   .rename_i g caps vs hf hvs;obtain⟨r',B,l⟩:=qy l;obtain⟨G,w⟩:=aZ (mQ l);refine⟨.pv r',?_,w⟩;simp only[cz,D,I,hf,hvs,B];rw[how,hro,U,G];rfl
   .cases l
  .rename_i I;obtain⟨v,ht,w⟩:=dh l;refine⟨v,?_,w⟩;simp only[cz,D];exact ht
 .exact dh l
def ur {B:St} {t:TypeId} {m z x:Operand} {k:St->Option R} {r:R} (l:vP P C B t m z x k=some r):∃q,sB P B t m z x=some q/\k q=some r:=by
 unfold vP at l;split at l
 .rename_i W U N;split at l
  .rename_i Q D;split at l
   .rename_i id key v K I O;split at l
    .rename_i k' S V vs w;obtain⟨G,l⟩:=aZ l;obtain⟨p,L,l⟩:=DV l;replace l:=zj l;exact⟨_,by simp only[sB,N,D,K,I,O,w,G,ai,L],l⟩
    .cases l
   .cases l
  .cases l
 .cases l
def zi {B:St} {t:TypeId} {m z:Operand} {k:St->Option R} {r:R} (l:xd P C B t m z k=some r):∃q,sA P B t m z=some q/\k q=some r:=by
 unfold xd at l;split at l
 .rename_i S O L;split at l
  .rename_i id key I G;split at l
   .rename_i k' N Q U w;obtain⟨D,l⟩:=aZ l;obtain⟨p,K,l⟩:=DV l;replace l:=zj l;exact⟨_,by simp only[sA,L,I,G,w,D,ai,K],l⟩
   .cases l
  .cases l
 .cases l
def AF {K:St} {c:Call} {f:Operand} {d:Option Nat} {k:St->Option R} {r:R} (q:zc P C h F K c f d k=some r):∃z,gC P h F K c f d=some z/\k z=some r:=by
 unfold zc at q;split at q
 .rename_i g G V N D;simp only[] at q;replace q:=aZ q;obtain⟨L,q⟩:=q;split at q
  .rename_i I Q;obtain⟨U,l,S,q⟩:=Bv q;replace q:=mQ (tM q);split at q
   .rename_i back w;replace q:=aZ q;obtain⟨B,O⟩:=q;refine⟨_,?_,O⟩;simp only[gC,N,D,L,ai,Q,S,w,B]
   .cases q
  .cases q
 .cases q
def Ae {O:St} {t:TypeId} {m N x:Operand} {k:St->Option R} {r:R} (l:LO P C O t m N x k=some r):∃B,Ku P O t m N x=some B/\k B=some r:=by
 unfold LO at l;split at l
 .rename_i S id key k' e sz ks vs w;split at l
  .split at l
   .rename_i Q s W;replace l:=aZ l;obtain⟨q,l⟩:=l;simp only[aF] at q;have D:=beq_iff.1 q.1.1;have G:=beq_iff.1 q.1.2;have I:0<s:=by simpa[bA] using q.2
    obtain⟨p,L,l⟩:=Ce l;refine⟨_,?_,B0 l⟩;simp only[Ku,w,W];rw[ak ⟨D,G,I⟩];simp only[L]
   .cases l
  .rename_i V;split at l
   .rename_i j z;split at l
    .rename_i Q s xs K;replace l:=aZ l;obtain⟨q,l⟩:=l;simp only[aF] at q;have D:=beq_iff.1 q.1.1;have G:=beq_iff.1 q.1.2;have I:j<10000:=by simpa[bA] using q.2
     obtain⟨p,L,l⟩:=Ce l;refine⟨_,?_,B0 l⟩;cases x with
     |tmp i=>simp only[Ku,w,z,K];rw[ak ⟨D,G,I⟩];simp only[L]
     |const v=>simp only[aN] at z;cases U:ofConst P S v<;>simp[U] at z
     |func f=>simp[aN] at z
     |global g=>simp[aN] at z
    .cases l
   .cases l
 .cases l
def EX {G:St} {t:TypeId} {m N:Operand} {d:Nat} {k:St->Option R} {r:R} (l:Kv P C G t m N d k=some r):∃B,DO P G t m N d=some B/\k B=some r:=by
 unfold Kv at l;split at l
 .rename_i et id key k' e sz W vs z;cases w:Nat.beq id d with
  |true=>rw[w] at l;cases l
  |false=>
  rw[w] at l;simp only[aj] at l;split at l
  .rename_i s0 e' s V U;replace l:=aZ l;obtain⟨D,l⟩:=l;simp only[aF] at D;have O:=beq_iff.1 D.1.1;have Q:=beq_iff.1 D.1.2;have S:0<s:=by simpa[bA] using D.2
   obtain⟨p,q,l⟩:=K0 l;replace l:=B0 (ox l);obtain⟨_,_,_,_,K,_⟩:=u9 z;unfold P6 at q;split at q
   .rename_i i I;split at q
    .rename_i xs L;injection q with q;subst q;refine⟨_,?_,l⟩;simp only[DO,z,w,aj,I,L]
    .cases q
   .rename_i I;injection q with q;subst q;refine⟨_,?_,l⟩;simp only[DO,z,w,aj,I,V,U];rw[ak ⟨O,Q,S⟩]
    have:put G.ob id (some (.mr k' e sz W vs))=G.ob:=by
     funext i;by_cases e:id=i
     .subst e;rw[br,K]
     .rw[aM _ _ e]
    simp only[this]
   .cases q
  .cases l
 .cases l
def CX {O:St} {c:Call} {f:Operand} {d:Option Nat} {k:St->Option R} {r:R} (q:Bw P C h F O c f d k=some r):∃B,iK P h F O c f d=some B/\k B=some r:=by
 unfold Bw at q;split at q
 .rename_i d;split at q
  .rename_i g N V D w;obtain⟨x,L,q⟩:=qy q;replace q:=mQ q;split at q
   .cases I:(sD h d).isSome with
    |true=>rw[I] at q;cases q
    |false=>rw[I] at q w;exact⟨_,by simp only[iK,I,D,w,L,aj],q⟩
   .split at q
    .rename_i z;rw[z] at w;exact⟨_,by simp only[iK,z,D,w,L],q⟩
    .rename_i l K z;split at q
     .rename_i S G;obtain⟨Q,q⟩:=aZ q;rw[z] at w;cases l with
      |nil=>exact absurd rfl K
      |cons W U=>exact⟨_,by simp only[iK,z,D,w,L,G,Q,ai],q⟩
     .cases q
    .cases q
   .cases q
  .cases q
 .cases q
def CM {B:St} {t:TypeId} {x:Operand} {d:Nat} {k:St->Option R} {r:R} (l:CL P C B t x d k=some r):∃w,rI P B t x d=some w/\k w=some r:=by
 unfold CL at l;split at l
 .rename_i id U i N K D;split at l
  .rename_i e O q Q S xs V z;obtain⟨G,l⟩:=aZ l;obtain⟨W,L,l⟩:=DS l;have I:=xk (ox l);exact⟨_,by simp only[rI,K,D,z,L,G,ai],I⟩
  .cases l
 .cases l
def Fm {z:St} {t:TypeId} {id B i q j:Nat} {k:St->Option R} {r:R} (l:KG P C z t id B i q j k=some r):∃w,Am P z t id B i q j=some w/\k w=some r:=by
 unfold KG at l;split at l
 .obtain⟨I,l⟩:=aZ l;obtain⟨D,l⟩:=ez l;have K:=xk l;unfold Am;have G :=bA.mpr D;grind
 simp_all
def FB {o:Oper} {S:St} {k:St->Option R} {r:R} (w:KS P C h F o S k=some r):∃B,step0 P h F o S=some B/\k B=some r:=by
 have UL:(qF P C h F o S λv=>k (S.set o.dst v))=some r->∃B,step0 P h F o S=some B/\k B=some r:=λw=>by obtain⟨v,N,K⟩:=yq w;exact⟨_,by simp only[step0,N],K⟩
 unfold KS at w;split at w
 .rename_i t l c G;have N:cz P h F o S=none:=by simp[cz,c8,G]
  split at w
  .rename_i d e s kl l' kc c' D hs hl W;split at w
   .rename_i z i hz hi;replace w:=aZ w;obtain⟨V,w⟩:=w;simp only[aF] at V;obtain⟨I,K⟩:=ez w;have h1:0<s:=by simpa[bA] using V.1
    have h2:z.length=s:=beq_iff.1 V.2;exact⟨_,by simp only[step0,N,jN,D,G,hs,hl,W,hz,hi];rw[ak ⟨h1,h2,I⟩],K⟩
   .cases w
  .cases w
 .rename_i t x y G;have N:cz P h F o S=none:=by simp[cz,c8,G]
  split at w
  .rename_i id sz i off v D U hy;split at w
   .rename_i e sz' xs n O hsz;replace w:=aZ w;obtain⟨V,w⟩:=w;simp only[aF] at V;have h1:=beq_iff.1 V.1.1;subst h1;have h2:=beq_iff.1 V.1.2;obtain⟨c,W,w⟩:=DB w;replace w:=aZ (wY w);obtain⟨hle,K⟩:=w;refine⟨_,?_,K⟩;simp only[step0,N,jN,D,G,U,hy,storeAt,O,hsz,W];rw[ak ⟨trivial,h2,cI hle,V.2⟩]
   .cases w
  .rename_i id sz i off j D U hy;obtain⟨B,hs,K⟩:=Fm w;exact⟨B,by simp only[step0,N,jN,D,G,U,hy];exact hs,K⟩
  .rename_i id off j sz n D U hy;obtain⟨B,hs,K⟩:=dh w;exact⟨B,by simp only[step0,N,jN,D,G,U,hy];exact hs,K⟩
  .rename_i a v hn1 hn2 hn3 D U hy;obtain⟨B,hs,K⟩:=dh w;refine⟨B,?_,K⟩
   have:jN P h F o S=storeAt P t S a v:=by simp only[jN,D,G,U,hy]
   simp only[step0,N];rw[this];exact hs
  .cases w
 .rename_i t x G;cases MR:o.dst.any h.take.contains with
  |false=>rw[MR] at w;exact UL w
  |true=>
   rw[MR] at w;simp only[ai] at w;split at w
   .rename_i d D;rw[D] at MR;simp only[sU] at MR;obtain⟨B,hs,K⟩:=CM w;refine⟨B,?_,K⟩;have N:cz P h F o S=none:=by simp only[cz,G,D,sU,MR,ai]
    simp only[step0,N,jN,G,D,MR,ai];exact hs
   .cases w
 .rename_i c G;split at w
  .rename_i W;have N:cz P h F o S=none:=by
    simp only[cz,G,W,sH]
   split at w
   .rename_i d x y t t' D L wg;split at w
    .rename_i e s id sy hs U hy;split at w
     .rename_i e' sz xs sz' ys i O hel hi;replace w:=aZ w;obtain⟨V,w⟩:=w;simp only[aF] at V;obtain⟨⟨⟨⟨⟨⟨b1,b2⟩,b3⟩,b4⟩,b5⟩,b6⟩,b7⟩:=V;have e1:=beq_iff.1 b1;have e2:=beq_iff.1 b2;have e3:=beq_iff.1 b3;have e4:=beq_iff.1 b4;have e5:0<sz:=by simpa[bA] using b5
      have e6:i.zero.map (λz=>z.cells.size)=some sz:=by simpa using b6
      obtain⟨I,K⟩:=ez w;refine⟨_,?_,K⟩;simp only[step0,N,jN,G,W,D,L,wg,hs,U,hy,O,hel,hi];rw[ak ⟨e1,e2,e3,e4,e5,I.1,I.2,e6,b7⟩]
     .rename_i e' sz q e2x s2x xs zs sz' ys i O hel hi;replace w:=aZ w;obtain⟨V,w⟩:=w;simp only[aF] at V;obtain⟨⟨⟨⟨⟨⟨⟨b1,b2⟩,b3⟩,b4⟩,b5⟩,b6⟩,b7⟩,b8⟩:=V;have e1:=beq_iff.1 b1;have e2:=beq_iff.1 b2;have e3:=beq_iff.1 b3;have e4:=beq_iff.1 b4;have e5:0<sz:=by simpa[bA] using b5
      have e6:i.zero.map (λz=>z.cells.size)=some sz:=by simpa using b6
      obtain⟨I,K⟩:=ez w;refine⟨_,?_,xk K⟩;simp only[step0,N,jN,G,W,D,L,wg,hs,U,hy,O,hel,hi];rw[ak ⟨e1,e2,e3,e4,e5,I.1,I.2,e6,b7,b8⟩]
     .cases w
    .rename_i e s id sy hs U hy;split at w
     .rename_i e' sz xs sz' ys i O hel hi;replace w:=aZ w;obtain⟨V,w⟩:=w;simp only[aF,ga] at V;obtain⟨⟨⟨⟨⟨⟨⟨b1,b2⟩,b3⟩,b4⟩,b5⟩,b6⟩,b7⟩,b8⟩:=V;have e1:=beq_iff.1 b1;have e2:=beq_iff.1 b2;have e3:=beq_iff.1 b3;have e4:=beq_iff.1 b4;have e5:0<sz:=by simpa[bA] using b5
      have e6:i.zero.map (λz=>z.cells.size)=some sz:=by simpa using b6
      obtain⟨I,K⟩:=ez w;refine⟨_,?_,K⟩;simp only[step0,N,jN,G,W,D,L,wg,hs,U,hy,O,hel,hi];rw[ak ⟨e1,e2,e3,e4,e5,I.1,I.2,e6,b7,b8⟩]
     .cases w
    .cases w
   .cases w
  .rename_i W;have N:cz P h F o S=none:=by simp only[cz,G,W,sH]
   split at w
   .rename_i m kx t ts D L wg;obtain⟨B,h1,K⟩:=zi w;exact⟨B,by simp only[step0,N,jN,G,W,D,L,wg];exact h1,K⟩
   .cases w
  .rename_i W;have N:cz P h F o S=none:=by simp only[cz,G,W,sH]
   split at w
   .rename_i x t D L wg;split at w
    .rename_i e s id sz lo hi hs U;split at w
     .rename_i e' sz' xs z O hz;replace w:=aZ w;obtain⟨V,w⟩:=w;simp only[aF] at V;obtain⟨⟨⟨⟨b1,b2⟩,b3⟩,b4⟩,b5⟩:=V;have e1:=beq_iff.1 b1;have e2:=beq_iff.1 b2;have e3:=beq_iff.1 b3;have e4:=beq_iff.1 b4;have e5:0<sz:=by simpa[bA] using b5
      obtain⟨hle,K⟩:=ez w;refine⟨_,?_,K⟩;simp only[step0,N,jN,G,W,D,L,wg,hs,U,O,hz];rw[ak ⟨e1,e2,e3,hle,e4,e5⟩]
     .cases w
    .cases w
   .cases w
  .rename_i f W;cases how:o.dst.any h.owns.contains with
   |true=>
    rw[how] at w;simp only[ai] at w;have N:cz P h F o S=none:=by simp only[cz,G,W,how,ai]
    obtain⟨B,h1,K⟩:=CX w;exact⟨B,by simp only[step0,N];cases D:o.dst<;>(simp only[jN,G,W,D];rw[D] at how;rw[how,<-D];exact h1),K⟩
   |false=>
   rw[how] at w;simp only[aj] at w;have Wk:∀d,o.dst=d->d.any h.owns.contains=false:=λd D=>D▸how
   cases hro:(o.dst.any h.stay.contains&&wide S c f) with
   |true=>rw[hro] at w;exact UL w
   |false=>
   rw[hro] at w;simp only[aj] at w;cases MS:wide S c f with
   |true=>
    rw[MS] at w;simp only[ai] at w;have N:cz P h F o S=none:=by simp only[cz,G,W];rw[how,hro,MS];rfl
    obtain⟨B,h1,K⟩:=AF w;exact⟨B,by simp only[step0,N];cases D:o.dst<;>(simp only[jN,G,W,D];rw[D] at hro how;rw[how,hro,MS,<-D];exact h1),K⟩
   |false=>
   have Ws:∀(d:Option Nat),(d.any h.stay.contains&&false)=false:=λd=>by simp
   rw[MS] at w;simp only[aj] at w;cases EM:c.args.toList.any (λx=>(kR h S x).isSome) with
   |true=>
    rw[EM] at w;simp only[ai] at w;have N:cz P h F o S=none:=by simp only[cz,G,W];rw[how,hro,EM];simp
    split at w
    .rename_i g caps vs id hfn hvs;split at w
     .rename_i e sz xs O;obtain⟨r',xs',U,w⟩:=Jt w;replace w:=ox (mQ w);have hstep:∀st2,lF P h F S c f o.dst=some st2->step0 P h F o S=some st2:=λst2 h2=>by
       simp only[step0,N];cases D:o.dst<;>(simp only[jN,G,W,D];rw[Wk _ D,MS,EM,Ws];simp only[ai,aj];rw[<-D];exact h2)
      split at w
      .rename_i n;replace w:=aZ w;obtain⟨V,w⟩:=w;obtain⟨hn,K⟩:=ez w;refine⟨_,hstep _ ?_,K⟩;simp only[lF,hfn,hvs,O,U,beq_iff.2 (rfl:e=e),beq_iff.2 (rfl:sz=sz),beq_iff.2 (rfl:10000=10000),mW,ai,V,gp hn]
      .rename_i Nx;replace w:=aZ w;obtain⟨V,K⟩:=w;refine⟨_,hstep _ ?_,K⟩;simp only[lF,hfn,hvs,O,U,beq_iff.2 (rfl:e=e),beq_iff.2 (rfl:sz=sz),beq_iff.2 (rfl:10000=10000),mW,ai,V]
     .cases w
    .cases w
   |false=>
   have S6:(wide S c f||c.args.toList.any (λx=>(kR h S x).isSome))=false:=by rw[MS,EM];rfl
   rw[EM] at w;simp only[aj] at w;cases hag:c.args.toList.any (rK S) with
   |true=>rw[hag] at w;exact UL w
   |false=>
   rw[hag] at w;simp only[aj] at w;cases JV:c.args.toList.any (iJ S) with
   |true=>
    simp only[JV,ai] at w;split at w
    .rename_i g caps vs hfn hvs;obtain⟨r',U,w⟩:=qy w;replace w:=mQ w;cases hp:(r'.plain&&r'.iD) with
     |true=>simp only[hp,ai] at w;refine⟨_,?_,w⟩;rw[aF] at hp;simp only[step0,cz,G,W];rw[how,hro,S6];simp only[hfn,hvs,U,hp.1,hp.2,Bool.true_or,Bool.or_true,sX,ai,aj]
     |false=>
      simp only[hp,aj] at w;split at w
      .rename_i st1 oS;split at w
       .rename_i g' SJ vs' hfn' OU;cases hrow:c.args.toList.any (iJ st1) with
        |true=>rw[hrow] at w;cases w
        |false=>
         rw[hrow] at w;simp only[aj] at w;obtain⟨r2,hx2,w⟩:=qy w;replace w:=aZ (mQ w);obtain⟨Nx,w⟩:=w;refine⟨_,?_,w⟩;have N:cz P h F o S=none:=by simp only[cz,G,W];rw[how,hro,S6];simp only[aj,hfn,hvs,U,hp,JV,kW,sV,mX]
         simp only[step0,N];cases D:o.dst<;>(simp only[jN,G,W,D];rw[Wk _ D,MS,EM,Ws];simp only[aj,oS,hfn',OU,hx2,hrow,Nx,kW,sV])
       .cases w
      .cases w
    .cases w
   |false=>simp only[JV,aj] at w;exact UL w
  .exact UL w
 .rename_i t m kx x G;split at w
  .rename_i D;cases Q:lW h m with
   |true=>rw[Q] at w;obtain⟨B,h1,K⟩:=Ae w;exact⟨B,by simp only[step0,jN,cz,c8,G,D];rw[Q];exact h1,K⟩
   |false=>rw[Q] at w;obtain⟨B,h1,K⟩:=ur w;exact⟨B,by simp only[step0,jN,cz,c8,G,D];rw[Q];exact h1,K⟩
  .cases w
 .rename_i t m kx x G;split at w
  .rename_i D;cases Q:lW h m with
   |true=>rw[Q] at w;obtain⟨B,h1,K⟩:=Ae w;exact⟨B,by simp only[step0,jN,cz,c8,G,D];rw[Q];exact h1,K⟩
   |false=>rw[Q] at w;obtain⟨B,h1,K⟩:=ur w;exact⟨B,by simp only[step0,jN,cz,c8,G,D];rw[Q];exact h1,K⟩
  .cases w
 .rename_i t m kx ok G;cases Q:(lW h m&& !ok) with
  |true=>
   rw[Q] at w;simp only[ai] at w;have hrm':=Q;simp only[aF,ga] at Q;obtain⟨hr1,rfl⟩:=Q;split at w
   .rename_i d D;obtain⟨B,h1,K⟩:=EX w;refine⟨B,?_,K⟩;have N:cz P h F o S=none:=by simp only[cz,G];rw[hrm'];rfl
    simp only[step0,N,jN,G,D];rw[hr1];exact h1
   .cases w
  |false=>rw[Q] at w;exact UL w
 .rename_i t x G;split at w
  .rename_i d s D hu U;refine⟨_,?_,w⟩;simp only[step0,jN,cz,c8,G,D,hu,U]
  .cases w
 .rename_i x G;split at w
  .rename_i d id D U;split at w
   .rename_i s pos O;have N:cz P h F o S=none:=by simp only[cz,c8,G]
    cases hp:Nat.blt pos s.length with
    |true=>
     rw[hp] at w;refine⟨_,?_,w⟩;have hp':pos<s.length:=by simpa[bA] using hp
     simp only[step0,N,jN,G,D,U,O];rw[ak hp']
    |false=>
     rw[hp] at w;refine⟨_,?_,w⟩;have hp':¬pos<s.length:=λh=>by rw[<-bA] at h;rw[h] at hp;cases hp
     simp only[step0,N,jN,G,D,U,O];rw[az hp']
   .cases w
  .cases w
 .exact dh w
 .exact dh w
 .exact dh w
 .exact dh w
 .exact dh w
 .exact dh w
 .exact dh w
 .exact UL w
def Ay {o:Oper} {z:St} {k:St->Option R} {r:R} (q:stepT P C h F o z k=some r):∃l,step P h F o z=some l/\k l=some r:=by unfold stepT at q;obtain⟨I,B,q⟩:=dh q;obtain⟨w,D,G⟩:=FB q;exact⟨w,by simp only[step,B,dU,D],G⟩
def Az {z:Array Oper} {o:Oper} {D:St} {k:Bool->St->Option R} {r:R} (q:Md z o D k=some r):∃b,lP z o D=some b/\k b D=some r:=by
 unfold Md at q;unfold lP;split at q
 .rename_i B;exact⟨true,by simp[B],q⟩
 .rename_i j l B
  (try simp only[B])
  split at q
  .rename_i d G
   (try simp only[G])
   split at q
   .rename_i w;exact⟨l,by simp[w],q⟩
   .rename_i w;exact⟨!l,by simp only[w];cases l<;>rfl,q⟩
   .rename_i w;exact⟨false,by simp[w],q⟩
   .cases q
  .cases q
def IK {l:St} {d:Nat} {v:SV} (w:l.env d=some v):l.set (some d) v=l:=by
 obtain⟨q,z⟩:=l;simp only[St.set,St.mk.injEq,dL];funext i;by_cases e:d=i
 .subst e;rw[br];exact w.symm
 .rw[aM _ _ e]
def ud {b:Bool} {d:Option Nat} {w:St} {k:St->Option R} {r:R} (l:Cs b d w k=some r):k w=some r:=by unfold Cs at l;cases b with
 |false=>exact l
 |true=>
  simp only[ai] at l;split at l
  .rename_i z;split at l
   .rename_i t q;cases t with
    |true=>simp only[ai] at l;rwa[IK q] at l
    |false=>simp only[aj] at l;rwa[IK q] at l
   .exact l
  .exact l
def Dl {w:Array Oper}:∀{l:List Oper} {i:Nat} {z:St} {k:St->Option R} {r:R},yM P C h F w i l z k=some r->∃s,lX P h F w l z=some s/\k s=some r:=by intro l;induction l with
 |nil=>intro i z k r q;exact⟨z,rfl,q⟩
 |cons o l I=>intro i z k r q;simp only[yM] at q;obtain⟨b,G,q⟩:=Az q;cases b with
  |true=>simp only[ai] at q;obtain⟨L,K,q⟩:=Ay q;obtain⟨s,D,B⟩:=I (ud q);exact⟨s,by simp[lX,G,K,D],B⟩
  |false=>simp only[aj] at q;obtain⟨s,D,B⟩:=I q;exact⟨s,by simp[lX,G,D],B⟩
def Ck {I:Array Oper}:∀{l:List Oper} {i:Nat} {w:List (Nat×ey)} {z:St} {k:St->Option R} {r:R},sM P C h F I i l w z k=some r->∃s,gM P h F I i l w z=some s/\k s=some r:=by intro l;induction l with
 |nil=>intro i w z k r q;exact⟨z,rfl,q⟩
 |cons o l N=>intro i w z k r q;simp only[sM] at q;replace q:=Az q;obtain⟨b,L,q⟩:=q;cases b with
  |true=>simp only[ai] at q;cases K:(O1 h z o&&(yF h o).isEmpty) with
   |true=>simp only[K,ai] at q;obtain⟨v,O,q⟩:=yq q;obtain⟨B,q⟩:=aZ q;obtain⟨s,G,D⟩:=N (ud q);exact⟨s,by simp only[gM,L,ai,K,O,B];exact G,D⟩
   |false=>simp only[K,aj] at q;obtain⟨S,Q,q⟩:=Ay q;obtain⟨B,q⟩:=aZ q;obtain⟨s,G,D⟩:=N (ud q);exact⟨s,by simp only[gM,L,ai,K,aj,Q,B];exact G,D⟩
  |false=>simp only[aj] at q;obtain⟨B,q⟩:=aZ q;obtain⟨s,G,D⟩:=N q;exact⟨s,by simp only[gM,L,aj,B,ai];exact G,D⟩
def ED {D:Type} (m:Nat->Option D):∀(l:List Nat) (i:Nat),find (oF m l) i=if i∈l then m i else none:=by intro l;induction l with
 |nil=>intro i;simp[oF,find]
 |cons j l B=>intro i;simp only[oF];cases z:m j with
  |none=>
   simp only[B,aD];by_cases e:i=j
   .subst e;simp[z]
   .simp[e]
  |some v=>simp only[find];cases w:Nat.beq j i with
   |true=>have:=beq_iff.1 w;subst this;simp[z]
   |false=>
    have q:¬i=j:=λe=>by subst e;simp[beq_iff.2] at w
    simp only[aj,B,aD,q,false_or]
def GQ (h:Hint) (key:Nat) (l:St):h.canon key (h.canon key l)=h.canon key l:=by
 unfold Hint.canon;split
 .rename_i q w z;simp only[St.mk.injEq];constructor<;>(funext i;simp only[ED];split<;>rfl)
 .rfl
def BU {key:Nat} {f:St->Option (Ex×St)} {n:Nat} {l:St}:iter h key f n (h.canon key l)=iter h key f n l:=by cases n with
 |zero=>rfl
 |succ n=>simp[iter,GQ]
def MU {c:Code} {n m:Nat} (G:n<=m) {key:Nat}:∀(q:Nat) {w:Nat} {B:St} {x:Ex×St},q<=w->iter h key (exec P h F n c) q B=some x->iter h key (exec P h F m c) w B=some x:=by intro q;induction q with
 |zero=>intro w B x _ l;simp[iter] at l
 |succ q K=>
  intro w B x N l;obtain⟨z,rfl⟩:∃z,w=z+1:=⟨w-1,af⟩
  simp only[iter] at l⊢;split at l
  .rename_i L I;rw[lI G I];exact K af l
  .rename_i D;rw[lI G l];obtain⟨e,s⟩:=x;cases e with
   |normal=>exact absurd l (D s)
   |exit j=>rfl
   |ret=>rfl
def sq {c:Code} {D:St} {k:Ex->St->Option R} {r:R}:z7 P h F c D k=some r↔∃n e l,exec P h F n (.loop c) D=some (e,l)/\k e l=some r:=by
 constructor
 .intro z;unfold z7 at z;split at z
  .rename_i B;obtain⟨n,w⟩:=B.choose_spec;exact⟨n,_,_,w,z⟩
  .cases z
 .rintro⟨n,e,l,w,I⟩;unfold z7;have B:∃x n,exec P h F n (.loop c) D=some x:=⟨(e,l),n,w⟩
  rw[iX B];obtain⟨m,K⟩:=B.choose_spec;have G:=lI (ng n m) w;have q:=lI (nh n m) K;rw[G] at q;injection q with q;rw[<-q];exact I
def oG:∀{l:List Nat} {K:St} {k:St->Option R} {r:R},vS C l K k=some r->∃z,tW l K=some z/\k z=some r
 |[],K,k,r,w=>⟨K,rfl,w⟩
 |id::l,K,k,r,w=>by
  simp only[vS] at w;split at w
  .rename_i W e S V vs D;replace w:=aZ w;obtain⟨B,w⟩:=w;obtain⟨xs,L,w⟩:=y8 w;obtain⟨z,G,I⟩:=oG (P4 w);refine⟨z,?_,I⟩;simp only[tW,St.Ca,St.bY,B,D,dU,Ob.val,L,bW];exact G
  .rename_i e S q U s' xs ys D;replace w:=aZ w;obtain⟨B,w⟩:=w;obtain⟨zs,N,w⟩:=y8 w;obtain⟨z,G,I⟩:=oG (ox w);refine⟨z,?_,I⟩;simp only[tW,St.Ca,St.bY,B,D,dU,Ob.val,N,bW];exact G
  .split at w
   .rename_i Q O;obtain⟨z,G,I⟩:=oG w;exact⟨z,by simp only[tW,O,dU];exact G,I⟩
   .cases w
def Il {id:Nat} {B:St} {k:St->Option R} {r:R} (w:Qu C h id B k=some r):∃q,h.Qt id B=some q/\k q=some r:=by
 unfold Qu at w;unfold Hint.Qt;split at w
 .rename_i l z;rw[z];exact oG w
 .rename_i z;rw[z];exact⟨B,rfl,w⟩
def rj:∀(c:Code) {D:St} {k:Ex->St->Option R} {r:R},kM P C h F c D k=some r->∃n e N,exec P h F n c D=some (e,N)/\k e N=some r:=by intro c;induction c with
 |skip=>intro D k r q;exact⟨0,_,_,rfl,q⟩
 |label l=>intro D k r q;exact⟨0,_,_,rfl,q⟩
 |exit id=>intro D k r q;exact⟨0,_,_,rfl,q⟩
 |ret=>intro D k r q;exact⟨0,_,_,rfl,q⟩
 |region id ops Q=>intro D k r q;simp only[kM] at q;obtain⟨w,O,q⟩:=Il q;cases Q with
  |true=>simp only[ai] at q;obtain⟨hs,q⟩:=aZ q;obtain⟨s,V,I⟩:=Ck q;exact⟨0, .normal,s,by simp only[exec,O,dU,ai,hs,V,bW],I⟩
  |false=>simp only[aj] at q;obtain⟨s,V,I⟩:=Dl q;exact⟨0, .normal,s,by simp[exec,O,V],I⟩
 |seq x y K L=>
  intro D k r q;simp only[kM] at q;cases G:find h.blk (b9 x) with
  |some z=>simp only[G] at q;obtain⟨hg,q⟩:=ez q;exact⟨0,_,_,by simp only[exec,G,hg,ai],q⟩
  |none=>
  simp only[G] at q;obtain⟨n,e,w,B,q⟩:=K q;cases e with
  |normal=>obtain⟨m,e2,W,hy,I⟩:=L (show kM P C h F y w k=some r from q);exact⟨max n m,e2,W,by simp only[exec,G,lI (ng n m) B];exact lI (nh n m) hy,I⟩
  |exit id=>exact⟨n,_,w,by simp only[exec,G,B],q⟩
  |ret=>exact⟨n,_,w,by simp only[exec,G,B],q⟩
 |cond c x y K L=>
  intro D k r q;simp only[kM] at q;split at q
  .rename_i t hc;cases t with
   |true=>obtain⟨n,e,w,B,I⟩:=K q;exact⟨n,e,w,by simp only[exec,hc,ai];exact B,I⟩
   |false=>obtain⟨n,e,w,B,I⟩:=L q;exact⟨n,e,w,by simp only[exec,hc,aj];exact B,I⟩
  .cases q
 |block id c U=>intro D k r q;simp only[kM] at q;obtain⟨n,e,w,B,q⟩:=U q;cases e with
  |normal=>exact⟨n,_,w,by simp only[exec,B],q⟩
  |ret=>exact⟨n,_,w,by simp only[exec,B],q⟩
  |exit j=>simp only[Jn] at q;cases S:Nat.beq j id with
   |true=>simp only[S,ai] at q;exact⟨n, .normal,w,by simp only[exec,B,S,ai],q⟩
   |false=>simp only[S,aj] at q;exact⟨n, .exit j,w,by simp only[exec,B,S,aj],q⟩
 |loop c U=>intro D k r q;simp only[kM] at q;obtain⟨n,e,N,B,I⟩:=sq.1 q;refine⟨n,e,N,?_,I⟩;simp only[exec] at B⊢;rwa[BU] at B
 |scope c U=>intro D k r q;simp only[kM] at q;obtain⟨n,e,w,B,I⟩:=U q;exact⟨n,e,w,by simp only[exec];exact B,I⟩
 |rangeFunc f ps x y K L=>intro D k r q;simp[kM] at q
 |goto l=>intro D k r q;simp[kM] at q
 |refuse s=>intro D k r q;simp[kM] at q
def HI {c:Code} {G:St} {k:Ex->St->Option R} {r:R} (K:kM P C h F c (h.canon (b9 c) G) (Je P h F c k)=some r):z7 P h F c G k=some r:=by obtain⟨n,e,l,z,q⟩:=rj c K;cases e with
 |normal=>obtain⟨m,I,B,D,w⟩:=sq.1 (show z7 P h F c (h.canon (b9 c) l) k=some r from q);simp only[exec,BU] at D;refine sq.2 ⟨max n m+1,I,B,?_,w⟩;simp only[exec,iter];rw[lI (show n<=max n m+1 by omega) z];exact MU (show m<=max n m+1 by omega) m af D
 |exit j=>refine sq.2 ⟨n+1, .exit j,l,?_,q⟩;simp only[exec,iter];rw[lI (show n<=n+1 by omega) z]
 |ret=>refine sq.2 ⟨n+1, .ret,l,?_,q⟩;simp only[exec,iter];rw[lI (show n<=n+1 by omega) z]
end
section
variable {P:Program} {C:jF} {H:Nat->Hint} {dm:cr}
def kq {f:Nat} {args:List SV} {l:List (Nat×Ob)} {r:AV×List (Nat×Ob)} (G:dm f args l=none) (q:N7 P C H dm f args l=some r):run P H dm f args l=some r:=by
 unfold N7 at q;split at q
 .rename_i fn D;split at q
  .rename_i c w;obtain⟨z,q⟩:=aZ q;obtain⟨n,e,K,I,B⟩:=rj c q;exact Ap G D w z I B
  .cases q
 .cases q
def kO {f key:Nat} {names:List Nat} {q:List (Nat×SV)} {w:List (Nat×Ob)} {r:AV×List (Nat×Ob)} (l:KM P C H dm f key names q w=some r):mM P C H dm f key names q w=some r:=by
 unfold KM at l;unfold mM;split at l
 .rename_i fn B
  (try simp only[B])
  split at l
  .rename_i c z
   (try simp only[z])
   split at l
   .rename_i G k D
    (try simp only[D])
    exact HI l
   .cases l
  .cases l
 .cases l
end
section
variable {R:Type}
def bJ {p:Prop} [Decidable p] (l:p) (x:Option R):check p x=x:=by unfold check;rw[ak l]
def Hv {l:Type} {xs:List l} {i:Int} {x:l} (q:0<=i) (w:xs[i.toNat]? =some x) (k:l->Option R):bF xs i k=k x:=by simp_all[bF]
def ff {l:Type} {xs:List l} {i:Nat} {x:l} (q:xs[i]? =some x) (k:l->Option R):bF xs (i:Int) k=k x:=Hv af (by simpa using q) k
theorem iA {l:Type} {xs:List l} {i:Nat} {x:l} (q:xs[i]? =some x) (k:l->Option R):fm xs i k=k x:=by unfold fm;rw[q]
def Mq {c:Option (AV×List (Nat×Ob))} {r:AV} (l:c=some (r,[])) (k:AV->Option R):r9 c k=k r:=by subst l;unfold r9;rfl
def Mr {c:Option (AV×List (Nat×Ob))} {l e q:Nat} {r:AV} {xs:List (List AV)} (w:c=some (r,[(l, .row e q xs)])) (k:AV->List (List AV)->Option R):Bx c l e q k=k r xs:=by subst w;unfold Bx;simp[beq_iff.2]
def Ri {q T:Type} {enc:T->q} (inj:∀a b,enc a=enc b->a=b) (d:T) (k:T->Option R):oO enc (enc d) k=k d:=by
 unfold oO;have l:∃x,enc x=enc d:=⟨d,rfl⟩
 rw[iX l,inj _ _ l.choose_spec]
end
