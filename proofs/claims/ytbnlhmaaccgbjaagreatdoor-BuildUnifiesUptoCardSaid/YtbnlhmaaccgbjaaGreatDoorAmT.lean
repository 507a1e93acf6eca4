/- THE ABSTRACT MACHINE, TYPED. -/
import Derived.Test.YtbnlhmaaccgbjaaGreatDoorAmFin
set_option linter.all false
namespace Go.AM
open Go.RowKit
structure F7 where
 T:Type
 enc:T->List AV
structure vF where
 T:Type
 enc:T->AV
def Hy {q:Type 1}:List (Nat×q)->Nat->Option q
 |[],_=>none
 |(j,v)::l,i=>cond (Nat.beq j i) (some v) (Hy l i)
structure CodO where
 T:Type
 enc:T->AV×List (Nat×Ob)
structure lK where
 elem:TypeId->Option F7
 val:TypeId->Option vF
 res:Nat->Option vF
 ptr:Option F7:=none
 out:Nat->Option CodO:=λ_=>none
def fA (K V:vF) (l:List (K.T×V.T)):List AV×List AV:=(l.map λp=>K.enc p.1,l.map λp=>V.enc p.2)
section
variable {R:Type}
@[irreducible] def check (p:Prop) [Decidable p] (x:Option R):Option R:=if p then x else none
@[irreducible] def bA {l:Type} (xs:List l) (i:Int) (k:l->Option R):Option R:=
 if 0<=i then match xs[i.toNat]? with
  |some x=>k x
  |none=>none
 else none
@[irreducible] def eG {l:Type} (xs:List l) (i:Nat) (k:l->Option R):Option R:=
 match xs[i]? with
 |some x=>k x
 |none=>none
@[irreducible] def yb (c:Option (AV×List (Nat×Ob))) (k:AV->Option R):Option R:=
 match c with
 |some (r,[])=>k r
 |_=>none
@[irreducible] def Hr (c:Option (AV×List (Nat×Ob))) (nm e sz:Nat) (k:AV->List (List AV)->Option R):Option R:=
 match c with
 |some (r,[(l, .row w q xs)])=>bif Nat.beq nm l&&Nat.beq e w&&Nat.beq sz q then k r xs else none
 |_=>none
@[irreducible] def Nk (x:Option (Option AV)) (k:AV->Option R) (z:Option R):Option R:=
 match x with
 |some (some v)=>k v
 |some none=>z
 |none=>none
@[irreducible] def Wm (x:Option (List AV×List AV)) (k:List AV×List AV->Option R):Option R:=
 match x with
 |some p=>k p
 |none=>none
@[irreducible] noncomputable def tK {l T:Type} (enc:T->l) (c:l) (k:T->Option R):Option R:=
 open Classical in if q : ∃ d, enc d = c then k q.choose else none
@[irreducible] noncomputable def Mq {T:Type} (enc:T->AV×List (Nat×Ob)) (c:Option (AV×List (Nat×Ob))) (k:T->Option R):Option R:=
 match c with
 |some l=>tK enc l k
 |none=>none
noncomputable def outC (C:lK) (key:Nat) (c:Option (AV×List (Nat×Ob))) (k:AV×List (Nat×Ob)->Option R):Option R:=
 match C.out key with
 |some E=>Mq E.enc c λd=>k (E.enc d)
 |none=>none
@[irreducible] def Bp (c:Option (AV×List (Nat×Ob))) (k:AV->List (Nat×Ob)->Option R):Option R:=
 match c with
 |some (r,l)=>k r l
 |none=>none
@[irreducible] def vv (nm:Nat) (l:List (Nat×Ob)) (k:Ob->List (Nat×Ob)->Option R):Option R:=
 match l with
 |(q,o)::l=>bif Nat.beq nm q then k o l else none
 |[]=>none
@[irreducible] def ZQ (l:List (Nat×Ob)) (k:Option R):Option R:=
 match l with
 |[]=>k
 |_=>none
@[irreducible] noncomputable def Fy (o o':Ob) (k:Option R):Option R:=open Classical in if o=o' then k else none
@[irreducible] def Rv (e sz:Nat) (o:Ob) (k:List (List AV)->Option R):Option R:=
 match o with
 | .row q l xs=>bif Nat.beq e q&&Nat.beq sz l then k xs else none
 |_=>none
@[irreducible] def Ru (z q:Nat) (o:Ob) (k:List AV×List AV->Option R):Option R:=
 match o with
 | .mp k' l w B=>bif Nat.beq z k'&&Nat.beq q l then k (w,B) else none
 |_=>none
@[irreducible] def asLp (o:Ob) (k:List AV->Option R):Option R:=
 match o with
 | .lp xs=>k xs
 |_=>none
@[irreducible] def ptrK (a:AV) (k:List AV->Option R):Option R:=
 match a with
 | .ref l=>k l
 |_=>none
@[irreducible] def hasK (x:Option (Option Nat)) (k:Bool->Option R):Option R:=
 match x with
 |some r=>k r.isSome
 |none=>none
@[irreducible] def UK (x:Option (List UInt8)) (k:List UInt8->Option R):Option R:=
 match x with
 |some b=>k b
 |none=>none
def adA (key:AV) (q:List AV) (l:List (Option (List (List AV)))):Option (List (List AV)×List (Option (List (List AV)))):=
 match qD key q with
 |some (some i)=>match l[i]? with
  |some (some xs)=>some (xs,l.set i none)
  |_=>none
 |some none=>some ([],l)
 |none=>none
@[irreducible] def aeb (x:Option (List (List AV)×List (Option (List (List AV))))) (k:List (List AV)->List (Option (List (List AV)))->Option R):Option R:=
 match x with
 |some p=>k p.1 p.2
 |none=>none
@[irreducible] def Yg (x:Option (List AV×List (Option (List (List AV))))) (k:List AV×List (Option (List (List AV)))->Option R):Option R:=
 match x with
 |some p=>k p
 |none=>none
@[irreducible] def Rs (x:Option (List (List (List AV)))) (k:List (List (List AV))->Option R):Option R:=
 match x with
 |some l=>k l
 |none=>none
@[irreducible] def ZZ (l:List (Option (List (List AV)))) (i:Nat) (k:List (List AV)->Option R):Option R:=
 match l[i]? with
 |some (some q)=>k q
 |_=>none
def J5 (K:vF) (E:F7) (l:List (K.T×Option (List E.T))):List AV×List (Option (List (List AV))):=(l.map λp=>K.enc p.1,l.map λp=>p.2.map (List.map E.enc))
def oM {l:Type} (c:Option l) (k:l->Option R):Option R:=
 match c with
 |some r=>k r
 |none=>none
noncomputable def R1 (C:lK) (e:TypeId) (c:List AV) (k:List AV->Option R):Option R:=
 match C.elem e with
 |some d=>tK d.enc c λx=>k (d.enc x)
 |none=>k c
noncomputable def Lf (C:lK) (e:TypeId) (c:List (List AV)) (k:List (List AV)->Option R):Option R:=
 match C.elem e with
 |some d=>tK (List.map d.enc) c λx=>k (x.map d.enc)
 |none=>k c
noncomputable def valK (C:lK) (t:TypeId) (c:AV) (k:AV->Option R):Option R:=
 match C.val t with
 |some d=>tK d.enc c λx=>k (d.enc x)
 |none=>k c
noncomputable def adn (C:lK) (w q:TypeId) (p:List AV×List AV) (k:List AV×List AV->Option R):Option R:=
 match C.val w,C.val q with
 |some K,some V=>tK (fA K V) p λl=>k (fA K V l)
 |_,_=>k p
noncomputable def mrK (C:lK) (q e:TypeId) (p:List AV×List (Option (List (List AV)))) (k:List AV×List (Option (List (List AV)))->Option R):Option R:=
 match C.val q,C.elem e with
 |some K,some E=>tK (J5 K E) p λl=>k (J5 K E l)
 |_,_=>k p
noncomputable def Td (C:lK) (e:TypeId) (l:List (Option (List (List AV)))) (k:List (Option (List (List AV)))->Option R):Option R:=
 match C.elem e with
 |some d=>tK (List.map (Option.map (List.map d.enc))) l λy=>k (y.map (Option.map (List.map d.enc)))
 |none=>k l
noncomputable def mpK (C:lK) (w e:TypeId) (q:Nat) (p:List AV×List AV) (k:List AV×List AV->Option R):Option R:=
 match C.val w,C.elem e with
 |some K,some E=>tK (fA K ⟨List E.T,λx=> .dD q (x.map E.enc)⟩) p λl=>k (fA K ⟨List E.T,λx=> .dD q (x.map E.enc)⟩ l)
 |_,_=>k p
noncomputable def PY (C:lK) (o l:Ob) (k:Ob->Option R):Option R:=
 match o with
 | .row e z _=>Rv e z l λxs=>Lf C e xs λxs=>k (.row e z xs)
 | .mp w q _ _=>Ru w q l λp=>adn C w q p λp=>k (.mp w q p.1 p.2)
 | .lp _=>asLp l λxs=>k (.lp xs)
 |o=>Fy l o (k o)
@[irreducible] def asBox (t:TypeId) (o:Ob) (k:List AV->Option R):Option R:=
 match o with
 | .box q cells=>match mR cells with
  |some l=>bif Nat.beq t q then k l else none
  |none=>none
 |_=>none
@[irreducible] noncomputable def JE (t:TypeId) (pre:List SV) (sz:Nat) (o:Ob) (k:List (List AV)->Option R):Option R:=open Classical in
 if h:∃xs,o= .box t (pre++[.pv (.dD sz xs)]) then k h.choose else none
def lastOf (P:Program) (t:TypeId) (cells:List SV):Option (TypeId×Nat×List SV):=
 match mR cells with
 |some _=>none
 |none=>match cells.getLast?,(td P 8 t).getLast? with
  |some (.pv (.dD l _)),some ty=>match isSlice P ty with
   |some (e,s)=>bif Nat.beq s l then some (e,l,cells.dropLast) else none
   |none=>none
  |_,_=>none
noncomputable def boxK (P:Program) (C:lK) (o l:Ob) (k:Ob->Option R):Option R:=
 match o with
 | .box t cells=>match lastOf P t cells with
  |some (e,q,pre)=>JE t pre q l λxs=>Lf C e xs λxs=>k (.box t (pre++[.pv (.dD q xs)]))
  |none=>match C.elem t,mR cells,cells with
  |some d,some _,_::_::_=>asBox t l λw=>tK d.enc w λx=>k (.box t ((d.enc x).map .pv))
  |_,_,_=>Fy l o (k o)
 |o=>PY C o l k
noncomputable def RU (P:Program) (C:lK) (keep B:List Nat):List (Nat×Ob)->List (Nat×Ob)->(List (Nat×Ob)->Option R)->Option R
 |[],D,k=>ZQ D (k [])
 |(w,o)::l,D,k=>vv w D λG q=>bif keep.contains w then Fy G o (RU P C keep B l q λz=>k ((w,o)::z)) else bif B.contains w then boxK P C o G λI=>RU P C keep B l q λz=>k ((w,I)::z) else PY C o G λI=>RU P C keep B l q λz=>k ((w,I)::z)
noncomputable def MC (C:lK) (g:Nat) (c:AV) (k:AV->Option R):Option R:=
 match C.res g with
 |some d=>tK d.enc c λx=>k (d.enc x)
 |none=>k c
noncomputable def abg (C:lK) (a:AV) (k:AV->Option R):Option R:=
 ptrK a λl=>match C.ptr with
  |some d=>tK d.enc l λx=>k (.ref (d.enc x))
  |none=>k (.ref l)
def xI (w:Option SV) (l:Nat) (q:Nat) (k:Nat->Option R):Option R:=
 match w with
 |none=>k l
 |some (.pv (.int _ i))=>check (0<=i/\i<=q) (k i.toNat)
 |some _=>none
noncomputable def Ev:List (Nat×Ob)->List (Nat×Ob)->Option R->Option R
 |[],q,k=>ZQ q k
 |(z,o)::l,q,k=>vv z q λB w=>Fy B o (Ev l w k)
noncomputable def Oj (P:Program) (C:lK) (h:Hint) (F:eN) (q:St) (c:Call) (f:Operand) (k:AV->Option R):Option R:=
 match ux P h q c f with
 |some (g,args)=>
  bif distinct (jG q args)&&Nat.blt (jG q args).length 10000&&args.all (SV.closed (jG q args)) then
   match jT q (jG q args) (iS (mA (jG q args))) (mA (jG q args)) with
   |some cL=>Bp (F g (args.map (SV.kD (iS (mA (jG q args))))) cL) λr l=>Ev cL l (MC C g r λr=>bif r.jM then k r else none)
   |none=>none
  else none
 |none=>none
noncomputable def adm (C:lK) (w:St) (v:SV) (k:AV->Option R):Option R:=
 match v with
 | .aq id (.nr i)=>match w.ob id with
  |some (.rn _ _ _ G z _ B)=>ZZ B i λD=>Lf C G D λD=>k (.dD z D)
  |_=>none
 | .ag [.r id]=>match w.ob id with
  |some (.rn e I q _ z xs B)=>Rs (oG B) λl=>Lf C e (wG q z xs l) λm=>k (.agg [.dD I m])
  |_=>oM (mJ w v) k
 |v=>oM (mJ w v) k
noncomputable def E5 (P:Program) (C:lK) (q:St):List Operand->List TypeId->(List AV->Option R)->Option R
 |[],_,k=>k []
 |x::xs,w,k=>match bD P (w.headD 0) q x with
  |some v=>adm C q v λa=>E5 P C q xs w.tail λl=>k (a::l)
  |none=>none
noncomputable def vT (P:Program) (C:lK) (h:Hint) (F:eN) (o:Oper) (w:St) (k:SV->Option R):Option R:=
 match o.op with
 | .pick c a b=>match bD P 0 w c with
  |some (.pv (.bool t))=>bif t then oM (bD P o.type w a) k else oM (bD P o.type w b) k
  |_=>none
 | .nilCheck x=>match bD P 0 w x with
  |some (.pv a)=>abg C a λa=>k (.pv a)
  |_=>oM (eW P o w) k
 | .indexAddr t x N=>match P.underlying t with
  |some (.array n e)=>oM (DL P w n e x N) k
  |_=>match isSlice P t,bD P t w x,bD P 0 w N with
  |some (e,s),some (.pv (.dD B xs)),some (.pv (.int _ i))=>bif Nat.beq s B then bA xs i λc=>R1 C e c λc=>k (.cp c) else none
  |some (_,s),some (.row id),some (.pv (.int _ i))=>match w.ob id with
   |some (.row _ B xs)=>bif Nat.beq s B then check (0<=i/\i.toNat<xs.length) (k (.rp id B i.toNat 0)) else none
   |some (.rn _ B _ _ _ xs _)=>bif Nat.beq s B then check (0<=i/\i.toNat<xs.length) (k (.rp id B i.toNat 0)) else none
   |_=>none
  |some (_,s),some (.sub id B G D),some (.pv (.int _ i))=>bif Nat.beq s B then check (0<=i/\i.toNat<D-G) (k (.rp id B (G+i.toNat) 0)) else none
  |some _,some (.aq _ (.bs _)),some (.pv (.int _ _))=>oM (wY P w t x N) k
  |_,_,_=>none
 | .index t x N=>match P.underlying t,bD P t w x,bD P 0 w N with
  |some .string,some (.pv (.str s)),some (.pv (.int _ i))=>bA s i λb=>k (.pv (.int .u8 b.toNat))
  |_,_,_=>none
 | .load t x=>bif o.dst.any h.take.contains then none else match bD P 0 w x with
  |some (.rp id B i O)=>match w.ob id with
   |some (.row e L xs)=>bif Nat.beq B L then eG xs i λc=>R1 C e c λc=>oM (iZ P t (c.drop O)) λv=>k (.pv v) else none
   |some (.rn _ L q _ _ xs _)=>bif Nat.beq B L&&Nat.beq O q&&(Eb P t==some false) then check (i<xs.length) (k (.aq id (.nr i))) else none
   |_=>none
  |_=>oM (eW P o w) k
 | .binOp op t x y _=>match(bD P t w x).bind iY,(bD P t w y).bind iY with
  |some (.int K a),some (.int kb b)=>match op with
   | .quo=>bif K==kb then check (b≠0) (k (.pv (.int K (K.wrap (a.tdiv b))))) else none
   | .rem=>bif K==kb then check (b≠0) (k (.pv (.int K (a.tmod b)))) else none
   | .shl=>check (0<=b) (k (.pv (.int K (K.wrap (a *2^ min b.toNat K.bits)))))
   | .shr=>check (0<=b) (k (.pv (.int K (a.fdiv (2^ min b.toNat K.bits)))))
   |_=>oM (eW P o w) k
  |some (.str a),some (.str b)=>match op with
   | .add=>check (a.length+b.length<=9223372036854775807) (k (.pv (.str (a++b))))
   |_=>oM (eW P o w) k
  |_,_=>oM (eW P o w) k
 | .slice t x G D none=>match P.underlying t,bD P t w x,nX P w G,nX P w D with
  |some .string,some (.pv (.str s)),some G,some D=>xI D s.length s.length λh=>xI G 0 h λl=>k (.pv (.str ((s.take h).drop l)))
  |some (.slice _),some (.pv (.dD B xs)),some G,some D=>match isSlice P t with
   |some (_,s)=>bif Nat.beq s B then xI D xs.length xs.length λh=>xI G 0 h λl=>k (.pv (.dD B ((xs.take h).drop l))) else none
   |none=>none
  |some (.slice _),some (.row id),some G,some D=>match isSlice P t,w.ob id with
   |some (_,s),some (.row _ B xs)=>bif Nat.beq s B then xI D xs.length xs.length λh=>xI G 0 h λl=>k (.sub id B l h) else none
   |_,_=>none
  |some (.slice _),some (.sub id B a b),some G,some D=>match isSlice P t with
   |some (_,s)=>bif Nat.beq s B then xI D (b-a) (b-a) λh=>xI G 0 h λl=>k (.sub id B (a+l) (a+h)) else none
   |none=>none
  |_,_,_,_=>none
 | .slice t x none (some D) (some mx)=>match bD P t w x with
  |some (.row id)=>match w.ob id,isSlice P t,bD P 0 w D,bD P 0 w mx with
   |some (.row _ B xs),some (_,s),some (.pv (.int _ a)),some (.pv (.int _ b))=>bif Nat.beq s B then check (a=(xs.length:Int)/\b=(xs.length:Int)) (k (.aq id .full)) else none
   |_,_,_,_=>none
  |_=>none
 | .convert src U x=>match P.underlying src,P.underlying U with
  |some (.slice e),some .string=>match P.underlying e,lJ P e,(bD P src w x).bind (elems w) with
   |some (.int .u8),some 1,some (1,xs)=>UK (bytesOf xs) λb=>k (.pv (.str b))
   |_,_,_=>none
  |_,_=>oM (eW P o w) k
 | .lookup t x kx ok=>bif qA h x&& !ok then none else match P.underlying t with
  |some (.map S V)=>match(bD P t w x).bind (HG w),(bD P S w kx).bind iY with
   |some ks,some key=>bif ok&&kg P S key&&(qq P V).isSome then hasK (qD key ks) λb=>k (.two .any (.pv (.bool b))) else none
   |_,_=>match(bD P t w x).bind (maps w),(bD P S w kx).bind iY with
   |some (ks,Q),some key=>bif kg P S key then Nk (VX key ks Q) (λv=>valK C V v λv=>k (.pv (found ok v true))) (oM (qq P V) λz=>k (.pv (found ok z false))) else none
   |_,_=>none
  |_=>none
 | .call c=>match c.callee with
  | .value f=>bif o.dst.any h.owns.contains then none else bif o.dst.any h.stay.contains&&wide w c f then Oj P C h F w c f λr=>k (.pv r) else
   bif wide w c f||c.args.toList.any (λx=>(pH h w x).isSome) then none else
   bif c.args.toList.any (xF w) then
    match bD P 0 w f with
    |some (.pv (.fn g I))=>E5 P C w c.args.toList c.argTypes.toList λQ=>yb (F g ((Q++I).map .pv) []) λr=>MC C g r λr=>bif r.plain&&r.jM then k (.pv r) else none
    |_=>none
   else
   match bD P 0 w f,jS P w c.args.toList c.argTypes.toList with
   |some (.pv (.fn g I)),some Q=>yb (F g ((Q++I).map .pv) []) λr=>MC C g r λr=>bif(!(c.args.toList.any (lF w))||r.plain)&&r.jM then k (.pv r) else none
   |_,_=>none
  |_=>oM (yz P c w) k
 |_=>oM (dQ P h F o w) k
noncomputable def CA (P:Program) (C:lK) (G:St) (t:TypeId) (m D x:Operand) (k:St->Option R):Option R:=
 match P.underlying t with
 |some (.map w q)=>match VO P G q x with
  |some l=>match bD P t l m,(bD P w l D).bind iY,(bD P q l x).bind iY with
   |some (.row id),some key,some v=>match l.ob id with
    |some (.mp k' z B I)=>bif kg P w key&&v.HQ then
      Wm (DQ key v B I) λp=>adn C w q p λp=>k { l with ob:=put l.ob id (some (.mp k' z p.1 p.2)) }
     else none
    |_=>none
   |_,_,_=>none
  |none=>none
 |_=>none
noncomputable def DO (P:Program) (C:lK) (l:St) (t:TypeId) (m D:Operand) (k:St->Option R):Option R:=
 match P.underlying t with
 |some (.map q z)=>match bD P t l m,(bD P q l D).bind iY with
  |some (.row id),some key=>match l.ob id with
   |some (.mp k' w B G)=>bif kg P q key then
     Wm (mdel key B G) λp=>adn C q z p λp=>k { l with ob:=put l.ob id (some (.mp k' w p.1 p.2)) }
    else none
   |_=>none
  |_,_=>none
 |_=>none
noncomputable def V0 (P:Program) (C:lK) (l:St) (t:TypeId) (m G:Operand) (d:Nat) (k:St->Option R):Option R:=
 match Nr P l t m G with
 |some (z,id,key,k',e,q,B,I)=>bif Nat.beq id d then none else match qq P z,isSlice P z with
  |some (.dD _ []),some (D,s)=>bif Nat.beq e D&&Nat.beq s q&&Nat.blt 0 s then
    aeb (adA key B I) λxs w=>Lf C e xs λxs=>mrK C k' e (B,w) λp=>k ((St.new { l with ob:=put l.ob id (some (.mr k' e q p.1 p.2)) } d (.row e q xs)).set (some d) (.row d))
   else none
  |_,_=>none
 |none=>none
noncomputable def X4 (P:Program) (C:lK) (l:St) (t:TypeId) (m G x:Operand) (k:St->Option R):Option R:=
 match Nr P l t m G with
 |some (z,id,key,k',e,q,B,D)=>match x with
  | .const (.slice none 0 0)=>match isSlice P z with
   |some (w,s)=>bif Nat.beq e w&&Nat.beq s q&&Nat.blt 0 s then
     Yg (DQ key (some []) B D) λp=>mrK C k' e p λp=>k { l with ob:=put l.ob id (some (.mr k' e q p.1 p.2)) }
    else none
   |none=>none
  |x=>match bD P z l x with
   |some (.row j)=>match l.ob j with
    |some (.row w s xs)=>bif Nat.beq e w&&Nat.beq s q&&Nat.blt j 10000 then
      Yg (DQ key (some xs) B D) λp=>mrK C k' e p λp=>k { (l.dw j) with ob:=put (l.dw j).ob id (some (.mr k' e q p.1 p.2)) }
     else none
    |_=>none
   |_=>none
 |none=>none
noncomputable def Ge (P:Program) (C:lK) (h:Hint) (F:eN) (w:St) (c:Call) (f:Operand) (d:Option Nat) (k:St->Option R):Option R:=
 match(bD P 0 w f).bind Se,uk P h w c.args.toList c.argTypes.toList with
 |some (g,pre,B),some K=>
  let args:=pre++(K++B)
  let ids:=gN w 200 (args.flatMap SV.ids) [];let G:=iz (d.any h.stay.contains) w (qz args);let m:=ja G 0 ids;let names:=m.map (·.2);let I:=iS m
  bif distinct ids&&Nat.blt ids.length 10000&&args.all (SV.closed ids) then
   match jT w ids I m with
   |some cL=>Bp (F g (args.map (SV.kD I)) cL) λr l=>RU P C ((m.filter λp=>h.keep.contains p.1).map (·.2)) ((m.filter λp=>h.bx.contains p.1).map (·.2)) cL l λq=>MC C g r λr=>match mS names (iS (swap m)) m q with
    |some z=>bif r.jM then
      let D:=fG (ids.filter G) w
      k (St.set { env:=D.env,ob:=λi=>(find z i).orElse λ_=>D.ob i } d (.pv r)) else none
    |none=>none
   |none=>none
  else none
 |_,_=>none
noncomputable def Gc (C:lK) (key:Nat) (F:eN) (B:St) (g:Nat) (args:List SV) (w:Nat->Nat) (d:Option Nat) (k:St->Option R):Option R:=
 let ids:=gN B 200 (args.flatMap SV.ids) [];let m:=qu w 0 ids;let G:=m.filter λp=> !(given w p.1)
 bif distinct ids&&Nat.blt ids.length 10000&&args.all (SV.closed ids)&&(ids.all (λi=> !(given w i))||(Nat.blt ids.length 1000&&ids.all λi=> !(given w i)||iG i)) then
  match jT B ids (iS m) m with
  |some cL=>outC C (key+64 *cL.length) (F g (args.map (SV.kD (iS m))) cL) λD=>
    let z:=newNames (d.getD 0) 0 (D.2.drop G.length);let mm:=G++z
    bif Nat.ble z.length 8&&distinct (mm.map (·.1))&&distinct (mm.map (·.2))&&z.all (λx=>Nat.blt x.1 10000)&&z.all (λx=>Nat.ble 25000 x.2) then
     match mS (mm.map (·.2)) (iS (swap mm)) mm D.2 with
     |some l=>match D.1 with
      | .iQ [.iQ [.self 0, .rD,x]]=>bif(wV x).closed (mm.map (·.2)) then
        let q:=fG (ids.filter (λi=> !(stays w i))++z.map (·.1)) B
        k (St.set { env:=q.env,ob:=λi=>(find l i).orElse λ_=>q.ob i } d (K1 (find l) ((wV x).kD (iS (swap mm)))))
       else none
      |r=>bif r.jM then
        let q:=fG (ids.filter (λi=> !(stays w i))++z.map (·.1)) B
        k (St.set { env:=q.env,ob:=λi=>(find l i).orElse λ_=>q.ob i } d (.pv r))
       else none
     |none=>none
    else none
  |none=>none
 else none
noncomputable def UO (P:Program) (C:lK) (h:Hint) (F:eN) (B:St) (c:Call) (f:Operand) (d key:Nat) (w:List Nat) (k:St->Option R):Option R:=
 let l:=iP h.nest (mZ P w d 0 c.args.toList c.argTypes.toList) B;match(bD P 0 l f).bind Se,CV P w d l 0 c.args.toList c.argTypes.toList with
 |some (g,pre,q),some z=>bif(mZ P w d 0 c.args.toList c.argTypes.toList).all (λx=>Nat.blt x.1 10000) then
   Gc C key F l g (pre++(z++q)) (Ki l (iz false l (vX w 0 z))) (some d) k else none
 |_,_=>none
noncomputable def JQ (P:Program) (C:lK) (h:Hint) (F:eN) (q:St) (c:Call) (f:Operand) (d:Option Nat) (k:St->Option R):Option R:=
 match d with
 |some d=>match find h.vj d with
  |some B=>UO P C h F q c f d B.1 B.2 k
  |none=>match bD P 0 q f,sq P (xb h d).isSome q c.args.toList c.argTypes.toList with
  |some (.pv (.fn g w)),some I=>yb (F g ((I++w).map .pv) []) λr=>MC C (bif(xb h d).isSome then g+1000000 else g) r λr=>match r with
   | .iQ [.iQ [.self e, .dD G xs]]=>bif(xb h d).isSome then none else k ((q.new d (.row e G xs)).set (some d) (.row d))
   | .agg z=>match xb h d with
    |some []=>k (q.set (some d) (.pv (.agg z)))
    |some l=>match tq z l with
     |some D=>bif l.all (λx=>Nat.blt x.1 10000) then k ((iP h.nest l q).set (some d) (.ag D)) else none
     |none=>none
    |none=>none
   |_=>none
  |_,_=>none
 |none=>none
noncomputable def L3 (P:Program) (C:lK) (z:St) (t:TypeId) (x:Operand) (d:Nat) (k:St->Option R):Option R:=
 match bD P 0 z x,Eb P t with
 |some (.rp id K i D),some false=>match z.ob id with
  |some (.rn e l q w I xs B)=>bif Nat.beq K l&&Nat.beq D q&& !(Nat.beq id d)&&Nat.blt id 10000 then
    ZZ B i λG=>Lf C w G λG=>Td C w (B.set i none) λB=>k ((St.new { z with ob:=put z.ob id (some (.rn e l q w I xs B)) } d (.row w I G)).set (some d) (.row d))
   else none
  |_=>none
 |_,_=>none
noncomputable def Wl (P:Program) (C:lK) (w:St) (t:TypeId) (id L i D j:Nat) (k:St->Option R):Option R:=
 match Eb P t,lJ P t,w.ob id,w.ob j with
 |some false,some 1,some (.rn e l q B G xs z),some (.row I K N)=>
  bif Nat.beq L l&&Nat.beq D q&&Nat.blt id 10000&&Nat.blt j 10000&&Nat.beq B I&&Nat.beq G K&& !(Nat.beq id j) then
   check (i<z.length) (Td C B (z.set i (some N)) λz=>k { (w.dw j).dw (id+40000) with ob:=put ((w.dw j).dw (id+40000)).ob id (some (.rn e l q B G xs z)) })
  else none
 |_,_,_,_=>none
noncomputable def Wz (P:Program) (C:lK) (h:Hint) (F:eN) (o:Oper) (w:St) (k:St->Option R):Option R:=
 match o.op with
 | .makeSlice t l c=>match o.dst,isSlice P t,(bD P 0 w l).bind iY,(bD P 0 w c).bind iY with
  |some d,some (e,s),some (.int _ l),some (.int _ c)=>match zeroCells P e,P.info? e with
   |some z,some i=>bif Nat.blt 0 s&&Nat.beq z.length s then check (0<=l/\l<=c/\i.bytes *c.toNat<=281474976710656/\c<=9223372036854775807)
     (k ((w.new d (.row e s (List.replicate l.toNat z))).set (some d) (.row d))) else none
   |_,_=>none
  |_,_,_,_=>none
 | .store t x y=>match o.dst,bD P 0 w x,bD P t w y with
  |none,some (.rp id B i G),some (.pv v)=>match w.ob id,lJ P t with
   |some (.row e D xs),some n=>bif Nat.beq B D&&Nat.beq v.cells.length n&&v.HQ then
     eG xs i λc=>R1 C e c λc=>bif Nat.ble (G+n) c.length then k { w with ob:=put w.ob id (some (.row e D (xs.set i (c.take G++v.cells++c.drop (G+n))))) } else none
    else none
   |_,_=>none
  |none,some (.rp id B i G),some (.row j)=>Wl P C w t id B i G j k
  |none,some (.ptr id G),some (.sub j B 0 n)=>oM (Xa P w t id G j B n) k
  |none,some a,some v=>oM (storeAt P t w a v) k
  |_,_,_=>none
 | .load t x=>bif o.dst.any h.take.contains then
   match o.dst with
   |some d=>L3 P C w t x d k
   |none=>none
  else vT P C h F o w λv=>k (w.set o.dst v)
 | .call c=>match c.callee with
  | .builtin .append=>match o.dst,c.args.toList,c.argTypes.toList with
   |some d,[x,y],[t,U]=>match isSlice P t,bD P t w x,bD P U w y with
    |some (e,s),some (.row id),some y=>match w.ob id,elems w y,P.info? e with
     |some (.row Q B xs),some (D,I),some i=>
      bif Nat.beq t U&&Nat.beq e Q&&Nat.beq s B&&Nat.beq B D&&Nat.blt 0 B&&(i.zero.map (λz=>z.cells.size)==some B)&&gO id then
       check ((xs.length+I.length) *i.bytes<=140737488355328/\xs.length+I.length<=4611686018427387904) (k ((w.new id (.row e B (xs++I))).set (some d) (.row id)))
      else none
     |some (.rn Q B q e2 s2 xs zs),some (D,I),some i=>
      bif Nat.beq t U&&Nat.beq e Q&&Nat.beq s B&&Nat.beq B D&&Nat.blt 0 B&&(i.zero.map (λz=>z.cells.size)==some B)&&gO id&&I.all (qI q) then
       check ((xs.length+I.length) *i.bytes<=140737488355328/\xs.length+I.length<=4611686018427387904) (Td C e2 (zs++I.map λ_=>some []) λzs=>k ((w.new id (.rn e B q e2 s2 (xs++I.map λc=>c.set q .hole) zs)).set (some d) (.row id)))
      else none
     |_,_,_=>none
    |some (e,s),some (.aq id .full),some y=>match w.ob id,elems w y,P.info? e with
     |some (.row Q B xs),some (D,I),some i=>
      bif Nat.beq t U&&Nat.beq e Q&&Nat.beq s B&&Nat.beq B D&&Nat.blt 0 B&&(i.zero.map (λz=>z.cells.size)==some B)&&gO id&& !I.isEmpty then
       check ((xs.length+I.length) *i.bytes<=140737488355328/\xs.length+I.length<=4611686018427387904) (k ((w.new id (.row e B (xs++I))).set (some d) (.row id)))
      else none
     |_,_,_=>none
    |_,_,_=>none
   |_,_,_=>none
  | .builtin .delete=>match o.dst,c.args.toList,c.argTypes.toList with
   |none,[m,O],t::_=>DO P C w t m O k
   |_,_,_=>none
  | .builtin .clear=>match o.dst,c.args.toList,c.argTypes.toList with
   |none,[x],[t]=>match isSlice P t,bD P t w x with
    |some (e,s),some (.sub id B lo V)=>match w.ob id,zeroCells P e with
     |some (.row Q D xs),some z=>bif Nat.beq s B&&Nat.beq B D&&Nat.beq z.length B&&Nat.beq e Q&&Nat.blt 0 B then
       check (V<=xs.length) (k { w with ob:=put w.ob id (some (.row Q D (xs.take lo++List.replicate (V-lo) z++xs.drop V))) }) else none
     |_,_=>none
    |none,_=>match E8 P w t x with
     |some K=>k K
     |none=>none
    |_,_=>none
   |_,_,_=>none
  | .value f=>bif o.dst.any h.owns.contains then JQ P C h F w c f o.dst k else bif o.dst.any h.stay.contains&&wide w c f then vT P C h F o w λv=>k (w.set o.dst v) else bif wide w c f then Ge P C h F w c f o.dst k else bif c.args.toList.any (λx=>(pH h w x).isSome) then
    match bD P 0 w f,E6 P h w c.args.toList c.argTypes.toList with
    |some (.pv (.fn g L)),some (vs,[id])=>match w.ob id with
     |some (.row e B xs)=>Hr (F g (vs++L.map .pv) [(10000, .row e B xs)]) 10000 e B λr N=>MC C g r λr=>Lf C e N λN=>match r with
       | .self n=>bif gO id then check (n<=N.length) (k ((w.new id (.row e B (N.take n))).set o.dst (.row id))) else none
       |r=>bif r.plain then k (St.set { w with ob:=put w.ob id (some (.row e B N)) } o.dst (.pv r)) else none
     |_=>none
    |_,_=>none
   else bif c.args.toList.any (xF w) then vT P C h F o w λv=>k (w.set o.dst v)
   else bif c.args.toList.any (lF w) then
    match bD P 0 w f,jS P w c.args.toList c.argTypes.toList with
    |some (.pv (.fn g L)),some vs=>yb (F g ((vs++L).map .pv) []) λr=>MC C g r λr=>bif r.plain&&r.jM then k (w.set o.dst (.pv r)) else
      match mI.jN w c.args.toList with
      |some K=>match bD P 0 K f,jS P K c.args.toList c.argTypes.toList with
       |some (.pv (.fn g' S)),some vs'=>bif c.args.toList.any (lF K) then none else yb (F g' ((vs'++S).map .pv) []) λr=>MC C g' r λr=>bif r.jM then k (K.set o.dst (.pv r)) else none
       |_,_=>none
      |none=>none
    |_,_=>none
   else vT P C h F o w λv=>k (w.set o.dst v)
  |_=>vT P C h F o w λv=>k (w.set o.dst v)
 | .mapUpdate t m O x=>match o.dst with
  |none=>bif qA h m then X4 P C w t m O x k else CA P C w t m O x k
  |some _=>none
 | .insert t m O x=>match o.dst with
  |none=>bif qA h m then X4 P C w t m O x k else CA P C w t m O x k
  |some _=>none
 | .lookup t m O ok=>bif qA h m&& !ok then
   match o.dst with
   |some d=>V0 P C w t m O d k
   |none=>none
  else vT P C h F o w λv=>k (w.set o.dst v)
 | .range t x=>match o.dst,P.underlying t,(bD P t w x).bind iY with
  |some d,some .string,some (.str s)=>k ((w.new d (.it s 0)).set (some d) (.ptr d 0))
  |_,_,_=>none
 | .next x true=>match o.dst,bD P 0 w x with
  |some d,some (.ptr id 0)=>match w.ob id with
   |some (.it s pos)=>bif Nat.blt pos s.length then
     k (St.set { w with ob:=put w.ob id (some (.it s (pos+(Utf8.decode ⟨s.toArray⟩ pos).2))) } (some d) (.pv (.iQ [.bool true, .int .i64 pos, .int .i32 (Utf8.decode ⟨s.toArray⟩ pos).1])))
    else k (w.set (some d) (.pv (.iQ [.bool false])))
   |_=>none
  |_,_=>none
 | .assign _| .buildSlice _ _ _| .box _ _| .alloc _| .makeMap _ _| .makeFunc _ _ _| .build _ _=>oM (step0 P h F o w) k
 |_=>vT P C h F o w λv=>k (w.set o.dst v)
noncomputable def Py (C:lK) (l:St) (t:Nat) (k:St->Option R):Option R:=
 match l.env t with
 |some (.ag [.r id])=>match l.ob id with
  |some (.rn e z q I B xs D)=>bif iG id then
    Rs (oG D) λG=>Lf C e (wG q B xs G) λw=>k { env:=λi=>(l.env i).map (SV.cV id (.dD z w)),ob:=put (λi=>(l.ob i).map (Ob.cV id (.dD z w))) id none }
   else none
  |_=>oM (qx l t) k
 |_=>oM (qx l t) k
noncomputable def GB (C:lK):List Nat->St->(St->Option R)->Option R
 |[],q,k=>k q
 |t::l,q,k=>Py C q t λq=>GB C l q k
noncomputable def stepT (P:Program) (C:lK) (h:Hint) (F:eN) (o:Oper) (l:St) (k:St->Option R):Option R:=GB C (Fl h o) l λl=>Wz P C h F o l k
def YR (w:Array Oper) (o:Oper) (q:St) (k:Bool->St->Option R):Option R:=
 match o.guard with
 |none=>k true q
 |some (j,l)=>match(w[j]?).bind (·.dst) with
  |some d=>match q.env d with
   |some (.pv (.bool true))=>k l q
   |some (.pv (.bool false))=>k (!l) q
   |some .undef=>k false q
   |_=>none
  |none=>none
def guards (l:Array Oper) (i:Nat):Bool:=l.toList.any λo=>match o.guard,o.op with
 |some (j,_),_=>Nat.beq j i
 |none,_=>false
def Lr (b:Bool) (d:Option Nat) (l:St) (k:St->Option R):Option R:=
 bif b then
  match d with
  |some d=>match l.env d with
   |some (.pv (.bool t))=>bif t then k (l.set (some d) (.pv (.bool true))) else k (l.set (some d) (.pv (.bool false)))
   |_=>k l
  |none=>k l
 else k l
noncomputable def I3 (P:Program) (C:lK) (h:Hint) (F:eN) (w:Array Oper):Nat->List Oper->St->(St->Option R)->Option R
 |_,[],q,k=>k q
 |i,o::l,q,k=>YR w o q λb q=>bif b then stepT P C h F o q λq=>Lr (guards w i) o.dst q λq=>I3 P C h F w (i+1) l q k
   else I3 P C h F w (i+1) l (q.set o.dst .undef) k
noncomputable def BZ (P:Program) (C:lK) (h:Hint) (F:eN) (q:Array Oper):Nat->List Oper->List (Nat×gA)->St->(St->Option R)->Option R
 |_,[],_,w,k=>k w
 |i,o::l,z,w,k=>YR q o w λb w=>bif b then
    bif isF h w o&&(Fl h o).isEmpty then
     vT P C h F o w λv=>bif xN q z i ((vS P h q o w).fill w (w.set o.dst v)) then
      Lr (guards q i) o.dst (w.set o.dst v) λB=>BZ P C h F q (i+1) l ((i,(vS P h q o w).fill w (w.set o.dst v))::z) B k else none
    else stepT P C h F o w λB=>bif xN q z i ((uC P h q o w).fill w B) then
      Lr (guards q i) o.dst B λD=>BZ P C h F q (i+1) l ((i,(uC P h q o w).fill w B)::z) D k else none
   else bif xN q z i ((tN q o).fill w (w.set o.dst .undef)) then BZ P C h F q (i+1) l ((i,(tN q o).fill w (w.set o.dst .undef))::z) (w.set o.dst .undef) k else none
@[irreducible] noncomputable def Kt (P:Program) (h:Hint) (F:eN) (c:Code) (st:St) (k:Ex->St->Option R):Option R:=
 open Classical in if l : ∃ x n, exec P h F n (.loop c) st = some x then k l.choose.1 l.choose.2 else none
def seqK (q:St->(Ex->St->Option R)->Option R) (k:Ex->St->Option R):Ex->St->Option R:=λe l=>match e with
 | .normal=>q l k
 |e=>k e l
def UH (id:Nat) (k:Ex->St->Option R):Ex->St->Option R:=λe l=>match e with
 | .exit j=>bif Nat.beq j id then k .normal l else k (.exit j) l
 |e=>k e l
noncomputable def Ux (P:Program) (h:Hint) (F:eN) (c:Code) (k:Ex->St->Option R):Ex->St->Option R:=λe l=>match e with
 | .normal=>Kt P h F c (h.canon (fq c) l) k
 |e=>k e l
noncomputable def CC (C:lK):List Nat->St->(St->Option R)->Option R
 |[],w,k=>k w
 |id::l,w,k=>match w.ob id with
  |some (.mr I e z G L)=>bif iG id then
    Rs (oG L) λxs=>mpK C I e z (G,xs.map (.dD z)) λp=>CC C l { env:=λi=>(w.env i).map (SV.cV id (.mp p.1 p.2)),ob:=put (λi=>(w.ob i).map (Ob.cV id (.mp p.1 p.2))) id none } k
   else none
  |some (.rn e z q Q K xs N)=>bif iG id then
    Rs (oG N) λO=>Lf C e (wG q K xs O) λB=>CC C l { env:=λi=>(w.env i).map (SV.cV id (.dD z B)),ob:=put (λi=>(w.ob i).map (Ob.cV id (.dD z B))) id none } k
   else none
  |_=>match w.K2 id with
   |some D=>CC C l D k
   |none=>none
noncomputable def adX (C:lK) (h:Hint) (id:Nat) (q:St) (k:St->Option R):Option R:=
 match find h.mw id with
 |some l=>CC C l q k
 |none=>k q
noncomputable def sN (P:Program) (C:lK) (h:Hint) (F:eN):Code->St->(Ex->St->Option R)->Option R
 | .skip,l,k=>k .normal l
 | .label _,l,k=>k .normal l
 | .region id q w,l,k=>adX C h id l λl=>
  bif w then
   bif sW 0 q.toList then BZ P C h F q 0 q.toList [] (sr (x8 q.toList) l) (k .normal) else none
  else I3 P C h F q 0 q.toList l (k .normal)
 | .seq a b,l,k=>match find h.blk (fq a) with
  |some x=>check (x.1 l=true) (k (exOf (x.2 l).1) (x.2 l).2)
  |none=>sN P C h F a l (seqK (sN P C h F b) k)
 | .cond c a b,l,k=>match bD P 0 l c with
  |some (.pv (.bool t))=>bif t then sN P C h F a l k else sN P C h F b l k
  |_=>none
 | .block id c,l,k=>sN P C h F c l (UH id k)
 | .loop c,l,k=>Kt P h F c (h.canon (fq c) l) k
 | .exit id,l,k=>k (.exit id) l
 | .ret,l,k=>k .ret l
 | .scope c,l,k=>sN P C h F c l k
 |_,_,_=>none
noncomputable def ES (P:Program) (C:lK) (h:Hint) (F:eN) (key:Nat):Code->(Ex->St->Option R)->Option (Code×(Ex->St->Option R))
 | .seq a b,k=>match find h.blk (fq a) with
  |some _=>none
  |none=>match ES P C h F key a (seqK (sN P C h F b) k) with
   |some x=>some x
   |none=>ES P C h F key b k
 | .cond _ a b,k=>match ES P C h F key a k with
  |some x=>some x
  |none=>ES P C h F key b k
 | .block id c,k=>ES P C h F key c (UH id k)
 | .loop c,k=>bif Nat.beq (fq c) key then some (c,k) else ES P C h F key c (Ux P h F c k)
 | .scope c,k=>ES P C h F key c k
 |_,_=>none
end
noncomputable def WY (P:Program) (C:lK) (H:Nat->Hint) (gI:eN) (f:Nat) (args:List SV) (cL:List (Nat×Ob)):Option (AV×List (Nat×Ob)):=
 match P.funcs[f]? with
 |some fn=>match fn.body with
  |some c=>bif Nat.ble args.length fn.ntmps&&(cL.map (·.1)).all (λi=> !(iG i)||giv i) then sN P C (H f) (run P H gI) c { env:=find (zz 0 args),ob:=find cL } (abn P (H f).own fn ((cL.map (·.1)).filter λi=> !(iG i))) else none
  |none=>none
 |none=>none
noncomputable def uD (P:Program) (C:lK) (H:Nat->Hint) (gI:eN) (f key:Nat) (names:List Nat) (l:List (Nat×SV)) (w:List (Nat×Ob)):Option (AV×List (Nat×Ob)):=
 match P.funcs[f]? with
 |some fn=>match fn.body with
  |some c=>match ES P C (H f) (run P H gI) key c (abn P (H f).own fn names) with
   |some (q,k)=>Kt P (H f) (run P H gI) q { env:=find l,ob:=find w } k
   |none=>none
  |none=>none
 |none=>none
noncomputable def Ww (P:Program) (C:lK) (H:Nat->Hint) (gI:eN) (f key:Nat) (names:List Nat) (q:List (Nat×SV)) (w:List (Nat×Ob)):Option (AV×List (Nat×Ob)):=
 match P.funcs[f]? with
 |some fn=>match fn.body with
  |some c=>match ES P C (H f) (run P H gI) key c (abn P (H f).own fn names) with
   |some (l,k)=>sN P C (H f) (run P H gI) l ((H f).canon (fq l) { env:=find q,ob:=find w }) (Ux P (H f) (run P H gI) l k)
   |none=>none
  |none=>none
 |none=>none
section
variable {R:Type} {P:Program} {C:lK} {h:Hint} {F:eN}
def eX {q:Type} {c:Option q} {k:q->Option R} {r:R} (l:oM c k=some r):∃x,c=some x/\k x=some r:=by cases c with
 |none=>simp[oM] at l
 |some x=>exact⟨x,rfl,l⟩
theorem gG {p:Prop} [Decidable p] {x:Option R} {r:R} (l:check p x=some r):p/\x=some r:=by simp_all[check]
def Na {l:Type} {xs:List l} {i:Int} {k:l->Option R} {r:R} (q:bA xs i k=some r):0<=i/\∃x,xs[i.toNat]? =some x/\k x=some r:=by grind[bA]
def Nb {l:Type} {xs:List l} {i:Nat} {k:l->Option R} {r:R} (q:eG xs i k=some r):∃x,xs[i]? =some x/\k x=some r:=by grind[eG]
def vK {c:Option (AV×List (Nat×Ob))} {k:AV->Option R} {r:R} (l:yb c k=some r):∃x,c=some (x,[])/\k x=some r:=by unfold yb at l;grind
def UQ {c:Option (AV×List (Nat×Ob))} {w e z:Nat} {k:AV->List (List AV)->Option R} {r:R} (l:Hr c w e z k=some r):∃x xs,c=some (x,[(w, .row e z xs)])/\k x xs=some r:=by
 unfold Hr at l;split at l
 .replace l:=bW l;obtain⟨q,l⟩:=l;simp only[aS] at q;have B:=beq_iff.1 q.1.1;have D:=beq_iff.1 q.1.2;have G:=beq_iff.1 q.2;grind
 simp_all
def oT {q T:Type} {enc:T->q} {c:q} {k:T->Option R} {r:R} (l:tK enc c k=some r):∃d,enc d=c/\k d=some r:=by
 unfold tK at l;split at l
 .grind
 simp_all
def DF {e:TypeId} {c:List AV} {k:List AV->Option R} {r:R} (l:R1 C e c k=some r):k c=some r:=by
 unfold R1 at l;split at l
 .obtain⟨x,rfl,q⟩:=oT l;omega
 omega
theorem ql {e:TypeId} {c:List (List AV)} {k:List (List AV)->Option R} {r:R} (l:Lf C e c k=some r):k c=some r:=by
 unfold Lf at l;split at l
 .obtain⟨x,rfl,q⟩:=oT l;omega
 omega
def rC {g:Nat} {c:AV} {k:AV->Option R} {r:R} (l:MC C g c k=some r):k c=some r:=by
 unfold MC at l;split at l
 .obtain⟨x,rfl,q⟩:=oT l;omega
 omega
def aae {t:TypeId} {c:AV} {k:AV->Option R} {r:R} (l:valK C t c k=some r):k c=some r:=by
 unfold valK at l;split at l
 .obtain⟨x,rfl,q⟩:=oT l;omega
 omega
def Gq {w q:TypeId} {c:List AV×List AV} {k:List AV×List AV->Option R} {r:R} (l:adn C w q c k=some r):k c=some r:=by
 unfold adn at l;split at l
 .obtain⟨x,rfl,z⟩:=oT l;omega
 omega
def VU {x:Option (Option AV)} {k:AV->Option R} {z:Option R} {r:R} (l:Nk x k z=some r):(∃v,x=some (some v)/\k v=some r)\/(x=some none/\z=some r):=by unfold Nk at l;grind
def NF {x:Option (List AV×List AV)} {k:List AV×List AV->Option R} {r:R} (l:Wm x k=some r):∃p,x=some p/\k p=some r:=by unfold Wm at l;grind
def JP {c:Option (AV×List (Nat×Ob))} {k:AV->List (Nat×Ob)->Option R} {r:R} (q:Bp c k=some r):∃x l,c=some (x,l)/\k x l=some r:=by unfold Bp at q;grind
def F4 {z:Nat} {l:List (Nat×Ob)} {k:Ob->List (Nat×Ob)->Option R} {r:R} (q:vv z l k=some r):∃o w,l=(z,o)::w/\k o w=some r:=by
 unfold vv at q;split at q
 .replace q:=bW q;obtain⟨B,q⟩:=q;have:=beq_iff.1 B;grind
 simp_all
theorem Nv {l:List (Nat×Ob)} {k:Option R} {r:R} (q:ZQ l k=some r):l=[]/\k=some r:=by unfold ZQ at q;grind
def Aa {o l:Ob} {k:Option R} {r:R} (q:Fy o l k=some r):o=l/\k=some r:=by simp_all[Fy]
def UC {e q:Nat} {o:Ob} {k:List (List AV)->Option R} {r:R} (l:Rv e q o k=some r):∃xs,o= .row e q xs/\k xs=some r:=by
 unfold Rv at l;split at l
 .replace l:=bW l;simp_all
 simp_all
def UB {z w:Nat} {o:Ob} {k:List AV×List AV->Option R} {r:R} (l:Ru z w o k=some r):∃p,o= .mp z w p.1 p.2/\k p=some r:=by
 unfold Ru at l;split at l
 .replace l:=bW l;obtain⟨q,l⟩:=l;simp only[aS] at q;have B:=beq_iff.1 q.1;have D:=beq_iff.1 q.2;grind
 simp_all
def Zz {x:Option (Option Nat)} {k:Bool->Option R} {r:R} (l:hasK x k=some r):∃q,x=some q/\k q.isSome=some r:=by unfold hasK at l;grind
def RC {x:Option (List UInt8)} {k:List UInt8->Option R} {r:R} (l:UK x k=some r):∃b,x=some b/\k b=some r:=by unfold UK at l;grind
def WG {x:Option (List (List AV)×List (Option (List (List AV))))} {k:List (List AV)->List (Option (List (List AV)))->Option R} {r:R} (l:aeb x k=some r):∃p,x=some p/\k p.1 p.2=some r:=by unfold aeb at l;grind
def K4 {x:Option (List AV×List (Option (List (List AV))))} {k:List AV×List (Option (List (List AV)))->Option R} {r:R} (l:Yg x k=some r):∃p,x=some p/\k p=some r:=by unfold Yg at l;grind
def Cl {x:Option (List (List (List AV)))} {k:List (List (List AV))->Option R} {r:R} (q:Rs x k=some r):∃l,x=some l/\k l=some r:=by unfold Rs at q;grind
theorem Nz {l:List (Option (List (List AV)))} {i:Nat} {k:List (List AV)->Option R} {r:R} (w:ZZ l i k=some r):∃q,l[i]? =some (some q)/\k q=some r:=by grind[ZZ]
def DS {e:TypeId} {q:List (Option (List (List AV)))} {k:List (Option (List (List AV)))->Option R} {r:R} (l:Td C e q k=some r):k q=some r:=by
 unfold Td at l;split at l
 .obtain⟨x,rfl,w⟩:=oT l;omega
 omega
def KE {q e:TypeId} {c:List AV×List (Option (List (List AV)))} {k:List AV×List (Option (List (List AV)))->Option R} {r:R} (l:mrK C q e c k=some r):k c=some r:=by
 unfold mrK at l;split at l
 .obtain⟨x,rfl,w⟩:=oT l;omega
 omega
def ady {q e:TypeId} {w:Nat} {c:List AV×List AV} {k:List AV×List AV->Option R} {r:R} (l:mpK C q e w c k=some r):k c=some r:=by
 unfold mpK at l;split at l
 .obtain⟨x,rfl,z⟩:=oT l;omega
 omega
def H9 {o w:Ob} {k:Ob->Option R} {r:R} (l:PY C o w k=some r):k w=some r:=by
 unfold PY at l;split at l
 .obtain⟨xs,rfl,q⟩:=UC l;exact ql q
 .obtain⟨p,rfl,q⟩:=UB l;exact Gq q
 .unfold asLp at l;grind
 .obtain⟨rfl,q⟩:=Aa l;omega
theorem JC:∀{l:List SV} {q:List AV},mR l=some q->l=q.map .pv
 |[],q,h=>by simp_all[mR]
 |s::l,q,h=>by cases s with
  |pv v=>simp[mR,cB] at h;obtain⟨z,w,rfl⟩:=h;rw[JC w];rfl
  |_=>simp[mR] at h
def Y5 {o q:Ob} {k:Ob->Option R} {r:R} (l:boxK P C o q k=some r):k q=some r:=by
 unfold boxK at l;split at l
 .split at l
  .unfold JE at l;split at l
   .rename_i h;have:=ql l;rw[<-h.choose_spec] at this;exact this
   .cases l
  split at l
  .unfold asBox at l;split at l
   .split at l
    .replace l:=bW l;obtain⟨w,l⟩:=l;have:=beq_iff.1 w;obtain⟨x,e,l⟩:=oT l;grind[JC]
    .simp_all
   .simp_all
  .obtain⟨rfl,z⟩:=Aa l;exact z
 .exact H9 l
def zK {keep D:List Nat}:∀{l B:List (Nat×Ob)} {k:List (Nat×Ob)->Option R} {r:R},RU P C keep D l B k=some r->k B=some r
 |[],B,k,r,q=>by obtain⟨rfl,K⟩:=Nv q;omega
 |(L,o)::l,B,k,r,q=>by replace q:=F4 q;obtain⟨N,I,rfl,q⟩:=q;cases z:keep.contains _ with
  |true=>rw[z] at q;obtain⟨e,q⟩:=Aa q;subst e;exact zK (k:=λG=>k _) q
  |false=>
   rw[z] at q;cases w:D.contains _ with
   |true=>rw[w] at q;simp at q;exact zK (k:=λG=>k _) (Y5 q)
   |false=>
   rw[w] at q;simp at q;exact zK (k:=λG=>k _) (H9 q)
def Z4 {a:AV} {k:List AV->Option R} {r:R} (q:ptrK a k=some r):∃l,a= .ref l/\k l=some r:=by unfold ptrK at q;grind
def RT {a:AV} {k:AV->Option R} {r:R} (l:abg C a k=some r):∃q,a= .ref q/\k (.ref q)=some r:=by
 obtain⟨q,e,l⟩:=Z4 l;refine⟨q,e,?_⟩;split at l
 .obtain⟨x,w,l⟩:=oT l;simp_all
 omega
def CU:∀{l q:List (Nat×Ob)} {k:Option R} {r:R},Ev l q k=some r->q=l/\k=some r
 |[],q,k,r,w=>by grind[Ev,Nv]
 |(L,o)::l,q,k,r,w=>by obtain⟨N,K,e1,z⟩:=F4 w;obtain⟨D,B⟩:=Aa z;obtain⟨G,I⟩:=CU B;simp_all
theorem Ol {z:St} {c:Call} {f:Operand} {k:AV->Option R} {r:R} (q:Oj P C h F z c f k=some r):∃v,sS P h F z c f=some v/\k v=some r:=by
 unfold Oj at q;split at q
 .rename_i g args G;obtain⟨I,q⟩:=bW q;split at q
  .rename_i cL K;obtain⟨x,l,L,q⟩:=JP q;obtain⟨e,B⟩:=CU q;subst e;obtain⟨w,D⟩:=bW (rC B);refine⟨x,?_,D⟩;simp[sS,G,I,ak,K,L,FA,w,rJ]
  simp_all
 simp_all
theorem oU {w:Option SV} {d q:Nat} {k:Nat->Option R} {r:R} (l:xI w d q k=some r):∃n,iq w d q=some n/\k n=some r:=by
 unfold xI at l;split at l
 .exact⟨d,rfl,l⟩
 .grind[gG,iq]
 simp_all
def VQ {w:St} {v:SV} {k:AV->Option R} {r:R} (q:adm C w v k=some r):∃x,mJ w v=some x/\k x=some r:=by
 unfold adm at q;split at q
 .grind[Nz,mJ,ql]
 .split at q
  .obtain⟨l,z,q⟩:=Cl q;exact⟨_,by simp_all[mJ,kG,Ob.val],ql q⟩
  .exact eX q
 .exact eX q
def Da {z:St}:∀{xs:List Operand} {q:List TypeId} {k:List AV->Option R} {r:R},E5 P C z xs q k=some r->∃w,jS P z xs q=some w/\k w=some r
 |[],_,k,r,l=>⟨[],rfl,l⟩
 |x::xs,q,k,r,l=>by
  simp[E5] at l;split at l
  .obtain⟨a,D,l⟩:=VQ l;obtain⟨w,B,l⟩:=Da l;simp_all[jS]
  simp_all
def Uw {q:St}:∀{xs:List Operand},xs.any (xF q)=true->xs.any (lF q)=true:=by intro xs h;obtain⟨x,w,l⟩:=kM.1 h;cases x with
 |tmp i=>simp[xF] at l;simp[lF];grind
 |_=>cases l
def EW {o:Oper} {L:St} {k:SV->Option R} {r:R} (l:vT P C h F o L k=some r):∃v,dQ P h F o L=some v/\k v=some r:=by
 unfold vT at l;split at l
 .rename_i c x y D;split at l
  .rename_i t I;cases t with
   |true=>simp_all[eX,dQ,eW]
   |false=>simp_all[eX,dQ,eW]
  simp_all
 .rename_i x D;split at l
  .rename_i a B;obtain⟨cs,rfl,w⟩:=RT l;simp_all[dQ,eW]
  simp_all[eX,dQ]
 .rename_i t x ix D;split at l
  .simp_all[eX,dQ,eW]
  .rename_i hna;have hp:dQ P h F o L=wY P L t x ix:=by
    simp only[dQ,D,eW]
   rw[hp];split at l
   .rename_i e s V xs q i Q B U;replace l:=bW l;obtain⟨G,l⟩:=l;have:=beq_iff.1 G;subst this;obtain⟨h0,c,I,w⟩:=Na l;exact⟨_,by simp[wY,Q,B,U,h0,I],DF w⟩
   .rename_i e s id q i Q B U;split at l
    .rename_i e' V xs K;replace l:=bW l;obtain⟨G,l⟩:=l;have:=beq_iff.1 G;subst this;obtain⟨I,w⟩:=gG l;exact⟨_,by simp[wY,Q,B,U,K,I],w⟩
    .rename_i e' V _ _ _ xs _ K;replace l:=bW l;obtain⟨G,l⟩:=l;have:=beq_iff.1 G;subst this;obtain⟨I,w⟩:=gG l;exact⟨_,by simp[wY,Q,B,U,K,I],w⟩
    simp_all
   .rename_i e s id V lo hi' q i Q B U;replace l:=bW l;grind[beq_iff,gG,wY]
   .exact eX l
   .cases l
 .rename_i t x ix D;split at l
  .rename_i s q i S B U;obtain⟨h0,b,G,w⟩:=Na l;simp_all[dQ,eW]
  simp_all
 .rename_i t x D;cases Vp:o.dst.any h.take.contains with
  |true=>simp_all
  |false=>
  rw[Vp] at l;simp only[az] at l;have hfp:dQ P h F o L=eW P o L:=by simp only[dQ,D,Vp,az]
  rw[hfp];split at l
  .rename_i id V i off B;split at l
   .rename_i e sz' xs K;replace l:=bW l;obtain⟨G,l⟩:=l;have:=beq_iff.1 G;subst this;obtain⟨c,I,l⟩:=Nb l;replace l:=DF l;obtain⟨v,ht,w⟩:=eX l;simp_all[eW]
   .rename_i e sz' q e' s' xs ys K;replace l:=bW l;obtain⟨G,l⟩:=l;simp only[aS] at G;obtain⟨⟨b1,b2⟩,b3⟩:=G;have e1:=beq_iff.1 b1;have e2:=beq_iff.1 b2;have e3:Eb P t=some false:=by simpa using b3
    subst e1 e2;obtain⟨I,w⟩:=gG l;exact⟨_,by simp[eW,D,B,K,I,e3],w⟩
   simp_all
  simp_all[eX]
 .rename_i op t x y t' D;have dflt:oM (eW P o L) (λv=>k v)=some r->∃v,dQ P h F o L=some v/\k v=some r:=λl=>by
   simp_all[eX,dQ]
  split at l
  .rename_i ka a kb b B hy;split at l
   .replace l:=bW l;obtain⟨G,l⟩:=l;have w:ka=kb:=by simpa using G
    subst w;obtain⟨I,w⟩:=gG l;exact⟨_,by simp[dQ,eW,D,B,hy,bin,Gm,I],w⟩
   .replace l:=bW l;obtain⟨G,l⟩:=l;have w:ka=kb:=by simpa using G
    subst w;obtain⟨I,w⟩:=gG l;exact⟨_,by simp[dQ,eW,D,B,hy,bin,Gm,I],w⟩
   .obtain⟨I,w⟩:=gG l
    have:¬b<0:=af
    exact⟨_,by simp[dQ,eW,D,B,hy,bin,B4,this],w⟩
   .obtain⟨I,w⟩:=gG l
    have:¬b<0:=af
    exact⟨_,by simp[dQ,eW,D,B,hy,bin,B4,this],w⟩
   simp_all
  .rename_i a b B hy;split at l
   .obtain⟨I,w⟩:=gG l;exact⟨_,by simp[dQ,eW,D,B,hy,bin,WA,I],w⟩
   .exact dflt l
  simp_all
 .rename_i t x lo U D;split at l
  .rename_i s lv hv' S B O N;obtain⟨n,hn,l⟩:=oU l;obtain⟨m,hm,w⟩:=oU l;exact⟨_,by simp[dQ,eW,D,S,B,O,N,hn,hm],w⟩
  .rename_i e V xs lv hv' S B O N;split at l
   .rename_i e' s Q;replace l:=bW l;obtain⟨G,l⟩:=l;have:=beq_iff.1 G;subst this;obtain⟨n,hn,l⟩:=oU l;obtain⟨m,hm,w⟩:=oU l;exact⟨_,by simp[dQ,eW,D,S,B,O,N,Q,hn,hm],w⟩
   simp_all
  .rename_i e id lv hv' S B O N;split at l
   .rename_i e' s e2 V xs Q K;replace l:=bW l;obtain⟨G,l⟩:=l;have:=beq_iff.1 G;subst this;obtain⟨n,hn,l⟩:=oU l;obtain⟨m,hm,w⟩:=oU l;simp_all[dQ,eW]
   simp_all
  .rename_i e id V a b lv hv' S B O N;split at l
   .rename_i e' s Q;replace l:=bW l;grind[beq_iff,oU,dQ,eW]
   simp_all
  simp_all
 .rename_i t x U mx D;split at l
  .rename_i id B;split at l
   .rename_i e2 V xs e s ka va kb vb K Q hh hm;replace l:=bW l;obtain⟨G,l⟩:=l;have:=beq_iff.1 G;subst this;obtain⟨I,w⟩:=gG l;simp_all[dQ,eW,Xl,aB,trivial]
   simp_all
  simp_all
 .rename_i src dst x D;split at l
  .rename_i e S hd;split at l
   .rename_i xs he Q B;obtain⟨b,G,w⟩:=RC l;simp_all[dQ,eW]
   simp_all
  simp_all[eX,dQ]
 .rename_i t x kx ok D;cases hrm:(qA h x&& !ok) with
  |true=>simp_all
  |false=>
  rw[hrm] at l;simp only[az] at l;split at l
  .rename_i kt et S;split at l
   .rename_i ks key B w;obtain⟨hok,l⟩:=bW l;obtain⟨q,hq,l⟩:=Zz l;simp_all[dQ,eW,az,ak,dX]
   .rename_i hno;split at l
    .rename_i ks vs key B w;have hnk:(bD P t L x).bind (HG L)=none:=by
      cases hkk:(bD P t L x).bind (HG L) with
      |none=>rfl
      |some ks'=>simp_all
     obtain⟨hok,l⟩:=bW l;rcases VU l with⟨v,hg,l⟩|⟨hg,l⟩
     .exact⟨_,by simp only[dQ,eW,D,hrm,az,S,hnk,B,w,hok,ak,hg],aae l⟩
     .obtain⟨z,hz,l⟩:=eX l;exact⟨_,by simp only[dQ,eW,D,hrm,az,S,hnk,B,w,hok,ak,hg,hz,dX],l⟩
    simp_all
  simp_all
 .rename_i c D;split at l
  .rename_i f I;cases how:o.dst.any h.owns.contains with
   |true=>simp_all
   |false=>
   rw[how] at l;simp only[az] at l;cases hro:(o.dst.any h.stay.contains&&wide L c f) with
   |true=>rw[hro] at l;simp only[ak] at l;grind[Ol,dQ]
   |false=>
   rw[hro] at l;simp only[az] at l;cases Kl:(wide L c f||c.args.toList.any (λx=>(pH h L x).isSome)) with
   |true=>grind
   |false=>
   rw[Kl] at l;simp only[az] at l;cases hag:c.args.toList.any (xF L) with
   |true=>
    rw[hag] at l;simp only[ak] at l;have Vj:=Uw hag;split at l
    .rename_i g caps hf;obtain⟨vs,hvs,l⟩:=Da l;obtain⟨r',B,l⟩:=vK l;obtain⟨hp,w⟩:=bW (rC l);refine⟨_,?_,w⟩;simp only[dQ,D,I,hf,hvs,B];grind
    simp_all
   |false=>
   rw[hag] at l;simp only[az] at l;split at l
   .rename_i g caps vs hf hvs;obtain⟨r',B,l⟩:=vK l;obtain⟨G,w⟩:=bW (rC l);refine⟨_,?_,w⟩;simp[dQ,D,I,hf,hvs];grind
   simp_all
  simp_all[eX,dQ]
 .exact eX l
def AB {z:St} {t:TypeId} {m w x:Operand} {k:St->Option R} {r:R} (l:CA P C z t m w x k=some r):∃q,yo P z t m w x=some q/\k q=some r:=by
 unfold CA at l;split at l
 .split at l
  .split at l
   .split at l
    .obtain⟨B,l⟩:=bW l;obtain⟨p,D,l⟩:=NF l;replace l:=Gq l;simp_all[yo]
    simp_all
   simp_all
  simp_all
 simp_all
def Gp {z:St} {t:TypeId} {m w:Operand} {k:St->Option R} {r:R} (l:DO P C z t m w k=some r):∃q,ym P z t m w=some q/\k q=some r:=by
 unfold DO at l;split at l
 .split at l
  .split at l
   .obtain⟨B,l⟩:=bW l;obtain⟨p,D,l⟩:=NF l;replace l:=Gq l;simp_all[ym]
   simp_all
  simp_all
 simp_all
def Ir {K:St} {c:Call} {f:Operand} {d:Option Nat} {k:St->Option R} {r:R} (q:Ge P C h F K c f d k=some r):∃z,j0 P h F K c f d=some z/\k z=some r:=by
 unfold Ge at q;split at q
 .rename_i g I V N D;replace q:=bW q;obtain⟨L,q⟩:=q;split at q
  .rename_i cL Q;obtain⟨U,l,S,q⟩:=JP q;replace q:=rC (zK q);split at q
   .rename_i G w;replace q:=bW q;obtain⟨B,O⟩:=q;refine⟨_,?_,O⟩;simp only[j0,N,D,L,ak,Q,S,w,B]
   simp_all
  simp_all
 simp_all
def HK {B:St} {t:TypeId} {m z x:Operand} {k:St->Option R} {r:R} (l:X4 P C B t m z x k=some r):∃q,VZ P B t m z x=some q/\k q=some r:=by
 unfold X4 at l;split at l
 .split at l
  .split at l
   .replace l:=bW l;obtain⟨w,l⟩:=l;simp only[aS] at w;have G:=beq_iff.1 w.1.2;obtain⟨p,D,l⟩:=K4 l;refine⟨_,?_,KE l⟩;simp_all[VZ]
   simp_all
  .split at l
   .split at l
    .replace l:=bW l;obtain⟨w,l⟩:=l;obtain⟨p,D,l⟩:=K4 l;refine⟨_,?_,KE l⟩;simp_all[VZ]
    simp_all
   simp_all
 simp_all
theorem Pg {z:St} {t:TypeId} {m K:Operand} {d:Nat} {k:St->Option R} {r:R} (l:V0 P C z t m K d k=some r):∃w,Ns P z t m K d=some w/\k w=some r:=by
 unfold V0 at l;split at l
 .rename_i S id key k' e N L O D;cases B:Nat.beq id d with
  |true=>simp_all
  |false=>
  rw[B] at l;split at l
  .replace l:=bW l;obtain⟨I,l⟩:=l;simp only[aS] at I;have Q:=beq_iff.1 I.1.2;obtain⟨p,q,l⟩:=WG l;replace l:=KE (ql l);obtain⟨_,_,_,_,G,_⟩:=BH D;unfold adA at q;split at q
   .split at q
    .injection q with q;subst q;simp_all[Ns]
    simp_all
   .injection q with q;subst q;simp[Ns]
    have:put z.ob id (some (.mr k' e N L O))=z.ob:=by
     funext i;by_cases e:id=i
     .subst e;rw[cZ,G]
     .rw[bR _ _ e]
    simp_all
   simp_all
  simp_all
 simp_all
def Zw {T:Type} {enc:T->AV×List (Nat×Ob)} {c:Option (AV×List (Nat×Ob))} {k:T->Option R} {r:R} (l:Mq enc c k=some r):∃d,c=some (enc d)/\k d=some r:=by
 unfold Mq at l;split at l
 .obtain⟨d,e,q⟩:=oT l;grind
 simp_all
def ZY {key:Nat} {c:Option (AV×List (Nat×Ob))} {k:AV×List (Nat×Ob)->Option R} {r:R} (l:outC C key c k=some r):∃q,c=some q/\k q=some r:=by
 unfold outC at l;split at l
 .obtain⟨d,w,z⟩:=Zw l;simp_all
 simp_all
def JO {O:St} {key g:Nat} {args:List SV} {N:Nat->Nat} {d:Option Nat} {k:St->Option R} {r:R} (l:Gc C key F O g args N d k=some r):∃z,jZ F O g args N d=some z/\k z=some r:=by
 unfold Gc at l;simp only[] at l;obtain⟨I,l⟩:=bW l;split at l
 .rename_i cL K;obtain⟨⟨S,D⟩,L,l⟩:=ZY l;simp only[] at l;obtain⟨w,l⟩:=bW l;split at l
  .rename_i G q;split at l
   .rename_i x;obtain⟨B,l⟩:=bW l;exact⟨_,by simp only[jZ,I,ak,K,L,w,q,B],l⟩
   .obtain⟨Q,l⟩:=bW l;simp only[jZ,I,K,L,w];simp_all
  simp_all
 simp_all
theorem RI {D:St} {c:Call} {f:Operand} {d key:Nat} {B:List Nat} {k:St->Option R} {r:R} (q:UO P C h F D c f d key B k=some r):∃l,CY P h F D c f d B=some l/\k l=some r:=by
 unfold UO at q;simp at q;split at q
 .rename_i g pre z N K w;obtain⟨I,q⟩:=bW q;obtain⟨l,L,G⟩:=JO q;exact⟨_,by simp[CY,K,w,I,ak];omega,G⟩
 simp_all
def Mg {K:St} {c:Call} {f:Operand} {d:Option Nat} {k:St->Option R} {r:R} (q:JQ P C h F K c f d k=some r):∃z,iO P h F K c f d=some z/\k z=some r:=by
 unfold JQ at q;split at q
 .rename_i d;split at q
  .grind[RI,iO]
  rename_i B;split at q
  .rename_i g G vs N w;obtain⟨x,Q,q⟩:=vK q;replace q:=rC q;split at q
   .cases S:(xb h d).isSome with
    |true=>simp_all
    |false=>simp_all[iO]
   .split at q
    .simp_all[iO]
    .rename_i l O I;split at q
     .rename_i U D;obtain⟨L,q⟩:=bW q;rw[I] at w;cases l with
      |nil=>simp_all
      |cons x0 V=>exact⟨_,by simp only[iO,B,I,N,w,Q,D,L,ak],q⟩
     simp_all
    simp_all
   simp_all
  simp_all
 simp_all
def L4 {B:St} {t:TypeId} {x:Operand} {d:Nat} {k:St->Option R} {r:R} (l:L3 P C B t x d k=some r):∃w,xB P B t x d=some w/\k w=some r:=by
 unfold L3 at l;split at l
 .rename_i id U i N K D;split at l
  .rename_i e O q Q S xs V z;obtain⟨G,l⟩:=bW l;obtain⟨zs,L,l⟩:=Nz l;have I:=DS (ql l);exact⟨_,by simp[xB,K,D,z,L,G,ak],I⟩
  simp_all
 simp_all
def PF {z:St} {t:TypeId} {id B i q j:Nat} {k:St->Option R} {r:R} (l:Wl P C z t id B i q j k=some r):∃w,HW P z t id B i q j=some w/\k w=some r:=by
 unfold Wl at l;split at l
 .obtain⟨I,l⟩:=bW l;obtain⟨D,l⟩:=gG l;have K:=DS l;unfold HW;have G :=cN.mpr D;grind
 simp_all
def PZ {o:Oper} {S:St} {k:St->Option R} {r:R} (w:Wz P C h F o S k=some r):∃B,step0 P h F o S=some B/\k B=some r:=by
 have ofF:(vT P C h F o S λv=>k (S.set o.dst v))=some r->∃B,step0 P h F o S=some B/\k B=some r:=λw=>by obtain⟨v,O,I⟩:=EW w;exact⟨_,by simp only[step0,O],I⟩
 unfold Wz at w;split at w
 .rename_i t l c K;have O:dQ P h F o S=none:=by simp[dQ,eW,K]
  split at w
  .rename_i d e s kl l' kc c' D hs hl V;split at w
   .rename_i z i hz hi;replace w:=bW w;obtain⟨hb,w⟩:=w;simp only[aS] at hb;obtain⟨G,I⟩:=gG w;have h1:0<s:=by simpa[cN] using hb.1
    have h2:z.length=s:=beq_iff.1 hb.2;exact⟨_,by simp only[step0,O,mI,D,K,hs,hl,V,hz,hi];rw[aB ⟨h1,h2,G⟩],I⟩
   .cases w
  .cases w
 .rename_i t x y K;have O:dQ P h F o S=none:=by simp[dQ,eW,K]
  split at w
  .rename_i id sz i off v D hx hy;split at w
   .rename_i e sz' xs n Q hsz;replace w:=bW w;obtain⟨hb,w⟩:=w;simp only[aS] at hb;have h1:=beq_iff.1 hb.1.1;subst h1;have h2:=beq_iff.1 hb.1.2;obtain⟨c,V,w⟩:=Nb w;replace w:=bW (DF w);obtain⟨hle,I⟩:=w;refine⟨_,?_,I⟩;simp only[step0,O,mI,D,K,hx,hy,storeAt,Q,hsz,V];rw[aB ⟨trivial,h2,fI hle,hb.2⟩]
   .cases w
  .rename_i id sz i off j D hx hy;obtain⟨B,hs,I⟩:=PF w;exact⟨B,by simp only[step0,O,mI,D,K,hx,hy];exact hs,I⟩
  .rename_i id off j sz n D hx hy;obtain⟨B,hs,I⟩:=eX w;exact⟨B,by simp only[step0,O,mI,D,K,hx,hy];exact hs,I⟩
  .rename_i a v hn1 hn2 hn3 D hx hy;obtain⟨B,hs,I⟩:=eX w;refine⟨B,?_,I⟩
   have:mI P h F o S=storeAt P t S a v:=by simp only[mI,D,K,hx,hy]
   simp only[step0,O];rw[this];exact hs
  .cases w
 .rename_i t x K;cases Vp:o.dst.any h.take.contains with
  |false=>simp_all
  |true=>
   rw[Vp] at w;simp only[ak] at w;split at w
   .rename_i d D;rw[D] at Vp;simp only[rM] at Vp;obtain⟨B,hs,I⟩:=L4 w;refine⟨B,?_,I⟩;have O:dQ P h F o S=none:=by simp only[dQ,K,D,rM,Vp,ak]
    simp only[step0,O,mI,K,D,Vp,ak];exact hs
   .cases w
 .rename_i c K;split at w
  .rename_i V;have O:dQ P h F o S=none:=by
    simp only[dQ,K,V,yz]
   split at w
   .rename_i d x y t t' D L U;split at w
    .rename_i e s id sy hs hx hy;split at w
     .rename_i e' sz xs sz' ys i Q hel hi;replace w:=bW w;obtain⟨hb,w⟩:=w;simp only[aS] at hb;obtain⟨⟨⟨⟨⟨⟨b1,b2⟩,b3⟩,b4⟩,b5⟩,b6⟩,b7⟩:=hb;have e1:=beq_iff.1 b1;have e2:=beq_iff.1 b2;have e3:=beq_iff.1 b3;have e4:=beq_iff.1 b4;have e5:0<sz:=by simpa[cN] using b5
      have e6:i.zero.map (λz=>z.cells.size)=some sz:=by simpa using b6
      obtain⟨G,I⟩:=gG w;refine⟨_,?_,I⟩;simp only[step0,O,mI,K,V,D,L,U,hs,hx,hy,Q,hel,hi];rw[aB ⟨e1,e2,e3,e4,e5,G.1,G.2,e6,b7⟩]
     .rename_i e' sz q e2x s2x xs zs sz' ys i Q hel hi;replace w:=bW w;obtain⟨hb,w⟩:=w;simp only[aS] at hb;obtain⟨⟨⟨⟨⟨⟨⟨b1,b2⟩,b3⟩,b4⟩,b5⟩,b6⟩,b7⟩,b8⟩:=hb;have e1:=beq_iff.1 b1;have e2:=beq_iff.1 b2;have e3:=beq_iff.1 b3;have e4:=beq_iff.1 b4;have e5:0<sz:=by simpa[cN] using b5
      have e6:i.zero.map (λz=>z.cells.size)=some sz:=by simpa using b6
      obtain⟨G,I⟩:=gG w;refine⟨_,?_,DS I⟩;simp only[step0,O,mI,K,V,D,L,U,hs,hx,hy,Q,hel,hi];rw[aB ⟨e1,e2,e3,e4,e5,G.1,G.2,e6,b7,b8⟩]
     .cases w
    .rename_i e s id sy hs hx hy;split at w
     .rename_i e' sz xs sz' ys i Q hel hi;replace w:=bW w;obtain⟨hb,w⟩:=w;simp only[aS,gW] at hb;obtain⟨⟨⟨⟨⟨⟨⟨b1,b2⟩,b3⟩,b4⟩,b5⟩,b6⟩,b7⟩,b8⟩:=hb;have e1:=beq_iff.1 b1;have e2:=beq_iff.1 b2;have e3:=beq_iff.1 b3;have e4:=beq_iff.1 b4;have e5:0<sz:=by simpa[cN] using b5
      have e6:i.zero.map (λz=>z.cells.size)=some sz:=by simpa using b6
      obtain⟨G,I⟩:=gG w;refine⟨_,?_,I⟩;simp only[step0,O,mI,K,V,D,L,U,hs,hx,hy,Q,hel,hi];rw[aB ⟨e1,e2,e3,e4,e5,G.1,G.2,e6,b7,b8⟩]
     .cases w
    .cases w
   .cases w
  .rename_i V;have O:dQ P h F o S=none:=by simp only[dQ,K,V,yz]
   split at w
   .rename_i m kx t ts D L U;obtain⟨B,h1,I⟩:=Gp w;exact⟨B,by simp only[step0,O,mI,K,V,D,L,U];exact h1,I⟩
   .cases w
  .rename_i V;have O:dQ P h F o S=none:=by simp only[dQ,K,V,yz]
   split at w
   .rename_i x t D L U;split at w
    .rename_i e s id sz lo hi hs hx;split at w
     .rename_i e' sz' xs z Q hz;replace w:=bW w;obtain⟨hb,w⟩:=w;simp only[aS] at hb;obtain⟨⟨⟨⟨b1,b2⟩,b3⟩,b4⟩,b5⟩:=hb;have e1:=beq_iff.1 b1;have e2:=beq_iff.1 b2;have e3:=beq_iff.1 b3;have e4:=beq_iff.1 b4;have e5:0<sz:=by simpa[cN] using b5
      obtain⟨hle,I⟩:=gG w;refine⟨_,?_,I⟩;simp only[step0,O,mI,K,V,D,L,U,hs,hx,Q,hz];rw[aB ⟨e1,e2,e3,hle,e4,e5⟩]
     .cases w
    .rename_i hs;split at w
     .rename_i B hm;exact⟨B,by simp only[step0,O,mI,K,V,D,L,U,hs];exact hm,w⟩
     simp_all
    .cases w
   .cases w
  .rename_i f V;cases how:o.dst.any h.owns.contains with
   |true=>
    rw[how] at w;simp only[ak] at w;have O:dQ P h F o S=none:=by simp only[dQ,K,V,how,ak]
    obtain⟨B,h1,I⟩:=Mg w;exact⟨B,by simp only[step0,O];cases D:o.dst<;>(simp only[mI,K,V,D];rw[D] at how;rw[how,<-D];exact h1),I⟩
   |false=>
   rw[how] at w;simp only[az] at w;have how0:∀d,o.dst=d->d.any h.owns.contains=false:=λd D=>D▸how
   cases hro:(o.dst.any h.stay.contains&&wide S c f) with
   |true=>rw[hro] at w;exact ofF w
   |false=>
   rw[hro] at w;simp only[az] at w;cases ZG:wide S c f with
   |true=>
    rw[ZG] at w;simp only[ak] at w;have O:dQ P h F o S=none:=by simp only[dQ,K,V];rw[how,hro,ZG];rfl
    obtain⟨B,h1,I⟩:=Ir w;exact⟨B,by simp only[step0,O];cases D:o.dst<;>(simp only[mI,K,V,D];rw[D] at hro how;rw[how,hro,ZG,<-D];exact h1),I⟩
   |false=>
   have hro0:∀(d:Option Nat),(d.any h.stay.contains&&false)=false:=λd=>by simp
   rw[ZG] at w;simp only[az] at w;cases Kl:c.args.toList.any (λx=>(pH h S x).isSome) with
   |true=>
    rw[Kl] at w;simp only[ak] at w;have O:dQ P h F o S=none:=by simp only[dQ,K,V];rw[how,hro,Kl];simp
    split at w
    .rename_i g caps vs id hfn hvs;split at w
     .rename_i e sz xs Q;obtain⟨r',xs',hx,w⟩:=UQ w;replace w:=ql (rC w);have hstep:∀st2,qf P h F S c f o.dst=some st2->step0 P h F o S=some st2:=λst2 h2=>by
       simp only[step0,O];cases D:o.dst<;>(simp only[mI,K,V,D];rw[how0 _ D,ZG,Kl,hro0];simp only[ak,az];rw[<-D];exact h2)
      split at w
      .rename_i n;replace w:=bW w;obtain⟨hb,w⟩:=w;obtain⟨hn,I⟩:=gG w;refine⟨_,hstep _ ?_,I⟩;simp only[qf,hfn,hvs,Q,hx,beq_iff.2 (rfl:e=e),beq_iff.2 (rfl:sz=sz),beq_iff.2 (rfl:10000=10000),rJ,ak,hb,uL hn]
      .rename_i ZB;replace w:=bW w;obtain⟨hb,I⟩:=w;refine⟨_,hstep _ ?_,I⟩;simp only[qf,hfn,hvs,Q,hx,beq_iff.2 (rfl:e=e),beq_iff.2 (rfl:sz=sz),beq_iff.2 (rfl:10000=10000),rJ,ak,hb]
     .cases w
    .cases w
   |false=>
   have href0:(wide S c f||c.args.toList.any (λx=>(pH h S x).isSome))=false:=by rw[ZG,Kl];rfl
   rw[Kl] at w;simp only[az] at w;cases hag:c.args.toList.any (xF S) with
   |true=>rw[hag] at w;exact ofF w
   |false=>
   rw[hag] at w;simp only[az] at w;cases Vj:c.args.toList.any (lF S) with
   |true=>
    simp only[Vj,ak] at w;split at w
    .rename_i g caps vs hfn hvs;obtain⟨r',hx,w⟩:=vK w;replace w:=rC w;cases hp:(r'.plain&&r'.jM) with
     |true=>simp only[hp,ak] at w;refine⟨_,?_,w⟩;rw[aS] at hp;simp only[step0,dQ,K,V];rw[how,hro,href0];simp only[hfn,hvs,hx,hp.1,hp.2,uI,Bool.or_true,gF,ak,az]
     |false=>
      simp only[hp,az] at w;split at w
      .rename_i st1 oC;split at w
       .rename_i g' caps' vs' hfn' hvs';cases hrow:c.args.toList.any (lF st1) with
        |true=>simp_all
        |false=>
         rw[hrow] at w;simp only[az] at w;obtain⟨r2,hx2,w⟩:=vK w;replace w:=bW (rC w);obtain⟨ZB,w⟩:=w;refine⟨_,?_,w⟩;have O:dQ P h F o S=none:=by simp only[dQ,K,V];rw[how,hro,href0];simp only[az,hfn,hvs,hx,hp,Vj,dx,rK,kK]
         simp only[step0,O];cases D:o.dst<;>(simp only[mI,K,V,D];rw[how0 _ D,ZG,Kl,hro0];simp only[az,oC,hfn',hvs',hx2,hrow,ZB,dx,rK])
       simp_all
      simp_all
    simp_all
   |false=>simp_all
  simp_all
 .rename_i t m kx x K;split at w
  .rename_i D;cases N:qA h m with
   |true=>rw[N] at w;obtain⟨B,h1,I⟩:=HK w;exact⟨B,by simp only[step0,mI,dQ,eW,K,D];rw[N];exact h1,I⟩
   |false=>rw[N] at w;obtain⟨B,h1,I⟩:=AB w;exact⟨B,by simp only[step0,mI,dQ,eW,K,D];rw[N];exact h1,I⟩
  .cases w
 .rename_i t m kx x K;split at w
  .rename_i D;cases N:qA h m with
   |true=>rw[N] at w;obtain⟨B,h1,I⟩:=HK w;exact⟨B,by simp only[step0,mI,dQ,eW,K,D];rw[N];exact h1,I⟩
   |false=>rw[N] at w;obtain⟨B,h1,I⟩:=AB w;exact⟨B,by simp only[step0,mI,dQ,eW,K,D];rw[N];exact h1,I⟩
  .cases w
 .rename_i t m kx ok K;cases N:(qA h m&& !ok) with
  |true=>rw[N] at w;simp only[ak] at w;have hrm':=N;simp only[aS,gW] at N;obtain⟨hr1,rfl⟩:=N;grind[Pg,dQ,step0,mI]
  |false=>simp_all
 .grind[step0,mI,dQ,eW]
 .rename_i x K;split at w
  .rename_i d id D hx;split at w
   .rename_i s pos Q;have O:dQ P h F o S=none:=by simp only[dQ,eW,K]
    cases hp:Nat.blt pos s.length with
    |true=>simp_all[step0,mI]
    |false=>
     rw[hp] at w;refine⟨_,?_,w⟩;have hp':¬pos<s.length:=λh=>by grind[Nat.blt_eq]
     simp_all[step0,mI,au]
   simp_all
  simp_all
 .exact eX w
 .exact eX w
 .exact eX w
 .exact eX w
 .exact eX w
 .exact eX w
 .exact eX w
 simp_all
def Pz {z:St} {t:Nat} {k:St->Option R} {r:R} (l:Py C z t k=some r):∃q,qx z t=some q/\k q=some r:=by
 unfold Py at l;split at l
 .split at l
  .obtain⟨w,l⟩:=bW l;obtain⟨D,B,l⟩:=Cl l;refine⟨_,?_,ql l⟩;simp_all[qx,St.cV,Ob.val]
  .exact eX l
 .exact eX l
def BN:∀{l:List Nat} {w:St} {k:St->Option R} {r:R},GB C l w k=some r->∃z,nj l w=some z/\k z=some r
 |[],w,k,r,q=>⟨w,rfl,q⟩
 |t::l,w,k,r,q=>by obtain⟨B,G,q⟩:=Pz q;obtain⟨D,I,q⟩:=BN q;simp_all[nj]
theorem Ie {o:Oper} {w:St} {k:St->Option R} {r:R} (q:stepT P C h F o w k=some r):∃l,step P h F o w=some l/\k l=some r:=by obtain⟨z,D,q⟩:=BN q;obtain⟨B,G,I⟩:=PZ q;simp_all[step]
def Ij {q:Array Oper} {o:Oper} {w:St} {k:Bool->St->Option R} {r:R} (l:YR q o w k=some r):∃b,qp q o w=some b/\k b w=some r:=by
 unfold YR at l;unfold qp;split at l
 .simp_all
 .split at l
  .split at l
   .simp_all
   .exact⟨_,by simp_all,l⟩
   .simp_all
   simp_all
  simp_all
def TW {l:St} {d:Nat} {v:SV} (w:l.env d=some v):l.set (some d) v=l:=by obtain⟨q,z⟩:=l;simp[St.set,St.mk.injEq];grind[cZ,bR]
theorem Ad {b:Bool} {d:Option Nat} {q:St} {k:St->Option R} {r:R} (l:Lr b d q k=some r):k q=some r:=by unfold Lr at l;cases b with
 |false=>exact l
 |true=>
  simp at l;split at l
  .split at l
   .rename_i t w;cases t with
    |true=>simp_all[TW]
    |false=>simp_all[TW]
   omega
  omega
def MD {q:Array Oper}:∀{l:List Oper} {i:Nat} {w:St} {k:St->Option R} {r:R},I3 P C h F q i l w k=some r->∃s,qU P h F q l w=some s/\k s=some r:=by intro l;induction l with
 |nil=>intro i w k r z;exact⟨w,rfl,z⟩
 |cons o l D=>intro i w k r z;obtain⟨b,B,z⟩:=Ij z;cases b with
  |true=>grind[Ie,Ad,qU]
  |false=>grind[qU]
def Li {B:Array Oper}:∀{l:List Oper} {i:Nat} {w:List (Nat×gA)} {z:St} {k:St->Option R} {r:R},BZ P C h F B i l w z k=some r->∃s,ku P h F B i l w z=some s/\k s=some r:=by intro l;induction l with
 |nil=>intro i w z k r q;exact⟨z,rfl,q⟩
 |cons o l K=>intro i w z k r q;replace q:=Ij q;obtain⟨b,O,q⟩:=q;cases b with
  |true=>cases D:(isF h z o&&(Fl h o).isEmpty) with
   |true=>simp[D] at q;obtain⟨v,S,q⟩:=EW q;obtain⟨G,q⟩:=bW q;obtain⟨s,L,I⟩:=K (Ad q);simp_all[ku]
   |false=>simp[D] at q;obtain⟨Q,N,q⟩:=Ie q;obtain⟨G,q⟩:=bW q;obtain⟨s,L,I⟩:=K (Ad q);exact⟨s,by simp[ku,O,ak,D,az,N,G];omega,I⟩
  |false=>obtain⟨G,q⟩:=bW q;simp_all[ku]
theorem OE {w:Type} (m:Nat->Option w):∀(l:List Nat) (i:Nat),find (vp m l) i=if i∈l then m i else none:=by intro l;induction l with
 |nil=>intro i;rfl
 |cons j l D=>intro i;simp[vp];cases B:m j with
  |none=>grind
  |some v=>simp only[find];cases z:Nat.beq j i with
   |true=>simp_all
   |false=>
    have q:¬i=j:=λe=>by simp_all
    simp_all
def RO (h:Hint) (key:Nat) (l:St):h.canon key (h.canon key l)=h.canon key l:=by
 unfold Hint.canon;split
 .grind[St.mk.injEq,OE]
 .rfl
def Ku {key:Nat} {f:St->Option (Ex×St)} {n:Nat} {l:St}:iter h key f n (h.canon key l)=iter h key f n l:=by cases n with
 |zero=>rfl
 |succ n=>simp[iter,RO]
def ZK {c:Code} {n m:Nat} (B:n<=m) {key:Nat}:∀(q:Nat) {l:Nat} {z:St} {x:Ex×St},q<=l->iter h key (exec P h F n c) q z=some x->iter h key (exec P h F m c) l z=some x:=by intro q;induction q with
 |zero=>simp_all[iter]
 |succ q I=>
  intro l z x D G;obtain⟨w,rfl⟩:∃w,l=w+1:=⟨l-1,af⟩
  grind[iter,sX]
def yh {c:Code} {z:St} {k:Ex->St->Option R} {r:R}:Kt P h F c z k=some r↔∃n e l,exec P h F n (.loop c) z=some (e,l)/\k e l=some r:=by
 constructor
 .intro w;unfold Kt at w;split at w
  .grind
  simp_all
 .rintro⟨n,e,l,q,G⟩;unfold Kt;have B:∃x n,exec P h F n _ _=some x:=⟨_,n,q⟩
  obtain⟨m,I⟩:=B.choose_spec;have D:=sX (uK n m) q;grind[sX,Nat.le_max_right]
theorem tA:∀{l:List Nat} {B:St} {k:St->Option R} {r:R},CC C l B k=some r->∃w,zX l B=some w/\k w=some r
 |[],B,k,r,q=>⟨B,rfl,q⟩
 |id::l,B,k,r,q=>by
  simp[CC] at q;split at q
  .replace q:=bW q;obtain⟨z,q⟩:=q;obtain⟨xs,I,q⟩:=Cl q;obtain⟨w,D,G⟩:=tA (ady q);simp_all[zX,St.K2,St.cV,Ob.val]
  .replace q:=bW q;obtain⟨z,q⟩:=q;obtain⟨L,K,q⟩:=Cl q;obtain⟨w,D,G⟩:=tA (ql q);simp_all[zX,St.K2,St.cV,Ob.val]
  .split at q
   .obtain⟨w,D,G⟩:=tA q;simp_all[zX]
   simp_all
def Tw {id:Nat} {w:St} {k:St->Option R} {r:R} (q:adX C h id w k=some r):∃l,h.adW id w=some l/\k l=some r:=by
 unfold adX at q;unfold Hint.adW;split at q
 .grind[tA]
 simp_all
def Ht:∀(c:Code) {w:St} {k:Ex->St->Option R} {r:R},sN P C h F c w k=some r->∃n e O,exec P h F n c w=some (e,O)/\k e O=some r:=by intro c;induction c with
 |skip=>intro w k r q;exact⟨0,_,_,rfl,q⟩
 |label l=>intro w k r q;exact⟨0,_,_,rfl,q⟩
 |exit id=>intro w k r q;exact⟨0,_,_,rfl,q⟩
 |ret=>intro w k r q;exact⟨0,_,_,rfl,q⟩
 |region id ops I=>intro w k r q;simp only[sN] at q;obtain⟨Q,L,q⟩:=Tw q;cases I with
  |true=>simp only[ak] at q;obtain⟨hs,q⟩:=bW q;obtain⟨s,V,K⟩:=Li q;exact⟨0, .normal,s,by simp_all[exec,gZ,ak,dX],K⟩
  |false=>simp only[az] at q;obtain⟨s,V,K⟩:=MD q;exact⟨0, .normal,s,by simp[exec,L,V],K⟩
 |seq x y D G=>
  intro w k r q;simp only[sN] at q;cases B:find h.blk (fq x) with
  |some z=>simp[B] at q;obtain⟨hg,q⟩:=gG q;exact⟨0,_,_,by simp_all[exec],q⟩
  |none=>
  simp[B] at q;obtain⟨n,e,Q,N,q⟩:=D q;cases e with
  |normal=>obtain⟨m,e2,st2,hy,K⟩:=G (q);exact⟨max n m,e2,_,by grind[exec,sX,Nat.le_max_right],K⟩
  |exit id=>exact⟨n,_,_,by simp[exec,B,N],q⟩
  |ret=>exact⟨n,_,_,by simp[exec,B,N],q⟩
 |cond c x y D G=>
  intro w k r q;simp[sN] at q;split at q
  .rename_i t hc;cases t with
   |true=>simp_all[exec]
   |false=>simp_all[exec]
  simp_all
 |block id c S=>intro w k r q;obtain⟨n,e,Q,N,q⟩:=S q;cases e with
  |normal=>exact⟨n,_,_,by simp[exec,N],q⟩
  |ret=>exact⟨n,_,_,by simp[exec,N],q⟩
  |exit j=>simp[UH] at q;cases U:Nat.beq j id with
   |true=>simp[U] at q;exact⟨n,_,_,by simp_all[exec],q⟩
   |false=>simp[U] at q;exact⟨n,_,_,by simp_all[exec],q⟩
 |loop c S=>simp_all[sN,yh,exec,Ku]
 |scope c S=>assumption
 |rangeFunc f ps x y D G=>simp_all[sN]
 |goto l=>simp_all[sN]
 |refuse s=>simp_all[sN]
theorem SL {c:Code} {B:St} {k:Ex->St->Option R} {r:R} (G:sN P C h F c (h.canon (fq c) B) (Ux P h F c k)=some r):Kt P h F c B k=some r:=by obtain⟨n,e,I,w,l⟩:=Ht c G;cases e with
 |normal=>obtain⟨m,D,K,z,q⟩:=yh.1 (l);simp[exec,Ku] at z;refine yh.2 ⟨max n m+1,D,_,?_,q⟩;simp[exec,iter];rw[sX (show n<=max n m+1 by omega) w];exact ZK (show m<=max n m+1 by omega) m af z
 |exit j=>refine yh.2 ⟨n+1,_,_,?_,l⟩;simp[exec,iter];rw[sX (show n<=n+1 by omega) w]
 |ret=>refine yh.2 ⟨n+1,_,_,?_,l⟩;simp[exec,iter];rw[sX (show n<=n+1 by omega) w]
end
section
variable {P:Program} {C:lK} {H:Nat->Hint} {gI:eN}
def pI {f:Nat} {args:List SV} {cL:List (Nat×Ob)} {r:AV×List (Nat×Ob)} (D:gI f args cL=none) (l:WY P C H gI f args cL=some r):run P H gI f args cL=some r:=by
 unfold WY at l;split at l
 .rename_i fn B;split at l
  .rename_i c q;obtain⟨w,l⟩:=bW l;obtain⟨n,e,I,G,z⟩:=Ht c l;exact H6 D B q w G z
  simp_all
 simp_all
def jL {f key:Nat} {names:List Nat} {l:List (Nat×SV)} {q:List (Nat×Ob)} {r:AV×List (Nat×Ob)} (w:Ww P C H gI f key names l q=some r):uD P C H gI f key names l q=some r:=by grind[Ww,uD,SL]
end
section
variable {R:Type}
def bU {p:Prop} [Decidable p] (l:p) (x:Option R):check p x=x:=by unfold check;simp_all
def Kf {l:Type} {xs:List l} {i:Int} {x:l} (q:0<=i) (w:xs[i.toNat]? =some x) (k:l->Option R):bA xs i k=k x:=by simp_all[bA]
def iX {l:Type} {xs:List l} {i:Nat} {x:l} (q:xs[i]? =some x) (k:l->Option R):bA xs (i:Int) k=k x:=Kf af (by assumption) k
def lB {l:Type} {xs:List l} {i:Nat} {x:l} (q:xs[i]? =some x) (k:l->Option R):eG xs i k=k x:=by unfold eG;rw[q]
def Zb {c:Option (AV×List (Nat×Ob))} {r:AV} (l:c=some (r,[])) (k:AV->Option R):yb c k=k r:=by subst l;unfold yb;rfl
def Zd {c:Option (AV×List (Nat×Ob))} {l e q:Nat} {r:AV} {xs:List (List AV)} (w:c=some (r,[(l, .row e q xs)])) (k:AV->List (List AV)->Option R):Hr c l e q k=k r xs:=by simp_all[Hr]
def asE_pos {l T:Type} {enc:T->l} (inj:∀a b,enc a=enc b->a=b) (d:T) (k:T->Option R):tK enc (enc d) k=k d:=by
 unfold tK;have q:∃x,enc x=enc d:=⟨d,rfl⟩
 grind
end
