/- THE ABSTRACT MACHINE, TYPED. -/
import Derived.Test.YtacapiamkgkkjaaGreatDoorAmFin
set_option linter.all false
namespace Go.AM
open Go.RowKit
structure FC where
 T:Type
 enc:T->List AV
structure ux where
 T:Type
 enc:T->AV
def GX {q:Type 1}:List (Nat×q)->Nat->Option q
 |[],_=>none
 |(j,v)::l,i=>cond (Nat.beq j i) (some v) (GX l i)
structure CodO where
 T:Type
 enc:T->AV×List (Nat×Ob)
structure lH where
 elem:TypeId->Option FC
 val:TypeId->Option ux
 res:Nat->Option ux
 ptr:Option FC:=none
 out:Nat->Option CodO:=λ_=>none
def ey (K V:ux) (l:List (K.T×V.T)):List AV×List AV:=(l.map λp=>K.enc p.1,l.map λp=>V.enc p.2)
section
variable {R:Type}
@[irreducible] def check (p:Prop) [Decidable p] (x:Option R):Option R:=if p then x else none
@[irreducible] def bB {l:Type} (xs:List l) (i:Int) (k:l->Option R):Option R:=
 if 0<=i then match xs[i.toNat]? with
  |some x=>k x
  |none=>none
 else none
@[irreducible] def eH {l:Type} (xs:List l) (i:Nat) (k:l->Option R):Option R:=
 match xs[i]? with
 |some x=>k x
 |none=>none
@[irreducible] def xL (c:Option (AV×List (Nat×Ob))) (k:AV->Option R):Option R:=
 match c with
 |some (r,[])=>k r
 |_=>none
@[irreducible] def GL (c:Option (AV×List (Nat×Ob))) (nm e sz:Nat) (k:AV->List (List AV)->Option R):Option R:=
 match c with
 |some (r,[(l, .row w q xs)])=>bif Nat.beq nm l&&Nat.beq e w&&Nat.beq sz q then k r xs else none
 |_=>none
@[irreducible] def MA (x:Option (Option AV)) (k:AV->Option R) (z:Option R):Option R:=
 match x with
 |some (some v)=>k v
 |some none=>z
 |none=>none
@[irreducible] def Vb (x:Option (List AV×List AV)) (k:List AV×List AV->Option R):Option R:=
 match x with
 |some p=>k p
 |none=>none
@[irreducible] noncomputable def rP {l T:Type} (enc:T->l) (c:l) (k:T->Option R):Option R:=
 open Classical in if q : ∃ d, enc d = c then k q.choose else none
@[irreducible] noncomputable def LG {T:Type} (enc:T->AV×List (Nat×Ob)) (c:Option (AV×List (Nat×Ob))) (k:T->Option R):Option R:=
 match c with
 |some l=>rP enc l k
 |none=>none
noncomputable def outC (C:lH) (key:Nat) (c:Option (AV×List (Nat×Ob))) (k:AV×List (Nat×Ob)->Option R):Option R:=
 match C.out key with
 |some E=>LG E.enc c λd=>k (E.enc d)
 |none=>none
@[irreducible] def zV (c:Option (AV×List (Nat×Ob))) (k:AV->List (Nat×Ob)->Option R):Option R:=
 match c with
 |some (r,l)=>k r l
 |none=>none
@[irreducible] def qH (nm:Nat) (l:List (Nat×Ob)) (k:Ob->List (Nat×Ob)->Option R):Option R:=
 match l with
 |(q,o)::l=>bif Nat.beq nm q then k o l else none
 |[]=>none
@[irreducible] def Sb (l:List (Nat×Ob)) (k:Option R):Option R:=
 match l with
 |[]=>k
 |_=>none
@[irreducible] noncomputable def BA (o o':Ob) (k:Option R):Option R:=open Classical in if o=o' then k else none
@[irreducible] def Qq (e sz:Nat) (o:Ob) (k:List (List AV)->Option R):Option R:=
 match o with
 | .row q l xs=>bif Nat.beq e q&&Nat.beq sz l then k xs else none
 |_=>none
@[irreducible] def GJ (z q:Nat) (o:Ob) (k:List AV×List AV->Option R):Option R:=
 match o with
 | .mp k' l w B=>bif Nat.beq z k'&&Nat.beq q l then k (w,B) else none
 |_=>none
@[irreducible] def asLp (o:Ob) (k:List AV->Option R):Option R:=
 match o with
 | .lp xs=>k xs
 |_=>none
@[irreducible] def ptrK (a:AV) (k:List AV->Option R):Option R:=
 match a with
 | .ref l=>k l
 |_=>none
@[irreducible] def hasK (x:Option (Option Nat)) (k:Bool->Option R):Option R:=
 match x with
 |some r=>k r.isSome
 |none=>none
@[irreducible] def TF (x:Option (List UInt8)) (k:List UInt8->Option R):Option R:=
 match x with
 |some b=>k b
 |none=>none
def ab7 (key:AV) (q:List AV) (l:List (Option (List (List AV)))):Option (List (List AV)×List (Option (List (List AV)))):=
 match qp key q with
 |some (some i)=>match l[i]? with
  |some (some xs)=>some (xs,l.set i none)
  |_=>none
 |some none=>some ([],l)
 |none=>none
@[irreducible] def acR (x:Option (List (List AV)×List (Option (List (List AV))))) (k:List (List AV)->List (Option (List (List AV)))->Option R):Option R:=
 match x with
 |some p=>k p.1 p.2
 |none=>none
@[irreducible] def W7 (x:Option (List AV×List (Option (List (List AV))))) (k:List AV×List (Option (List (List AV)))->Option R):Option R:=
 match x with
 |some p=>k p
 |none=>none
@[irreducible] def Qn (x:Option (List (List (List AV)))) (k:List (List (List AV))->Option R):Option R:=
 match x with
 |some l=>k l
 |none=>none
@[irreducible] def YL (l:List (Option (List (List AV)))) (i:Nat) (k:List (List AV)->Option R):Option R:=
 match l[i]? with
 |some (some q)=>k q
 |_=>none
def Jl (K:ux) (E:FC) (l:List (K.T×Option (List E.T))):List AV×List (Option (List (List AV))):=(l.map λp=>K.enc p.1,l.map λp=>p.2.map (List.map E.enc))
def pK {l:Type} (c:Option l) (k:l->Option R):Option R:=
 match c with
 |some r=>k r
 |none=>none
noncomputable def QY (C:lH) (e:TypeId) (c:List AV) (k:List AV->Option R):Option R:=
 match C.elem e with
 |some d=>rP d.enc c λx=>k (d.enc x)
 |none=>k c
noncomputable def Kx (C:lH) (e:TypeId) (c:List (List AV)) (k:List (List AV)->Option R):Option R:=
 match C.elem e with
 |some d=>rP (List.map d.enc) c λx=>k (x.map d.enc)
 |none=>k c
noncomputable def valK (C:lH) (t:TypeId) (c:AV) (k:AV->Option R):Option R:=
 match C.val t with
 |some d=>rP d.enc c λx=>k (d.enc x)
 |none=>k c
noncomputable def abU (C:lH) (w q:TypeId) (p:List AV×List AV) (k:List AV×List AV->Option R):Option R:=
 match C.val w,C.val q with
 |some K,some V=>rP (ey K V) p λl=>k (ey K V l)
 |_,_=>k p
noncomputable def mrK (C:lH) (q e:TypeId) (p:List AV×List (Option (List (List AV)))) (k:List AV×List (Option (List (List AV)))->Option R):Option R:=
 match C.val q,C.elem e with
 |some K,some E=>rP (Jl K E) p λl=>k (Jl K E l)
 |_,_=>k p
noncomputable def Sa (C:lH) (e:TypeId) (l:List (Option (List (List AV)))) (k:List (Option (List (List AV)))->Option R):Option R:=
 match C.elem e with
 |some d=>rP (List.map (Option.map (List.map d.enc))) l λy=>k (y.map (Option.map (List.map d.enc)))
 |none=>k l
noncomputable def mpK (C:lH) (w e:TypeId) (q:Nat) (p:List AV×List AV) (k:List AV×List AV->Option R):Option R:=
 match C.val w,C.elem e with
 |some K,some E=>rP (ey K ⟨List E.T,λx=> .dy q (x.map E.enc)⟩) p λl=>k (ey K ⟨List E.T,λx=> .dy q (x.map E.enc)⟩ l)
 |_,_=>k p
noncomputable def O9 (C:lH) (o l:Ob) (k:Ob->Option R):Option R:=
 match o with
 | .row e z _=>Qq e z l λxs=>Kx C e xs λxs=>k (.row e z xs)
 | .mp w q _ _=>GJ w q l λp=>abU C w q p λp=>k (.mp w q p.1 p.2)
 | .lp _=>asLp l λxs=>k (.lp xs)
 |o=>BA l o (k o)
@[irreducible] def asBox (t:TypeId) (o:Ob) (k:List AV->Option R):Option R:=
 match o with
 | .box q cells=>match mL cells with
  |some l=>bif Nat.beq t q then k l else none
  |none=>none
 |_=>none
@[irreducible] noncomputable def AH (t:TypeId) (pre:List SV) (sz:Nat) (o:Ob) (k:List (List AV)->Option R):Option R:=open Classical in
 if h:∃xs,o= .box t (pre++[.pv (.dy sz xs)]) then k h.choose else none
def lastOf (P:Program) (t:TypeId) (cells:List SV):Option (TypeId×Nat×List SV):=
 match mL cells with
 |some _=>none
 |none=>match cells.getLast?,(sW P 8 t).getLast? with
  |some (.pv (.dy l _)),some ty=>match isSlice P ty with
   |some (e,s)=>bif Nat.beq s l then some (e,l,cells.dropLast) else none
   |none=>none
  |_,_=>none
noncomputable def boxK (P:Program) (C:lH) (o l:Ob) (k:Ob->Option R):Option R:=
 match o with
 | .box t cells=>match lastOf P t cells with
  |some (e,q,pre)=>AH t pre q l λxs=>Kx C e xs λxs=>k (.box t (pre++[.pv (.dy q xs)]))
  |none=>match C.elem t,mL cells,cells with
  |some d,some _,_::_::_=>asBox t l λw=>rP d.enc w λx=>k (.box t ((d.enc x).map .pv))
  |_,_,_=>BA l o (k o)
 |o=>O9 C o l k
noncomputable def Jj (P:Program) (C:lH) (keep B:List Nat):List (Nat×Ob)->List (Nat×Ob)->(List (Nat×Ob)->Option R)->Option R
 |[],D,k=>Sb D (k [])
 |(w,o)::l,D,k=>qH w D λG q=>bif keep.contains w then BA G o (Jj P C keep B l q λz=>k ((w,o)::z)) else bif B.contains w then boxK P C o G λI=>Jj P C keep B l q λz=>k ((w,I)::z) else O9 C o G λI=>Jj P C keep B l q λz=>k ((w,I)::z)
noncomputable def LS (C:lH) (g:Nat) (c:AV) (k:AV->Option R):Option R:=
 match C.res g with
 |some d=>rP d.enc c λx=>k (d.enc x)
 |none=>k c
noncomputable def TW (C:lH) (a:AV) (k:AV->Option R):Option R:=
 ptrK a λl=>match C.ptr with
  |some d=>rP d.enc l λx=>k (.ref (d.enc x))
  |none=>k (.ref l)
def xk (w:Option SV) (l:Nat) (q:Nat) (k:Nat->Option R):Option R:=
 match w with
 |none=>k l
 |some (.pv (.int _ i))=>check (0<=i/\i<=q) (k i.toNat)
 |some _=>none
noncomputable def AB:List (Nat×Ob)->List (Nat×Ob)->Option R->Option R
 |[],q,k=>Sb q k
 |(z,o)::l,q,k=>qH z q λB w=>BA B o (AB l w k)
noncomputable def Nw (P:Program) (C:lH) (h:Hint) (F:eM) (q:St) (c:Call) (f:Operand) (k:AV->Option R):Option R:=
 match uj P h q c f with
 |some (g,args)=>
  bif distinct (jB q args)&&Nat.blt (jB q args).length 10000&&args.all (SV.closed (jB q args)) then
   match jN q (jB q args) (iD (jO (jB q args))) (jO (jB q args)) with
   |some cL=>zV (F g (args.map (SV.pG (iD (jO (jB q args))))) cL) λr l=>AB cL l (LS C g r λr=>bif r.jF then k r else none)
   |none=>none
  else none
 |none=>none
noncomputable def abT (C:lH) (w:St) (v:SV) (k:AV->Option R):Option R:=
 match v with
 | .aq id (.nr i)=>match w.ob id with
  |some (.rn _ _ _ G z _ B)=>YL B i λD=>Kx C G D λD=>k (.dy z D)
  |_=>none
 | .ag [.r id]=>match w.ob id with
  |some (.rn e I q _ z xs B)=>Qn (oI B) λl=>Kx C e (vZ q z xs l) λm=>k (.agg [.dy I m])
  |_=>pK (mE w v) k
 |v=>pK (mE w v) k
noncomputable def EF (P:Program) (C:lH) (q:St):List Operand->List TypeId->(List AV->Option R)->Option R
 |[],_,k=>k []
 |x::xs,w,k=>match bG P (w.headD 0) q x with
  |some v=>abT C q v λa=>EF P C q xs w.tail λl=>k (a::l)
  |none=>none
noncomputable def vD (P:Program) (C:lH) (h:Hint) (F:eM) (o:Oper) (w:St) (k:SV->Option R):Option R:=
 match o.op with
 | .pick c a b=>match bG P 0 w c with
  |some (.pv (.bool t))=>bif t then pK (bG P o.type w a) k else pK (bG P o.type w b) k
  |_=>none
 | .nilCheck x=>match bG P 0 w x with
  |some (.pv a)=>TW C a λa=>k (.pv a)
  |_=>pK (eU P o w) k
 | .indexAddr t x Q=>match P.underlying t with
  |some (.array n e)=>pK (Dk P w n e x Q) k
  |_=>match isSlice P t,bG P t w x,bG P 0 w Q with
  |some (e,s),some (.pv (.dy B xs)),some (.pv (.int _ i))=>bif Nat.beq s B then bB xs i λc=>QY C e c λc=>k (.cp c) else none
  |some (_,s),some (.row id),some (.pv (.int _ i))=>match w.ob id with
   |some (.row _ B xs)=>bif Nat.beq s B then check (0<=i/\i.toNat<xs.length) (k (.rp id B i.toNat 0)) else none
   |some (.rn _ B _ _ _ xs _)=>bif Nat.beq s B then check (0<=i/\i.toNat<xs.length) (k (.rp id B i.toNat 0)) else none
   |_=>none
  |some (_,s),some (.sub id B G D),some (.pv (.int _ i))=>bif Nat.beq s B then check (0<=i/\i.toNat<D-G) (k (.rp id B (G+i.toNat) 0)) else none
  |_,_,_=>none
 | .index t x Q=>match P.underlying t,bG P t w x,bG P 0 w Q with
  |some .string,some (.pv (.str s)),some (.pv (.int _ i))=>bB s i λb=>k (.pv (.int .u8 b.toNat))
  |_,_,_=>none
 | .load t x=>bif o.dst.any h.take.contains then none else match bG P 0 w x with
  |some (.rp id B i N)=>match w.ob id with
   |some (.row e L xs)=>bif Nat.beq B L then eH xs i λc=>QY C e c λc=>pK (iV P t (c.drop N)) λv=>k (.pv v) else none
   |some (.rn _ L q _ _ xs _)=>bif Nat.beq B L&&Nat.beq N q&&(DN P t==some false) then check (i<xs.length) (k (.aq id (.nr i))) else none
   |_=>none
  |_=>pK (eU P o w) k
 | .binOp op t x y _=>match(bG P t w x).bind iU,(bG P t w y).bind iU with
  |some (.int K a),some (.int kb b)=>match op with
   | .quo=>bif K==kb then check (b≠0) (k (.pv (.int K (K.wrap (a.tdiv b))))) else none
   | .rem=>bif K==kb then check (b≠0) (k (.pv (.int K (a.tmod b)))) else none
   | .shl=>check (0<=b) (k (.pv (.int K (K.wrap (a *2^ min b.toNat K.bits)))))
   | .shr=>check (0<=b) (k (.pv (.int K (a.fdiv (2^ min b.toNat K.bits)))))
   |_=>pK (eU P o w) k
  |some (.str a),some (.str b)=>match op with
   | .add=>check (a.length+b.length<=9223372036854775807) (k (.pv (.str (a++b))))
   |_=>pK (eU P o w) k
  |_,_=>pK (eU P o w) k
 | .slice t x G D none=>match P.underlying t,bG P t w x,nX P w G,nX P w D with
  |some .string,some (.pv (.str s)),some G,some D=>xk D s.length s.length λh=>xk G 0 h λl=>k (.pv (.str ((s.take h).drop l)))
  |some (.slice _),some (.pv (.dy B xs)),some G,some D=>match isSlice P t with
   |some (_,s)=>bif Nat.beq s B then xk D xs.length xs.length λh=>xk G 0 h λl=>k (.pv (.dy B ((xs.take h).drop l))) else none
   |none=>none
  |some (.slice _),some (.row id),some G,some D=>match isSlice P t,w.ob id with
   |some (_,s),some (.row _ B xs)=>bif Nat.beq s B then xk D xs.length xs.length λh=>xk G 0 h λl=>k (.sub id B l h) else none
   |_,_=>none
  |some (.slice _),some (.sub id B a b),some G,some D=>match isSlice P t with
   |some (_,s)=>bif Nat.beq s B then xk D (b-a) (b-a) λh=>xk G 0 h λl=>k (.sub id B (a+l) (a+h)) else none
   |none=>none
  |_,_,_,_=>none
 | .slice t x none (some D) (some mx)=>match bG P t w x with
  |some (.row id)=>match w.ob id,isSlice P t,bG P 0 w D,bG P 0 w mx with
   |some (.row _ B xs),some (_,s),some (.pv (.int _ a)),some (.pv (.int _ b))=>bif Nat.beq s B then check (a=(xs.length:Int)/\b=(xs.length:Int)) (k (.aq id .full)) else none
   |_,_,_,_=>none
  |_=>none
 | .convert src U x=>match P.underlying src,P.underlying U with
  |some (.slice e),some .string=>match P.underlying e,lF P e,(bG P src w x).bind (elems w) with
   |some (.int .u8),some 1,some (1,xs)=>TF (bytesOf xs) λb=>k (.pv (.str b))
   |_,_,_=>none
  |_,_=>pK (eU P o w) k
 | .lookup t x kx ok=>bif qv h x&& !ok then none else match P.underlying t with
  |some (.map S V)=>match(bG P t w x).bind (G5 w),(bG P S w kx).bind iU with
   |some ks,some key=>bif ok&&jZ P S key&&(qm P V).isSome then hasK (qp key ks) λb=>k (.two .any (.pv (.bool b))) else none
   |_,_=>match(bG P t w x).bind (maps w),(bG P S w kx).bind iU with
   |some (ks,O),some key=>bif jZ P S key then MA (UP key ks O) (λv=>valK C V v λv=>k (.pv (found ok v true))) (pK (qm P V) λz=>k (.pv (found ok z false))) else none
   |_,_=>none
  |_=>none
 | .call c=>match c.callee with
  | .value f=>bif o.dst.any h.owns.contains then none else bif o.dst.any h.stay.contains&&wide w c f then Nw P C h F w c f λr=>k (.pv r) else
   bif wide w c f||c.args.toList.any (λx=>(pE h w x).isSome) then none else
   bif c.args.toList.any (xd w) then
    match bG P 0 w f with
    |some (.pv (.fn g I))=>EF P C w c.args.toList c.argTypes.toList λO=>xL (F g ((O++I).map .pv) []) λr=>LS C g r λr=>bif r.plain&&r.jF then k (.pv r) else none
    |_=>none
   else
   match bG P 0 w f,jM P w c.args.toList c.argTypes.toList with
   |some (.pv (.fn g I)),some O=>xL (F g ((O++I).map .pv) []) λr=>LS C g r λr=>bif(!(c.args.toList.any (lC w))||r.plain)&&r.jF then k (.pv r) else none
   |_,_=>none
  |_=>pK (x8 P c w) k
 |_=>pK (dW P h F o w) k
noncomputable def B8 (P:Program) (C:lH) (G:St) (t:TypeId) (m D x:Operand) (k:St->Option R):Option R:=
 match P.underlying t with
 |some (.map w q)=>match UG P G q x with
  |some l=>match bG P t l m,(bG P w l D).bind iU,(bG P q l x).bind iU with
   |some (.row id),some key,some v=>match l.ob id with
    |some (.mp k' z B I)=>bif jZ P w key&&v.Hh then
      Vb (Ds key v B I) λp=>abU C w q p λp=>k { l with ob:=put l.ob id (some (.mp k' z p.1 p.2)) }
     else none
    |_=>none
   |_,_,_=>none
  |none=>none
 |_=>none
noncomputable def Dq (P:Program) (C:lH) (l:St) (t:TypeId) (m D:Operand) (k:St->Option R):Option R:=
 match P.underlying t with
 |some (.map q z)=>match bG P t l m,(bG P q l D).bind iU with
  |some (.row id),some key=>match l.ob id with
   |some (.mp k' w B G)=>bif jZ P q key then
     Vb (mdel key B G) λp=>abU C q z p λp=>k { l with ob:=put l.ob id (some (.mp k' w p.1 p.2)) }
    else none
   |_=>none
  |_,_=>none
 |_=>none
noncomputable def US (P:Program) (C:lH) (l:St) (t:TypeId) (m G:Operand) (d:Nat) (k:St->Option R):Option R:=
 match MF P l t m G with
 |some (z,id,key,k',e,q,B,I)=>bif Nat.beq id d then none else match qm P z,isSlice P z with
  |some (.dy _ []),some (D,s)=>bif Nat.beq e D&&Nat.beq s q&&Nat.blt 0 s then
    acR (ab7 key B I) λxs w=>Kx C e xs λxs=>mrK C k' e (B,w) λp=>k ((St.new { l with ob:=put l.ob id (some (.mr k' e q p.1 p.2)) } d (.row e q xs)).set (some d) (.row d))
   else none
  |_,_=>none
 |none=>none
noncomputable def WR (P:Program) (C:lH) (l:St) (t:TypeId) (m G x:Operand) (k:St->Option R):Option R:=
 match MF P l t m G with
 |some (z,id,key,k',e,q,B,D)=>match x with
  | .const (.slice none 0 0)=>match isSlice P z with
   |some (w,s)=>bif Nat.beq e w&&Nat.beq s q&&Nat.blt 0 s then
     W7 (Ds key (some []) B D) λp=>mrK C k' e p λp=>k { l with ob:=put l.ob id (some (.mr k' e q p.1 p.2)) }
    else none
   |none=>none
  |x=>match bG P z l x with
   |some (.row j)=>match l.ob j with
    |some (.row w s xs)=>bif Nat.beq e w&&Nat.beq s q&&Nat.blt j 10000 then
      W7 (Ds key (some xs) B D) λp=>mrK C k' e p λp=>k { (l.dA j) with ob:=put (l.dA j).ob id (some (.mr k' e q p.1 p.2)) }
     else none
    |_=>none
   |_=>none
 |none=>none
noncomputable def FM (P:Program) (C:lH) (h:Hint) (F:eM) (w:St) (c:Call) (f:Operand) (d:Option Nat) (k:St->Option R):Option R:=
 match(bG P 0 w f).bind Ro,tW P h w c.args.toList c.argTypes.toList with
 |some (g,pre,B),some K=>
  let args:=pre++(K++B)
  let ids:=gD w 200 (args.flatMap SV.ids) [];let G:=ij (d.any h.stay.contains) w (pH args);let m:=iW G 0 ids;let names:=m.map (·.2);let I:=iD m
  bif distinct ids&&Nat.blt ids.length 10000&&args.all (SV.closed ids) then
   match jN w ids I m with
   |some cL=>zV (F g (args.map (SV.pG I)) cL) λr l=>Jj P C ((m.filter λp=>h.keep.contains p.1).map (·.2)) ((m.filter λp=>h.bx.contains p.1).map (·.2)) cL l λq=>LS C g r λr=>match mM names (iD (swap m)) m q with
    |some z=>bif r.jF then
      let D:=fu (ids.filter G) w
      k (St.set { env:=D.env,ob:=λi=>(find z i).orElse λ_=>D.ob i } d (.pv r)) else none
    |none=>none
   |none=>none
  else none
 |_,_=>none
noncomputable def FK (C:lH) (key:Nat) (F:eM) (B:St) (g:Nat) (args:List SV) (w:Nat->Nat) (d:Option Nat) (k:St->Option R):Option R:=
 let ids:=gD B 200 (args.flatMap SV.ids) [];let m:=qq w 0 ids;let G:=m.filter λp=> !(given w p.1)
 bif distinct ids&&Nat.blt ids.length 10000&&args.all (SV.closed ids)&&(ids.all (λi=> !(given w i))||(Nat.blt ids.length 1000&&ids.all λi=> !(given w i)||iC i)) then
  match jN B ids (iD m) m with
  |some cL=>outC C (key+64 *cL.length) (F g (args.map (SV.pG (iD m))) cL) λD=>
    let z:=newNames (d.getD 0) 0 (D.2.drop G.length);let mm:=G++z
    bif Nat.ble z.length 8&&distinct (mm.map (·.1))&&distinct (mm.map (·.2))&&z.all (λx=>Nat.blt x.1 10000)&&z.all (λx=>Nat.ble 25000 x.2) then
     match mM (mm.map (·.2)) (iD (swap mm)) mm D.2 with
     |some l=>match D.1 with
      | .gM [.gM [.self 0, .qz,x]]=>bif(vE x).closed (mm.map (·.2)) then
        let q:=fu (ids.filter (λi=> !(stays w i))++z.map (·.1)) B
        k (St.set { env:=q.env,ob:=λi=>(find l i).orElse λ_=>q.ob i } d (Kj (find l) ((vE x).pG (iD (swap mm)))))
       else none
      |r=>bif r.jF then
        let q:=fu (ids.filter (λi=> !(stays w i))++z.map (·.1)) B
        k (St.set { env:=q.env,ob:=λi=>(find l i).orElse λ_=>q.ob i } d (.pv r))
       else none
     |none=>none
    else none
  |none=>none
 else none
noncomputable def TM (P:Program) (C:lH) (h:Hint) (F:eM) (B:St) (c:Call) (f:Operand) (d key:Nat) (w:List Nat) (k:St->Option R):Option R:=
 let l:=iJ h.nest (mS P w d 0 c.args.toList c.argTypes.toList) B;match(bG P 0 l f).bind Ro,Cx P w d l 0 c.args.toList c.argTypes.toList with
 |some (g,pre,q),some z=>bif(mS P w d 0 c.args.toList c.argTypes.toList).all (λx=>Nat.blt x.1 10000) then
   FK C key F l g (pre++(z++q)) (Jz l (ij false l (vH w 0 z))) (some d) k else none
 |_,_=>none
noncomputable def I9 (P:Program) (C:lH) (h:Hint) (F:eM) (q:St) (c:Call) (f:Operand) (d:Option Nat) (k:St->Option R):Option R:=
 match d with
 |some d=>match find h.ua d with
  |some B=>TM P C h F q c f d B.1 B.2 k
  |none=>match bG P 0 q f,r6 P (wO h d).isSome q c.args.toList c.argTypes.toList with
  |some (.pv (.fn g w)),some I=>xL (F g ((I++w).map .pv) []) λr=>LS C (bif(wO h d).isSome then g+1000000 else g) r λr=>match r with
   | .gM [.gM [.self e, .dy G xs]]=>bif(wO h d).isSome then none else k ((q.new d (.row e G xs)).set (some d) (.row d))
   | .agg z=>match wO h d with
    |some []=>k (q.set (some d) (.pv (.agg z)))
    |some l=>match sZ z l with
     |some D=>bif l.all (λx=>Nat.blt x.1 10000) then k ((iJ h.nest l q).set (some d) (.ag D)) else none
     |none=>none
    |none=>none
   |_=>none
  |_,_=>none
 |none=>none
noncomputable def Ld (P:Program) (C:lH) (z:St) (t:TypeId) (x:Operand) (d:Nat) (k:St->Option R):Option R:=
 match bG P 0 z x,DN P t with
 |some (.rp id K i D),some false=>match z.ob id with
  |some (.rn e l q w I xs B)=>bif Nat.beq K l&&Nat.beq D q&& !(Nat.beq id d)&&Nat.blt id 10000 then
    YL B i λG=>Kx C w G λG=>Sa C w (B.set i none) λB=>k ((St.new { z with ob:=put z.ob id (some (.rn e l q w I xs B)) } d (.row w I G)).set (some d) (.row d))
   else none
  |_=>none
 |_,_=>none
noncomputable def Va (P:Program) (C:lH) (w:St) (t:TypeId) (id L i D j:Nat) (k:St->Option R):Option R:=
 match DN P t,lF P t,w.ob id,w.ob j with
 |some false,some 1,some (.rn e l q B G xs z),some (.row I K N)=>
  bif Nat.beq L l&&Nat.beq D q&&Nat.blt id 10000&&Nat.blt j 10000&&Nat.beq B I&&Nat.beq G K&& !(Nat.beq id j) then
   check (i<z.length) (Sa C B (z.set i (some N)) λz=>k { (w.dA j).dA (id+40000) with ob:=put ((w.dA j).dA (id+40000)).ob id (some (.rn e l q B G xs z)) })
  else none
 |_,_,_,_=>none
noncomputable def Vp (P:Program) (C:lH) (h:Hint) (F:eM) (o:Oper) (w:St) (k:St->Option R):Option R:=
 match o.op with
 | .makeSlice t l c=>match o.dst,isSlice P t,(bG P 0 w l).bind iU,(bG P 0 w c).bind iU with
  |some d,some (e,s),some (.int _ l),some (.int _ c)=>match zeroCells P e,P.info? e with
   |some z,some i=>bif Nat.blt 0 s&&Nat.beq z.length s then check (0<=l/\l<=c/\i.bytes *c.toNat<=281474976710656/\c<=9223372036854775807)
     (k ((w.new d (.row e s (List.replicate l.toNat z))).set (some d) (.row d))) else none
   |_,_=>none
  |_,_,_,_=>none
 | .store t x y=>match o.dst,bG P 0 w x,bG P t w y with
  |none,some (.rp id B i G),some (.pv v)=>match w.ob id,lF P t with
   |some (.row e D xs),some n=>bif Nat.beq B D&&Nat.beq v.cells.length n&&v.Hh then
     eH xs i λc=>QY C e c λc=>bif Nat.ble (G+n) c.length then k { w with ob:=put w.ob id (some (.row e D (xs.set i (c.take G++v.cells++c.drop (G+n))))) } else none
    else none
   |_,_=>none
  |none,some (.rp id B i G),some (.row j)=>Va P C w t id B i G j k
  |none,some (.ptr id G),some (.sub j B 0 n)=>pK (VS P w t id G j B n) k
  |none,some a,some v=>pK (storeAt P t w a v) k
  |_,_,_=>none
 | .load t x=>bif o.dst.any h.take.contains then
   match o.dst with
   |some d=>Ld P C w t x d k
   |none=>none
  else vD P C h F o w λv=>k (w.set o.dst v)
 | .call c=>match c.callee with
  | .builtin .append=>match o.dst,c.args.toList,c.argTypes.toList with
   |some d,[x,y],[t,U]=>match isSlice P t,bG P t w x,bG P U w y with
    |some (e,s),some (.row id),some y=>match w.ob id,elems w y,P.info? e with
     |some (.row Q B xs),some (D,I),some i=>
      bif Nat.beq t U&&Nat.beq e Q&&Nat.beq s B&&Nat.beq B D&&Nat.blt 0 B&&(i.zero.map (λz=>z.cells.size)==some B)&&gE id then
       check ((xs.length+I.length) *i.bytes<=140737488355328/\xs.length+I.length<=4611686018427387904) (k ((w.new id (.row e B (xs++I))).set (some d) (.row id)))
      else none
     |some (.rn Q B q e2 s2 xs zs),some (D,I),some i=>
      bif Nat.beq t U&&Nat.beq e Q&&Nat.beq s B&&Nat.beq B D&&Nat.blt 0 B&&(i.zero.map (λz=>z.cells.size)==some B)&&gE id&&I.all (qE q) then
       check ((xs.length+I.length) *i.bytes<=140737488355328/\xs.length+I.length<=4611686018427387904) (Sa C e2 (zs++I.map λ_=>some []) λzs=>k ((w.new id (.rn e B q e2 s2 (xs++I.map λc=>c.set q .hole) zs)).set (some d) (.row id)))
      else none
     |_,_,_=>none
    |some (e,s),some (.aq id .full),some y=>match w.ob id,elems w y,P.info? e with
     |some (.row Q B xs),some (D,I),some i=>
      bif Nat.beq t U&&Nat.beq e Q&&Nat.beq s B&&Nat.beq B D&&Nat.blt 0 B&&(i.zero.map (λz=>z.cells.size)==some B)&&gE id&& !I.isEmpty then
       check ((xs.length+I.length) *i.bytes<=140737488355328/\xs.length+I.length<=4611686018427387904) (k ((w.new id (.row e B (xs++I))).set (some d) (.row id)))
      else none
     |_,_,_=>none
    |_,_,_=>none
   |_,_,_=>none
  | .builtin .delete=>match o.dst,c.args.toList,c.argTypes.toList with
   |none,[m,O],t::_=>Dq P C w t m O k
   |_,_,_=>none
  | .builtin .clear=>match o.dst,c.args.toList,c.argTypes.toList with
   |none,[x],[t]=>match isSlice P t,bG P t w x with
    |some (e,s),some (.sub id B lo V)=>match w.ob id,zeroCells P e with
     |some (.row Q D xs),some z=>bif Nat.beq s B&&Nat.beq B D&&Nat.beq z.length B&&Nat.beq e Q&&Nat.blt 0 B then
       check (V<=xs.length) (k { w with ob:=put w.ob id (some (.row Q D (xs.take lo++List.replicate (V-lo) z++xs.drop V))) }) else none
     |_,_=>none
    |none,_=>match EH P w t x with
     |some K=>k K
     |none=>none
    |_,_=>none
   |_,_,_=>none
  | .value f=>bif o.dst.any h.owns.contains then I9 P C h F w c f o.dst k else bif o.dst.any h.stay.contains&&wide w c f then vD P C h F o w λv=>k (w.set o.dst v) else bif wide w c f then FM P C h F w c f o.dst k else bif c.args.toList.any (λx=>(pE h w x).isSome) then
    match bG P 0 w f,B6 P h w c.args.toList c.argTypes.toList with
    |some (.pv (.fn g L)),some (vs,[id])=>match w.ob id with
     |some (.row e B xs)=>GL (F g (vs++L.map .pv) [(10000, .row e B xs)]) 10000 e B λr N=>LS C g r λr=>Kx C e N λN=>match r with
       | .self n=>bif gE id then check (n<=N.length) (k ((w.new id (.row e B (N.take n))).set o.dst (.row id))) else none
       |r=>bif r.plain then k (St.set { w with ob:=put w.ob id (some (.row e B N)) } o.dst (.pv r)) else none
     |_=>none
    |_,_=>none
   else bif c.args.toList.any (xd w) then vD P C h F o w λv=>k (w.set o.dst v)
   else bif c.args.toList.any (lC w) then
    match bG P 0 w f,jM P w c.args.toList c.argTypes.toList with
    |some (.pv (.fn g L)),some vs=>xL (F g ((vs++L).map .pv) []) λr=>LS C g r λr=>bif r.plain&&r.jF then k (w.set o.dst (.pv r)) else
      match mD.jG w c.args.toList with
      |some K=>match bG P 0 K f,jM P K c.args.toList c.argTypes.toList with
       |some (.pv (.fn g' S)),some vs'=>bif c.args.toList.any (lC K) then none else xL (F g' ((vs'++S).map .pv) []) λr=>LS C g' r λr=>bif r.jF then k (K.set o.dst (.pv r)) else none
       |_,_=>none
      |none=>none
    |_,_=>none
   else vD P C h F o w λv=>k (w.set o.dst v)
  |_=>vD P C h F o w λv=>k (w.set o.dst v)
 | .mapUpdate t m O x=>match o.dst with
  |none=>bif qv h m then WR P C w t m O x k else B8 P C w t m O x k
  |some _=>none
 | .insert t m O x=>match o.dst with
  |none=>bif qv h m then WR P C w t m O x k else B8 P C w t m O x k
  |some _=>none
 | .lookup t m O ok=>bif qv h m&& !ok then
   match o.dst with
   |some d=>US P C w t m O d k
   |none=>none
  else vD P C h F o w λv=>k (w.set o.dst v)
 | .range t x=>match o.dst,P.underlying t,(bG P t w x).bind iU with
  |some d,some .string,some (.str s)=>k ((w.new d (.it s 0)).set (some d) (.ptr d 0))
  |_,_,_=>none
 | .next x true=>match o.dst,bG P 0 w x with
  |some d,some (.ptr id 0)=>match w.ob id with
   |some (.it s pos)=>bif Nat.blt pos s.length then
     k (St.set { w with ob:=put w.ob id (some (.it s (pos+(Utf8.decode ⟨s.toArray⟩ pos).2))) } (some d) (.pv (.gM [.bool true, .int .i64 pos, .int .i32 (Utf8.decode ⟨s.toArray⟩ pos).1])))
    else k (w.set (some d) (.pv (.gM [.bool false])))
   |_=>none
  |_,_=>none
 | .assign _| .buildSlice _ _ _| .box _ _| .alloc _| .makeMap _ _| .makeFunc _ _ _| .build _ _=>pK (step0 P h F o w) k
 |_=>vD P C h F o w λv=>k (w.set o.dst v)
noncomputable def OP (C:lH) (l:St) (t:Nat) (k:St->Option R):Option R:=
 match l.env t with
 |some (.ag [.r id])=>match l.ob id with
  |some (.rn e z q I B xs D)=>bif iC id then
    Qn (oI D) λG=>Kx C e (vZ q B xs G) λw=>k { env:=λi=>(l.env i).map (SV.cZ id (.dy z w)),ob:=put (λi=>(l.ob i).map (Ob.cZ id (.dy z w))) id none }
   else none
  |_=>pK (qt l t) k
 |_=>pK (qt l t) k
noncomputable def F8 (C:lH):List Nat->St->(St->Option R)->Option R
 |[],q,k=>k q
 |t::l,q,k=>OP C q t λq=>F8 C l q k
noncomputable def stepT (P:Program) (C:lH) (h:Hint) (F:eM) (o:Oper) (l:St) (k:St->Option R):Option R:=F8 C (EU h o) l λl=>Vp P C h F o l k
def XD (w:Array Oper) (o:Oper) (q:St) (k:Bool->St->Option R):Option R:=
 match o.guard with
 |none=>k true q
 |some (j,l)=>match(w[j]?).bind (·.dst) with
  |some d=>match q.env d with
   |some (.pv (.bool true))=>k l q
   |some (.pv (.bool false))=>k (!l) q
   |some .undef=>k false q
   |_=>none
  |none=>none
def guards (l:Array Oper) (i:Nat):Bool:=l.toList.any λo=>match o.guard,o.op with
 |some (j,_),_=>Nat.beq j i
 |none,_=>false
def KH (b:Bool) (d:Option Nat) (l:St) (k:St->Option R):Option R:=
 bif b then
  match d with
  |some d=>match l.env d with
   |some (.pv (.bool t))=>bif t then k (l.set (some d) (.pv (.bool true))) else k (l.set (some d) (.pv (.bool false)))
   |_=>k l
  |none=>k l
 else k l
noncomputable def E4 (P:Program) (C:lH) (h:Hint) (F:eM) (w:Array Oper):Nat->List Oper->St->(St->Option R)->Option R
 |_,[],q,k=>k q
 |i,o::l,q,k=>XD w o q λb q=>bif b then stepT P C h F o q λq=>KH (guards w i) o.dst q λq=>E4 P C h F w (i+1) l q k
   else E4 P C h F w (i+1) l (q.set o.dst .undef) k
noncomputable def ye (P:Program) (C:lH) (h:Hint) (F:eM) (q:Array Oper):Nat->List Oper->List (Nat×gi)->St->(St->Option R)->Option R
 |_,[],_,w,k=>k w
 |i,o::l,z,w,k=>XD q o w λb w=>bif b then
    bif isF h w o&&(EU h o).isEmpty then
     vD P C h F o w λv=>bif xw q z i ((vC P h q o w).fill w (w.set o.dst v)) then
      KH (guards q i) o.dst (w.set o.dst v) λB=>ye P C h F q (i+1) l ((i,(vC P h q o w).fill w (w.set o.dst v))::z) B k else none
    else stepT P C h F o w λB=>bif xw q z i ((uu P h q o w).fill w B) then
      KH (guards q i) o.dst B λD=>ye P C h F q (i+1) l ((i,(uu P h q o w).fill w B)::z) D k else none
   else bif xw q z i ((tD q o).fill w (w.set o.dst .undef)) then ye P C h F q (i+1) l ((i,(tD q o).fill w (w.set o.dst .undef))::z) (w.set o.dst .undef) k else none
@[irreducible] noncomputable def G4 (P:Program) (h:Hint) (F:eM) (c:Code) (st:St) (k:Ex->St->Option R):Option R:=
 open Classical in if l : ∃ x n, exec P h F n (.loop c) st = some x then k l.choose.1 l.choose.2 else none
def seqK (q:St->(Ex->St->Option R)->Option R) (k:Ex->St->Option R):Ex->St->Option R:=λe l=>match e with
 | .normal=>q l k
 |e=>k e l
def TD (id:Nat) (k:Ex->St->Option R):Ex->St->Option R:=λe l=>match e with
 | .exit j=>bif Nat.beq j id then k .normal l else k (.exit j) l
 |e=>k e l
noncomputable def Tt (P:Program) (h:Hint) (F:eM) (c:Code) (k:Ex->St->Option R):Ex->St->Option R:=λe l=>match e with
 | .normal=>G4 P h F c (h.canon (e7 c) l) k
 |e=>k e l
noncomputable def Ca (C:lH):List Nat->St->(St->Option R)->Option R
 |[],w,k=>k w
 |id::l,w,k=>match w.ob id with
  |some (.mr I e z G L)=>bif iC id then
    Qn (oI L) λxs=>mpK C I e z (G,xs.map (.dy z)) λp=>Ca C l { env:=λi=>(w.env i).map (SV.cZ id (.mp p.1 p.2)),ob:=put (λi=>(w.ob i).map (Ob.cZ id (.mp p.1 p.2))) id none } k
   else none
  |some (.rn e z q Q K xs N)=>bif iC id then
    Qn (oI N) λO=>Kx C e (vZ q K xs O) λB=>Ca C l { env:=λi=>(w.env i).map (SV.cZ id (.dy z B)),ob:=put (λi=>(w.ob i).map (Ob.cZ id (.dy z B))) id none } k
   else none
  |_=>match w.Kk id with
   |some D=>Ca C l D k
   |none=>none
noncomputable def acB (C:lH) (h:Hint) (id:Nat) (q:St) (k:St->Option R):Option R:=
 match find h.mY id with
 |some l=>Ca C l q k
 |none=>k q
noncomputable def qx (P:Program) (C:lH) (h:Hint) (F:eM):Code->St->(Ex->St->Option R)->Option R
 | .skip,l,k=>k .normal l
 | .label _,l,k=>k .normal l
 | .region id q w,l,k=>acB C h id l λl=>
  bif w then
   bif sN 0 q.toList then ye P C h F q 0 q.toList [] (r7 (xK q.toList) l) (k .normal) else none
  else E4 P C h F q 0 q.toList l (k .normal)
 | .seq a b,l,k=>match find h.blk (e7 a) with
  |some x=>check (x.1 l=true) (k (exOf (x.2 l).1) (x.2 l).2)
  |none=>qx P C h F a l (seqK (qx P C h F b) k)
 | .cond c a b,l,k=>match bG P 0 l c with
  |some (.pv (.bool t))=>bif t then qx P C h F a l k else qx P C h F b l k
  |_=>none
 | .block id c,l,k=>qx P C h F c l (TD id k)
 | .loop c,l,k=>G4 P h F c (h.canon (e7 c) l) k
 | .exit id,l,k=>k (.exit id) l
 | .ret,l,k=>k .ret l
 | .scope c,l,k=>qx P C h F c l k
 |_,_,_=>none
noncomputable def Ep (P:Program) (C:lH) (h:Hint) (F:eM) (key:Nat):Code->(Ex->St->Option R)->Option (Code×(Ex->St->Option R))
 | .seq a b,k=>match find h.blk (e7 a) with
  |some _=>none
  |none=>match Ep P C h F key a (seqK (qx P C h F b) k) with
   |some x=>some x
   |none=>Ep P C h F key b k
 | .cond _ a b,k=>match Ep P C h F key a k with
  |some x=>some x
  |none=>Ep P C h F key b k
 | .block id c,k=>Ep P C h F key c (TD id k)
 | .loop c,k=>bif Nat.beq (e7 c) key then some (c,k) else Ep P C h F key c (Tt P h F c k)
 | .scope c,k=>Ep P C h F key c k
 |_,_=>none
end
noncomputable def ZC (P:Program) (C:lH) (H:Nat->Hint) (gL:eM) (f:Nat) (args:List SV) (cL:List (Nat×Ob)):Option (AV×List (Nat×Ob)):=
 match P.funcs[f]? with
 |some fn=>match fn.body with
  |some c=>bif Nat.ble args.length fn.ntmps&&(cL.map (·.1)).all (λi=> !(iC i)||giv i) then qx P C (H f) (run P H gL) c { env:=find (yZ 0 args),ob:=find cL } (Z4 P (H f).own fn ((cL.map (·.1)).filter λi=> !(iC i))) else none
  |none=>none
 |none=>none
noncomputable def zX (P:Program) (C:lH) (H:Nat->Hint) (gL:eM) (f key:Nat) (names:List Nat) (l:List (Nat×SV)) (w:List (Nat×Ob)):Option (AV×List (Nat×Ob)):=
 match P.funcs[f]? with
 |some fn=>match fn.body with
  |some c=>match Ep P C (H f) (run P H gL) key c (Z4 P (H f).own fn names) with
   |some (q,k)=>G4 P (H f) (run P H gL) q { env:=find l,ob:=find w } k
   |none=>none
  |none=>none
 |none=>none
noncomputable def Vl (P:Program) (C:lH) (H:Nat->Hint) (gL:eM) (f key:Nat) (names:List Nat) (q:List (Nat×SV)) (w:List (Nat×Ob)):Option (AV×List (Nat×Ob)):=
 match P.funcs[f]? with
 |some fn=>match fn.body with
  |some c=>match Ep P C (H f) (run P H gL) key c (Z4 P (H f).own fn names) with
   |some (l,k)=>qx P C (H f) (run P H gL) l ((H f).canon (e7 l) { env:=find q,ob:=find w }) (Tt P (H f) (run P H gL) l k)
   |none=>none
  |none=>none
 |none=>none
section
variable {R:Type} {P:Program} {C:lH} {h:Hint} {F:eM}
def fh {q:Type} {c:Option q} {k:q->Option R} {r:R} (l:pK c k=some r):∃x,c=some x/\k x=some r:=by cases c with
 |none=>simp[pK] at l
 |some x=>exact⟨x,rfl,l⟩
def gx {p:Prop} [Decidable p] {x:Option R} {r:R} (l:check p x=some r):p/\x=some r:=by simp_all[check]
def Mq {q:Type} {xs:List q} {i:Int} {k:q->Option R} {r:R} (l:bB xs i k=some r):0<=i/\∃x,xs[i.toNat]? =some x/\k x=some r:=by
 unfold bB at l;split at l
 .rename_i w;split at l
  .rename_i x z;exact⟨w,x,z,l⟩
  .cases l
 .cases l
def Mr {q:Type} {xs:List q} {i:Nat} {k:q->Option R} {r:R} (l:eH xs i k=some r):∃x,xs[i]? =some x/\k x=some r:=by
 unfold eH at l;split at l
 .rename_i x w;exact⟨x,w,l⟩
 .cases l
def vt {c:Option (AV×List (Nat×Ob))} {k:AV->Option R} {r:R} (l:xL c k=some r):∃x,c=some (x,[])/\k x=some r:=by
 unfold xL at l;split at l
 .rename_i x;exact⟨x,rfl,l⟩
 .cases l
def TQ {c:Option (AV×List (Nat×Ob))} {w e z:Nat} {k:AV->List (List AV)->Option R} {r:R} (l:GL c w e z k=some r):∃x xs,c=some (x,[(w, .row e z xs)])/\k x xs=some r:=by
 unfold GL at l;split at l
 .rename_i x I L K xs;replace l:=b9 l;obtain⟨q,l⟩:=l;simp only[aK] at q;have B:=beq_iff.1 q.1.1;have D:=beq_iff.1 q.1.2;have G:=beq_iff.1 q.2;subst B D G;exact⟨x,xs,rfl,l⟩
 .cases l
def oR {q T:Type} {enc:T->q} {c:q} {k:T->Option R} {r:R} (l:rP enc c k=some r):∃d,enc d=c/\k d=some r:=by
 unfold rP at l;split at l
 .rename_i w;exact⟨_,w.choose_spec,l⟩
 .cases l
def Df {e:TypeId} {c:List AV} {k:List AV->Option R} {r:R} (l:QY C e c k=some r):k c=some r:=by
 unfold QY at l;split at l
 .obtain⟨x,rfl,q⟩:=oR l;exact q
 .exact l
def qi {e:TypeId} {c:List (List AV)} {k:List (List AV)->Option R} {r:R} (l:Kx C e c k=some r):k c=some r:=by
 unfold Kx at l;split at l
 .obtain⟨x,rfl,q⟩:=oR l;exact q
 .exact l
def rj {g:Nat} {c:AV} {k:AV->Option R} {r:R} (l:LS C g c k=some r):k c=some r:=by
 unfold LS at l;split at l
 .obtain⟨x,rfl,q⟩:=oR l;omega
 omega
def Y0 {t:TypeId} {c:AV} {k:AV->Option R} {r:R} (l:valK C t c k=some r):k c=some r:=by
 unfold valK at l;split at l
 .obtain⟨x,rfl,q⟩:=oR l;omega
 omega
def FW {w q:TypeId} {c:List AV×List AV} {k:List AV×List AV->Option R} {r:R} (l:abU C w q c k=some r):k c=some r:=by
 unfold abU at l;split at l
 .obtain⟨x,rfl,z⟩:=oR l;omega
 omega
def UM {x:Option (Option AV)} {k:AV->Option R} {z:Option R} {r:R} (l:MA x k z=some r):(∃v,x=some (some v)/\k v=some r)\/(x=some none/\z=some r):=by
 unfold MA at l;split at l
 .exact .inl ⟨_,rfl,l⟩
 .exact .inr ⟨rfl,l⟩
 .cases l
def MT {x:Option (List AV×List AV)} {k:List AV×List AV->Option R} {r:R} (l:Vb x k=some r):∃p,x=some p/\k p=some r:=by
 unfold Vb at l;split at l
 .exact⟨_,rfl,l⟩
 .cases l
def I8 {c:Option (AV×List (Nat×Ob))} {k:AV->List (Nat×Ob)->Option R} {r:R} (q:zV c k=some r):∃x l,c=some (x,l)/\k x l=some r:=by
 unfold zV at q;split at q
 .exact⟨_,_,rfl,q⟩
 .cases q
def Fw {z:Nat} {l:List (Nat×Ob)} {k:Ob->List (Nat×Ob)->Option R} {r:R} (q:qH z l k=some r):∃o w,l=(z,o)::w/\k o w=some r:=by
 unfold qH at q;split at q
 .replace q:=b9 q;obtain⟨B,q⟩:=q;have:=beq_iff.1 B;subst this;exact⟨_,_,rfl,q⟩
 .cases q
def MK {l:List (Nat×Ob)} {k:Option R} {r:R} (q:Sb l k=some r):l=[]/\k=some r:=by
 unfold Sb at q;split at q
 .exact⟨rfl,q⟩
 .cases q
def zz {o q:Ob} {k:Option R} {r:R} (l:BA o q k=some r):o=q/\k=some r:=by
 unfold BA at l;split at l
 .exact⟨‹_›,l⟩
 .cases l
def Ty {e w:Nat} {o:Ob} {k:List (List AV)->Option R} {r:R} (l:Qq e w o k=some r):∃xs,o= .row e w xs/\k xs=some r:=by
 unfold Qq at l;split at l
 .replace l:=b9 l;obtain⟨q,l⟩:=l;simp only[aK] at q;have z:=beq_iff.1 q.1;have B:=beq_iff.1 q.2;subst z B;exact⟨_,rfl,l⟩
 .cases l
def Tx {z w:Nat} {o:Ob} {k:List AV×List AV->Option R} {r:R} (l:GJ z w o k=some r):∃p,o= .mp z w p.1 p.2/\k p=some r:=by
 unfold GJ at l;split at l
 .replace l:=b9 l;obtain⟨q,l⟩:=l;simp only[aK] at q;have B:=beq_iff.1 q.1;have D:=beq_iff.1 q.2;grind
 simp_all
def Yl {x:Option (Option Nat)} {k:Bool->Option R} {r:R} (l:hasK x k=some r):∃q,x=some q/\k q.isSome=some r:=by unfold hasK at l;grind
def Qx {x:Option (List UInt8)} {k:List UInt8->Option R} {r:R} (l:TF x k=some r):∃b,x=some b/\k b=some r:=by unfold TF at l;grind
def Vv {x:Option (List (List AV)×List (Option (List (List AV))))} {k:List (List AV)->List (Option (List (List AV)))->Option R} {r:R} (l:acR x k=some r):∃p,x=some p/\k p.1 p.2=some r:=by
 unfold acR at l;split at l
 .exact⟨_,rfl,l⟩
 .cases l
def Km {x:Option (List AV×List (Option (List (List AV))))} {k:List AV×List (Option (List (List AV)))->Option R} {r:R} (l:W7 x k=some r):∃p,x=some p/\k p=some r:=by
 unfold W7 at l;split at l
 .exact⟨_,rfl,l⟩
 .cases l
def BT {x:Option (List (List (List AV)))} {k:List (List (List AV))->Option R} {r:R} (q:Qn x k=some r):∃l,x=some l/\k l=some r:=by
 unfold Qn at q;split at q
 .exact⟨_,rfl,q⟩
 .cases q
def MP {w:List (Option (List (List AV)))} {i:Nat} {k:List (List AV)->Option R} {r:R} (l:YL w i k=some r):∃q,w[i]? =some (some q)/\k q=some r:=by
 unfold YL at l;split at l
 .rename_i q h;exact⟨q,h,l⟩
 .cases l
def Du {e:TypeId} {q:List (Option (List (List AV)))} {k:List (Option (List (List AV)))->Option R} {r:R} (l:Sa C e q k=some r):k q=some r:=by
 unfold Sa at l;split at l
 .obtain⟨x,rfl,w⟩:=oR l;exact w
 .exact l
def JR {w e:TypeId} {c:List AV×List (Option (List (List AV)))} {k:List AV×List (Option (List (List AV)))->Option R} {r:R} (l:mrK C w e c k=some r):k c=some r:=by
 unfold mrK at l;split at l
 .obtain⟨x,rfl,q⟩:=oR l;exact q
 .exact l
def ab5 {w e:TypeId} {z:Nat} {c:List AV×List AV} {k:List AV×List AV->Option R} {r:R} (l:mpK C w e z c k=some r):k c=some r:=by
 unfold mpK at l;split at l
 .obtain⟨x,rfl,q⟩:=oR l;exact q
 .exact l
def Hw {o w:Ob} {k:Ob->Option R} {r:R} (l:O9 C o w k=some r):k w=some r:=by
 unfold O9 at l;split at l
 .obtain⟨xs,rfl,q⟩:=Ty l;exact qi q
 .obtain⟨p,rfl,q⟩:=Tx l;exact FW q
 .unfold asLp at l;grind
 .obtain⟨rfl,q⟩:=zz l;omega
theorem IV:∀{l:List SV} {q:List AV},mL l=some q->l=q.map .pv
 |[],q,h=>by simp_all[mL]
 |s::l,q,h=>by cases s with
  |pv v=>simp[mL,cv] at h;obtain⟨z,w,rfl⟩:=h;rw[IV w];rfl
  |_=>simp[mL] at h
def XS {o q:Ob} {k:Ob->Option R} {r:R} (l:boxK P C o q k=some r):k q=some r:=by
 unfold boxK at l;split at l
 .split at l
  .unfold AH at l;split at l
   .rename_i h;have:=qi l;rw[<-h.choose_spec] at this;exact this
   .cases l
  split at l
  .unfold asBox at l;split at l
   .split at l
    .replace l:=b9 l;obtain⟨w,l⟩:=l;have:=beq_iff.1 w;obtain⟨x,e,l⟩:=oR l;grind[IV]
    .simp_all
   .simp_all
  .obtain⟨rfl,z⟩:=zz l;exact z
 .exact Hw l
def y9 {keep K:List Nat}:∀{l G:List (Nat×Ob)} {k:List (Nat×Ob)->Option R} {r:R},Jj P C keep K l G k=some r->k G=some r
 |[],G,k,r,q=>by simp only[Jj] at q;obtain⟨rfl,L⟩:=MK q;exact L
 |(B,o)::l,G,k,r,q=>by simp only[Jj] at q;replace q:=Fw q;obtain⟨I,N,rfl,q⟩:=q;cases z:keep.contains B with
  |true=>rw[z] at q;obtain⟨e,q⟩:=zz q;subst e;exact y9 (k:=λD=>k ((B,I)::D)) q
  |false=>
   rw[z] at q;simp only[au] at q;cases w:K.contains B with
   |true=>rw[w] at q;simp only[aj] at q;exact y9 (k:=λD=>k ((B,I)::D)) (XS q)
   |false=>
   rw[w] at q;simp only[au] at q;exact y9 (k:=λD=>k ((B,I)::D)) (Hw q)
def YQ {a:AV} {k:List AV->Option R} {r:R} (l:ptrK a k=some r):∃q,a= .ref q/\k q=some r:=by
 unfold ptrK at l;split at l
 .exact⟨_,rfl,l⟩
 .cases l
def QS {a:AV} {k:AV->Option R} {r:R} (l:TW C a k=some r):∃q,a= .ref q/\k (.ref q)=some r:=by
 unfold TW at l;obtain⟨q,e,l⟩:=YQ l;refine⟨q,e,?_⟩;split at l
 .obtain⟨x,w,l⟩:=oR l;rw[<-w];exact l
 .exact l
def Cw:∀{l w:List (Nat×Ob)} {k:Option R} {r:R},AB l w k=some r->w=l/\k=some r
 |[],w,k,r,q=>by simp only[AB] at q;obtain⟨e,K⟩:=MK q;exact⟨e,K⟩
 |(N,o)::l,w,k,r,q=>by simp only[AB] at q;obtain⟨O,L,e1,D⟩:=Fw q;obtain⟨z,G⟩:=zz D;obtain⟨B,I⟩:=Cw G;exact⟨by rw[e1,z,B],I⟩
def Nx {z:St} {c:Call} {f:Operand} {k:AV->Option R} {r:R} (q:Nw P C h F z c f k=some r):∃v,sK P h F z c f=some v/\k v=some r:=by
 unfold Nw at q;split at q
 .rename_i g args G;obtain⟨I,q⟩:=b9 q;split at q
  .rename_i cL K;obtain⟨x,l,L,q⟩:=I8 q;obtain⟨e,B⟩:=Cw q;subst e;obtain⟨w,D⟩:=b9 (rj B);refine⟨x,?_,D⟩;simp only[sK,G,I,aj,K,L,E7,w,jH]
  .cases q
 .cases q
def nt {z:Option SV} {d w:Nat} {k:Nat->Option R} {r:R} (l:xk z d w k=some r):∃n,ig z d w=some n/\k n=some r:=by
 unfold xk at l;split at l
 .exact⟨d,rfl,l⟩
 .rename_i q i;obtain⟨B,D⟩:=gx l;exact⟨i.toNat,by simp[ig,B],D⟩
 .cases l
def UI {B:St} {v:SV} {k:AV->Option R} {r:R} (w:abT C B v k=some r):∃x,mE B v=some x/\k x=some r:=by
 unfold abT at w;split at w
 .rename_i id i;split at w
  .rename_i e L q D K xs N z;obtain⟨O,I,w⟩:=MP w;exact⟨_,by simp only[mE,z,I],qi w⟩
  .cases w
 .rename_i id;split at w
  .rename_i e L q D K xs N z;obtain⟨l,G,w⟩:=BT w;exact⟨_,by simp only[mE,kE,z,eG,Ob.val,G,cV],qi w⟩
  .exact fh w
 .exact fh w
def CF {z:St}:∀{xs:List Operand} {q:List TypeId} {k:List AV->Option R} {r:R},EF P C z xs q k=some r->∃w,jM P z xs q=some w/\k w=some r
 |[],_,k,r,l=>⟨[],rfl,l⟩
 |x::xs,q,k,r,l=>by
  simp[EF] at l;split at l
  .obtain⟨a,D,l⟩:=UI l;obtain⟨w,B,l⟩:=CF l;simp_all[jM]
  simp_all
def Ts {q:St}:∀{xs:List Operand},xs.any (xd q)=true->xs.any (lC q)=true:=by intro xs h;obtain⟨x,w,l⟩:=jI.1 h;cases x with
 |tmp i=>simp[xd] at l;simp[lC];grind
 |_=>cases l
def Ev {o:Oper} {O:St} {k:SV->Option R} {r:R} (l:vD P C h F o O k=some r):∃v,dW P h F o O=some v/\k v=some r:=by
 unfold vD at l;split at l
 .rename_i c x y D;split at l
  .rename_i t I;cases t with
   |true=>obtain⟨v,B,w⟩:=fh l;exact⟨v,by simp[dW,eU,D,I,B],w⟩
   |false=>obtain⟨v,B,w⟩:=fh l;exact⟨v,by simp[dW,eU,D,I,B],w⟩
  .cases l
 .rename_i x D;split at l
  .rename_i a B;obtain⟨cs,rfl,w⟩:=QS l;exact⟨_,by simp only[dW,eU,D,B],w⟩
  .obtain⟨v,hp,w⟩:=fh l;exact⟨v,by simp only[dW,D];exact hp,w⟩
 .rename_i t x ix D;split at l
  .rename_i n e L;obtain⟨v,B,w⟩:=fh l;exact⟨v,by simp[dW,eU,D,L,B],w⟩
  .rename_i hna;have hp:dW P h F o O=xT P O t x ix:=by
    simp only[dW,D,eU]
   rw[hp];split at l
   .rename_i e s sz xs q i N B hi;replace l:=b9 l;obtain⟨G,l⟩:=l;have:=beq_iff.1 G;subst this;obtain⟨h0,c,I,w⟩:=Mq l;exact⟨_,by simp[xT,N,B,hi,h0,I],Df w⟩
   .rename_i e s id q i N B hi;split at l
    .rename_i e' sz xs K;replace l:=b9 l;obtain⟨G,l⟩:=l;have:=beq_iff.1 G;subst this;obtain⟨I,w⟩:=gx l;exact⟨_,by simp[xT,N,B,hi,K,I],w⟩
    .rename_i e' sz _ _ _ xs _ K;replace l:=b9 l;obtain⟨G,l⟩:=l;have:=beq_iff.1 G;subst this;obtain⟨I,w⟩:=gx l;exact⟨_,by simp[xT,N,B,hi,K,I],w⟩
    .cases l
   .rename_i e s id sz lo hi' q i N B hi;replace l:=b9 l;obtain⟨G,l⟩:=l;have:=beq_iff.1 G;subst this;obtain⟨I,w⟩:=gx l;exact⟨_,by simp[xT,N,B,hi,I],w⟩
   .cases l
 .rename_i t x ix D;split at l
  .rename_i s q i L B hi;obtain⟨h0,b,G,w⟩:=Mq l;exact⟨_,by simp[dW,eU,D,L,B,hi,h0,G],w⟩
  .cases l
 .rename_i t x D;cases Th:o.dst.any h.take.contains with
  |true=>rw[Th] at l;cases l
  |false=>
  rw[Th] at l;simp only[au] at l;have hfp:dW P h F o O=eU P o O:=by simp only[dW,D,Th,au]
  rw[hfp];split at l
  .rename_i id sz i off B;split at l
   .rename_i e sz' xs K;replace l:=b9 l;obtain⟨G,l⟩:=l;have:=beq_iff.1 G;subst this;obtain⟨c,I,l⟩:=Mr l;replace l:=Df l;obtain⟨v,ht,w⟩:=fh l;exact⟨_,by simp[eU,D,B,K,I,ht],w⟩
   .rename_i e sz' q e' s' xs ys K;replace l:=b9 l;obtain⟨G,l⟩:=l;simp only[aK] at G;obtain⟨⟨b1,b2⟩,b3⟩:=G;have e1:=beq_iff.1 b1;have e2:=beq_iff.1 b2;have e3:DN P t=some false:=by simpa using b3
    subst e1 e2;obtain⟨I,w⟩:=gx l;exact⟨_,by simp[eU,D,B,K,I,e3],w⟩
   .cases l
  .obtain⟨v,ht,w⟩:=fh l;exact⟨v,ht,w⟩
 .rename_i op t x y t' D;have V:pK (eU P o O) (λv=>k v)=some r->∃v,dW P h F o O=some v/\k v=some r:=λl=>by
   obtain⟨v,ht,w⟩:=fh l;exact⟨v,by simp only[dW,D];exact ht,w⟩
  split at l
  .rename_i ka a kb b B hy;split at l
   .replace l:=b9 l;obtain⟨G,l⟩:=l;have w:ka=kb:=by simpa using G
    subst w;obtain⟨I,w⟩:=gx l;exact⟨_,by simp[dW,eU,D,B,hy,bin,FT,I],w⟩
   .replace l:=b9 l;obtain⟨G,l⟩:=l;have w:ka=kb:=by simpa using G
    subst w;obtain⟨I,w⟩:=gx l;exact⟨_,by simp[dW,eU,D,B,hy,bin,FT,I],w⟩
   .obtain⟨I,w⟩:=gx l
    have:¬b<0:=af
    exact⟨_,by simp[dW,eU,D,B,hy,bin,BE,this],w⟩
   .obtain⟨I,w⟩:=gx l
    have:¬b<0:=af
    exact⟨_,by simp[dW,eU,D,B,hy,bin,BE,this],w⟩
   .exact V l
  .rename_i a b B hy;split at l
   .obtain⟨I,w⟩:=gx l;exact⟨_,by simp[dW,eU,D,B,hy,bin,Vq,I],w⟩
   .exact V l
  .exact V l
 .rename_i t x lo hi D;split at l
  .rename_i s lv hv' L B S Q;obtain⟨n,hn,l⟩:=nt l;obtain⟨m,hm,w⟩:=nt l;exact⟨_,by simp[dW,eU,D,L,B,S,Q,hn,hm],w⟩
  .rename_i e sz xs lv hv' L B S Q;split at l
   .rename_i e' s N;replace l:=b9 l;obtain⟨G,l⟩:=l;have:=beq_iff.1 G;subst this;obtain⟨n,hn,l⟩:=nt l;obtain⟨m,hm,w⟩:=nt l;exact⟨_,by simp[dW,eU,D,L,B,S,Q,N,hn,hm],w⟩
   .cases l
  .rename_i e id lv hv' L B S Q;split at l
   .rename_i e' s e2 sz xs N K;replace l:=b9 l;obtain⟨G,l⟩:=l;have:=beq_iff.1 G;subst this;obtain⟨n,hn,l⟩:=nt l;obtain⟨m,hm,w⟩:=nt l;exact⟨_,by simp[dW,eU,D,L,B,S,Q,N,K,hn,hm],w⟩
   .cases l
  .rename_i e id sz a b lv hv' L B S Q;split at l
   .rename_i e' s N;replace l:=b9 l;obtain⟨G,l⟩:=l;have:=beq_iff.1 G;subst this;obtain⟨n,hn,l⟩:=nt l;obtain⟨m,hm,w⟩:=nt l;exact⟨_,by simp[dW,eU,D,L,B,S,Q,N,hn,hm],w⟩
   .cases l
  .cases l
 .rename_i t x hi mx D;split at l
  .rename_i id B;split at l
   .rename_i e2 sz xs e s ka va kb vb K N hh hm;replace l:=b9 l;obtain⟨G,l⟩:=l;have:=beq_iff.1 G;subst this;obtain⟨I,w⟩:=gx l;exact⟨_,by simp only[dW,eU,D,V5,B,K,N,hh,hm];rw[aB ⟨trivial,I⟩],w⟩
   .cases l
  .cases l
 .rename_i src dst x D;split at l
  .rename_i e L hd;split at l
   .rename_i xs he N B;obtain⟨b,G,w⟩:=Qx l;exact⟨_,by simp[dW,eU,D,L,hd,he,N,B,G],w⟩
   .cases l
  .obtain⟨v,ht,w⟩:=fh l;exact⟨v,by simp only[dW,D];exact ht,w⟩
 .rename_i t x kx ok D;cases hrm:(qv h x&& !ok) with
  |true=>rw[hrm] at l;cases l
  |false=>
  rw[hrm] at l;simp only[au] at l;split at l
  .rename_i kt et L;split at l
   .rename_i ks key B w;obtain⟨hok,l⟩:=b9 l;obtain⟨q,hq,l⟩:=Yl l;exact⟨_,by simp only[dW,eU,D,hrm,au,L,B,w,hok,aj,hq,cV],l⟩
   .rename_i hno;split at l
    .rename_i ks vs key B w;have hnk:(bG P t O x).bind (G5 O)=none:=by
      cases hkk:(bG P t O x).bind (G5 O) with
      |none=>rfl
      |some ks'=>exact(hno ks' key hkk w).elim
     obtain⟨hok,l⟩:=b9 l;rcases UM l with⟨v,hg,l⟩|⟨hg,l⟩
     .exact⟨_,by simp only[dW,eU,D,hrm,au,L,hnk,B,w,hok,aj,hg],Y0 l⟩
     .obtain⟨z,hz,l⟩:=fh l;exact⟨_,by simp only[dW,eU,D,hrm,au,L,hnk,B,w,hok,aj,hg,hz,cV],l⟩
    .cases l
  .cases l
 .rename_i c D;split at l
  .rename_i f I;cases how:o.dst.any h.owns.contains with
   |true=>rw[how] at l;cases l
   |false=>
   rw[how] at l;simp only[au] at l;cases hro:(o.dst.any h.stay.contains&&wide O c f) with
   |true=>rw[hro] at l;simp only[aj] at l;obtain⟨v,B,w⟩:=Nx l;refine⟨.pv v,?_,w⟩;simp only[dW,D,I];rw[how,hro,B];rfl
   |false=>
   rw[hro] at l;simp only[au] at l;cases U:(wide O c f||c.args.toList.any (λx=>(pE h O x).isSome)) with
   |true=>rw[U] at l;cases l
   |false=>
   rw[U] at l;simp only[au] at l;cases hag:c.args.toList.any (xd O) with
   |true=>
    rw[hag] at l;simp only[aj] at l;have NY:=Ts hag;split at l
    .rename_i g caps hf;obtain⟨vs,hvs,l⟩:=CF l;obtain⟨r',B,l⟩:=vt l;obtain⟨hp,w⟩:=b9 (rj l);refine⟨.pv r',?_,w⟩;rw[aK] at hp;simp only[dW,D,I,hf,hvs,B];rw[how,hro,U];simp only[au,NY,hp.1,hp.2,di,ja,jH,aj]
    .cases l
   |false=>
   rw[hag] at l;simp only[au] at l;split at l
   .rename_i g caps vs hf hvs;obtain⟨r',B,l⟩:=vt l;obtain⟨G,w⟩:=b9 (rj l);refine⟨.pv r',?_,w⟩;simp only[dW,D,I,hf,hvs,B];rw[how,hro,U,G];rfl
   .cases l
  .rename_i I;obtain⟨v,ht,w⟩:=fh l;refine⟨v,?_,w⟩;simp only[dW,D];exact ht
 .exact fh l
def zY {B:St} {t:TypeId} {m z x:Operand} {k:St->Option R} {r:R} (l:B8 P C B t m z x k=some r):∃q,xY P B t m z x=some q/\k q=some r:=by
 unfold B8 at l;split at l
 .rename_i kt U N;split at l
  .rename_i Q D;split at l
   .rename_i id key v K I O;split at l
    .rename_i k' S V vs w;obtain⟨G,l⟩:=b9 l;obtain⟨p,L,l⟩:=MT l;replace l:=FW l;exact⟨_,by simp only[xY,N,D,K,I,O,w,G,aj,L],l⟩
    .cases l
   .cases l
  .cases l
 .cases l
def FV {B:St} {t:TypeId} {m z:Operand} {k:St->Option R} {r:R} (l:Dq P C B t m z k=some r):∃q,xX P B t m z=some q/\k q=some r:=by
 unfold Dq at l;split at l
 .rename_i S O L;split at l
  .rename_i id key I G;split at l
   .rename_i k' N Q U w;obtain⟨D,l⟩:=b9 l;obtain⟨p,K,l⟩:=MT l;replace l:=FW l;exact⟨_,by simp only[xX,L,I,G,w,D,aj,K],l⟩
   .cases l
  .cases l
 .cases l
def HI {K:St} {c:Call} {f:Operand} {d:Option Nat} {k:St->Option R} {r:R} (q:FM P C h F K c f d k=some r):∃z,jX P h F K c f d=some z/\k z=some r:=by
 unfold FM at q;split at q
 .rename_i g I V N D;simp only[] at q;replace q:=b9 q;obtain⟨L,q⟩:=q;split at q
  .rename_i cL Q;obtain⟨U,l,S,q⟩:=I8 q;replace q:=rj (y9 q);split at q
   .rename_i G w;replace q:=b9 q;obtain⟨B,O⟩:=q;refine⟨_,?_,O⟩;simp only[jX,N,D,L,aj,Q,S,w,B]
   .cases q
  .cases q
 .cases q
def G8 {N:St} {t:TypeId} {m L x:Operand} {k:St->Option R} {r:R} (l:WR P C N t m L x k=some r):∃B,UR P N t m L x=some B/\k B=some r:=by
 unfold WR at l;split at l
 .rename_i Q id key k' e sz ks vs w;split at l
  .split at l
   .rename_i O s V;replace l:=b9 l;obtain⟨q,l⟩:=l;simp only[aK] at q;have e1:=beq_iff.1 q.1.1;have D:=beq_iff.1 q.1.2;have G:0<s:=by simpa[cz] using q.2
    obtain⟨p,K,l⟩:=Km l;refine⟨_,?_,JR l⟩;simp only[UR,w,V];rw[aB ⟨e1,D,G⟩];simp only[K]
   .cases l
  .rename_i U;split at l
   .rename_i j z;split at l
    .rename_i O s xs I;replace l:=b9 l;obtain⟨q,l⟩:=l;simp only[aK] at q;have e1:=beq_iff.1 q.1.1;have D:=beq_iff.1 q.1.2;have G:j<10000:=by simpa[cz] using q.2
     obtain⟨p,K,l⟩:=Km l;refine⟨_,?_,JR l⟩;cases x with
     |tmp i=>simp only[UR,w,z,I];rw[aB ⟨e1,D,G⟩];simp only[K]
     |const v=>simp only[bG] at z;cases S:ofConst P Q v<;>simp[S] at z
     |func f=>simp[bG] at z
     |global g=>simp[bG] at z
    .cases l
   .cases l
 .cases l
def OA {G:St} {t:TypeId} {m N:Operand} {d:Nat} {k:St->Option R} {r:R} (l:US P C G t m N d k=some r):∃B,MH P G t m N d=some B/\k B=some r:=by
 unfold US at l;split at l
 .rename_i et id key k' e sz V vs z;cases w:Nat.beq id d with
  |true=>rw[w] at l;cases l
  |false=>
  rw[w] at l;simp only[au] at l;split at l
  .rename_i s0 e' s U S;replace l:=b9 l;obtain⟨D,l⟩:=l;simp only[aK] at D;have e1:=beq_iff.1 D.1.1;have O:=beq_iff.1 D.1.2;have Q:0<s:=by simpa[cz] using D.2
   obtain⟨p,q,l⟩:=Vv l;replace l:=JR (qi l);obtain⟨_,_,_,_,K,_⟩:=Bf z;unfold ab7 at q;split at q
   .rename_i i I;split at q
    .rename_i xs L;injection q with q;subst q;refine⟨_,?_,l⟩;simp only[MH,z,w,au,I,L]
    .cases q
   .rename_i I;injection q with q;subst q;refine⟨_,?_,l⟩;simp only[MH,z,w,au,I,U,S];rw[aB ⟨e1,O,Q⟩]
    have:put G.ob id (some (.mr k' e sz V vs))=G.ob:=by
     funext i;by_cases e:id=i
     .subst e;rw[c7,K]
     .rw[bR _ _ e]
    simp only[this]
   .cases q
  .cases l
 .cases l
def Yj {T:Type} {enc:T->AV×List (Nat×Ob)} {c:Option (AV×List (Nat×Ob))} {k:T->Option R} {r:R} (l:LG enc c k=some r):∃d,c=some (enc d)/\k d=some r:=by
 unfold LG at l;split at l
 .obtain⟨d,e,q⟩:=oR l;exact⟨d,by rw[e],q⟩
 .cases l
def YK {key:Nat} {c:Option (AV×List (Nat×Ob))} {k:AV×List (Nat×Ob)->Option R} {r:R} (l:outC C key c k=some r):∃q,c=some q/\k q=some r:=by
 unfold outC at l;split at l
 .obtain⟨d,w,z⟩:=Yj l;exact⟨_,w,z⟩
 .cases l
def I7 {Q:St} {key g:Nat} {args:List SV} {O:Nat->Nat} {d:Option Nat} {k:St->Option R} {r:R} (l:FK C key F Q g args O d k=some r):∃z,jW F Q g args O d=some z/\k z=some r:=by
 unfold FK at l;simp only[] at l;obtain⟨K,l⟩:=b9 l;split at l
 .rename_i cL L;obtain⟨⟨U,G⟩,N,l⟩:=YK l;simp only[] at l;obtain⟨w,l⟩:=b9 l;split at l
  .rename_i I q;split at l
   .rename_i x;obtain⟨B,l⟩:=b9 l;exact⟨_,by simp only[jW,K,aj,L,N,w,q,B],l⟩
   .rename_i S;obtain⟨D,l⟩:=b9 l;refine⟨_,?_,l⟩;simp only[jW,K,aj,L,N,w,q];rw[D];rfl
  .cases l
 .cases l
def QD {D:St} {c:Call} {f:Operand} {d key:Nat} {B:List Nat} {k:St->Option R} {r:R} (q:TM P C h F D c f d key B k=some r):∃l,Cz P h F D c f d B=some l/\k l=some r:=by
 unfold TM at q;simp only[] at q;split at q
 .rename_i g pre z N L w;obtain⟨K,q⟩:=b9 q;obtain⟨l,G,I⟩:=I7 q;exact⟨l,by simp only[Cz,L,w,K,aj];exact G,I⟩
 .cases q
def Lu {Q:St} {c:Call} {f:Operand} {d:Option Nat} {k:St->Option R} {r:R} (q:I9 P C h F Q c f d k=some r):∃B,iI P h F Q c f d=some B/\k B=some r:=by
 unfold I9 at q;split at q
 .rename_i d;split at q
  .rename_i gv z;obtain⟨B,S,U⟩:=QD q;exact⟨B,by simp only[iI,z];exact S,U⟩
  rename_i z;split at q
  .rename_i g O vs G w;obtain⟨x,N,q⟩:=vt q;replace q:=rj q;split at q
   .cases K:(wO h d).isSome with
    |true=>rw[K] at q;cases q
    |false=>rw[K] at q w;exact⟨_,by simp only[iI,z,K,G,w,N,au],q⟩
   .split at q
    .rename_i D;rw[D] at w;exact⟨_,by simp only[iI,z,D,G,w,N],q⟩
    .rename_i l L D;split at q
     .rename_i ks I;obtain⟨V,q⟩:=b9 q;rw[D] at w;cases l with
      |nil=>exact absurd rfl L
      |cons x0 l0=>exact⟨_,by simp only[iI,z,D,G,w,N,I,V,aj],q⟩
     .cases q
    .cases q
   .cases q
  .cases q
 .cases q
def Lf {B:St} {t:TypeId} {x:Operand} {d:Nat} {k:St->Option R} {r:R} (l:Ld P C B t x d k=some r):∃w,w6 P B t x d=some w/\k w=some r:=by
 unfold Ld at l;split at l
 .rename_i id U i N K D;split at l
  .rename_i e O q Q S xs V z;obtain⟨G,l⟩:=b9 l;obtain⟨zs,L,l⟩:=MP l;have I:=Du (qi l);exact⟨_,by simp only[w6,K,D,z,L,G,aj],I⟩
  .cases l
 .cases l
def OW {z:St} {t:TypeId} {id B i q j:Nat} {k:St->Option R} {r:R} (l:Va P C z t id B i q j k=some r):∃w,Hp P z t id B i q j=some w/\k w=some r:=by
 unfold Va at l;split at l
 .obtain⟨I,l⟩:=b9 l;obtain⟨D,l⟩:=gx l;have K:=Du l;unfold Hp;have G :=cz.mpr D;grind
 simp_all
def Pa {o:Oper} {S:St} {k:St->Option R} {r:R} (w:Vp P C h F o S k=some r):∃B,step0 P h F o S=some B/\k B=some r:=by
 have ofF:(vD P C h F o S λv=>k (S.set o.dst v))=some r->∃B,step0 P h F o S=some B/\k B=some r:=λw=>by obtain⟨v,N,K⟩:=Ev w;exact⟨_,by simp only[step0,N],K⟩
 unfold Vp at w;split at w
 .rename_i t l c G;have N:dW P h F o S=none:=by simp[dW,eU,G]
  split at w
  .rename_i d e s kl l' kc c' D hs hl V;split at w
   .rename_i z i hz hi;replace w:=b9 w;obtain⟨hb,w⟩:=w;simp only[aK] at hb;obtain⟨I,K⟩:=gx w;have h1:0<s:=by simpa[cz] using hb.1
    have h2:z.length=s:=beq_iff.1 hb.2;exact⟨_,by simp only[step0,N,mD,D,G,hs,hl,V,hz,hi];rw[aB ⟨h1,h2,I⟩],K⟩
   .cases w
  .cases w
 .rename_i t x y G;have N:dW P h F o S=none:=by simp[dW,eU,G]
  split at w
  .rename_i id sz i off v D hx hy;split at w
   .rename_i e sz' xs n O hsz;replace w:=b9 w;obtain⟨hb,w⟩:=w;simp only[aK] at hb;have h1:=beq_iff.1 hb.1.1;subst h1;have h2:=beq_iff.1 hb.1.2;obtain⟨c,V,w⟩:=Mr w;replace w:=b9 (Df w);obtain⟨hle,K⟩:=w;refine⟨_,?_,K⟩;simp only[step0,N,mD,D,G,hx,hy,storeAt,O,hsz,V];rw[aB ⟨trivial,h2,ff hle,hb.2⟩]
   .cases w
  .rename_i id sz i off j D hx hy;obtain⟨B,hs,K⟩:=OW w;exact⟨B,by simp only[step0,N,mD,D,G,hx,hy];exact hs,K⟩
  .rename_i id off j sz n D hx hy;obtain⟨B,hs,K⟩:=fh w;exact⟨B,by simp only[step0,N,mD,D,G,hx,hy];exact hs,K⟩
  .rename_i a v hn1 hn2 hn3 D hx hy;obtain⟨B,hs,K⟩:=fh w;refine⟨B,?_,K⟩
   have:mD P h F o S=storeAt P t S a v:=by simp only[mD,D,G,hx,hy]
   simp only[step0,N];rw[this];exact hs
  .cases w
 .rename_i t x G;cases Th:o.dst.any h.take.contains with
  |false=>rw[Th] at w;exact ofF w
  |true=>
   rw[Th] at w;simp only[aj] at w;split at w
   .rename_i d D;rw[D] at Th;simp only[rC] at Th;obtain⟨B,hs,K⟩:=Lf w;refine⟨B,?_,K⟩;have N:dW P h F o S=none:=by simp only[dW,G,D,rC,Th,aj]
    simp only[step0,N,mD,G,D,Th,aj];exact hs
   .cases w
 .rename_i c G;split at w
  .rename_i V;have N:dW P h F o S=none:=by
    simp only[dW,G,V,x8]
   split at w
   .rename_i d x y t t' D L U;split at w
    .rename_i e s id sy hs hx hy;split at w
     .rename_i e' sz xs sz' ys i O hel hi;replace w:=b9 w;obtain⟨hb,w⟩:=w;simp only[aK] at hb;obtain⟨⟨⟨⟨⟨⟨b1,b2⟩,b3⟩,b4⟩,b5⟩,b6⟩,b7⟩:=hb;have e1:=beq_iff.1 b1;have e2:=beq_iff.1 b2;have e3:=beq_iff.1 b3;have e4:=beq_iff.1 b4;have e5:0<sz:=by simpa[cz] using b5
      have e6:i.zero.map (λz=>z.cells.size)=some sz:=by simpa using b6
      obtain⟨I,K⟩:=gx w;refine⟨_,?_,K⟩;simp only[step0,N,mD,G,V,D,L,U,hs,hx,hy,O,hel,hi];rw[aB ⟨e1,e2,e3,e4,e5,I.1,I.2,e6,b7⟩]
     .rename_i e' sz q e2x s2x xs zs sz' ys i O hel hi;replace w:=b9 w;obtain⟨hb,w⟩:=w;simp only[aK] at hb;obtain⟨⟨⟨⟨⟨⟨⟨b1,b2⟩,b3⟩,b4⟩,b5⟩,b6⟩,b7⟩,b8⟩:=hb;have e1:=beq_iff.1 b1;have e2:=beq_iff.1 b2;have e3:=beq_iff.1 b3;have e4:=beq_iff.1 b4;have e5:0<sz:=by simpa[cz] using b5
      have e6:i.zero.map (λz=>z.cells.size)=some sz:=by simpa using b6
      obtain⟨I,K⟩:=gx w;refine⟨_,?_,Du K⟩;simp only[step0,N,mD,G,V,D,L,U,hs,hx,hy,O,hel,hi];rw[aB ⟨e1,e2,e3,e4,e5,I.1,I.2,e6,b7,b8⟩]
     .cases w
    .rename_i e s id sy hs hx hy;split at w
     .rename_i e' sz xs sz' ys i O hel hi;replace w:=b9 w;obtain⟨hb,w⟩:=w;simp only[aK,gO] at hb;obtain⟨⟨⟨⟨⟨⟨⟨b1,b2⟩,b3⟩,b4⟩,b5⟩,b6⟩,b7⟩,b8⟩:=hb;have e1:=beq_iff.1 b1;have e2:=beq_iff.1 b2;have e3:=beq_iff.1 b3;have e4:=beq_iff.1 b4;have e5:0<sz:=by simpa[cz] using b5
      have e6:i.zero.map (λz=>z.cells.size)=some sz:=by simpa using b6
      obtain⟨I,K⟩:=gx w;refine⟨_,?_,K⟩;simp only[step0,N,mD,G,V,D,L,U,hs,hx,hy,O,hel,hi];rw[aB ⟨e1,e2,e3,e4,e5,I.1,I.2,e6,b7,b8⟩]
     .cases w
    .cases w
   .cases w
  .rename_i V;have N:dW P h F o S=none:=by simp only[dW,G,V,x8]
   split at w
   .rename_i m kx t ts D L U;obtain⟨B,h1,K⟩:=FV w;exact⟨B,by simp only[step0,N,mD,G,V,D,L,U];exact h1,K⟩
   .cases w
  .rename_i V;have N:dW P h F o S=none:=by simp only[dW,G,V,x8]
   split at w
   .rename_i x t D L U;split at w
    .rename_i e s id sz lo hi hs hx;split at w
     .rename_i e' sz' xs z O hz;replace w:=b9 w;obtain⟨hb,w⟩:=w;simp only[aK] at hb;obtain⟨⟨⟨⟨b1,b2⟩,b3⟩,b4⟩,b5⟩:=hb;have e1:=beq_iff.1 b1;have e2:=beq_iff.1 b2;have e3:=beq_iff.1 b3;have e4:=beq_iff.1 b4;have e5:0<sz:=by simpa[cz] using b5
      obtain⟨hle,K⟩:=gx w;refine⟨_,?_,K⟩;simp only[step0,N,mD,G,V,D,L,U,hs,hx,O,hz];rw[aB ⟨e1,e2,e3,hle,e4,e5⟩]
     .cases w
    .rename_i hs;split at w
     .rename_i B hm;exact⟨B,by simp only[step0,N,mD,G,V,D,L,U,hs];exact hm,w⟩
     .cases w
    .cases w
   .cases w
  .rename_i f V;cases how:o.dst.any h.owns.contains with
   |true=>
    rw[how] at w;simp only[aj] at w;have N:dW P h F o S=none:=by simp only[dW,G,V,how,aj]
    obtain⟨B,h1,K⟩:=Lu w;exact⟨B,by simp only[step0,N];cases D:o.dst<;>(simp only[mD,G,V,D];rw[D] at how;rw[how,<-D];exact h1),K⟩
   |false=>
   rw[how] at w;simp only[au] at w;have how0:∀d,o.dst=d->d.any h.owns.contains=false:=λd D=>D▸how
   cases hro:(o.dst.any h.stay.contains&&wide S c f) with
   |true=>rw[hro] at w;exact ofF w
   |false=>
   rw[hro] at w;simp only[au] at w;cases Ys:wide S c f with
   |true=>
    rw[Ys] at w;simp only[aj] at w;have N:dW P h F o S=none:=by simp only[dW,G,V];rw[how,hro,Ys];rfl
    obtain⟨B,h1,K⟩:=HI w;exact⟨B,by simp only[step0,N];cases D:o.dst<;>(simp only[mD,G,V,D];rw[D] at hro how;rw[how,hro,Ys,<-D];exact h1),K⟩
   |false=>
   have hro0:∀(d:Option Nat),(d.any h.stay.contains&&false)=false:=λd=>by simp
   rw[Ys] at w;simp only[au] at w;cases N3:c.args.toList.any (λx=>(pE h S x).isSome) with
   |true=>
    rw[N3] at w;simp only[aj] at w;have N:dW P h F o S=none:=by simp only[dW,G,V];rw[how,hro,N3];simp
    split at w
    .rename_i g caps vs id hfn hvs;split at w
     .rename_i e sz xs O;obtain⟨r',xs',hx,w⟩:=TQ w;replace w:=qi (rj w);have hstep:∀st2,qa P h F S c f o.dst=some st2->step0 P h F o S=some st2:=λst2 h2=>by
       simp only[step0,N];cases D:o.dst<;>(simp only[mD,G,V,D];rw[how0 _ D,Ys,N3,hro0];simp only[aj,au];rw[<-D];exact h2)
      split at w
      .rename_i n;replace w:=b9 w;obtain⟨hb,w⟩:=w;obtain⟨hn,K⟩:=gx w;refine⟨_,hstep _ ?_,K⟩;simp only[qa,hfn,hvs,O,hx,beq_iff.2 (rfl:e=e),beq_iff.2 (rfl:sz=sz),beq_iff.2 (rfl:10000=10000),jH,aj,hb,uC hn]
      .rename_i Wg;replace w:=b9 w;obtain⟨hb,K⟩:=w;refine⟨_,hstep _ ?_,K⟩;simp only[qa,hfn,hvs,O,hx,beq_iff.2 (rfl:e=e),beq_iff.2 (rfl:sz=sz),beq_iff.2 (rfl:10000=10000),jH,aj,hb]
     .cases w
    .cases w
   |false=>
   have href0:(wide S c f||c.args.toList.any (λx=>(pE h S x).isSome))=false:=by rw[Ys,N3];rfl
   rw[N3] at w;simp only[au] at w;cases hag:c.args.toList.any (xd S) with
   |true=>rw[hag] at w;exact ofF w
   |false=>
   rw[hag] at w;simp only[au] at w;cases NY:c.args.toList.any (lC S) with
   |true=>
    simp only[NY,aj] at w;split at w
    .rename_i g caps vs hfn hvs;obtain⟨r',hx,w⟩:=vt w;replace w:=rj w;cases hp:(r'.plain&&r'.jF) with
     |true=>simp only[hp,aj] at w;refine⟨_,?_,w⟩;rw[aK] at hp;simp only[step0,dW,G,V];rw[how,hro,href0];simp only[hfn,hvs,hx,hp.1,hp.2,uA,Bool.or_true,gq,aj,au]
     |false=>
      simp only[hp,au] at w;split at w
      .rename_i st1 oE;split at w
       .rename_i g' caps' vs' hfn' hvs';cases hrow:c.args.toList.any (lC st1) with
        |true=>rw[hrow] at w;cases w
        |false=>
         rw[hrow] at w;simp only[au] at w;obtain⟨r2,hx2,w⟩:=vt w;replace w:=b9 (rj w);obtain⟨Wg,w⟩:=w;refine⟨_,?_,w⟩;have N:dW P h F o S=none:=by simp only[dW,G,V];rw[how,hro,href0];simp only[au,hfn,hvs,hx,hp,NY,di,rB,ja]
         simp only[step0,N];cases D:o.dst<;>(simp only[mD,G,V,D];rw[how0 _ D,Ys,N3,hro0];simp only[au,oE,hfn',hvs',hx2,hrow,Wg,di,rB])
       .cases w
      .cases w
    .cases w
   |false=>simp only[NY,au] at w;exact ofF w
  .exact ofF w
 .rename_i t m kx x G;split at w
  .rename_i D;cases Q:qv h m with
   |true=>rw[Q] at w;obtain⟨B,h1,K⟩:=G8 w;exact⟨B,by simp only[step0,mD,dW,eU,G,D];rw[Q];exact h1,K⟩
   |false=>rw[Q] at w;obtain⟨B,h1,K⟩:=zY w;exact⟨B,by simp only[step0,mD,dW,eU,G,D];rw[Q];exact h1,K⟩
  .cases w
 .rename_i t m kx x G;split at w
  .rename_i D;cases Q:qv h m with
   |true=>rw[Q] at w;obtain⟨B,h1,K⟩:=G8 w;exact⟨B,by simp only[step0,mD,dW,eU,G,D];rw[Q];exact h1,K⟩
   |false=>rw[Q] at w;obtain⟨B,h1,K⟩:=zY w;exact⟨B,by simp only[step0,mD,dW,eU,G,D];rw[Q];exact h1,K⟩
  .cases w
 .rename_i t m kx ok G;cases Q:(qv h m&& !ok) with
  |true=>
   rw[Q] at w;simp only[aj] at w;have hrm':=Q;simp only[aK,gO] at Q;obtain⟨hr1,rfl⟩:=Q;split at w
   .rename_i d D;obtain⟨B,h1,K⟩:=OA w;refine⟨B,?_,K⟩;have N:dW P h F o S=none:=by simp only[dW,G];rw[hrm'];rfl
    simp only[step0,N,mD,G,D];rw[hr1];exact h1
   .cases w
  |false=>rw[Q] at w;exact ofF w
 .rename_i t x G;split at w
  .rename_i d s D hu hx;refine⟨_,?_,w⟩;simp only[step0,mD,dW,eU,G,D,hu,hx]
  .cases w
 .rename_i x G;split at w
  .rename_i d id D hx;split at w
   .rename_i s pos O;have N:dW P h F o S=none:=by simp only[dW,eU,G]
    cases hp:Nat.blt pos s.length with
    |true=>
     rw[hp] at w;refine⟨_,?_,w⟩;have hp':pos<s.length:=by simpa[cz] using hp
     simp only[step0,N,mD,G,D,hx,O];rw[aB hp']
    |false=>
     rw[hp] at w;refine⟨_,?_,w⟩;have hp':¬pos<s.length:=λh=>by rw[<-cz] at h;rw[h] at hp;cases hp
     simp only[step0,N,mD,G,D,hx,O];rw[aA hp']
   .cases w
  .cases w
 .exact fh w
 .exact fh w
 .exact fh w
 .exact fh w
 .exact fh w
 .exact fh w
 .exact fh w
 .exact ofF w
def OQ {G:St} {t:Nat} {k:St->Option R} {r:R} (l:OP C G t k=some r):∃z,qt G t=some z/\k z=some r:=by
 unfold OP at l;split at l
 .rename_i id I;split at l
  .rename_i e N q K L xs O B;obtain⟨w,l⟩:=b9 l;obtain⟨Q,D,l⟩:=BT l;refine⟨_,?_,qi l⟩;simp only[qt,I,St.cZ,w,B,eG,Ob.val,D,cV]
  .exact fh l
 .exact fh l
def Bm:∀{l:List Nat} {w:St} {k:St->Option R} {r:R},F8 C l w k=some r->∃z,mX l w=some z/\k z=some r
 |[],w,k,r,q=>⟨w,rfl,q⟩
 |t::l,w,k,r,q=>by obtain⟨I,D,q⟩:=OQ q;obtain⟨B,G,q⟩:=Bm q;exact⟨B,by simp only[mX,D,eG,G],q⟩
def Hz {o:Oper} {z:St} {k:St->Option R} {r:R} (q:stepT P C h F o z k=some r):∃l,step P h F o z=some l/\k l=some r:=by unfold stepT at q;obtain⟨I,B,q⟩:=Bm q;obtain⟨w,D,G⟩:=Pa q;exact⟨w,by simp only[step,B,eG,D],G⟩
def HC {z:Array Oper} {o:Oper} {D:St} {k:Bool->St->Option R} {r:R} (q:XD z o D k=some r):∃b,ql z o D=some b/\k b D=some r:=by
 unfold XD at q;unfold ql;split at q
 .rename_i B;exact⟨true,by simp[B],q⟩
 .rename_i j l B
  (try simp only[B])
  split at q
  .rename_i d G
   (try simp only[G])
   split at q
   .rename_i w;exact⟨l,by simp[w],q⟩
   .rename_i w;exact⟨!l,by simp only[w];cases l<;>rfl,q⟩
   .rename_i w;exact⟨false,by simp[w],q⟩
   .cases q
  .cases q
def SO {l:St} {d:Nat} {v:SV} (w:l.env d=some v):l.set (some d) v=l:=by
 obtain⟨q,z⟩:=l;simp only[St.set,St.mk.injEq,c9];funext i;by_cases e:d=i
 .subst e;rw[c7];exact w.symm
 .rw[bR _ _ e]
def zD {b:Bool} {d:Option Nat} {w:St} {k:St->Option R} {r:R} (l:KH b d w k=some r):k w=some r:=by unfold KH at l;cases b with
 |false=>exact l
 |true=>
  simp only[aj] at l;split at l
  .rename_i z;split at l
   .rename_i t q;cases t with
    |true=>simp only[aj] at l;rwa[SO q] at l
    |false=>simp only[au] at l;rwa[SO q] at l
   .exact l
  .exact l
def LU {w:Array Oper}:∀{l:List Oper} {i:Nat} {z:St} {k:St->Option R} {r:R},E4 P C h F w i l z k=some r->∃s,qR P h F w l z=some s/\k s=some r:=by intro l;induction l with
 |nil=>intro i z k r q;exact⟨z,rfl,q⟩
 |cons o l I=>intro i z k r q;simp only[E4] at q;obtain⟨b,G,q⟩:=HC q;cases b with
  |true=>simp only[aj] at q;obtain⟨L,K,q⟩:=Hz q;obtain⟨s,D,B⟩:=I (zD q);exact⟨s,by simp[qR,G,K,D],B⟩
  |false=>simp only[au] at q;obtain⟨s,D,B⟩:=I q;exact⟨s,by simp[qR,G,D],B⟩
def Kz {I:Array Oper}:∀{l:List Oper} {i:Nat} {w:List (Nat×gi)} {z:St} {k:St->Option R} {r:R},ye P C h F I i l w z k=some r->∃s,kz P h F I i l w z=some s/\k s=some r:=by intro l;induction l with
 |nil=>intro i w z k r q;exact⟨z,rfl,q⟩
 |cons o l N=>intro i w z k r q;simp only[ye] at q;replace q:=HC q;obtain⟨b,L,q⟩:=q;cases b with
  |true=>simp only[aj] at q;cases K:(isF h z o&&(EU h o).isEmpty) with
   |true=>simp only[K,aj] at q;obtain⟨v,O,q⟩:=Ev q;obtain⟨B,q⟩:=b9 q;obtain⟨s,G,D⟩:=N (zD q);exact⟨s,by simp only[kz,L,aj,K,O,B];exact G,D⟩
   |false=>simp only[K,au] at q;obtain⟨S,Q,q⟩:=Hz q;obtain⟨B,q⟩:=b9 q;obtain⟨s,G,D⟩:=N (zD q);exact⟨s,by simp only[kz,L,aj,K,au,Q,B];exact G,D⟩
  |false=>simp only[au] at q;obtain⟨B,q⟩:=b9 q;obtain⟨s,G,D⟩:=N q;exact⟨s,by simp only[kz,L,au,B,aj];exact G,D⟩
def NQ {D:Type} (m:Nat->Option D):∀(l:List Nat) (i:Nat),find (s7 m l) i=if i∈l then m i else none:=by intro l;induction l with
 |nil=>intro i;simp[s7,find]
 |cons j l B=>intro i;simp only[s7];cases z:m j with
  |none=>
   simp only[B,aI];by_cases e:i=j
   .subst e;simp[z]
   .simp[e]
  |some v=>simp only[find];cases w:Nat.beq j i with
   |true=>have:=beq_iff.1 w;subst this;simp[z]
   |false=>
    have q:¬i=j:=λe=>by subst e;simp[beq_iff.2] at w
    simp only[au,B,aI,q,false_or]
def QK (h:Hint) (key:Nat) (l:St):h.canon key (h.canon key l)=h.canon key l:=by
 unfold Hint.canon;split
 .rename_i q w z;simp only[St.mk.injEq];constructor<;>(funext i;simp only[NQ];split<;>rfl)
 .rfl
theorem JH {key:Nat} {f:St->Option (Ex×St)} {n:Nat} {l:St}:iter h key f n (h.canon key l)=iter h key f n l:=by cases n with
 |zero=>rfl
 |succ n=>simp[iter,QK]
def Yw {c:Code} {n m:Nat} (G:n<=m) {key:Nat}:∀(q:Nat) {w:Nat} {B:St} {x:Ex×St},q<=w->iter h key (exec P h F n c) q B=some x->iter h key (exec P h F m c) w B=some x:=by intro q;induction q with
 |zero=>intro w B x _ l;simp[iter] at l
 |succ q K=>
  intro w B x N l;obtain⟨z,rfl⟩:∃z,w=z+1:=⟨w-1,af⟩
  simp only[iter] at l⊢;split at l
  .rename_i L I;rw[qc G I];exact K af l
  .rename_i D;rw[qc G l];obtain⟨e,s⟩:=x;cases e with
   |normal=>exact absurd l (D s)
   |exit j=>rfl
   |ret=>rfl
def xU {c:Code} {D:St} {k:Ex->St->Option R} {r:R}:G4 P h F c D k=some r↔∃n e l,exec P h F n (.loop c) D=some (e,l)/\k e l=some r:=by
 constructor
 .intro z;unfold G4 at z;split at z
  .rename_i B;obtain⟨n,w⟩:=B.choose_spec;exact⟨n,_,_,w,z⟩
  .cases z
 .rintro⟨n,e,l,w,I⟩;unfold G4;have B:∃x n,exec P h F n (.loop c) D=some x:=⟨(e,l),n,w⟩
  rw[iG B];obtain⟨m,K⟩:=B.choose_spec;have G:=qc (rE n m) w;have q:=qc (rF n m) K;rw[G] at q;injection q with q;rw[<-q];exact I
def s8:∀{l:List Nat} {K:St} {k:St->Option R} {r:R},Ca C l K k=some r->∃z,zn l K=some z/\k z=some r
 |[],K,k,r,w=>⟨K,rfl,w⟩
 |id::l,K,k,r,w=>by
  simp only[Ca] at w;split at w
  .rename_i kt e S V vs D;replace w:=b9 w;obtain⟨B,w⟩:=w;obtain⟨xs,L,w⟩:=BT w;obtain⟨z,G,I⟩:=s8 (ab5 w);refine⟨z,?_,I⟩;simp only[zn,St.Kk,St.cZ,B,D,eG,Ob.val,L,cV];exact G
  .rename_i e S q U s' xs ys D;replace w:=b9 w;obtain⟨B,w⟩:=w;obtain⟨zs,N,w⟩:=BT w;obtain⟨z,G,I⟩:=s8 (qi w);refine⟨z,?_,I⟩;simp only[zn,St.Kk,St.cZ,B,D,eG,Ob.val,N,cV];exact G
  .split at w
   .rename_i Q O;obtain⟨z,G,I⟩:=s8 w;exact⟨z,by simp only[zn,O,eG];exact G,I⟩
   .cases w
def Su {id:Nat} {B:St} {k:St->Option R} {r:R} (w:acB C h id B k=some r):∃q,h.acA id B=some q/\k q=some r:=by
 unfold acB at w;unfold Hint.acA;split at w
 .rename_i l z;rw[z];exact s8 w
 .rename_i z;rw[z];exact⟨B,rfl,w⟩
def GN:∀(c:Code) {D:St} {k:Ex->St->Option R} {r:R},qx P C h F c D k=some r->∃n e N,exec P h F n c D=some (e,N)/\k e N=some r:=by intro c;induction c with
 |skip=>intro D k r q;exact⟨0,_,_,rfl,q⟩
 |label l=>intro D k r q;exact⟨0,_,_,rfl,q⟩
 |exit id=>intro D k r q;exact⟨0,_,_,rfl,q⟩
 |ret=>intro D k r q;exact⟨0,_,_,rfl,q⟩
 |region id ops Q=>intro D k r q;simp only[qx] at q;obtain⟨w,O,q⟩:=Su q;cases Q with
  |true=>simp only[aj] at q;obtain⟨hs,q⟩:=b9 q;obtain⟨s,V,I⟩:=Kz q;exact⟨0, .normal,s,by simp only[exec,O,eG,aj,hs,V,cV],I⟩
  |false=>simp only[au] at q;obtain⟨s,V,I⟩:=LU q;exact⟨0, .normal,s,by simp[exec,O,V],I⟩
 |seq x y K L=>
  intro D k r q;simp only[qx] at q;cases G:find h.blk (e7 x) with
  |some z=>simp only[G] at q;obtain⟨hg,q⟩:=gx q;exact⟨0,_,_,by simp only[exec,G,hg,aj],q⟩
  |none=>
  simp only[G] at q;obtain⟨n,e,w,B,q⟩:=K q;cases e with
  |normal=>obtain⟨m,e2,st2,hy,I⟩:=L (show qx P C h F y w k=some r from q);exact⟨max n m,e2,st2,by simp only[exec,G,qc (rE n m) B];exact qc (rF n m) hy,I⟩
  |exit id=>exact⟨n,_,w,by simp only[exec,G,B],q⟩
  |ret=>exact⟨n,_,w,by simp only[exec,G,B],q⟩
 |cond c x y K L=>
  intro D k r q;simp only[qx] at q;split at q
  .rename_i t hc;cases t with
   |true=>obtain⟨n,e,w,B,I⟩:=K q;exact⟨n,e,w,by simp only[exec,hc,aj];exact B,I⟩
   |false=>obtain⟨n,e,w,B,I⟩:=L q;exact⟨n,e,w,by simp only[exec,hc,au];exact B,I⟩
  .cases q
 |block id c U=>intro D k r q;simp only[qx] at q;obtain⟨n,e,w,B,q⟩:=U q;cases e with
  |normal=>exact⟨n,_,w,by simp only[exec,B],q⟩
  |ret=>exact⟨n,_,w,by simp only[exec,B],q⟩
  |exit j=>simp only[TD] at q;cases S:Nat.beq j id with
   |true=>simp only[S,aj] at q;exact⟨n, .normal,w,by simp only[exec,B,S,aj],q⟩
   |false=>simp only[S,au] at q;exact⟨n, .exit j,w,by simp only[exec,B,S,au],q⟩
 |loop c U=>intro D k r q;simp only[qx] at q;obtain⟨n,e,N,B,I⟩:=xU.1 q;refine⟨n,e,N,?_,I⟩;simp only[exec] at B⊢;rwa[JH] at B
 |scope c U=>intro D k r q;simp only[qx] at q;obtain⟨n,e,w,B,I⟩:=U q;exact⟨n,e,w,by simp only[exec];exact B,I⟩
 |rangeFunc f ps x y K L=>intro D k r q;simp[qx] at q
 |goto l=>intro D k r q;simp[qx] at q
 |refuse s=>intro D k r q;simp[qx] at q
def RP {c:Code} {G:St} {k:Ex->St->Option R} {r:R} (K:qx P C h F c (h.canon (e7 c) G) (Tt P h F c k)=some r):G4 P h F c G k=some r:=by obtain⟨n,e,l,z,q⟩:=GN c K;cases e with
 |normal=>obtain⟨m,I,B,D,w⟩:=xU.1 (show G4 P h F c (h.canon (e7 c) l) k=some r from q);simp only[exec,JH] at D;refine xU.2 ⟨max n m+1,I,B,?_,w⟩;simp only[exec,iter];rw[qc (show n<=max n m+1 by omega) z];exact Yw (show m<=max n m+1 by omega) m af D
 |exit j=>refine xU.2 ⟨n+1, .exit j,l,?_,q⟩;simp only[exec,iter];rw[qc (show n<=n+1 by omega) z]
 |ret=>refine xU.2 ⟨n+1, .ret,l,?_,q⟩;simp only[exec,iter];rw[qc (show n<=n+1 by omega) z]
end
section
variable {P:Program} {C:lH} {H:Nat->Hint} {gL:eM}
def pI {f:Nat} {args:List SV} {cL:List (Nat×Ob)} {r:AV×List (Nat×Ob)} (D:gL f args cL=none) (l:ZC P C H gL f args cL=some r):run P H gL f args cL=some r:=by
 unfold ZC at l;split at l
 .rename_i fn B;split at l
  .rename_i c q;obtain⟨w,l⟩:=b9 l;obtain⟨n,e,I,G,z⟩:=GN c l;exact Ht D B q w G z
  .cases l
 .cases l
def lg {f key:Nat} {names:List Nat} {q:List (Nat×SV)} {w:List (Nat×Ob)} {r:AV×List (Nat×Ob)} (l:Vl P C H gL f key names q w=some r):zX P C H gL f key names q w=some r:=by
 unfold Vl at l;unfold zX;split at l
 .rename_i fn B
  (try simp only[B])
  split at l
  .rename_i c z
   (try simp only[z])
   split at l
   .rename_i G k D
    (try simp only[D])
    exact RP l
   .cases l
  .cases l
 .cases l
end
section
variable {R:Type}
def bU {p:Prop} [Decidable p] (l:p) (x:Option R):check p x=x:=by unfold check;rw[aB l]
def Jv {l:Type} {xs:List l} {i:Int} {x:l} (q:0<=i) (w:xs[i.toNat]? =some x) (k:l->Option R):bB xs i k=k x:=by simp_all[bB]
def iS {l:Type} {xs:List l} {i:Nat} {x:l} (q:xs[i]? =some x) (k:l->Option R):bB xs (i:Int) k=k x:=Jv af (by simpa using q) k
def kZ {l:Type} {xs:List l} {i:Nat} {x:l} (q:xs[i]? =some x) (k:l->Option R):eH xs i k=k x:=by unfold eH;rw[q]
def XY {c:Option (AV×List (Nat×Ob))} {r:AV} (l:c=some (r,[])) (k:AV->Option R):xL c k=k r:=by subst l;unfold xL;rfl
def X0 {c:Option (AV×List (Nat×Ob))} {l e q:Nat} {r:AV} {xs:List (List AV)} (w:c=some (r,[(l, .row e q xs)])) (k:AV->List (List AV)->Option R):GL c l e q k=k r xs:=by subst w;unfold GL;simp[beq_iff.2]
def asE_pos {q T:Type} {enc:T->q} (inj:∀a b,enc a=enc b->a=b) (d:T) (k:T->Option R):rP enc (enc d) k=k d:=by
 unfold rP;have l:∃x,enc x=enc d:=⟨d,rfl⟩
 rw[iG l,inj _ _ l.choose_spec]
end
